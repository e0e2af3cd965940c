/-
  word: Size, First; memory.New, machine.New.
-/
import Derived.Test.YtegafhhdegnigaaGreatHRun
import Derived.Test.YtegafhhdegnigaaGreatHAddr2
import Derived.Test.YtegafhhdegnigaaGreatHClone
import Derived.Test.YtegafhhdegnigaaGreatHParts2
set_option linter.all false
section
namespace Go.Proofs.YtegafhhdegnigaaGreat
open Go.RowKit Hp
set_option maxRecDepth 100000
set_option maxHeartbeats 1000000
attribute [local irreducible] Go.Calls
section

end

theorem word_size (c : Cfg) (h : c.Ok) : Gives Tryz.prog 117 #[c.v] emp (.tuple #[.int .i64 (base c 14), .int .i64 0]) emp := by
  intro O w F hs
  have hC := Lib.hid (word_check c h)
  have hM := Lib.hid (word_many c h)
  go_enter Tryz.func117, Tryz.ntmps117
  go_wp2_with (first | (first | ((with_reducible apply wl_ldF hs); infer_instance; rfl; (with_reducible exact Pull.here _ _); rfl; rfl; (simp only [List.set_cons_succ, List.set_cons_zero])) | ((with_reducible apply wl_box hs); rfl; rfl; rfl; clear hs; intro w b hs; (simp only [List.set_cons_succ, List.set_cons_zero]))) | (go_at_call 88; ((refine (hC.out).at hs (by (focus ((repeat (with_reducible exact Pull.none _)); done))) ?_); clear hs; intro w hs; (try simp only [emp_mul, mul_assoc'] at hs))))
  (obtain ⟨A, hA, hsn⟩ : ∃ A, Hid (A = _) ∧ Sat O w A := ⟨_, Lib.hid rfl, hs⟩; clear hs; have hs := hsn; clear hsn)
  go_loopw [5, 6] (fun a q wr => ∃ k : Nat, 1 ≤ k ∧ k ≤ 14 ∧ q = .int .i64 (k : Int) ∧ a = .int .i64 (base c k) ∧ Sat O wr A) (fun _ q _ => 15 - (intOf q).toNat)
  case atStart => exact ⟨1, by omega, by omega, rfl, rfl, hs⟩
  case round =>
    obtain ⟨k, k1, k2, rfl, rfl, hs⟩ := hrel
    have hb := base_le h k
    have hmk := many_le h k
    have e1 := base_succ c _ k1
    by_cases hkr : k = 14
    · subst hkr
      rw [hA.out] at hs
      go_wp2_with (fail)
      (go_ret2)
      exact ⟨rfl, by ((with_reducible apply Sat.fin hs); (focus ((repeat (first | with_reducible exact Pull.last _ | with_reducible exact Pull.none _ | with_reducible apply Pull.both | with_reducible apply Pull.skip)); done)))⟩
    · have hlt : decide ((k : Int) ≤ 13) = true := by simp; omega
      rw [hA.out] at hs
      go_wp2_with (first | ((with_reducible apply wl_ldF hs); infer_instance; rfl; (with_reducible exact Pull.here _ _); rfl; rfl; (simp only [List.set_cons_succ, List.set_cons_zero])) | (go_at_call 127; ((refine ((hM.out k)).at hs (by (focus ((repeat (with_reducible exact Pull.none _)); done))) ?_); clear hs; intro w hs; (try simp only [emp_mul, mul_assoc'] at hs))))
      go_roundw
      case rel => exact ⟨k + 1, by omega, by omega, by simp, by rw [e1], by rw [hA.out]; ((with_reducible apply Sat.fin hs); (with_reducible exact Pull.last _))⟩
      case measure => simp [intOf]; omega

/-- n spare slots from s on are linked -/
def fillW (ws : List Int) (b : Int) (s : Nat) : Nat → List Int
  | 0 => ws
  | n + 1 => (fillW ws b s n).set (b + ((s + n : Nat) : Int)).toNat ((s + n + 2 : Nat) : Int)
theorem fillW_len (ws : List Int) (b : Int) (s n : Nat) : (fillW ws b s n).length = ws.length := by
  induction n with
  | zero => rfl
  | succ n ih => simp [fillW, ih]
/-- the memory at the beginning -/
def firstW (c : Cfg) (u : Nat) : List Int :=
  let w0 : List Int := List.replicate (base c 14).toNat 0
  let w1 := if (u : Int) < c.Sl then w0.set 0 ((u + 1 : Nat) : Int) else w0
  let w2 := fillW w1 (base c 10) u (c.Sl.toNat - 1 - u)
  if 0 < u then (w2.set 3 1).set 4 1 else w2
theorem firstW_len (c : Cfg) (u : Nat) : (firstW c u).length = (base c 14).toNat := by
  simp only [firstW]
  split <;> split <;> simp [fillW_len]

theorem base_cells {c : Cfg} (h : c.Ok) : base c 10 + c.Sl + c.Sl + c.Sl + c.Sl = base c 14 ∧ 8 ≤ base c 10 := by
  have e1 : base c 14 = base c 13 + c.Sl := rfl
  have e2 : base c 13 = base c 12 + c.Sl := rfl
  have e3 : base c 12 = base c 11 + c.Sl := rfl
  have e4 : base c 11 = base c 10 + c.Sl := rfl
  have e5 : base c 10 = base c 9 + c.R * c.Hz := rfl
  have e6 : base c 9 = base c 8 + c.R := rfl
  have e7 : base c 8 = base c 7 + c.Bu := rfl
  have e8 : base c 7 = 6 := by simp [base, many]
  have := h.rh.1
  have := h.R1; have := h.B1
  omega

theorem word_first0 (c : Cfg) (h : c.Ok) : Does Tryz.prog 61 #[c.v, .int .i64 0] emp (fun v => ex fun s => pu (v = .tuple #[s, .int .i64 0]) * sl 57 1 ((firstW c 0).map eU) s) := by
  intro O w F hs
  have hS := Lib.hid (word_size c h)
  have hb10 := base_le h 10
  have hA := Lib.hid (word_addr c h 10 (by omega) (by omega) 0 ⟨by omega, by omega, by show 0 < c.Sl; have := h.S1; omega⟩)
  rw [if_neg (by omega)] at hA
  obtain ⟨hc1, hc2⟩ := base_cells h
  have hb14 := base_le h 14
  have hs1 := h.S1
  have hs2 := h.S2
  have n1 : decide (0 > c.Sl) = false := by simp; omega
  have n2 : decide (0 < c.Sl) = true := by simp; omega
  obtain ⟨W0, hW0⟩ : ∃ W0 : List Int, W0 = List.replicate (base c 14).toNat 0 := ⟨_, rfl⟩
  have hrep : List.replicate (base c 14).toNat (Value.int .u64 0).cells.toList = W0.map eU := by rw [hW0, List.map_replicate]; rfl
  have hlen : W0.length = (base c 14).toNat := by rw [hW0]; simp
  have hl0 : 0 < W0.length := by omega
  have hg0 : W0[0]? = some 0 := by rw [hW0]; simp [List.getElem?_replicate]; omega
  have hfin : firstW c 0 = fillW (W0.set 0 1) (base c 10) 0 (c.Sl.toNat - 1) := by
    simp only [firstW]
    rw [if_neg (by omega), if_pos (by show (0 : Int) < c.Sl; omega), ← hW0]
    rfl
  have hfin := Lib.hid hfin
  have hW0 := Lib.hid hW0
  go_enter Tryz.func61, Tryz.ntmps61
  go_wp2_with (first | (first | ((with_reducible apply wl_ld hs); infer_instance; rfl; (focus ((repeat (first | with_reducible exact Pull.here _ _ | with_reducible apply Pull.skip)); done)); rfl; rfl; (simp only [List.set_cons_succ, List.set_cons_zero])) | ((with_reducible apply wl_ldF hs); infer_instance; rfl; (focus ((repeat (first | with_reducible exact Pull.here _ _ | with_reducible apply Pull.skip)); done)); rfl; rfl; (simp only [List.set_cons_succ, List.set_cons_zero])) | ((with_reducible apply wl_box hs); rfl; rfl; rfl; clear hs; intro w b hs; (simp only [List.set_cons_succ, List.set_cons_zero])) | ((with_reducible apply wl_stS0 hs); infer_instance; rfl; rfl; assumption; (with_reducible exact Pull.here _ _); rfl; (exact map_get (by assumption)); (exact Nat.le_of_ble_eq_true rfl); (rfl); rfl; clear hs; intro w hs) | ((with_reducible apply wl_ia hs); infer_instance; infer_instance; rfl; rfl; (with_reducible exact Pull.here _ _); (rfl); (simp only [List.length_map, List.length_set, List.length_append, List.length_cons, List.length_nil, List.length_replicate] at *; omega); rfl; intro b off hat; (simp only [List.set_cons_succ, List.set_cons_zero]))) | (((with_reducible apply wl_mk hs); infer_instance; infer_instance; rfl; rfl; rfl; rfl; (exact (Int.toNat_of_nonneg (by omega)).symm); omega; (exact Nat.le_of_ble_eq_true rfl); rfl; clear hs; intro w v hs; (simp only [List.set_cons_succ, List.set_cons_zero])); rw [hrep] at hs) | (go_at_call 117; ((refine (hS.out).at hs (by (focus ((repeat (with_reducible exact Pull.none _)); done))) ?_); clear hs; intro w hs; (try simp only [emp_mul, mul_assoc'] at hs))) | (go_at_call 90; ((refine (hA.out).at hs (by (focus ((repeat (with_reducible exact Pull.none _)); done))) ?_); clear hs; intro w hs; (try simp only [emp_mul, mul_assoc'] at hs))))
  have e0 : (List.map eU W0).set 0 ((eU 0).set 0 (Value.int IntKind.u64 1)) = (fillW (W0.set 0 1) (base c 10) 0 0).map eU := by simp [fillW, List.map_set]
  rw [e0] at hs
  have hlW : ∀ n, (fillW (W0.set 0 1) (base c 10) 0 n).length = (base c 14).toNat := fun n => by rw [fillW_len, List.length_set, hlen]
  obtain ⟨T, hT, hs⟩ : ∃ T, Hid (T = _) ∧ Sat O w (sl 57 1 ((fillW (W0.set 0 1) (base c 10) 0 0).map eU) v * T) := ⟨_, Lib.hid rfl, hs.pull (by (with_reducible exact Pull.here _ _))⟩
  clear hg0 hl0 e0 n2
  go_loopw [11] (fun q wr => ∃ n : Nat, (n : Int) + 1 ≤ c.Sl ∧ q = .int .i64 (n : Int) ∧ Sat O wr (sl 57 1 ((fillW (W0.set 0 1) (base c 10) 0 n).map eU) v * T)) (fun q _ => 1025 - (intOf q).toNat)
  case atStart => exact ⟨0, by omega, rfl, hs⟩
  case round =>
    obtain ⟨n, k1, rfl, hs⟩ := hrel
    rw [hT.out] at hs
    have hl := hlW n
    by_cases hkr : (n : Int) + 1 = c.Sl
    · have hlt : decide ((n : Int) < c.Sl - 1) = false := by simp; omega
      go_wp2_with ((with_reducible apply wl_ld hs); infer_instance; rfl; (focus ((repeat (first | with_reducible exact Pull.here _ _ | with_reducible apply Pull.skip)); done)); rfl; rfl; (simp only [List.set_cons_succ, List.set_cons_zero]))
      (go_ret2)
      refine ⟨_, rfl, ?_⟩
      simp only [sat_ex, mul_assoc', sat_pu]
      refine ⟨_, rfl, ?_⟩
      rw [hfin.out, show c.Sl.toNat - 1 = n by omega]
      ((with_reducible apply Sat.fin hs); (focus ((repeat (first | with_reducible exact Pull.last _ | with_reducible apply Pull.both | exact Pull.here _ _ | with_reducible apply Pull.skip)); done)))
    · have hlt : decide ((n : Int) < c.Sl - 1) = true := by simp; omega
      have hix : base c 10 + (n : Int) < ((fillW (W0.set 0 1) (base c 10) 0 n).length : Int) := by rw [hl]; omega
      have hi2 : (base c 10 + (n : Int)).toNat < (fillW (W0.set 0 1) (base c 10) 0 n).length := by omega
      obtain ⟨x, hx⟩ : ∃ x, (fillW (W0.set 0 1) (base c 10) 0 n)[(base c 10 + (n : Int)).toNat]? = some x := ⟨_, List.getElem?_eq_getElem hi2⟩
      have hw1 : wrap64 (base c 10 + (n : Int)) = base c 10 + (n : Int) := by unfold wrap64; omega
      have hw2 : wrap64 ((n : Int) + 2) = (n : Int) + 2 := by unfold wrap64; omega
      have hw3 : ((n : Int) + 2) % 18446744073709551616 = (n : Int) + 2 := by omega
      go_wp2_with (first | ((with_reducible apply wl_ld hs); infer_instance; rfl; (focus ((repeat (first | with_reducible exact Pull.here _ _ | with_reducible apply Pull.skip)); done)); rfl; rfl; (simp only [List.set_cons_succ, List.set_cons_zero])) | ((with_reducible apply wl_stS0 hs); infer_instance; rfl; rfl; assumption; (with_reducible exact Pull.here _ _); rfl; (exact map_get (by assumption)); (exact Nat.le_of_ble_eq_true rfl); (rfl); rfl; clear hs; intro w hs) | ((with_reducible apply wl_ia2 hs); infer_instance; infer_instance; rfl; assumption; rfl; (with_reducible exact Pull.here _ _); (exact (Int.toNat_of_nonneg (by omega)).symm); (simp only [List.length_map, List.length_set, List.length_append, List.length_cons, List.length_nil, List.length_replicate] at *; omega); rfl; (simp only [List.set_cons_succ, List.set_cons_zero])))
      have e1 : (List.map eU (fillW (W0.set 0 1) (base c 10) 0 n)).set (base c 10 + (n : Int)).toNat ((eU x).set 0 (Value.int IntKind.u64 ((n : Int) + 2))) = (fillW (W0.set 0 1) (base c 10) 0 (n + 1)).map eU := by simp [fillW, List.map_set]
      rw [e1] at hs
      go_roundw
      case rel => exact ⟨n + 1, by omega, by simp, by rw [hT.out]; ((with_reducible apply Sat.fin hs); (with_reducible exact Pull.last _))⟩
      case measure => simp [intOf]; omega
end Go.Proofs.YtegafhhdegnigaaGreat
end
/-
  memory.New, machine.New.
-/
section
namespace Go.Proofs.YtegafhhdegnigaaGreat
open Go.RowKit Hp
set_option maxRecDepth 100000
set_option maxHeartbeats 1000000
attribute [local irreducible] Go.Calls

theorem memory_new (v : Value) (ws : List Int) (hl : ws.length ≤ 8192) :
    Does Tryz.prog 91 #[v] (sl 57 1 (ws.map eU) v) (fun u => ex fun g => pu (u = .tuple #[.pointer (some ⟨g, 0, none⟩), .int .i64 0]) * (MemR g ⟨ws, [], [], 0⟩ * sl 57 1 (ws.map eU) v)) := by
  intro O w F hs
  obtain ⟨a0, c0, rfl⟩ := sl_len hs
  have hC := Lib.hid (clone_words (.slice a0 (ws.map eU).length c0) ws (by omega))
  have n1 : decide ((ws.length : Int) > 8192) = false := by simp; omega
  simp only [List.length_map] at hC hs ⊢
  go_enter Tryz.func91, Tryz.ntmps91
  go_wp2_with (first | (first | ((with_reducible apply wl_box hs); rfl; rfl; rfl; clear hs; intro w b hs; (simp only [List.set_cons_succ, List.set_cons_zero])) | ((with_reducible apply wl_len hs); infer_instance; rfl; (with_reducible exact Pull.here _ _); rfl; (simp only [List.set_cons_succ, List.set_cons_zero]))) | (go_at_call 128; ((refine (hC.out).at hs (by (with_reducible exact Pull.here _ _)) ?_); clear hs; intro v w hs; (try simp only [emp_mul, mul_assoc'] at hs)); (obtain ⟨a1, c1, rfl⟩ := sl_len hs)))
  (go_ret2)
  refine ⟨_, rfl, ?_⟩
  simp only [sat_ex, mul_assoc', sat_pu]
  refine ⟨_, rfl, ?_⟩
  apply memR_mk
  have hs := sl_nil (E := 57) (sz := 1) hs (by omega)
  have hs := sl_nil (E := 138) (sz := 7) hs (by omega)
  simp only [List.map_nil]
  simp only [List.length_map] at hs
  ((with_reducible apply Sat.fin hs); (focus ((repeat (first | with_reducible exact Pull.last _ | with_reducible exact Pull.here _ _ | with_reducible apply Pull.both | with_reducible apply Pull.skip)); done)))

abbrev sea0 : Sea := ⟨.nilIface, false, -1, 0, 0⟩
def mch0 (T : Nat) (ws : List Int) (kit vs : Value) : Mch :=
  { mem := ⟨ws, [], [], 0⟩, thread := 0, now := 0, cur := none, used := false, shifts := [], kit, vs, vc := .slice none 0 0, seats := List.replicate T sea0, moves := 0, calls := [] }

theorem machine_new (T : Nat) (v : Value) (km : Nat) (ws : List Int) (hT1 : 1 ≤ T) (hT2 : T ≤ 16) (hl : ws.length ≤ 8192) :
    Does Tryz.prog 38 #[.int .i64 (T : Int), v, .map (some km)] (sl 57 1 (ws.map eU) v) (fun u => ex fun g => ex fun gm => ex fun vs => pu (u = .tuple #[.pointer (some ⟨g, 0, none⟩), .int .i64 0]) * (MchR g gm (mch0 T ws (.map (some km)) vs) * sl 57 1 (ws.map eU) v)) := by
  intro O w F hs
  have hM := Lib.hid (memory_new v ws hl)
  have n1 : decide ((T : Int) < 1) = false := by simp; omega
  have n2 : decide ((T : Int) > 16) = false := by simp; omega
  go_enter Tryz.func38, Tryz.ntmps38
  go_wp2_with (first | ((with_reducible apply wl_box hs); rfl; rfl; rfl; clear hs; intro w b hs; (simp only [List.set_cons_succ, List.set_cons_zero])) | (go_at_call 91; ((refine (hM.out).at hs (by (with_reducible exact Pull.here _ _)) ?_); clear hs; intro v w hs; (try simp only [emp_mul, mul_assoc'] at hs)); (simp only [sat_ex, mul_assoc', sat_pu] at hs); (obtain ⟨gm, rfl, hs⟩ := hs)))
  have hs := sl_nil (E := 175) (sz := 5) hs (by omega)
  have hs := sl_nil (E := 50) (sz := 9) hs (by omega)
  have hs := sl_nil (E := 127) (sz := 5) hs (by omega)
  go_loopw [31] (fun q wr => ∃ (n : Nat) (vs : Value), n ≤ T ∧ q = .int .i64 (n : Int) ∧ Sat O wr (pt b (.cells #[.pointer (some ⟨gm, 0, none⟩), .int .i64 0, .int .i64 0, .pointer none, .pointer none, .bool false, .slice none 0 0, .map (some km), vs, .int .i64 0, .slice none 0 0] 171) *
    (sl 175 5 ((List.replicate n sea0).map Sea.e) vs * (sl 127 5 [] (.slice none 0 0) * (sl 50 9 [] (.slice none 0 0) * (MemR gm ⟨ws, [], [], 0⟩ * (sl 57 1 (ws.map eU) v * F))))))) (fun q _ => 17 - (intOf q).toNat)
  case atStart => exact ⟨0, _, by omega, rfl, by simp only [List.replicate_zero, List.map_nil]; ((with_reducible apply Sat.fin hs); (focus ((repeat (first | with_reducible exact Pull.last _ | with_reducible exact Pull.here _ _ | with_reducible apply Pull.both | with_reducible apply Pull.skip)); done)))⟩
  case round =>
    obtain ⟨n, vs, k1, rfl, hs⟩ := hrel
    by_cases hkr : n = T
    · subst hkr
      have hlt : decide ((n : Int) < (n : Int)) = false := by simp
      go_wp2_with (fail)
      (go_ret2)
      refine ⟨_, rfl, ?_⟩
      simp only [sat_ex, mul_assoc', sat_pu]
      refine ⟨_, gm, vs, rfl, ?_⟩
      refine mchR_mk (vh := .slice none 0 0) (call := .pointer none) (told := .pointer none) ⟨fun _ => ⟨rfl, rfl⟩, fun _ _ h => by simp [mch0] at h⟩ ?_
      simp only [mch0, List.map_nil]
      ((with_reducible apply Sat.fin hs); (focus ((repeat (first | with_reducible exact Pull.last _ | with_reducible exact Pull.here _ _ | with_reducible apply Pull.both | with_reducible apply Pull.skip)); done)))
    · have hlt : decide ((n : Int) < (T : Int)) = true := by simp; omega
      have hlr : (List.replicate n sea0).length < 100 := by simp; omega
      obtain ⟨a0, c0, rfl⟩ := sl_len (hs.pull (A := sl 175 5 _ vs) (by (focus ((repeat (first | with_reducible exact Pull.here _ _ | with_reducible apply Pull.skip)); done))))
      go_wp2_with (first | ((with_reducible apply wl_ld hs); infer_instance; rfl; (with_reducible exact Pull.here _ _); rfl; rfl; (simp only [List.set_cons_succ, List.set_cons_zero])) | ((with_reducible apply wl_st hs); infer_instance; rfl; rfl; (focus ((repeat (first | with_reducible exact Pull.here _ _ | with_reducible apply Pull.skip)); done)); (apply sl_one; apply hs.pull; (with_reducible exact Pull.here _ _)); (exact Nat.le_of_ble_eq_true rfl); rfl; clear hs; intro w hs; simp only [List.setIfInBounds_toArray, List.set_cons_succ, List.set_cons_zero] at hs) | ((with_reducible apply wl_bs hs); infer_instance; infer_instance; rfl; rfl; rfl; rfl; (exact Nat.le_of_ble_eq_true rfl); rfl; clear hs; intro w v hs; (simp only [List.set_cons_succ, List.set_cons_zero])) | ((with_reducible apply wl_app hs); infer_instance; infer_instance; rfl; rfl; (focus ((repeat (first | with_reducible exact Pull.here _ _ | with_reducible apply Pull.skip)); done)); (with_reducible exact Pull.here _ _); (simp only [List.length_map, List.length_set, List.length_append, List.length_cons, List.length_nil, List.length_replicate] at *; omega); (exact Nat.le_of_ble_eq_true rfl); rfl; clear hs; intro w v hs; (simp only [List.set_cons_succ, List.set_cons_zero])))
      go_roundw
      case rel => exact ⟨n + 1, _, by omega, by simp, by rw [List.replicate_succ', List.map_append]; ((with_reducible apply Sat.fin hs); (focus ((repeat (first | with_reducible exact Pull.last _ | with_reducible exact Pull.here _ _ | with_reducible apply Pull.both | exact Pull.here _ _ | with_reducible apply Pull.skip)); done)))⟩
      case measure => simp [intOf]; omega
end Go.Proofs.YtegafhhdegnigaaGreat
end
