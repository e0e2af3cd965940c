/-
  arena.Config, arena.New, hazard.New.
-/
import Derived.Test.YtegafhhdegnigaaGreatHNew2
import Derived.Test.YtegafhhdegnigaaGreatHHaz
set_option linter.all false
namespace Go.Proofs.YtegafhhdegnigaaGreat
open Go.RowKit Hp
set_option maxRecDepth 100000
set_option maxHeartbeats 1000000
attribute [local irreducible] Go.Calls

theorem stars_nil {O w : World} {R : SProp} {E : TypeId} (hs : Sat O w R) : ∀ n, Sat O w (stars E (List.replicate n []) (List.replicate n (.slice none 0 0)) * R)
  | 0 => by simp only [List.replicate_zero, stars, emp_mul]; exact hs
  | n + 1 => by
    simp only [List.replicate_succ, stars, mul_assoc', List.map_nil]
    exact sl_nil (stars_nil hs n) (by omega)
theorem nest_nil {O w : World} {R : SProp} {E1 E0 : TypeId} {n : Nat} {v : Value} (hs : Sat O w (sl E1 1 (List.replicate n [.slice none 0 0]) v * R)) : Sat O w (nest E1 E0 (List.replicate n []) v * R) := by
  refine nest_iff.2 ⟨List.replicate n (.slice none 0 0), by simp, ?_⟩
  have := stars_nil (E := E0) hs n
  refine (this.cast ?_)
  rw [List.map_replicate]
  exact mul_left _ _ _

theorem arena_config (b : Nat) (a : Are) :
    Gives Tryz.prog 89 #[.pointer (some ⟨b, 0, none⟩)] (AreR b a) a.c.v (AreR b a) := by
  intro O w F hs
  (obtain ⟨vas, vac, hs⟩ := areR.1 hs)
  go_enter Tryz.func89, Tryz.ntmps89
  go_wp2_with (first | (first | ((with_reducible apply wl_stF hs); infer_instance; rfl; rfl; (with_reducible exact Pull.here _ _); rfl; rfl; rfl; rfl; clear hs; intro w hs) | ((with_reducible apply wl_alloc hs); infer_instance; rfl; clear hs; intro w b hs; (simp only [List.set_cons_succ, List.set_cons_zero]))) | ((with_reducible apply wl_ldN hs); infer_instance; rfl; (focus ((repeat (first | with_reducible exact Pull.here _ _ | with_reducible apply Pull.skip)); done)); (simp only [List.size_toArray, List.length_cons, List.length_nil]; omega); rfl; rfl; (simp only [List.set_cons_succ, List.set_cons_zero])))
  ((try simp only [Exit.inBlock, Exit.then]); (with_reducible apply bodyPost_ret); ((with_reducible apply results_c); rfl; rfl; (with_reducible apply loadF hs); infer_instance; (with_reducible exact Pull.here _ _); rfl; rfl))
  refine ⟨rfl, ?_⟩
  (apply areR_mk; ((try simp only [List.map_append, List.map_cons, List.map_nil, List.map_set, List.set_set]); (try simp only [List.map_append, List.map_cons, List.map_nil, List.map_set, List.set_set] at hs); ((with_reducible apply Sat.fin hs); (focus ((repeat (first | with_reducible exact Pull.last _ | with_reducible exact Pull.here _ _ | with_reducible apply Pull.both | with_reducible apply Pull.skip)); done)))))

def are0 (c : Cfg) : Are := ⟨c, List.replicate c.Sl.toNat ⟨0, -1⟩, List.replicate c.T.toNat []⟩

theorem arena_new_no (c : Cfg) (h : ¬ c.Ok) (k : Int) : Gives Tryz.prog 33 #[c.v, .int .i64 k] emp (.tuple #[.pointer none, .int .i64 1]) emp := by
  intro O w F hs
  have hC := Lib.hid (word_check_no c h)
  go_enter Tryz.func33, Tryz.ntmps33
  go_wp2_with (first | (first | ((with_reducible apply wl_ldF hs); infer_instance; rfl; (with_reducible exact Pull.here _ _); rfl; rfl; (simp only [List.set_cons_succ, List.set_cons_zero])) | ((with_reducible apply wl_box hs); rfl; rfl; rfl; clear hs; intro w b hs; (simp only [List.set_cons_succ, List.set_cons_zero]))) | (go_at_call 88; ((refine (hC.out).at hs (by (focus ((repeat (with_reducible exact Pull.none _)); done))) ?_); clear hs; intro w hs; (try simp only [emp_mul, mul_assoc'] at hs))))
  (go_ret2)
  exact ⟨rfl, by ((with_reducible apply Sat.fin hs); (focus ((repeat (first | with_reducible exact Pull.last _ | with_reducible exact Pull.none _ | with_reducible apply Pull.both | with_reducible apply Pull.skip)); done)))⟩

def slN (S n : Nat) : List Slt := List.replicate n ⟨0, -1⟩ ++ List.replicate (S - n) ⟨0, 0⟩
theorem slN_get {S n : Nat} (h : n < S) : (slN S n)[n]? = some ⟨0, 0⟩ := by
  unfold slN
  rw [List.getElem?_append_right (by simp)]
  simp [List.getElem?_replicate]; omega
theorem slN_set {S n : Nat} (h : n < S) : (slN S n).set n ⟨0, -1⟩ = slN S (n + 1) := by
  unfold slN
  rw [List.set_append_right _ _ (by simp)]
  simp only [List.length_replicate, Nat.sub_self]
  obtain ⟨k, hk⟩ : ∃ k, S - n = k + 1 := ⟨S - n - 1, by omega⟩
  rw [hk, List.replicate_succ, List.set_cons_zero, show S - (n + 1) = k by omega, List.replicate_succ' , List.append_assoc]
  rfl
theorem slN_len {S n : Nat} (h : n ≤ S) : (slN S n).length = S := by simp [slN]; omega

theorem arena_new (c : Cfg) (h : c.Ok) :
    Does Tryz.prog 33 #[c.v, .int .i64 0] emp (fun u => ex fun g => pu (u = .tuple #[.pointer (some ⟨g, 0, none⟩), .int .i64 0]) * AreR g (are0 c)) := by
  intro O w F hs
  have hC := Lib.hid (word_check c h)
  have h1 := h.S1; have h2 := h.S2; have h3 := h.T1; have h4 := h.T2
  have n1 : decide (0 > c.Sl) = false := by simp; omega
  go_enter Tryz.func33, Tryz.ntmps33
  go_wp2_with (first | (first | (first | (with_reducible refine NQ.mk ?_) | ((with_reducible apply pl_neu); rfl; rfl) | (with_reducible refine EQ.mk ?_ ?_) | (first | (with_reducible exact chk_nil) | ((with_reducible refine chk_cons ?_ ?_); (focus ((with_reducible apply pl_chk); rfl; rfl)))) | (with_reducible refine pl_end ?_) | (show SameA _ _ _; rfl)) | ((with_reducible apply wl_ld hs); infer_instance; rfl; (focus ((repeat (first | with_reducible exact Pull.here _ _ | with_reducible apply Pull.skip)); done)); rfl; rfl; (simp only [List.set_cons_succ, List.set_cons_zero])) | ((with_reducible apply wl_ldF hs); infer_instance; rfl; (focus ((repeat (first | with_reducible exact Pull.here _ _ | with_reducible apply Pull.skip)); done)); rfl; rfl; (simp only [List.set_cons_succ, List.set_cons_zero])) | ((with_reducible apply wl_box hs); rfl; rfl; rfl; clear hs; intro w b hs; (simp only [List.set_cons_succ, List.set_cons_zero])) | ((with_reducible apply wl_len hs); infer_instance; rfl; (focus ((repeat (first | with_reducible exact Pull.here _ _ | with_reducible apply Pull.skip)); done)); rfl; (simp only [List.set_cons_succ, List.set_cons_zero]))) | (((with_reducible apply wl_mk hs); infer_instance; infer_instance; rfl; rfl; rfl; rfl; (exact (Int.toNat_of_nonneg (by omega)).symm); omega; (exact Nat.le_of_ble_eq_true rfl); rfl; clear hs; intro w v hs; (simp only [List.set_cons_succ, List.set_cons_zero])); (obtain ⟨_, _, rfl⟩ := sl_len hs); (simp only [List.length_replicate] at hs ⊢)) | (first | ((with_reducible refine plt_leaf ?_); (try simp only [List.map_cons, List.map_nil])) | ((with_reducible refine plt_one ?_); (try simp only [List.map_cons, List.map_nil])) | ((with_reducible refine plt_two ?_); (try simp only [List.map_cons, List.map_nil])) | ((with_reducible apply te_eff); rfl) | (with_reducible refine Two.mk ?_ ?_)) | ((with_reducible refine wp_tree_sat (id := 6) (.two [0, 1, 2, 4, 5] 3 [0, 4, 5] (.one [] 6 [0, 1, 2] (.one [7] 8 [] (.leaf [9]))) 6 [0, 1, 2] (.one [] 3 [0, 4, 5] (.one [7] 8 [] (.leaf [9])))) hs rfl ?_ ?_); kernel_rfl; clear hs; intro w hs) | (go_at_call 88; ((refine (hC.out).at hs (by (focus ((repeat (with_reducible exact Pull.none _)); done))) ?_); clear hs; intro w hs; (try simp only [emp_mul, mul_assoc'] at hs))))
  all_goals
    have e1 : List.replicate c.Sl.toNat (Value.agg #[Value.int IntKind.i64 0, Value.int IntKind.i64 0]).cells.toList = (slN c.Sl.toNat 0).map Slt.e := by unfold slN; rw [List.replicate_zero, List.nil_append, List.map_replicate, Nat.sub_zero]; rfl
    have e2 : List.replicate c.T.toNat (Value.slice none 0 0).cells.toList = List.replicate c.T.toNat [.slice none 0 0] := rfl
    rw [e1, e2] at hs
    replace hs := nest_nil (E0 := 3) (hs.pull (A := sl 44 1 (List.replicate c.T.toNat [.slice none 0 0]) _) (by (focus ((repeat (first | with_reducible exact Pull.here _ _ | with_reducible apply Pull.skip)); done))))
    clear e1 e2
    go_loopw [36] (fun q wr => ∃ (n : Nat) (v1 v2 : Value), n ≤ c.Sl.toNat ∧ q = .int .i64 (n : Int) ∧ Sat O wr (pt b (.cells #[.int .i64 c.T, .int .i64 c.R, .int .i64 c.Hz, .int .i64 c.Rt, .int .i64 c.Ca, .int .i64 c.Sl, .int .i64 c.Bu, v1, v2] 154) *
      (sl 156 2 ((slN c.Sl.toNat n).map Slt.e) v1 * (nest 44 3 (List.replicate c.T.toNat []) v2 * F)))) (fun q _ => 1025 - (intOf q).toNat)
    case atStart => exact ⟨0, _, _, by omega, rfl, by ((with_reducible apply Sat.fin hs); (focus ((repeat (first | with_reducible exact Pull.last _ | with_reducible exact Pull.here _ _ | with_reducible apply Pull.both | with_reducible apply Pull.skip)); done)))⟩
    case round =>
      obtain ⟨n, v1, v2, k1, rfl, hs⟩ := hrel
      by_cases hkr : n = c.Sl.toNat
      · have hlt : decide ((n : Int) < (c.Sl.toNat : Int)) = false := by simp; omega
        go_wp2_with (fail)
        (go_ret2)
        refine ⟨_, rfl, ?_⟩
        simp only [sat_ex, mul_assoc', sat_pu]
        refine ⟨_, rfl, ?_⟩
        have e3 : slN c.Sl.toNat n = (are0 c).slots := by unfold slN are0; rw [hkr]; simp
        rw [e3] at hs
        apply areR_mk
        ((with_reducible apply Sat.fin hs); (focus ((repeat (first | with_reducible exact Pull.last _ | with_reducible exact Pull.here _ _ | with_reducible apply Pull.both | exact Pull.here _ _)); done)))
      · have hlt : decide ((n : Int) < (c.Sl.toNat : Int)) = true := by simp; omega
        have hg := slN_get (S := c.Sl.toNat) (n := n) (by omega)
        have hst := slN_set (S := c.Sl.toNat) (n := n) (by omega)
        have hl := slN_len (S := c.Sl.toNat) (n := n) (by omega)
        have hln : n < (slN c.Sl.toNat n).length := by omega
        have hn0 : decide ((n : Int) < 0) = false := by simp
        generalize slN c.Sl.toNat n = X at hs hg hst hl hln
        have hst := Lib.hid hst
        clear h
        go_wp2_with (first | ((with_reducible apply wl_ld hs); infer_instance; rfl; (with_reducible exact Pull.here _ _); rfl; rfl; (simp only [List.set_cons_succ, List.set_cons_zero])) | ((with_reducible apply wl_stSN (k := 0) hs); infer_instance; rfl; rfl; assumption; (focus ((repeat (first | with_reducible exact Pull.here _ _ | with_reducible apply Pull.skip)); done)); (exact (Nat.add_zero _).symm); (exact map_get (by assumption)); (exact Nat.le_of_ble_eq_true rfl); rfl; rfl; rfl; rfl; clear hs; intro w hs; simp only [List.take_succ_cons, List.take_zero, List.drop_succ_cons, List.drop_zero, List.cons_append, List.nil_append, List.append_nil] at hs) | ((with_reducible apply wl_ia hs); infer_instance; infer_instance; rfl; rfl; (focus ((repeat (first | with_reducible exact Pull.here _ _ | with_reducible apply Pull.skip)); done)); (rfl); (simp only [List.length_map, List.length_set, List.length_append, List.length_cons, List.length_nil, List.length_replicate] at *; omega); rfl; intro b off hat; (simp only [List.set_cons_succ, List.set_cons_zero])))
        go_roundw
        case rel => exact ⟨n + 1, _, _, by omega, by simp, by rw [← hst.out]; ((try simp only [List.map_append, List.map_cons, List.map_nil, List.map_set, List.set_set]); (try simp only [List.map_append, List.map_cons, List.map_nil, List.map_set, List.set_set] at hs); ((with_reducible apply Sat.fin hs); (focus ((repeat (first | with_reducible exact Pull.last _ | with_reducible exact Pull.here _ _ | with_reducible apply Pull.both | with_reducible apply Pull.skip)); done))))⟩
        case measure => simp [intOf]; omega

def haz0 (c : Cfg) : Haz := ⟨c, List.replicate c.T.toNat (-1), List.replicate c.R.toNat []⟩

theorem hazard_new (ba : Nat) (a : Are) (h : a.c.Ok) :
    Makes Tryz.prog 37 #[.pointer (some ⟨ba, 0, none⟩)] (AreR ba a) (fun g => HazR g ba (haz0 a.c) * AreR ba a) := by
  intro O w F hs
  have hG := Lib.hid (arena_config ba a)
  have hC := Lib.hid (word_check a.c h)
  have h1 := h.R1; have h2 := h.R2; have h3 := h.T1; have h4 := h.T2; have h5 := h.S1
  have h6 := h.H1
  have hrh : 0 < a.c.R * a.c.Hz := Int.mul_pos (by omega) (by omega)
  have hA8 := word_addr a.c h 8 (by omega) (by omega) 0 ⟨by omega, by omega, by show 0 < a.c.R; omega⟩
  have hA9 := word_addr a.c h 9 (by omega) (by omega) 0 ⟨by omega, by omega, by show 0 < a.c.R * a.c.Hz; omega⟩
  have hA2 := word_addr a.c h 2 (by omega) (by omega) 0 ⟨by omega, by omega, by show (0 : Int) < 1; omega⟩
  have hA11 := word_addr a.c h 11 (by omega) (by omega) 0 ⟨by omega, by omega, by show 0 < a.c.Sl; omega⟩
  rw [if_neg (by omega), Int.add_zero] at hA8 hA2 hA11
  rw [if_pos rfl, Int.zero_mul, Int.add_zero] at hA9
  have hA8 := Lib.hid hA8
  have hA9 := Lib.hid hA9
  have hA2 := Lib.hid hA2
  have hA11 := Lib.hid hA11
  clear h
  go_enter Tryz.func37, Tryz.ntmps37
  go_wp2_with (first | (first | (first | (with_reducible refine NQ.mk ?_) | ((with_reducible apply pl_neu); rfl; rfl) | ((with_reducible apply pl_eff); rfl) | (with_reducible refine EQ.mk ?_ ?_) | (first | (with_reducible exact chk_nil) | ((with_reducible refine chk_cons ?_ ?_); (focus ((with_reducible apply pl_chk); rfl; rfl)))) | (with_reducible refine pl_end ?_) | (show SameA _ _ _; rfl)) | ((with_reducible apply wl_ld hs); infer_instance; rfl; (focus ((repeat (first | with_reducible exact Pull.here _ _ | with_reducible apply Pull.skip)); done)); rfl; rfl; (simp only [List.set_cons_succ, List.set_cons_zero])) | ((with_reducible apply wl_ldF hs); infer_instance; rfl; (focus ((repeat (first | with_reducible exact Pull.here _ _ | with_reducible apply Pull.skip)); done)); rfl; rfl; (simp only [List.set_cons_succ, List.set_cons_zero])) | ((with_reducible apply wl_stF hs); infer_instance; rfl; rfl; (with_reducible exact Pull.here _ _); rfl; rfl; rfl; rfl; clear hs; intro w hs) | ((with_reducible apply wl_alloc hs); infer_instance; rfl; clear hs; intro w b hs; (simp only [List.set_cons_succ, List.set_cons_zero])) | ((with_reducible apply wl_box hs); rfl; rfl; rfl; clear hs; intro w b hs; (simp only [List.set_cons_succ, List.set_cons_zero]))) | (((with_reducible apply wl_mk hs); infer_instance; infer_instance; rfl; rfl; rfl; rfl; (exact (Int.toNat_of_nonneg (by omega)).symm); omega; (exact Nat.le_of_ble_eq_true rfl); rfl; clear hs; intro w v hs; (simp only [List.set_cons_succ, List.set_cons_zero])); (obtain ⟨_, _, rfl⟩ := sl_len hs); (simp only [List.length_replicate] at hs ⊢)) | ((with_reducible refine wp_plan_sat (id := 4) [.neu 0, .neu 1, .neu 2, .neu 3, .eff 4 [0, 1], .neu 5, .eff 6 [], .neu 7] hs rfl ?_ ?_); kernel_rfl; clear hs; intro w hs) | (go_at_call 88; ((refine (hC.out).at hs (by (focus ((repeat (with_reducible exact Pull.none _)); done))) ?_); clear hs; intro w hs; (try simp only [emp_mul, mul_assoc'] at hs))) | (go_at_call 89; ((refine (hG.out).at hs (by (with_reducible exact Pull.here _ _)) ?_); clear hs; intro w hs; (try simp only [emp_mul, mul_assoc'] at hs))))
  have e2 : List.replicate a.c.R.toNat (Value.slice none 0 0).cells.toList = List.replicate a.c.R.toNat [.slice none 0 0] := rfl
  rw [e2] at hs
  replace hs := nest_nil (E0 := 3) (hs.pull (A := sl 44 1 (List.replicate a.c.R.toNat [.slice none 0 0]) _) (by (focus ((repeat (first | with_reducible exact Pull.here _ _ | with_reducible apply Pull.skip)); done))))
  clear e2
  replace hs := sl_nil (E := 3) (sz := 1) hs (by omega)
  have hT0 : ((a.c.T.toNat : Nat) : Int) = a.c.T := Int.toNat_of_nonneg (by omega)
  obtain ⟨v2, T, hT, hs⟩ : ∃ v2 T, Hid (T = _) ∧ Sat O w (pt b (.cells #[.pointer (some ⟨ba, 0, none⟩), .int .i64 a.c.T, .int .i64 a.c.R, .int .i64 a.c.Hz, .int .i64 a.c.Rt, .int .i64 a.c.Ca, .int .i64 a.c.Sl, .int .i64 a.c.Bu, .slice none 0 0, v2, .int .i64 0, .int .i64 0, .int .i64 0, .int .i64 0] 93) *
      (sl 3 1 [] (.slice none 0 0) * (nest 44 3 (List.replicate a.c.R.toNat []) v2 * T))) := ⟨_, _, Lib.hid rfl, by ((with_reducible apply Sat.fin hs); (focus ((repeat (first | with_reducible exact Pull.last _ | with_reducible exact Pull.here _ _ | with_reducible apply Pull.both | with_reducible apply Pull.skip)); done)))⟩
  go_loopw [26] (fun q wr => ∃ (n : Nat) (v1 : Value), (n : Int) ≤ a.c.T ∧ q = .int .i64 (n : Int) ∧ Sat O wr (pt b (.cells #[.pointer (some ⟨ba, 0, none⟩), .int .i64 a.c.T, .int .i64 a.c.R, .int .i64 a.c.Hz, .int .i64 a.c.Rt, .int .i64 a.c.Ca, .int .i64 a.c.Sl, .int .i64 a.c.Bu, v1, v2, .int .i64 0, .int .i64 0, .int .i64 0, .int .i64 0] 93) *
      (sl 3 1 ((List.replicate n (-1)).map eI) v1 * (nest 44 3 (List.replicate a.c.R.toNat []) v2 * T)))) (fun q _ => 17 - (intOf q).toNat)
  case atStart => exact ⟨0, _, by omega, rfl, by simp only [List.replicate_zero, List.map_nil]; ((with_reducible apply Sat.fin hs); (with_reducible exact Pull.last _))⟩
  case round =>
    obtain ⟨n, v1, k1, rfl, hs⟩ := hrel
    by_cases hkr : (n : Int) = a.c.T
    · have hlt : decide ((n : Int) < a.c.T) = false := by simp; omega
      rw [hT.out] at hs
      go_wp2_with (first | (first | ((with_reducible apply wl_ldF hs); infer_instance; rfl; (focus ((repeat (first | with_reducible exact Pull.here _ _ | with_reducible apply Pull.skip)); done)); rfl; rfl; (simp only [List.set_cons_succ, List.set_cons_zero])) | ((with_reducible apply wl_st hs); infer_instance; rfl; rfl; (with_reducible exact Pull.here _ _); (rfl); (exact Nat.le_of_ble_eq_true rfl); rfl; clear hs; intro w hs; simp only [List.setIfInBounds_toArray, List.set_cons_succ, List.set_cons_zero] at hs)) | (go_at_call 90; first | ((refine (hA8.out).at hs (by (focus ((repeat (with_reducible exact Pull.none _)); done))) ?_); clear hs; intro w hs; (try simp only [emp_mul, mul_assoc'] at hs)) | ((refine (hA9.out).at hs (by (focus ((repeat (with_reducible exact Pull.none _)); done))) ?_); clear hs; intro w hs; (try simp only [emp_mul, mul_assoc'] at hs)) | ((refine (hA2.out).at hs (by (focus ((repeat (with_reducible exact Pull.none _)); done))) ?_); clear hs; intro w hs; (try simp only [emp_mul, mul_assoc'] at hs)) | ((refine (hA11.out).at hs (by (focus ((repeat (with_reducible exact Pull.none _)); done))) ?_); clear hs; intro w hs; (try simp only [emp_mul, mul_assoc'] at hs))))
      (go_ret)
      refine ⟨_, rfl, ?_⟩
      simp only [mul_assoc']
      apply hazR_mk
      have e3 : List.replicate n (-1) = (haz0 a.c).held := by unfold haz0; rw [← hkr]; simp
      rw [e3] at hs
      ((with_reducible apply Sat.fin hs); (focus ((repeat (first | with_reducible exact Pull.last _ | with_reducible exact Pull.here _ _ | with_reducible apply Pull.both | exact Pull.here _ _ | with_reducible apply Pull.skip)); done)))
    · have hlt : decide ((n : Int) < a.c.T) = true := by simp; omega
      have hlr : (List.replicate n (-1 : Int)).length < 100 := by simp; omega
      rw [hT.out] at hs
      obtain ⟨a0, c0, rfl⟩ := sl_len (hs.pull (A := sl 3 1 _ v1) (by (focus ((repeat (first | with_reducible exact Pull.here _ _ | with_reducible apply Pull.skip)); done))))
      go_wp2_with (first | ((with_reducible apply wl_ld hs); infer_instance; rfl; (with_reducible exact Pull.here _ _); rfl; rfl; (simp only [List.set_cons_succ, List.set_cons_zero])) | ((with_reducible apply wl_st hs); infer_instance; rfl; rfl; (focus ((repeat (first | with_reducible exact Pull.here _ _ | with_reducible apply Pull.skip)); done)); (apply sl_one; apply hs.pull; (with_reducible exact Pull.here _ _)); (exact Nat.le_of_ble_eq_true rfl); rfl; clear hs; intro w hs; simp only [List.setIfInBounds_toArray, List.set_cons_succ, List.set_cons_zero] at hs) | ((with_reducible apply wl_bs hs); infer_instance; infer_instance; rfl; rfl; rfl; rfl; (exact Nat.le_of_ble_eq_true rfl); rfl; clear hs; intro w v hs; (simp only [List.set_cons_succ, List.set_cons_zero])) | ((with_reducible apply wl_app hs); infer_instance; infer_instance; rfl; rfl; (focus ((repeat (first | with_reducible exact Pull.here _ _ | with_reducible apply Pull.skip)); done)); (with_reducible exact Pull.here _ _); (simp only [List.length_map, List.length_set, List.length_append, List.length_cons, List.length_nil, List.length_replicate] at *; omega); (exact Nat.le_of_ble_eq_true rfl); rfl; clear hs; intro w v hs; (simp only [List.set_cons_succ, List.set_cons_zero])))
      go_roundw
      case rel => exact ⟨n + 1, _, by omega, by simp, by rw [List.replicate_succ', List.map_append, hT.out]; ((with_reducible apply Sat.fin hs); (focus ((repeat (first | with_reducible exact Pull.last _ | with_reducible exact Pull.here _ _ | with_reducible apply Pull.both | exact Pull.here _ _ | with_reducible apply Pull.skip)); done)))⟩
      case measure => simp [intOf]; omega
end Go.Proofs.YtegafhhdegnigaaGreat
