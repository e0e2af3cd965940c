/-
  hazard.Play, by an invariant of the machine's states.
-/
import Derived.Test.YtegafhhdegnigaaGreatHMove
import Derived.Test.YtegafhhdegnigaaGreatHKit3
import Derived.Test.YtegafhhdegnigaaGreatHRun
set_option linter.all false
namespace Go.Proofs.YtegafhhdegnigaaGreat
open Go.RowKit Hp
set_option maxRecDepth 100000
set_option maxHeartbeats 1000000
attribute [local irreducible] Go.Calls

theorem base14_le {c : Cfg} (h : c.Ok) : base c 14 ≤ 8192 := by
  have e1 : base c 14 = base c 13 + c.Sl := rfl
  have e2 : base c 13 = base c 12 + c.Sl := rfl
  have e3 : base c 12 = base c 11 + c.Sl := rfl
  have e4 : base c 11 = base c 10 + c.Sl := rfl
  have e5 : base c 10 = base c 9 + c.R * c.Hz := rfl
  have e6 : base c 9 = base c 8 + c.R := rfl
  have e7 : base c 8 = base c 7 + c.Bu := rfl
  have e8 : base c 7 = 6 := by simp [base, many]
  have := h.rh.2
  have := h.R2; have := h.B2; have := h.S2
  omega

abbrev HW := Wst (Haz × Are) HTask

def wst0 (c : Cfg) (km : Nat) (vs : Value) : HW := ⟨(haz0 c, are0 c), mch0 c.T.toNat (firstW c 0) (.map (some km)) vs, List.replicate c.T.toNat none⟩

theorem tsk_nones {τ : Type} {R : τ → Value → SProp} {O w : World} {F : SProp} (hs : Sat O w F) : ∀ n, Sat O w (tskR R (List.replicate n none) (List.replicate n sea0) * F)
  | 0 => by simp only [List.replicate_zero, tskR, emp_mul]; exact hs
  | n + 1 => by
    simp only [List.replicate_succ, tskR, mul_assoc', sat_pu]
    exact ⟨trivial, tsk_nones hs n⟩

theorem wr0_eq {g ba bx bm : Nat} {CX : SProp} {K : Int → Option Value} {c : Cfg} {km : Nat} {vs : Value} : WR (hzT g ba CX) bx bm K (wst0 c km vs) =
    MchR bx bm (mch0 c.T.toNat (firstW c 0) (.map (some km)) vs) * (mp .i64 K (.map (some km)) * (HazR g ba (haz0 c) * (AreR ba (are0 c) * (CX * tskR (htR g ba) (List.replicate c.T.toNat none) (List.replicate c.T.toNat sea0))))) := by
  unfold WR
  simp only [hzT, mul_assoc', wst0]
  rfl

def playR (J : HW → Prop) (u : Value) : SProp := ex fun x => ex fun v => pu (J x ∧ u = .tuple #[v, .int .i64 0]) * RunR x.m.calls x.m.mem.log x.m.shifts x.m.mem.words v

theorem haz_play_conf (c : Cfg) (h : ¬ c.Ok) (v : Value) : Gives Tryz.prog 15 #[c.v, v] emp (.tuple #[.agg #[.slice none 0 0, .slice none 0 0, .slice none 0 0, .slice none 0 0], .int .i64 1]) emp := by
  intro O w F hs
  have hA := Lib.hid (arena_new_no c h 0)
  go_enter Tryz.func15, Tryz.ntmps15
  go_wp2_with (first | (first | ((with_reducible apply wl_ldF hs); infer_instance; rfl; (focus ((repeat (first | with_reducible exact Pull.here _ _ | with_reducible apply Pull.skip)); done)); rfl; rfl; (simp only [List.set_cons_succ, List.set_cons_zero])) | ((with_reducible apply wl_stF hs); infer_instance; rfl; rfl; (with_reducible exact Pull.here _ _); rfl; rfl; rfl; rfl; clear hs; intro w hs) | ((with_reducible apply wl_alloc hs); infer_instance; rfl; clear hs; intro w b hs; (simp only [List.set_cons_succ, List.set_cons_zero])) | ((with_reducible apply wl_box hs); rfl; rfl; rfl; clear hs; intro w b hs; (simp only [List.set_cons_succ, List.set_cons_zero]))) | (go_at_call 33; ((refine (hA.out).at hs (by (focus ((repeat (with_reducible exact Pull.none _)); done))) ?_); clear hs; intro w hs; (try simp only [emp_mul, mul_assoc'] at hs))))
  ((try simp only [Exit.inBlock, Exit.then]); (with_reducible apply bodyPost_ret); ((with_reducible apply results_ct); rfl; rfl; (with_reducible apply loadF hs); infer_instance; (with_reducible exact Pull.here _ _); rfl; rfl))
  exact ⟨rfl, by ((with_reducible apply Sat.fin hs); (focus ((repeat (first | with_reducible exact Pull.last _ | with_reducible exact Pull.none _ | with_reducible apply Pull.both | with_reducible apply Pull.skip)); done)))⟩
theorem haz_play_long (c : Cfg) (h : c.Ok) (v : Value) (mvs : List Mv) (hl : 65536 < mvs.length) : Gives Tryz.prog 15 #[c.v, v] (sl 86 4 (mvs.map Mv.e) v) (.tuple #[.agg #[.slice none 0 0, .slice none 0 0, .slice none 0 0, .slice none 0 0], .int .i64 3]) (sl 86 4 (mvs.map Mv.e) v) := by
  intro O w F hs
  have hA := Lib.hid (arena_new c h)
  obtain ⟨a0, c0, rfl⟩ := sl_len hs
  simp only [List.length_map] at hs ⊢
  have n1 : decide ((mvs.length : Int) > 65536) = true := by simp; omega
  go_enter Tryz.func15, Tryz.ntmps15
  go_wp2_with (first | (first | ((with_reducible apply wl_ldF hs); infer_instance; rfl; (focus ((repeat (first | with_reducible exact Pull.here _ _ | with_reducible apply Pull.skip)); done)); rfl; rfl; (simp only [List.set_cons_succ, List.set_cons_zero])) | ((with_reducible apply wl_stF hs); infer_instance; rfl; rfl; (focus ((repeat (first | with_reducible exact Pull.here _ _ | with_reducible apply Pull.skip)); done)); rfl; rfl; rfl; rfl; clear hs; intro w hs) | ((with_reducible apply wl_alloc hs); infer_instance; rfl; clear hs; intro w b hs; (simp only [List.set_cons_succ, List.set_cons_zero])) | ((with_reducible apply wl_box hs); rfl; rfl; rfl; clear hs; intro w b hs; (simp only [List.set_cons_succ, List.set_cons_zero])) | ((with_reducible apply wl_len hs); infer_instance; rfl; (focus ((repeat (first | with_reducible exact Pull.here _ _ | with_reducible apply Pull.skip)); done)); rfl; (simp only [List.set_cons_succ, List.set_cons_zero]))) | (go_at_call 33; ((refine (hA.out).at hs (by (focus ((repeat (with_reducible exact Pull.none _)); done))) ?_); clear hs; intro v w hs; (try simp only [emp_mul, mul_assoc'] at hs)); (simp only [sat_ex, mul_assoc', sat_pu] at hs); (obtain ⟨ba, rfl, hs⟩ := hs)))
  ((try simp only [Exit.inBlock, Exit.then]); (with_reducible apply bodyPost_ret); ((with_reducible apply results_ct); rfl; rfl; (with_reducible apply loadF hs); infer_instance; (with_reducible exact Pull.here _ _); rfl; rfl))
  exact ⟨rfl, by ((with_reducible apply Sat.fin hs); (focus ((repeat (first | with_reducible exact Pull.last _ | with_reducible exact Pull.here _ _ | with_reducible apply Pull.both | with_reducible apply Pull.skip)); done)))⟩

set_option maxHeartbeats 4000000 in
theorem haz_play (c : Cfg) (h : c.Ok) (v : Value) (mvs : List Mv) (hl : mvs.length ≤ 65536) (J : Nat → HW → Prop) (hn : c.T.toNat ≤ 16)
    (J0 : ∀ km vs, J 0 (wst0 c km vs))
    (Jm : ∀ bh ba x k y mv, mvs[k]? = some mv → J k y → MayMove (hzT bh ba (capR bh x)) (KOk c.T.toNat) c.T.toNat y mv)
    (Js : ∀ bh ba x k y mv b y', mvs[k]? = some mv → J k y → MoveTo (hzT bh ba (capR bh x)) (kitFn x) kitTask y mv b y' → J (k + 1) y')
    (Jr : ∀ y, J mvs.length y → y.m.calls.length < 4294967296 ∧ y.m.shifts.length < 4294967296 ∧ y.m.mem.words.length < 4294967296 ∧ y.m.mem.log.length < 4294967295 ∧ 0 < y.m.seats.length) :
    Does Tryz.prog 15 #[c.v, v] (sl 86 4 (mvs.map Mv.e) v) (fun u => playR (J mvs.length) u * sl 86 4 (mvs.map Mv.e) v) := by
  intro O w F hs
  have hA := Lib.hid (arena_new c h)
  have hF := Lib.hid (word_first0 c h)
  have hH := Lib.hid (fun ba => hazard_new ba (are0 c) h)
  have hK := Lib.hid (fun bh ba => haz_kit bh ba (haz0 c))
  have hM := machine_new c.T.toNat
  have hT1 := h.T1
  have hT2 := h.T2
  have hTn : ((c.T.toNat : Nat) : Int) = c.T := Int.toNat_of_nonneg (by omega)
  have hbl := base14_le h
  rw [hTn] at hM
  have hM := Lib.hid (fun v km => hM v km (firstW c 0) (by omega) (by omega) (by rw [firstW_len]; omega))
  obtain ⟨a0, c0, rfl⟩ := sl_len hs
  simp only [List.length_map] at hs ⊢
  have n1 : decide ((mvs.length : Int) > 65536) = false := by simp; omega
  have J0 := Lib.hid J0
  have Jm := Lib.hid Jm
  have Js := Lib.hid Js
  have Jr := Lib.hid Jr
  go_enter Tryz.func15, Tryz.ntmps15
  go_wp2_with (first | (first | (first | (with_reducible refine NQ.mk ?_) | ((with_reducible apply pl_neu); rfl; rfl) | ((with_reducible apply pl_eff); rfl) | (with_reducible refine EQ.mk ?_ ?_) | (first | (with_reducible exact chk_nil) | ((with_reducible refine chk_cons ?_ ?_); (focus ((with_reducible apply pl_chk); rfl; rfl)))) | (with_reducible refine pl_end ?_) | (show SameA _ _ _; rfl)) | ((with_reducible apply wl_ld hs); infer_instance; rfl; (focus ((repeat (first | with_reducible exact Pull.here _ _ | with_reducible apply Pull.skip)); done)); rfl; rfl; (simp only [List.set_cons_succ, List.set_cons_zero])) | ((with_reducible apply wl_ldF hs); infer_instance; rfl; (focus ((repeat (first | with_reducible exact Pull.here _ _ | with_reducible apply Pull.skip)); done)); rfl; rfl; (simp only [List.set_cons_succ, List.set_cons_zero])) | ((with_reducible apply wl_alloc hs); infer_instance; rfl; clear hs; intro w b hs; (simp only [List.set_cons_succ, List.set_cons_zero])) | ((with_reducible apply wl_box hs); rfl; rfl; rfl; clear hs; intro w b hs; (simp only [List.set_cons_succ, List.set_cons_zero])) | ((with_reducible apply wl_len hs); infer_instance; rfl; (focus ((repeat (first | with_reducible exact Pull.here _ _ | with_reducible apply Pull.skip)); done)); rfl; (simp only [List.set_cons_succ, List.set_cons_zero]))) | (go_at_call 33; ((refine (hA.out).at hs (by (focus ((repeat (with_reducible exact Pull.none _)); done))) ?_); clear hs; intro v w hs; (try simp only [emp_mul, mul_assoc'] at hs)); (simp only [sat_ex, mul_assoc', sat_pu] at hs); (obtain ⟨ba, rfl, hs⟩ := hs)) | (go_at_call 61; ((refine (hF.out).at hs (by (focus ((repeat (with_reducible exact Pull.none _)); done))) ?_); clear hs; intro v w hs; (try simp only [emp_mul, mul_assoc'] at hs)); (simp only [sat_ex, mul_assoc', sat_pu] at hs); (obtain ⟨vw, rfl, hs⟩ := hs)) | (go_at_call 37; ((refine ((hH.out ba)).at hs (by (focus ((repeat (first | with_reducible exact Pull.here _ _ | with_reducible apply Pull.skip)); done))) ?_); clear hs; intro g w hs; (try simp only [emp_mul, mul_assoc'] at hs))) | (go_at_call 40; ((refine ((hK.out g ba)).at hs (by (focus ((repeat (exact Pull.here _ _)); done))) ?_); clear hs; intro v w hs; (try simp only [emp_mul, mul_assoc'] at hs)); (simp only [sat_ex, mul_assoc'] at hs); (obtain ⟨x, hs⟩ := hs); (obtain ⟨km, rfl⟩ := mp_some hs)) | (go_at_call 38; ((refine ((hM.out vw km)).at hs (by (focus ((repeat (first | with_reducible exact Pull.here _ _ | with_reducible apply Pull.skip)); done))) ?_); clear hs; intro v w hs; (try simp only [emp_mul, mul_assoc'] at hs)); (simp only [sat_ex, mul_assoc', sat_pu] at hs); (obtain ⟨bx, bm, vs, rfl, hs⟩ := hs)) | ((with_reducible refine wp_plan_sat (id := 7) [.neu 0, .neu 1, .neu 2, .neu 3, .eff 4 [0, 1, 2], .eff 5 [0, 1, 2], .eff 6 [], .neu 7, .neu 8, .neu 9, .neu 10, .neu 11] hs rfl ?_ ?_); kernel_rfl; clear hs; intro w hs))
  replace hs := tsk_nones (R := htR g ba) hs c.T.toNat
  have hs2 : Sat O w (WR (hzT g ba (capR g x)) bx bm (kitFn x) (wst0 c km vs) * (pt b (.cells #[.slice none 0 0, .slice none 0 0, .slice none 0 0, .slice none 0 0] 32) * (sl 86 4 (mvs.map Mv.e) (.slice a0 mvs.length c0) * F))) := by
    rw [wr0_eq]
    simp only [mul_assoc']
    ((with_reducible apply Sat.fin hs); (focus ((repeat (first | with_reducible exact Pull.last _ | with_reducible exact Pull.here _ _ | with_reducible apply Pull.both | with_reducible apply Pull.skip)); done)))
  clear hs
  have hs := hs2
  clear hs2
  have hGood := Lib.hid (hzT_good g ba (capR g x))
  have hKO := Lib.hid (hzT_kit g ba c.T.toNat x)
  have hJ0 := J0.out km vs
  simp only [List.length_map]
  go_loopw [12, 47] (fun _ q wr => ∃ (n : Nat) (y : HW), n ≤ mvs.length ∧ q = .int .i64 (n : Int) ∧ J n y ∧ Sat O wr (WR (hzT g ba (capR g x)) bx bm (kitFn x) y * (pt b (.cells #[.slice none 0 0, .slice none 0 0, .slice none 0 0, .slice none 0 0] 32) * (sl 86 4 (mvs.map Mv.e) (.slice a0 mvs.length c0) * F)))) (fun _ q _ => 65537 - (intOf q).toNat)
  case atStart => exact ⟨0, _, by omega, rfl, hJ0, hs⟩
  case round =>
    obtain ⟨n, y, k1, rfl, hJ, hs⟩ := hrel
    by_cases hkr : n = mvs.length
    · subst hkr
      obtain ⟨r1, r2, r3, r4, r5⟩ := Jr.out y hJ
      have hR := Lib.hid (mach_run bx bm y.m r5 r1 r2 r3 r4)
      unfold WR at hs
      simp only [mul_assoc'] at hs
      have hlt : decide ((mvs.length : Int) < (mvs.length : Int)) = false := by simp
      have hJ := Lib.hid hJ
      go_wp2_with (first | ((with_reducible apply wl_stF hs); infer_instance; rfl; rfl; (focus ((repeat (first | with_reducible exact Pull.here _ _ | with_reducible apply Pull.skip)); done)); rfl; rfl; rfl; rfl; clear hs; intro w hs) | (go_at_call 44; ((refine (hR.out).at hs (by (with_reducible exact Pull.here _ _)) ?_); clear hs; intro v w hs; (try simp only [emp_mul, mul_assoc'] at hs)); (unfold RunR at hs); (simp only [sat_ex, mul_assoc', sat_pu] at hs); (obtain ⟨rc, rt, rs, rw_, rfl, hs⟩ := hs); (obtain ⟨_, _, rfl⟩ := sl_len (hs.pull (A := sl 50 9 _ rc) (by (with_reducible exact Pull.here _ _)))); (obtain ⟨_, _, rfl⟩ := sl_len (hs.pull (A := sl 138 7 _ rt) (by (focus ((repeat (first | with_reducible exact Pull.here _ _ | with_reducible apply Pull.skip)); done))))); (obtain ⟨_, _, rfl⟩ := sl_len (hs.pull (A := sl 127 5 _ rs) (by (focus ((repeat (first | with_reducible exact Pull.here _ _ | with_reducible apply Pull.skip)); done))))); (obtain ⟨_, _, rfl⟩ := sl_len (hs.pull (A := sl 57 1 _ rw_) (by (focus ((repeat (first | with_reducible exact Pull.here _ _ | with_reducible apply Pull.skip)); done))))); (simp only [List.length_map] at hs ⊢)))
      ((try simp only [Exit.inBlock, Exit.then]); (with_reducible apply bodyPost_ret); ((with_reducible apply results_ct); rfl; rfl; (with_reducible apply loadF hs); infer_instance; (with_reducible exact Pull.here _ _); rfl; rfl))
      refine ⟨_, rfl, ?_⟩
      unfold playR RunR
      simp only [sat_ex, mul_assoc', sat_pu]
      refine ⟨y, _, ⟨hJ.out, rfl⟩, _, _, _, _, rfl, ?_⟩
      ((with_reducible apply Sat.fin hs); (focus ((repeat (first | with_reducible exact Pull.last _ | with_reducible exact Pull.here _ _ | with_reducible apply Pull.both | with_reducible apply Pull.skip)); done)))
    · have hlt : decide ((n : Int) < (mvs.length : Int)) = true := by simp; omega
      have hlt2 : decide (n < mvs.length) = true := by simp; omega
      have hln : n < (mvs.map Mv.e).length := by simp; omega
      obtain ⟨mv, hmv⟩ : ∃ mv, mvs[n]? = some mv := ⟨_, List.getElem?_eq_getElem (by omega)⟩
      have hgv : (mvs.map Mv.e)[n]? = some (Mv.e mv) := by simp [hmv]
      have hD := Lib.hid (move_any (bx := bx) (bm := bm) hGood.out hKO.out y mv (Jm.out g ba x n y mv hmv hJ))
      have hJ := Lib.hid hJ
      go_wp2_with (first | (first | ((with_reducible apply wl_ldF hs); infer_instance; rfl; (with_reducible exact Pull.here _ _); rfl; rfl; (simp only [List.set_cons_succ, List.set_cons_zero])) | ((with_reducible apply wl_stF hs); infer_instance; rfl; rfl; (with_reducible exact Pull.here _ _); rfl; rfl; rfl; rfl; clear hs; intro w hs) | ((with_reducible apply wl_alloc hs); infer_instance; rfl; clear hs; intro w b hs; (simp only [List.set_cons_succ, List.set_cons_zero])) | ((with_reducible apply wl_ldSN (k := 0) hs); infer_instance; rfl; assumption; (focus ((repeat (first | with_reducible exact Pull.here _ _ | with_reducible apply Pull.skip)); done)); (exact (Nat.add_zero _).symm); (assumption); (exact Nat.le_of_ble_eq_true rfl); rfl; rfl; (simp only [List.set_cons_succ, List.set_cons_zero])) | ((with_reducible apply wl_ia hs); infer_instance; infer_instance; rfl; rfl; (focus ((repeat (first | with_reducible exact Pull.here _ _ | with_reducible apply Pull.skip)); done)); (rfl); (assumption); rfl; intro b off hat; (simp only [List.set_cons_succ, List.set_cons_zero]))) | (go_at_call 41; ((refine (hD.out).at hs (by (focus ((repeat (first | with_reducible exact Pull.here _ _ | with_reducible apply Pull.skip)); done))) ?_); clear hs; intro v w hs; (try simp only [emp_mul, mul_assoc'] at hs)); (replace hs := moved_iff.1 hs); (obtain ⟨bb, y', ⟨rfl, hmt⟩, hs⟩ := hs)))
      go_roundw
      case rel => exact ⟨n + 1, y', by omega, by simp, Js.out g ba x n y mv bb y' hmv hJ.out hmt, by ((with_reducible apply Sat.fin hs); (focus ((repeat (first | with_reducible exact Pull.last _ | with_reducible exact Pull.here _ _ | with_reducible apply Pull.both | with_reducible apply Pull.skip)); done)))⟩
      case measure => simp [intOf]; omega
end Go.Proofs.YtegafhhdegnigaaGreat
