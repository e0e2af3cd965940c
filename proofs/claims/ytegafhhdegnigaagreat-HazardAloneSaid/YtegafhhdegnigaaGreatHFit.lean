/-
  The examples end as the document tells: the walk.
-/
import Derived.Test.YtegafhhdegnigaaGreatHAwk2
set_option linter.all false
section
namespace Go.Proofs.YtegafhhdegnigaaGreat
open Go.RowKit Hp
set_option maxRecDepth 100000
set_option maxHeartbeats 1000000
attribute [local irreducible] Go.Calls

theorem smallOk : smallC.Ok := by constructor <;> decide

theorem aw_facts {y : HW} (h : awOk y = true) : y.m.calls.length = 5 ∧ y.m.shifts.length = 6 ∧ y.m.mem.log.length = 28 ∧
    (∃ a1 a2 a3 a4 a5 a6 a7, y.m.calls[3]? = some ⟨a1, a2, a3, a4, a5, a6, a7, 2, 5⟩) ∧ (∃ b1 b2 b3 b4 b5 b7 b8 b9, y.m.calls[4]? = some ⟨b1, b2, b3, b4, b5, 32, b7, b8, b9⟩) ∧
    ∃ d1 d2 d4, y.m.shifts[5]? = some ⟨d1, d2, 0, d4, 5⟩ := by
  unfold awOk at h
  simp only [Bool.and_eq_true, decide_eq_true_eq] at h
  obtain ⟨⟨⟨⟨⟨h1, h2⟩, h3⟩, h4⟩, h5⟩, h6⟩ := h
  refine ⟨h1, h2, h3, ?_, ?_, ?_⟩
  · split at h4
    · rename_i c hc
      obtain ⟨a1, a2, a3, a4, a5, a6, a7, a8, a9⟩ := c
      simp only [Bool.and_eq_true, decide_eq_true_eq] at h4
      obtain ⟨rfl, rfl⟩ := h4
      exact ⟨_, _, _, _, _, _, _, hc⟩
    · cases h4
  · split at h5
    · rename_i c hc
      obtain ⟨a1, a2, a3, a4, a5, a6, a7, a8, a9⟩ := c
      simp only [decide_eq_true_eq] at h5
      subst h5
      exact ⟨_, _, _, _, _, _, _, _, hc⟩
    · cases h5
  · split at h6
    · rename_i c hc
      obtain ⟨a1, a2, a3, a4, a5⟩ := c
      simp only [Bool.and_eq_true, decide_eq_true_eq] at h6
      obtain ⟨rfl, rfl⟩ := h6
      exact ⟨_, _, _, hc⟩
    · cases h6

abbrev aw1 : List Mv := [⟨0, 20, 0, 0⟩]
abbrev aw2 : List Mv := (aw1 ++ stepsM 0 2) ++ [⟨0, 22, 5, 0⟩]
abbrev aw3 : List Mv := (aw2 ++ stepsM 0 6) ++ [⟨1, 20, 0, 0⟩]
abbrev aw4 : List Mv := (aw3 ++ stepsM 1 3) ++ [⟨1, 23, 0, 0⟩]
abbrev aw5 : List Mv := (aw4 ++ stepsM 1 4) ++ [⟨0, 22, 6, 0⟩]
theorem aw_all : awM = aw5 ++ stepsM 0 13 := rfl

set_option maxHeartbeats 4000000 in
theorem law_awake : Gives Tryz.prog 19 #[] emp (.bool true) emp := by
  intro O w F hs
  have hS := Lib.hid law_small
  have h1 := Lib.hid (fun v => law_steps v aw1 0 2 (by omega) (by decide))
  have h2 := Lib.hid (fun v => law_steps v aw2 0 6 (by omega) (by decide))
  have h3 := Lib.hid (fun v => law_steps v aw3 1 3 (by omega) (by decide))
  have h4 := Lib.hid (fun v => law_steps v aw4 1 4 (by omega) (by decide))
  have h5 := Lib.hid (fun v => law_steps v aw5 0 13 (by omega) (by decide))
  have hP := Lib.hid (fun v => haz_play_run smallC smallOk v (aw5 ++ stepsM 0 13) (by decide))
  obtain ⟨l1, l2, l3, ⟨a1, a2, a3, a4, a5, a6, a7, g3⟩, ⟨b1, b2, b3, b4, b5, b7, b8, b9, g4⟩, d1, d2, d4, g5⟩ := aw_facts (show awOk (runE smallC (aw5 ++ stepsM 0 13)) = true from aw_ok)
  generalize hyy : runE smallC (aw5 ++ stepsM 0 13) = y at l1 l2 l3 g3 g4 g5
  have hyy := Lib.hid hyy
  have lM : (List.map Mv.e (aw5 ++ stepsM 0 13)).length = 33 := rfl
  have i3 : 3 < (y.m.calls.map Cll.e).length := by simp [l1]
  have i4 : 4 < (y.m.calls.map Cll.e).length := by simp [l1]
  have i5 : 5 < (y.m.shifts.map Shf.e).length := by simp [l2]
  go_enter Tryz.func19, Tryz.ntmps19
  go_wp2_with (first | (first | ((with_reducible apply wl_ld hs); infer_instance; rfl; (focus ((repeat (first | with_reducible exact Pull.here _ _ | with_reducible apply Pull.skip)); done)); rfl; rfl; (simp only [List.set_cons_succ, List.set_cons_zero])) | ((with_reducible apply wl_stF hs); infer_instance; rfl; rfl; (with_reducible exact Pull.here _ _); rfl; rfl; rfl; rfl; clear hs; intro w hs) | ((with_reducible apply wl_alloc hs); infer_instance; rfl; clear hs; intro w b hs; (simp only [List.set_cons_succ, List.set_cons_zero])) | ((with_reducible apply wl_ia2 hs); infer_instance; infer_instance; rfl; assumption; rfl; (focus ((repeat (first | with_reducible exact Pull.here _ _ | with_reducible apply Pull.skip)); done)); (rfl); (assumption); rfl; (simp only [List.set_cons_succ, List.set_cons_zero])) | ((with_reducible apply wl_ia hs); infer_instance; infer_instance; rfl; rfl; (focus ((repeat (first | with_reducible exact Pull.here _ _ | with_reducible apply Pull.skip)); done)); (rfl); (assumption); rfl; intro b off hat; (simp only [List.set_cons_succ, List.set_cons_zero])) | ((with_reducible apply wl_len hs); infer_instance; rfl; (focus ((repeat (first | with_reducible exact Pull.here _ _ | with_reducible apply Pull.skip)); done)); rfl; (simp only [List.set_cons_succ, List.set_cons_zero])) | ((with_reducible apply wl_bs hs); infer_instance; infer_instance; rfl; rfl; rfl; rfl; (exact Nat.le_of_ble_eq_true rfl); rfl; clear hs; intro w v hs; (simp only [List.set_cons_succ, List.set_cons_zero])) | ((with_reducible apply wl_app hs); infer_instance; infer_instance; rfl; rfl; (focus ((repeat (first | with_reducible exact Pull.here _ _ | with_reducible apply Pull.skip)); done)); (with_reducible exact Pull.here _ _); (simp only [List.length_map, List.length_set, List.length_append, List.length_cons, List.length_nil, List.length_replicate] at *; omega); (exact Nat.le_of_ble_eq_true rfl); rfl; clear hs; intro w v hs; (simp only [List.set_cons_succ, List.set_cons_zero]))) | ((with_reducible apply wl_ldN hs); infer_instance; rfl; (focus ((repeat (first | with_reducible exact Pull.here _ _ | with_reducible apply Pull.skip)); done)); (simp only [List.size_toArray, List.length_cons, List.length_nil]; omega); rfl; rfl; (simp only [List.set_cons_succ, List.set_cons_zero])) | ((with_reducible apply wl_ldSN (i := 3) (k := 0) (c' := [.int .i64 a1, .int .i64 a2, .int .i64 a3, .int .i64 a4, .int .i64 a5, .int .i64 a6, .int .i64 a7, .int .i64 2, .int .i64 5]) hs); infer_instance; rfl; assumption; (focus ((repeat (first | with_reducible exact Pull.here _ _ | with_reducible apply Pull.skip)); done)); rfl; (exact map_get (by assumption)); (exact Nat.le_of_ble_eq_true rfl); rfl; rfl; (simp only [List.set_cons_succ, List.set_cons_zero])) | ((with_reducible apply wl_ldS (i := 4) (k := 5) hs); infer_instance; rfl; assumption; (focus ((repeat (first | with_reducible exact Pull.here _ _ | with_reducible apply Pull.skip)); done)); rfl; (exact map_get (by assumption)); rfl; rfl; (simp only [List.set_cons_succ, List.set_cons_zero])) | ((with_reducible apply wl_ldS (i := 5) (k := 4) hs); infer_instance; rfl; assumption; (focus ((repeat (first | with_reducible exact Pull.here _ _ | with_reducible apply Pull.skip)); done)); rfl; (exact map_get (by assumption)); rfl; rfl; (simp only [List.set_cons_succ, List.set_cons_zero])) | ((with_reducible apply wl_ldS (i := 5) (k := 2) hs); infer_instance; rfl; assumption; (focus ((repeat (first | with_reducible exact Pull.here _ _ | with_reducible apply Pull.skip)); done)); rfl; (exact map_get (by assumption)); rfl; rfl; (simp only [List.set_cons_succ, List.set_cons_zero])) | (go_at_call 68; ((refine (hS.out).at hs (by (focus ((repeat (with_reducible exact Pull.none _)); done))) ?_); clear hs; intro w hs; (try simp only [emp_mul, mul_assoc'] at hs))) | (go_at_call 32; ((refine ((h1.out _)).at hs (by (focus ((repeat (first | exact Pull.here _ _ | with_reducible apply Pull.skip)); done))) ?_); clear hs; intro v w hs; (try simp only [emp_mul, mul_assoc'] at hs))) | (go_at_call 32; ((refine ((h2.out _)).at hs (by (focus ((repeat (first | exact Pull.here _ _ | with_reducible apply Pull.skip)); done))) ?_); clear hs; intro v w hs; (try simp only [emp_mul, mul_assoc'] at hs))) | (go_at_call 32; ((refine ((h3.out _)).at hs (by (focus ((repeat (first | exact Pull.here _ _ | with_reducible apply Pull.skip)); done))) ?_); clear hs; intro v w hs; (try simp only [emp_mul, mul_assoc'] at hs))) | (go_at_call 32; ((refine ((h4.out _)).at hs (by (focus ((repeat (first | exact Pull.here _ _ | with_reducible apply Pull.skip)); done))) ?_); clear hs; intro v w hs; (try simp only [emp_mul, mul_assoc'] at hs))) | (go_at_call 32; ((refine ((h5.out _)).at hs (by (focus ((repeat (exact Pull.here _ _)); done))) ?_); clear hs; intro v w hs; (try simp only [emp_mul, mul_assoc'] at hs))) | (go_at_call 15; ((refine ((hP.out _)).at hs (by (with_reducible exact Pull.here _ _)) ?_); clear hs; intro v w hs; (try simp only [emp_mul, mul_assoc'] at hs)); (unfold RunE RunR at hs); (simp only [sat_ex, mul_assoc', sat_pu, hyy.out] at hs); (obtain ⟨vr, rfl, vc, vt, vs, vw, rfl, hs⟩ := hs); (obtain ⟨_, _, rfl⟩ := sl_len (hs.pull (A := sl 50 9 _ vc) (by (with_reducible exact Pull.here _ _)))); (obtain ⟨_, _, rfl⟩ := sl_len (hs.pull (A := sl 138 7 _ vt) (by (focus ((repeat (first | with_reducible exact Pull.here _ _ | with_reducible apply Pull.skip)); done))))); (obtain ⟨_, _, rfl⟩ := sl_len (hs.pull (A := sl 127 5 _ vs) (by (focus ((repeat (first | with_reducible exact Pull.here _ _ | with_reducible apply Pull.skip)); done))))); (obtain ⟨_, _, rfl⟩ := sl_len (hs.pull (A := sl 57 1 _ vw) (by (focus ((repeat (first | with_reducible exact Pull.here _ _ | with_reducible apply Pull.skip)); done))))); (obtain ⟨_, _, rfl⟩ := sl_len (hs.pull (A := sl 86 4 _ v) (by (focus ((repeat (first | with_reducible exact Pull.here _ _ | with_reducible apply Pull.skip)); done))))); (simp only [List.length_map, l1, l2, l3, lM] at hs ⊢)))
  (go_ret)
  exact ⟨rfl, by ((with_reducible apply Sat.fin hs); (focus ((repeat (first | with_reducible exact Pull.last _ | with_reducible exact Pull.none _ | with_reducible apply Pull.both | with_reducible apply Pull.skip)); done)))⟩
end Go.Proofs.YtegafhhdegnigaaGreat
end
/-
  What a script is brought within.
-/
section
namespace Go.Proofs.YtegafhhdegnigaaGreat
open Go.RowKit Hp
set_option maxRecDepth 100000
set_option maxHeartbeats 1000000
attribute [local irreducible] Go.Calls

open Classical in
/-- a configuration that may be -/
noncomputable def fitC (c : Cfg) : Cfg := if c.Ok then c else smallC
theorem fitC_ok (c : Cfg) : (fitC c).Ok := by
  unfold fitC
  split
  · assumption
  · exact smallOk
theorem fitM_len (mvs : List Mv) : (mvs.take 65536).length ≤ 65536 := by simp; omega

/-- what fit answers -/
def fitR (c : Cfg) (mvs : List Mv) (A : SProp) (u : Value) : SProp := ex fun v => pu (u = .tuple #[(fitC c).v, v] ∧ Rd A 4 ((mvs.take 65536).map Mv.e) v) * A

theorem law_fit (c : Cfg) (mvs : List Mv) (v : Value) (A : SProp) (hRd : Rd A 4 (mvs.map Mv.e) v) :
    Does Tryz.prog 30 #[c.v, v] A (fitR c mvs A) := by
  intro O w F hs
  have hS := Lib.hid law_small
  obtain ⟨a0, c0, rfl⟩ := hRd.len
  have hRd' := hRd
  simp only [List.length_map] at hRd hs ⊢
  by_cases hl : 65536 < mvs.length
  · have hR2 : Rd A 4 ((mvs.take 65536).map Mv.e) (.slice a0 65536 c0) := by
      rw [List.map_take]
      have := hRd'.resH (i := 65536) (by simp; omega)
      exact this
    have n1 : decide ((mvs.length : Int) > 65536) = true := by simp; omega
    have n2 : 65536 ≤ (mvs.map Mv.e).length := by simp; omega
    have hRd := Lib.hid hRd
    clear hRd'
    by_cases hok : c.Ok
    · have hC := Lib.hid (ref_conf c hok)
      have e : fitC c = c := by unfold fitC; rw [if_pos hok]
      unfold fitR
      rw [e]
      go_enter Tryz.func30, Tryz.ntmps30
      go_wp2_with (first | (first | ((with_reducible apply wl_ldF hs); infer_instance; rfl; (focus ((repeat (first | with_reducible exact Pull.here _ _ | with_reducible apply Pull.skip)); done)); rfl; rfl; (simp only [List.set_cons_succ, List.set_cons_zero])) | ((with_reducible apply wl_stF hs); infer_instance; rfl; rfl; (with_reducible exact Pull.here _ _); rfl; rfl; rfl; rfl; clear hs; intro w hs) | ((with_reducible apply wl_alloc hs); infer_instance; rfl; clear hs; intro w b hs; (simp only [List.set_cons_succ, List.set_cons_zero])) | ((with_reducible apply wl_box hs); rfl; rfl; rfl; clear hs; intro w b hs; (simp only [List.set_cons_succ, List.set_cons_zero]))) | (go_at_call 87; ((refine (hC.out).at hs (by (focus ((repeat (with_reducible exact Pull.none _)); done))) ?_); clear hs; intro w hs; (try simp only [emp_mul, mul_assoc'] at hs))) | ((with_reducible apply rd_reH (i := 65536) hRd.out); infer_instance; infer_instance; rfl; rfl; rfl; assumption; rfl; (simp only [List.set_cons_succ, List.set_cons_zero])))
      ((try simp only [Exit.inBlock, Exit.then]); (with_reducible apply bodyPost_ret); ((with_reducible apply results_ct); rfl; rfl; (with_reducible apply loadF hs); infer_instance; (with_reducible exact Pull.here _ _); rfl; rfl))
      refine ⟨_, rfl, ?_⟩
      simp only [sat_ex, mul_assoc', sat_pu]
      exact ⟨_, ⟨rfl, hR2⟩, by ((with_reducible apply Sat.fin hs); (focus ((repeat (first | with_reducible exact Pull.last _ | with_reducible exact Pull.here _ _ | with_reducible apply Pull.both | with_reducible apply Pull.skip)); done)))⟩
    · have hC := Lib.hid (ref_conf_no c hok)
      have e : fitC c = smallC := by unfold fitC; rw [if_neg hok]
      unfold fitR
      rw [e]
      go_enter Tryz.func30, Tryz.ntmps30
      go_wp2_with (first | (first | ((with_reducible apply wl_ldF hs); infer_instance; rfl; (focus ((repeat (first | with_reducible exact Pull.here _ _ | with_reducible apply Pull.skip)); done)); rfl; rfl; (simp only [List.set_cons_succ, List.set_cons_zero])) | ((with_reducible apply wl_stF hs); infer_instance; rfl; rfl; (focus ((repeat (first | with_reducible exact Pull.here _ _ | with_reducible apply Pull.skip)); done)); rfl; rfl; rfl; rfl; clear hs; intro w hs) | ((with_reducible apply wl_alloc hs); infer_instance; rfl; clear hs; intro w b hs; (simp only [List.set_cons_succ, List.set_cons_zero])) | ((with_reducible apply wl_box hs); rfl; rfl; rfl; clear hs; intro w b hs; (simp only [List.set_cons_succ, List.set_cons_zero]))) | (go_at_call 68; ((refine (hS.out).at hs (by (focus ((repeat (with_reducible exact Pull.none _)); done))) ?_); clear hs; intro w hs; (try simp only [emp_mul, mul_assoc'] at hs))) | (go_at_call 87; ((refine (hC.out).at hs (by (focus ((repeat (with_reducible exact Pull.none _)); done))) ?_); clear hs; intro w hs; (try simp only [emp_mul, mul_assoc'] at hs))) | ((with_reducible apply rd_reH (i := 65536) hRd.out); infer_instance; infer_instance; rfl; rfl; rfl; assumption; rfl; (simp only [List.set_cons_succ, List.set_cons_zero])))
      ((try simp only [Exit.inBlock, Exit.then]); (with_reducible apply bodyPost_ret); ((with_reducible apply results_ct); rfl; rfl; (with_reducible apply loadF hs); infer_instance; (with_reducible exact Pull.here _ _); rfl; rfl))
      refine ⟨_, rfl, ?_⟩
      simp only [sat_ex, mul_assoc', sat_pu]
      exact ⟨_, ⟨rfl, hR2⟩, by ((with_reducible apply Sat.fin hs); (focus ((repeat (first | with_reducible exact Pull.last _ | with_reducible exact Pull.here _ _ | with_reducible apply Pull.both | with_reducible apply Pull.skip)); done)))⟩
  · have hR2 : Rd A 4 ((mvs.take 65536).map Mv.e) (.slice a0 mvs.length c0) := by
      rw [List.take_of_length_le (by omega)]
      exact hRd
    have n1 : decide ((mvs.length : Int) > 65536) = false := by simp; omega
    have hRd := Lib.hid hRd
    clear hRd'
    by_cases hok : c.Ok
    · have hC := Lib.hid (ref_conf c hok)
      have e : fitC c = c := by unfold fitC; rw [if_pos hok]
      unfold fitR
      rw [e]
      go_enter Tryz.func30, Tryz.ntmps30
      go_wp2_with (first | (first | ((with_reducible apply wl_ldF hs); infer_instance; rfl; (focus ((repeat (first | with_reducible exact Pull.here _ _ | with_reducible apply Pull.skip)); done)); rfl; rfl; (simp only [List.set_cons_succ, List.set_cons_zero])) | ((with_reducible apply wl_stF hs); infer_instance; rfl; rfl; (with_reducible exact Pull.here _ _); rfl; rfl; rfl; rfl; clear hs; intro w hs) | ((with_reducible apply wl_alloc hs); infer_instance; rfl; clear hs; intro w b hs; (simp only [List.set_cons_succ, List.set_cons_zero])) | ((with_reducible apply wl_box hs); rfl; rfl; rfl; clear hs; intro w b hs; (simp only [List.set_cons_succ, List.set_cons_zero]))) | (go_at_call 87; ((refine (hC.out).at hs (by (focus ((repeat (with_reducible exact Pull.none _)); done))) ?_); clear hs; intro w hs; (try simp only [emp_mul, mul_assoc'] at hs))))
      ((try simp only [Exit.inBlock, Exit.then]); (with_reducible apply bodyPost_ret); ((with_reducible apply results_ct); rfl; rfl; (with_reducible apply loadF hs); infer_instance; (with_reducible exact Pull.here _ _); rfl; rfl))
      refine ⟨_, rfl, ?_⟩
      simp only [sat_ex, mul_assoc', sat_pu]
      exact ⟨_, ⟨rfl, hR2⟩, by ((with_reducible apply Sat.fin hs); (focus ((repeat (first | with_reducible exact Pull.last _ | with_reducible exact Pull.here _ _ | with_reducible apply Pull.both | with_reducible apply Pull.skip)); done)))⟩
    · have hC := Lib.hid (ref_conf_no c hok)
      have e : fitC c = smallC := by unfold fitC; rw [if_neg hok]
      unfold fitR
      rw [e]
      go_enter Tryz.func30, Tryz.ntmps30
      go_wp2_with (first | (first | ((with_reducible apply wl_ldF hs); infer_instance; rfl; (focus ((repeat (first | with_reducible exact Pull.here _ _ | with_reducible apply Pull.skip)); done)); rfl; rfl; (simp only [List.set_cons_succ, List.set_cons_zero])) | ((with_reducible apply wl_stF hs); infer_instance; rfl; rfl; (focus ((repeat (first | with_reducible exact Pull.here _ _ | with_reducible apply Pull.skip)); done)); rfl; rfl; rfl; rfl; clear hs; intro w hs) | ((with_reducible apply wl_alloc hs); infer_instance; rfl; clear hs; intro w b hs; (simp only [List.set_cons_succ, List.set_cons_zero])) | ((with_reducible apply wl_box hs); rfl; rfl; rfl; clear hs; intro w b hs; (simp only [List.set_cons_succ, List.set_cons_zero]))) | (go_at_call 68; ((refine (hS.out).at hs (by (focus ((repeat (with_reducible exact Pull.none _)); done))) ?_); clear hs; intro w hs; (try simp only [emp_mul, mul_assoc'] at hs))) | (go_at_call 87; ((refine (hC.out).at hs (by (focus ((repeat (with_reducible exact Pull.none _)); done))) ?_); clear hs; intro w hs; (try simp only [emp_mul, mul_assoc'] at hs))))
      ((try simp only [Exit.inBlock, Exit.then]); (with_reducible apply bodyPost_ret); ((with_reducible apply results_ct); rfl; rfl; (with_reducible apply loadF hs); infer_instance; (with_reducible exact Pull.here _ _); rfl; rfl))
      refine ⟨_, rfl, ?_⟩
      simp only [sat_ex, mul_assoc', sat_pu]
      exact ⟨_, ⟨rfl, hR2⟩, by ((with_reducible apply Sat.fin hs); (focus ((repeat (first | with_reducible exact Pull.last _ | with_reducible exact Pull.here _ _ | with_reducible apply Pull.both | with_reducible apply Pull.skip)); done)))⟩
end Go.Proofs.YtegafhhdegnigaaGreat
end
