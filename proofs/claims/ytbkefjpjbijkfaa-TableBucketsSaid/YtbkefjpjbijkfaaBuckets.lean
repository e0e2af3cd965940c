import Derived.Test.YtbkefjpjbijkfaaWord0
import Derived.BigQuiet
namespace Go.Proofs.Ytbkefjpjbijkfaa
open Go.RowKit Hp

set_option maxHeartbeats 1000000 in
set_option maxRecDepth 100000 in
theorem config_yes (T R Hz Rt Ca Sl Bu : Int) (h : CfgOk T R Hz Rt Ca Sl Bu) :
    Gives Try.prog 5 #[.agg (cfgV T R Hz Rt Ca Sl Bu)] emp (.bool true) emp := by
  intro O w F hs
  obtain ⟨⟨a1, a2⟩, ⟨b1, b2⟩, ⟨c1, c2⟩, ⟨d1, d2⟩, ⟨e1, e2⟩, ⟨f1, f2⟩, ⟨g1, g2⟩⟩ := h
  go_enter Try.func5, Try.ntmps5
  simp only [List.append]
  go_wp2_with (first | ((with_reducible apply wl_ld hs); infer_instance; rfl; (repeat (first | exact Pull.here _ _ | exact Pull.last _ | refine Pull.skip _ ?_)); rfl; rfl; simp only [List.set_cons_succ, List.set_cons_zero]) | ((with_reducible apply wl_ldF hs); infer_instance; rfl; (repeat (first | exact Pull.here _ _ | exact Pull.last _ | refine Pull.skip _ ?_)); rfl; rfl; simp only [List.set_cons_succ, List.set_cons_zero]) | ((with_reducible apply wl_st hs); infer_instance; rfl; rfl; (repeat (first | exact Pull.here _ _ | exact Pull.last _ | refine Pull.skip _ ?_)); rfl; (first | exact Nat.le_of_ble_eq_true rfl | (simp only [List.size_toArray, List.length_cons, List.length_nil]; omega)); rfl; clear hs; intro w hs; simp only [List.setIfInBounds_toArray, List.set_cons_succ, List.set_cons_zero] at hs) | ((with_reducible apply wl_stF hs); infer_instance; rfl; rfl; (repeat (first | exact Pull.here _ _ | exact Pull.last _ | refine Pull.skip _ ?_)); rfl; rfl; rfl; rfl; clear hs; intro w hs) | ((with_reducible apply wl_alloc hs); infer_instance; rfl; clear hs; intro w b hs; simp only [List.set_cons_succ, List.set_cons_zero]) | ((with_reducible apply wl_box hs); rfl; rfl; rfl; clear hs; intro w b hs; simp only [List.set_cons_succ, List.set_cons_zero]))
  go_ret
  exact ⟨rfl, hs.right⟩

set_option maxHeartbeats 4000000 in
set_option maxRecDepth 100000 in
theorem config_no (T R Hz Rt Ca Sl Bu : Int) (h : ¬ CfgOk T R Hz Rt Ca Sl Bu) :
    Gives Try.prog 5 #[.agg (cfgV T R Hz Rt Ca Sl Bu)] emp (.bool false) emp := by
  intro O w F hs
  by_cases g0 : 1 ≤ T
  case neg =>
    clear h
    have hd : decide (1 ≤ T) = false := by simpa using g0
    clear g0
    go_enter Try.func5, Try.ntmps5
    simp only [List.append]
    go_wp2_with (first | ((with_reducible apply wl_ld hs); infer_instance; rfl; (repeat (first | exact Pull.here _ _ | exact Pull.last _ | refine Pull.skip _ ?_)); rfl; rfl; simp only [List.set_cons_succ, List.set_cons_zero]) | ((with_reducible apply wl_ldF hs); infer_instance; rfl; (repeat (first | exact Pull.here _ _ | exact Pull.last _ | refine Pull.skip _ ?_)); rfl; rfl; simp only [List.set_cons_succ, List.set_cons_zero]) | ((with_reducible apply wl_st hs); infer_instance; rfl; rfl; (repeat (first | exact Pull.here _ _ | exact Pull.last _ | refine Pull.skip _ ?_)); rfl; (first | exact Nat.le_of_ble_eq_true rfl | (simp only [List.size_toArray, List.length_cons, List.length_nil]; omega)); rfl; clear hs; intro w hs; simp only [List.setIfInBounds_toArray, List.set_cons_succ, List.set_cons_zero] at hs) | ((with_reducible apply wl_stF hs); infer_instance; rfl; rfl; (repeat (first | exact Pull.here _ _ | exact Pull.last _ | refine Pull.skip _ ?_)); rfl; rfl; rfl; rfl; clear hs; intro w hs) | ((with_reducible apply wl_alloc hs); infer_instance; rfl; clear hs; intro w b hs; simp only [List.set_cons_succ, List.set_cons_zero]) | ((with_reducible apply wl_box hs); rfl; rfl; rfl; clear hs; intro w b hs; simp only [List.set_cons_succ, List.set_cons_zero]))
    go_ret
    exact ⟨rfl, hs.right⟩
  by_cases g1 : T ≤ 16
  case neg =>
    clear h
    have hd : decide (T ≤ 16) = false := by simpa using g1
    clear g1
    go_enter Try.func5, Try.ntmps5
    simp only [List.append]
    go_wp2_with (first | ((with_reducible apply wl_ld hs); infer_instance; rfl; (repeat (first | exact Pull.here _ _ | exact Pull.last _ | refine Pull.skip _ ?_)); rfl; rfl; simp only [List.set_cons_succ, List.set_cons_zero]) | ((with_reducible apply wl_ldF hs); infer_instance; rfl; (repeat (first | exact Pull.here _ _ | exact Pull.last _ | refine Pull.skip _ ?_)); rfl; rfl; simp only [List.set_cons_succ, List.set_cons_zero]) | ((with_reducible apply wl_st hs); infer_instance; rfl; rfl; (repeat (first | exact Pull.here _ _ | exact Pull.last _ | refine Pull.skip _ ?_)); rfl; (first | exact Nat.le_of_ble_eq_true rfl | (simp only [List.size_toArray, List.length_cons, List.length_nil]; omega)); rfl; clear hs; intro w hs; simp only [List.setIfInBounds_toArray, List.set_cons_succ, List.set_cons_zero] at hs) | ((with_reducible apply wl_stF hs); infer_instance; rfl; rfl; (repeat (first | exact Pull.here _ _ | exact Pull.last _ | refine Pull.skip _ ?_)); rfl; rfl; rfl; rfl; clear hs; intro w hs) | ((with_reducible apply wl_alloc hs); infer_instance; rfl; clear hs; intro w b hs; simp only [List.set_cons_succ, List.set_cons_zero]) | ((with_reducible apply wl_box hs); rfl; rfl; rfl; clear hs; intro w b hs; simp only [List.set_cons_succ, List.set_cons_zero]))
    go_ret
    exact ⟨rfl, hs.right⟩
  by_cases g2 : 1 ≤ R
  case neg =>
    clear h
    have hd : decide (1 ≤ R) = false := by simpa using g2
    clear g2
    go_enter Try.func5, Try.ntmps5
    simp only [List.append]
    go_wp2_with (first | ((with_reducible apply wl_ld hs); infer_instance; rfl; (repeat (first | exact Pull.here _ _ | exact Pull.last _ | refine Pull.skip _ ?_)); rfl; rfl; simp only [List.set_cons_succ, List.set_cons_zero]) | ((with_reducible apply wl_ldF hs); infer_instance; rfl; (repeat (first | exact Pull.here _ _ | exact Pull.last _ | refine Pull.skip _ ?_)); rfl; rfl; simp only [List.set_cons_succ, List.set_cons_zero]) | ((with_reducible apply wl_st hs); infer_instance; rfl; rfl; (repeat (first | exact Pull.here _ _ | exact Pull.last _ | refine Pull.skip _ ?_)); rfl; (first | exact Nat.le_of_ble_eq_true rfl | (simp only [List.size_toArray, List.length_cons, List.length_nil]; omega)); rfl; clear hs; intro w hs; simp only [List.setIfInBounds_toArray, List.set_cons_succ, List.set_cons_zero] at hs) | ((with_reducible apply wl_stF hs); infer_instance; rfl; rfl; (repeat (first | exact Pull.here _ _ | exact Pull.last _ | refine Pull.skip _ ?_)); rfl; rfl; rfl; rfl; clear hs; intro w hs) | ((with_reducible apply wl_alloc hs); infer_instance; rfl; clear hs; intro w b hs; simp only [List.set_cons_succ, List.set_cons_zero]) | ((with_reducible apply wl_box hs); rfl; rfl; rfl; clear hs; intro w b hs; simp only [List.set_cons_succ, List.set_cons_zero]))
    go_ret
    exact ⟨rfl, hs.right⟩
  by_cases g3 : R ≤ 16
  case neg =>
    clear h
    have hd : decide (R ≤ 16) = false := by simpa using g3
    clear g3
    go_enter Try.func5, Try.ntmps5
    simp only [List.append]
    go_wp2_with (first | ((with_reducible apply wl_ld hs); infer_instance; rfl; (repeat (first | exact Pull.here _ _ | exact Pull.last _ | refine Pull.skip _ ?_)); rfl; rfl; simp only [List.set_cons_succ, List.set_cons_zero]) | ((with_reducible apply wl_ldF hs); infer_instance; rfl; (repeat (first | exact Pull.here _ _ | exact Pull.last _ | refine Pull.skip _ ?_)); rfl; rfl; simp only [List.set_cons_succ, List.set_cons_zero]) | ((with_reducible apply wl_st hs); infer_instance; rfl; rfl; (repeat (first | exact Pull.here _ _ | exact Pull.last _ | refine Pull.skip _ ?_)); rfl; (first | exact Nat.le_of_ble_eq_true rfl | (simp only [List.size_toArray, List.length_cons, List.length_nil]; omega)); rfl; clear hs; intro w hs; simp only [List.setIfInBounds_toArray, List.set_cons_succ, List.set_cons_zero] at hs) | ((with_reducible apply wl_stF hs); infer_instance; rfl; rfl; (repeat (first | exact Pull.here _ _ | exact Pull.last _ | refine Pull.skip _ ?_)); rfl; rfl; rfl; rfl; clear hs; intro w hs) | ((with_reducible apply wl_alloc hs); infer_instance; rfl; clear hs; intro w b hs; simp only [List.set_cons_succ, List.set_cons_zero]) | ((with_reducible apply wl_box hs); rfl; rfl; rfl; clear hs; intro w b hs; simp only [List.set_cons_succ, List.set_cons_zero]))
    go_ret
    exact ⟨rfl, hs.right⟩
  by_cases g4 : 3 ≤ Hz
  case neg =>
    clear h
    have hd : decide (3 ≤ Hz) = false := by simpa using g4
    clear g4
    go_enter Try.func5, Try.ntmps5
    simp only [List.append]
    go_wp2_with (first | ((with_reducible apply wl_ld hs); infer_instance; rfl; (repeat (first | exact Pull.here _ _ | exact Pull.last _ | refine Pull.skip _ ?_)); rfl; rfl; simp only [List.set_cons_succ, List.set_cons_zero]) | ((with_reducible apply wl_ldF hs); infer_instance; rfl; (repeat (first | exact Pull.here _ _ | exact Pull.last _ | refine Pull.skip _ ?_)); rfl; rfl; simp only [List.set_cons_succ, List.set_cons_zero]) | ((with_reducible apply wl_st hs); infer_instance; rfl; rfl; (repeat (first | exact Pull.here _ _ | exact Pull.last _ | refine Pull.skip _ ?_)); rfl; (first | exact Nat.le_of_ble_eq_true rfl | (simp only [List.size_toArray, List.length_cons, List.length_nil]; omega)); rfl; clear hs; intro w hs; simp only [List.setIfInBounds_toArray, List.set_cons_succ, List.set_cons_zero] at hs) | ((with_reducible apply wl_stF hs); infer_instance; rfl; rfl; (repeat (first | exact Pull.here _ _ | exact Pull.last _ | refine Pull.skip _ ?_)); rfl; rfl; rfl; rfl; clear hs; intro w hs) | ((with_reducible apply wl_alloc hs); infer_instance; rfl; clear hs; intro w b hs; simp only [List.set_cons_succ, List.set_cons_zero]) | ((with_reducible apply wl_box hs); rfl; rfl; rfl; clear hs; intro w b hs; simp only [List.set_cons_succ, List.set_cons_zero]))
    go_ret
    exact ⟨rfl, hs.right⟩
  by_cases g5 : Hz ≤ 8
  case neg =>
    clear h
    have hd : decide (Hz ≤ 8) = false := by simpa using g5
    clear g5
    go_enter Try.func5, Try.ntmps5
    simp only [List.append]
    go_wp2_with (first | ((with_reducible apply wl_ld hs); infer_instance; rfl; (repeat (first | exact Pull.here _ _ | exact Pull.last _ | refine Pull.skip _ ?_)); rfl; rfl; simp only [List.set_cons_succ, List.set_cons_zero]) | ((with_reducible apply wl_ldF hs); infer_instance; rfl; (repeat (first | exact Pull.here _ _ | exact Pull.last _ | refine Pull.skip _ ?_)); rfl; rfl; simp only [List.set_cons_succ, List.set_cons_zero]) | ((with_reducible apply wl_st hs); infer_instance; rfl; rfl; (repeat (first | exact Pull.here _ _ | exact Pull.last _ | refine Pull.skip _ ?_)); rfl; (first | exact Nat.le_of_ble_eq_true rfl | (simp only [List.size_toArray, List.length_cons, List.length_nil]; omega)); rfl; clear hs; intro w hs; simp only [List.setIfInBounds_toArray, List.set_cons_succ, List.set_cons_zero] at hs) | ((with_reducible apply wl_stF hs); infer_instance; rfl; rfl; (repeat (first | exact Pull.here _ _ | exact Pull.last _ | refine Pull.skip _ ?_)); rfl; rfl; rfl; rfl; clear hs; intro w hs) | ((with_reducible apply wl_alloc hs); infer_instance; rfl; clear hs; intro w b hs; simp only [List.set_cons_succ, List.set_cons_zero]) | ((with_reducible apply wl_box hs); rfl; rfl; rfl; clear hs; intro w b hs; simp only [List.set_cons_succ, List.set_cons_zero]))
    go_ret
    exact ⟨rfl, hs.right⟩
  by_cases g6 : 1 ≤ Rt
  case neg =>
    clear h
    have hd : decide (1 ≤ Rt) = false := by simpa using g6
    clear g6
    go_enter Try.func5, Try.ntmps5
    simp only [List.append]
    go_wp2_with (first | ((with_reducible apply wl_ld hs); infer_instance; rfl; (repeat (first | exact Pull.here _ _ | exact Pull.last _ | refine Pull.skip _ ?_)); rfl; rfl; simp only [List.set_cons_succ, List.set_cons_zero]) | ((with_reducible apply wl_ldF hs); infer_instance; rfl; (repeat (first | exact Pull.here _ _ | exact Pull.last _ | refine Pull.skip _ ?_)); rfl; rfl; simp only [List.set_cons_succ, List.set_cons_zero]) | ((with_reducible apply wl_st hs); infer_instance; rfl; rfl; (repeat (first | exact Pull.here _ _ | exact Pull.last _ | refine Pull.skip _ ?_)); rfl; (first | exact Nat.le_of_ble_eq_true rfl | (simp only [List.size_toArray, List.length_cons, List.length_nil]; omega)); rfl; clear hs; intro w hs; simp only [List.setIfInBounds_toArray, List.set_cons_succ, List.set_cons_zero] at hs) | ((with_reducible apply wl_stF hs); infer_instance; rfl; rfl; (repeat (first | exact Pull.here _ _ | exact Pull.last _ | refine Pull.skip _ ?_)); rfl; rfl; rfl; rfl; clear hs; intro w hs) | ((with_reducible apply wl_alloc hs); infer_instance; rfl; clear hs; intro w b hs; simp only [List.set_cons_succ, List.set_cons_zero]) | ((with_reducible apply wl_box hs); rfl; rfl; rfl; clear hs; intro w b hs; simp only [List.set_cons_succ, List.set_cons_zero]))
    go_ret
    exact ⟨rfl, hs.right⟩
  by_cases g7 : Rt ≤ 1024
  case neg =>
    clear h
    have hd : decide (Rt ≤ 1024) = false := by simpa using g7
    clear g7
    go_enter Try.func5, Try.ntmps5
    simp only [List.append]
    go_wp2_with (first | ((with_reducible apply wl_ld hs); infer_instance; rfl; (repeat (first | exact Pull.here _ _ | exact Pull.last _ | refine Pull.skip _ ?_)); rfl; rfl; simp only [List.set_cons_succ, List.set_cons_zero]) | ((with_reducible apply wl_ldF hs); infer_instance; rfl; (repeat (first | exact Pull.here _ _ | exact Pull.last _ | refine Pull.skip _ ?_)); rfl; rfl; simp only [List.set_cons_succ, List.set_cons_zero]) | ((with_reducible apply wl_st hs); infer_instance; rfl; rfl; (repeat (first | exact Pull.here _ _ | exact Pull.last _ | refine Pull.skip _ ?_)); rfl; (first | exact Nat.le_of_ble_eq_true rfl | (simp only [List.size_toArray, List.length_cons, List.length_nil]; omega)); rfl; clear hs; intro w hs; simp only [List.setIfInBounds_toArray, List.set_cons_succ, List.set_cons_zero] at hs) | ((with_reducible apply wl_stF hs); infer_instance; rfl; rfl; (repeat (first | exact Pull.here _ _ | exact Pull.last _ | refine Pull.skip _ ?_)); rfl; rfl; rfl; rfl; clear hs; intro w hs) | ((with_reducible apply wl_alloc hs); infer_instance; rfl; clear hs; intro w b hs; simp only [List.set_cons_succ, List.set_cons_zero]) | ((with_reducible apply wl_box hs); rfl; rfl; rfl; clear hs; intro w b hs; simp only [List.set_cons_succ, List.set_cons_zero]))
    go_ret
    exact ⟨rfl, hs.right⟩
  by_cases g8 : 0 ≤ Ca
  case neg =>
    clear h
    have hd : decide (0 ≤ Ca) = false := by simpa using g8
    clear g8
    go_enter Try.func5, Try.ntmps5
    simp only [List.append]
    go_wp2_with (first | ((with_reducible apply wl_ld hs); infer_instance; rfl; (repeat (first | exact Pull.here _ _ | exact Pull.last _ | refine Pull.skip _ ?_)); rfl; rfl; simp only [List.set_cons_succ, List.set_cons_zero]) | ((with_reducible apply wl_ldF hs); infer_instance; rfl; (repeat (first | exact Pull.here _ _ | exact Pull.last _ | refine Pull.skip _ ?_)); rfl; rfl; simp only [List.set_cons_succ, List.set_cons_zero]) | ((with_reducible apply wl_st hs); infer_instance; rfl; rfl; (repeat (first | exact Pull.here _ _ | exact Pull.last _ | refine Pull.skip _ ?_)); rfl; (first | exact Nat.le_of_ble_eq_true rfl | (simp only [List.size_toArray, List.length_cons, List.length_nil]; omega)); rfl; clear hs; intro w hs; simp only [List.setIfInBounds_toArray, List.set_cons_succ, List.set_cons_zero] at hs) | ((with_reducible apply wl_stF hs); infer_instance; rfl; rfl; (repeat (first | exact Pull.here _ _ | exact Pull.last _ | refine Pull.skip _ ?_)); rfl; rfl; rfl; rfl; clear hs; intro w hs) | ((with_reducible apply wl_alloc hs); infer_instance; rfl; clear hs; intro w b hs; simp only [List.set_cons_succ, List.set_cons_zero]) | ((with_reducible apply wl_box hs); rfl; rfl; rfl; clear hs; intro w b hs; simp only [List.set_cons_succ, List.set_cons_zero]))
    go_ret
    exact ⟨rfl, hs.right⟩
  by_cases g9 : Ca ≤ 64
  case neg =>
    clear h
    have hd : decide (Ca ≤ 64) = false := by simpa using g9
    clear g9
    go_enter Try.func5, Try.ntmps5
    simp only [List.append]
    go_wp2_with (first | ((with_reducible apply wl_ld hs); infer_instance; rfl; (repeat (first | exact Pull.here _ _ | exact Pull.last _ | refine Pull.skip _ ?_)); rfl; rfl; simp only [List.set_cons_succ, List.set_cons_zero]) | ((with_reducible apply wl_ldF hs); infer_instance; rfl; (repeat (first | exact Pull.here _ _ | exact Pull.last _ | refine Pull.skip _ ?_)); rfl; rfl; simp only [List.set_cons_succ, List.set_cons_zero]) | ((with_reducible apply wl_st hs); infer_instance; rfl; rfl; (repeat (first | exact Pull.here _ _ | exact Pull.last _ | refine Pull.skip _ ?_)); rfl; (first | exact Nat.le_of_ble_eq_true rfl | (simp only [List.size_toArray, List.length_cons, List.length_nil]; omega)); rfl; clear hs; intro w hs; simp only [List.setIfInBounds_toArray, List.set_cons_succ, List.set_cons_zero] at hs) | ((with_reducible apply wl_stF hs); infer_instance; rfl; rfl; (repeat (first | exact Pull.here _ _ | exact Pull.last _ | refine Pull.skip _ ?_)); rfl; rfl; rfl; rfl; clear hs; intro w hs) | ((with_reducible apply wl_alloc hs); infer_instance; rfl; clear hs; intro w b hs; simp only [List.set_cons_succ, List.set_cons_zero]) | ((with_reducible apply wl_box hs); rfl; rfl; rfl; clear hs; intro w b hs; simp only [List.set_cons_succ, List.set_cons_zero]))
    go_ret
    exact ⟨rfl, hs.right⟩
  by_cases g10 : 1 ≤ Sl
  case neg =>
    clear h
    have hd : decide (1 ≤ Sl) = false := by simpa using g10
    clear g10
    go_enter Try.func5, Try.ntmps5
    simp only [List.append]
    go_wp2_with (first | ((with_reducible apply wl_ld hs); infer_instance; rfl; (repeat (first | exact Pull.here _ _ | exact Pull.last _ | refine Pull.skip _ ?_)); rfl; rfl; simp only [List.set_cons_succ, List.set_cons_zero]) | ((with_reducible apply wl_ldF hs); infer_instance; rfl; (repeat (first | exact Pull.here _ _ | exact Pull.last _ | refine Pull.skip _ ?_)); rfl; rfl; simp only [List.set_cons_succ, List.set_cons_zero]) | ((with_reducible apply wl_st hs); infer_instance; rfl; rfl; (repeat (first | exact Pull.here _ _ | exact Pull.last _ | refine Pull.skip _ ?_)); rfl; (first | exact Nat.le_of_ble_eq_true rfl | (simp only [List.size_toArray, List.length_cons, List.length_nil]; omega)); rfl; clear hs; intro w hs; simp only [List.setIfInBounds_toArray, List.set_cons_succ, List.set_cons_zero] at hs) | ((with_reducible apply wl_stF hs); infer_instance; rfl; rfl; (repeat (first | exact Pull.here _ _ | exact Pull.last _ | refine Pull.skip _ ?_)); rfl; rfl; rfl; rfl; clear hs; intro w hs) | ((with_reducible apply wl_alloc hs); infer_instance; rfl; clear hs; intro w b hs; simp only [List.set_cons_succ, List.set_cons_zero]) | ((with_reducible apply wl_box hs); rfl; rfl; rfl; clear hs; intro w b hs; simp only [List.set_cons_succ, List.set_cons_zero]))
    go_ret
    exact ⟨rfl, hs.right⟩
  by_cases g11 : Sl ≤ 1024
  case neg =>
    clear h
    have hd : decide (Sl ≤ 1024) = false := by simpa using g11
    clear g11
    go_enter Try.func5, Try.ntmps5
    simp only [List.append]
    go_wp2_with (first | ((with_reducible apply wl_ld hs); infer_instance; rfl; (repeat (first | exact Pull.here _ _ | exact Pull.last _ | refine Pull.skip _ ?_)); rfl; rfl; simp only [List.set_cons_succ, List.set_cons_zero]) | ((with_reducible apply wl_ldF hs); infer_instance; rfl; (repeat (first | exact Pull.here _ _ | exact Pull.last _ | refine Pull.skip _ ?_)); rfl; rfl; simp only [List.set_cons_succ, List.set_cons_zero]) | ((with_reducible apply wl_st hs); infer_instance; rfl; rfl; (repeat (first | exact Pull.here _ _ | exact Pull.last _ | refine Pull.skip _ ?_)); rfl; (first | exact Nat.le_of_ble_eq_true rfl | (simp only [List.size_toArray, List.length_cons, List.length_nil]; omega)); rfl; clear hs; intro w hs; simp only [List.setIfInBounds_toArray, List.set_cons_succ, List.set_cons_zero] at hs) | ((with_reducible apply wl_stF hs); infer_instance; rfl; rfl; (repeat (first | exact Pull.here _ _ | exact Pull.last _ | refine Pull.skip _ ?_)); rfl; rfl; rfl; rfl; clear hs; intro w hs) | ((with_reducible apply wl_alloc hs); infer_instance; rfl; clear hs; intro w b hs; simp only [List.set_cons_succ, List.set_cons_zero]) | ((with_reducible apply wl_box hs); rfl; rfl; rfl; clear hs; intro w b hs; simp only [List.set_cons_succ, List.set_cons_zero]))
    go_ret
    exact ⟨rfl, hs.right⟩
  by_cases g12 : 1 ≤ Bu
  case neg =>
    clear h
    have hd : decide (1 ≤ Bu) = false := by simpa using g12
    clear g12
    go_enter Try.func5, Try.ntmps5
    simp only [List.append]
    go_wp2_with (first | ((with_reducible apply wl_ld hs); infer_instance; rfl; (repeat (first | exact Pull.here _ _ | exact Pull.last _ | refine Pull.skip _ ?_)); rfl; rfl; simp only [List.set_cons_succ, List.set_cons_zero]) | ((with_reducible apply wl_ldF hs); infer_instance; rfl; (repeat (first | exact Pull.here _ _ | exact Pull.last _ | refine Pull.skip _ ?_)); rfl; rfl; simp only [List.set_cons_succ, List.set_cons_zero]) | ((with_reducible apply wl_st hs); infer_instance; rfl; rfl; (repeat (first | exact Pull.here _ _ | exact Pull.last _ | refine Pull.skip _ ?_)); rfl; (first | exact Nat.le_of_ble_eq_true rfl | (simp only [List.size_toArray, List.length_cons, List.length_nil]; omega)); rfl; clear hs; intro w hs; simp only [List.setIfInBounds_toArray, List.set_cons_succ, List.set_cons_zero] at hs) | ((with_reducible apply wl_stF hs); infer_instance; rfl; rfl; (repeat (first | exact Pull.here _ _ | exact Pull.last _ | refine Pull.skip _ ?_)); rfl; rfl; rfl; rfl; clear hs; intro w hs) | ((with_reducible apply wl_alloc hs); infer_instance; rfl; clear hs; intro w b hs; simp only [List.set_cons_succ, List.set_cons_zero]) | ((with_reducible apply wl_box hs); rfl; rfl; rfl; clear hs; intro w b hs; simp only [List.set_cons_succ, List.set_cons_zero]))
    go_ret
    exact ⟨rfl, hs.right⟩
  by_cases g13 : Bu ≤ 64
  case neg =>
    clear h
    have hd : decide (Bu ≤ 64) = false := by simpa using g13
    clear g13
    go_enter Try.func5, Try.ntmps5
    simp only [List.append]
    go_wp2_with (first | ((with_reducible apply wl_ld hs); infer_instance; rfl; (repeat (first | exact Pull.here _ _ | exact Pull.last _ | refine Pull.skip _ ?_)); rfl; rfl; simp only [List.set_cons_succ, List.set_cons_zero]) | ((with_reducible apply wl_ldF hs); infer_instance; rfl; (repeat (first | exact Pull.here _ _ | exact Pull.last _ | refine Pull.skip _ ?_)); rfl; rfl; simp only [List.set_cons_succ, List.set_cons_zero]) | ((with_reducible apply wl_st hs); infer_instance; rfl; rfl; (repeat (first | exact Pull.here _ _ | exact Pull.last _ | refine Pull.skip _ ?_)); rfl; (first | exact Nat.le_of_ble_eq_true rfl | (simp only [List.size_toArray, List.length_cons, List.length_nil]; omega)); rfl; clear hs; intro w hs; simp only [List.setIfInBounds_toArray, List.set_cons_succ, List.set_cons_zero] at hs) | ((with_reducible apply wl_stF hs); infer_instance; rfl; rfl; (repeat (first | exact Pull.here _ _ | exact Pull.last _ | refine Pull.skip _ ?_)); rfl; rfl; rfl; rfl; clear hs; intro w hs) | ((with_reducible apply wl_alloc hs); infer_instance; rfl; clear hs; intro w b hs; simp only [List.set_cons_succ, List.set_cons_zero]) | ((with_reducible apply wl_box hs); rfl; rfl; rfl; clear hs; intro w b hs; simp only [List.set_cons_succ, List.set_cons_zero]))
    go_ret
    exact ⟨rfl, hs.right⟩
  exact absurd ⟨⟨g0, g1⟩, ⟨g2, g3⟩, ⟨g4, g5⟩, ⟨g6, g7⟩, ⟨g8, g9⟩, ⟨g10, g11⟩, ⟨g12, g13⟩⟩ h
end Go.Proofs.Ytbkefjpjbijkfaa
