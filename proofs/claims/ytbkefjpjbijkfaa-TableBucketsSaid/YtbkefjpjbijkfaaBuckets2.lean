import Derived.Test.YtbkefjpjbijkfaaBuckets
namespace Go.Proofs.Ytbkefjpjbijkfaa
open Go.RowKit Hp

/-- the bucket of a key, as both texts reckon it -/
def bk (key Bu : Int) : Int := wrap64 ((IntKind.u64.wrap key).tmod Bu)

set_option maxHeartbeats 1000000 in
set_option maxRecDepth 100000 in
theorem refbucket (T R Hz Rt Ca Sl Bu key : Int) (h1 : 1 ≤ Bu) (h2 : Bu ≤ 64) :
    Gives Try.prog 6 #[.agg (cfgV T R Hz Rt Ca Sl Bu), .int .i64 key] emp (.int .i64 (bk key Bu)) emp := by
  intro O w F hs
  go_enter Try.func6, Try.ntmps6
  go_wp2_with (first | ((with_reducible apply wl_ld hs); infer_instance; rfl; (repeat (first | exact Pull.here _ _ | exact Pull.last _ | refine Pull.skip _ ?_)); rfl; rfl; simp only [List.set_cons_succ, List.set_cons_zero]) | ((with_reducible apply wl_ldF hs); infer_instance; rfl; (repeat (first | exact Pull.here _ _ | exact Pull.last _ | refine Pull.skip _ ?_)); rfl; rfl; simp only [List.set_cons_succ, List.set_cons_zero]) | ((with_reducible apply wl_st hs); infer_instance; rfl; rfl; (repeat (first | exact Pull.here _ _ | exact Pull.last _ | refine Pull.skip _ ?_)); rfl; (first | exact Nat.le_of_ble_eq_true rfl | (simp only [List.size_toArray, List.length_cons, List.length_nil]; omega)); rfl; clear hs; intro w hs; simp only [List.setIfInBounds_toArray, List.set_cons_succ, List.set_cons_zero] at hs) | ((with_reducible apply wl_stF hs); infer_instance; rfl; rfl; (repeat (first | exact Pull.here _ _ | exact Pull.last _ | refine Pull.skip _ ?_)); rfl; rfl; rfl; rfl; clear hs; intro w hs) | ((with_reducible apply wl_alloc hs); infer_instance; rfl; clear hs; intro w b hs; simp only [List.set_cons_succ, List.set_cons_zero]) | ((with_reducible apply wl_box hs); rfl; rfl; rfl; clear hs; intro w b hs; simp only [List.set_cons_succ, List.set_cons_zero]))
  go_ret
  exact ⟨rfl, hs.right⟩

set_option maxHeartbeats 1000000 in
set_option maxRecDepth 100000 in
theorem bucket_yes (T R Hz Rt Ca Sl Bu key : Int) (h : CfgOk T R Hz Rt Ca Sl Bu) :
    Gives Try.prog 4 #[.agg (cfgV T R Hz Rt Ca Sl Bu), .int .i64 key] emp (.tuple #[.int .i64 (bk key Bu), .int .i64 0]) emp := by
  intro O w F hs
  have hc := check_any T R Hz Rt Ca Sl Bu 0 (.inl ⟨rfl, h⟩)
  have HC := Lib.hid hc; clear hc
  obtain ⟨h1, h2⟩ := h.2.2.2.2.2.2
  clear h
  go_enter Try.func4, Try.ntmps4
  go_wp2_with (first | ((with_reducible apply wl_ld hs); infer_instance; rfl; (repeat (first | exact Pull.here _ _ | exact Pull.last _ | refine Pull.skip _ ?_)); rfl; rfl; simp only [List.set_cons_succ, List.set_cons_zero]) | ((with_reducible apply wl_ldF hs); infer_instance; rfl; (repeat (first | exact Pull.here _ _ | exact Pull.last _ | refine Pull.skip _ ?_)); rfl; rfl; simp only [List.set_cons_succ, List.set_cons_zero]) | ((with_reducible apply wl_st hs); infer_instance; rfl; rfl; (repeat (first | exact Pull.here _ _ | exact Pull.last _ | refine Pull.skip _ ?_)); rfl; (first | exact Nat.le_of_ble_eq_true rfl | (simp only [List.size_toArray, List.length_cons, List.length_nil]; omega)); rfl; clear hs; intro w hs; simp only [List.setIfInBounds_toArray, List.set_cons_succ, List.set_cons_zero] at hs) | ((with_reducible apply wl_stF hs); infer_instance; rfl; rfl; (repeat (first | exact Pull.here _ _ | exact Pull.last _ | refine Pull.skip _ ?_)); rfl; rfl; rfl; rfl; clear hs; intro w hs) | ((with_reducible apply wl_alloc hs); infer_instance; rfl; clear hs; intro w b hs; simp only [List.set_cons_succ, List.set_cons_zero]) | ((with_reducible apply wl_box hs); rfl; rfl; rfl; clear hs; intro w b hs; simp only [List.set_cons_succ, List.set_cons_zero]) | (go_at_call 7; refine HC.out.at hs (Pull.none _) ?_; clear hs; intro w hs; have hs := hs.right))
  go_ret2
  exact ⟨rfl, hs.right⟩

set_option maxHeartbeats 1000000 in
set_option maxRecDepth 100000 in
theorem bucket_no (T R Hz Rt Ca Sl Bu key : Int) (h : ¬ CfgOk T R Hz Rt Ca Sl Bu) :
    Gives Try.prog 4 #[.agg (cfgV T R Hz Rt Ca Sl Bu), .int .i64 key] emp (.tuple #[.int .i64 0, .int .i64 1]) emp := by
  intro O w F hs
  have hc := check_any T R Hz Rt Ca Sl Bu 1 (.inr ⟨rfl, h⟩)
  have HC := Lib.hid hc; clear hc
  clear h
  go_enter Try.func4, Try.ntmps4
  go_wp2_with (first | ((with_reducible apply wl_ld hs); infer_instance; rfl; (repeat (first | exact Pull.here _ _ | exact Pull.last _ | refine Pull.skip _ ?_)); rfl; rfl; simp only [List.set_cons_succ, List.set_cons_zero]) | ((with_reducible apply wl_ldF hs); infer_instance; rfl; (repeat (first | exact Pull.here _ _ | exact Pull.last _ | refine Pull.skip _ ?_)); rfl; rfl; simp only [List.set_cons_succ, List.set_cons_zero]) | ((with_reducible apply wl_st hs); infer_instance; rfl; rfl; (repeat (first | exact Pull.here _ _ | exact Pull.last _ | refine Pull.skip _ ?_)); rfl; (first | exact Nat.le_of_ble_eq_true rfl | (simp only [List.size_toArray, List.length_cons, List.length_nil]; omega)); rfl; clear hs; intro w hs; simp only [List.setIfInBounds_toArray, List.set_cons_succ, List.set_cons_zero] at hs) | ((with_reducible apply wl_stF hs); infer_instance; rfl; rfl; (repeat (first | exact Pull.here _ _ | exact Pull.last _ | refine Pull.skip _ ?_)); rfl; rfl; rfl; rfl; clear hs; intro w hs) | ((with_reducible apply wl_alloc hs); infer_instance; rfl; clear hs; intro w b hs; simp only [List.set_cons_succ, List.set_cons_zero]) | ((with_reducible apply wl_box hs); rfl; rfl; rfl; clear hs; intro w b hs; simp only [List.set_cons_succ, List.set_cons_zero]) | (go_at_call 7; refine HC.out.at hs (Pull.none _) ?_; clear hs; intro w hs; have hs := hs.right))
  go_ret2
  exact ⟨rfl, hs.right⟩
end Go.Proofs.Ytbkefjpjbijkfaa
