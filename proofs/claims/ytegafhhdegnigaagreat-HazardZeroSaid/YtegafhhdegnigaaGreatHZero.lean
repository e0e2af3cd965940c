/-
  Hazards that New didn't make, and those over no arena.
-/
import Derived.Test.YtegafhhdegnigaaGreatHAwk3
set_option linter.all false
namespace Go.Proofs.YtegafhhdegnigaaGreat
open Go.RowKit Hp
set_option maxRecDepth 100000
set_option maxHeartbeats 1000000
attribute [local irreducible] Go.Calls

namespace Hp
section
variable {P : Program} {ops : Array Oper} {Q : Exit → Act → World → Prop} {w : World} {rest : List Oper} {O : World} {S R : SProp}
variable {l : List Value} {ds : List Deferred} {T ty kt et : TypeId} {pos : String} {after : Array Edge} {gd : Option (Nat × Bool)} {d : Nat} {x : Operand} {K : IntKind} {v zv : Value}
/-- the length of a map without entries -/
theorem wl_len0 (hs : Sat O w S) (h : MapC P T kt et K zv) (hx : ev l x = some v) (hp : Pull S (mp K (fun _ => none) v) R)
    (hg : Region.wanted { dst := some d, op := .call { callee := .builtin .len, args := #[x], argTypes := #[T] }, type := ty, pos, after, guard := gd } (yielded ops l.toArray) = true)
    (kk : wpList P ops Q rest ⟨(l.set d (.int .i64 0)).toArray, ds⟩ w) :
    wpList P ops Q ({ dst := some d, op := .call { callee := .builtin .len, args := #[x], argTypes := #[T] }, type := ty, pos, after, guard := gd } :: rest) ⟨l.toArray, ds⟩ w := by
  obtain ⟨r, es, clock, rfl, hE, hs⟩ := sat_mp.1 (hs.pull hp)
  have hb := hs.block
  have e0 : es.size = 0 := by
    rcases Nat.eq_zero_or_pos es.size with h0 | h0
    · exact h0
    · exfalso
      have hm : es[0] ∈ es.toList := by simp
      obtain ⟨k, hk⟩ := hE.keys _ hm
      have := (hE.iff k es[0].val).2 ⟨_, hm, hk, rfl⟩
      cases this
  refine wl_val (v := .int .i64 0) hg ?_ (put_set ▸ kk)
  have := ev_eval (ds := ds) hx
  simp [execOp, resolve, this, invoke, builtin, Builtin.len_, run_underlying h.is, MapKept.run_getObj_map hb, goInt, e0]
end
end Hp

/-- hazards over nothing -/
def HzZ (b : Nat) : SProp := pt b (.cells #[.pointer none, .int .i64 0, .int .i64 0, .int .i64 0, .int .i64 0, .int .i64 0, .int .i64 0, .int .i64 0, .slice none 0 0, .slice none 0 0, .int .i64 0, .int .i64 0, .int .i64 0, .int .i64 0] 93)

theorem new_none : Makes Tryz.prog 37 #[.pointer none] emp HzZ := by
  intro O w F hs
  go_enter Tryz.func37, Tryz.ntmps37
  go_wp2_with ((with_reducible apply wl_box hs); rfl; rfl; rfl; clear hs; intro w b hs; (simp only [List.set_cons_succ, List.set_cons_zero]))
  (go_ret)
  exact ⟨_, rfl, by unfold HzZ; ((with_reducible apply Sat.fin hs); (focus ((repeat (first | with_reducible exact Pull.last _ | with_reducible exact Pull.here _ _ | with_reducible apply Pull.both | with_reducible apply Pull.skip)); done)))⟩
theorem z_record (b : Nat) (t : Int) : Gives Tryz.prog 50 #[.pointer (some ⟨b, 0, none⟩), .int .i64 t] (HzZ b) (.int .i64 (-1)) (HzZ b) := by
  intro O w F hs
  unfold HzZ at hs ⊢
  by_cases h0 : t < 0
  · have n1 : decide (t < 0) = true := by simpa using h0
    go_enter Tryz.func50, Tryz.ntmps50
    go_wp2_with (fail)
    (go_ret)
    exact ⟨rfl, by ((with_reducible apply Sat.fin hs); (with_reducible exact Pull.last _))⟩
  · have n1 : decide (t < 0) = false := by simpa using h0
    have n2 : decide (t ≥ 0) = true := by simp; omega
    have n3 : decide (0 ≤ t) = true := by simp; omega
    go_enter Tryz.func50, Tryz.ntmps50
    go_wp2_with ((with_reducible apply wl_ld hs); infer_instance; rfl; (with_reducible exact Pull.here _ _); rfl; rfl; (simp only [List.set_cons_succ, List.set_cons_zero]))
    (go_ret)
    exact ⟨rfl, by ((with_reducible apply Sat.fin hs); (with_reducible exact Pull.last _))⟩
theorem z_list (b : Nat) (t : Int) : Gives Tryz.prog 42 #[.pointer (some ⟨b, 0, none⟩), .int .i64 t] (HzZ b) (.slice none 0 0) (HzZ b) := by
  intro O w F hs
  unfold HzZ at hs ⊢
  by_cases h0 : t < 0
  · have n1 : decide (t < 0) = true := by simpa using h0
    go_enter Tryz.func42, Tryz.ntmps42
    go_wp2_with (fail)
    (go_ret)
    exact ⟨rfl, by ((with_reducible apply Sat.fin hs); (with_reducible exact Pull.last _))⟩
  · have n1 : decide (t < 0) = false := by simpa using h0
    have n2 : decide (t ≥ 0) = true := by simp; omega
    have n3 : decide (0 ≤ t) = true := by simp; omega
    go_enter Tryz.func42, Tryz.ntmps42
    go_wp2_with ((with_reducible apply wl_ld hs); infer_instance; rfl; (with_reducible exact Pull.here _ _); rfl; rfl; (simp only [List.set_cons_succ, List.set_cons_zero]))
    (go_ret)
    exact ⟨rfl, by ((with_reducible apply Sat.fin hs); (with_reducible exact Pull.last _))⟩
theorem z_addr (b : Nat) (t k : Int) : Gives Tryz.prog 51 #[.pointer (some ⟨b, 0, none⟩), .int .i64 t, .int .i64 k] (HzZ b) (.int .i64 (-1)) (HzZ b) := by
  intro O w F hs
  have hR := Lib.hid (z_record b t)
  go_enter Tryz.func51, Tryz.ntmps51
  go_wp2_with (go_at_call 50; ((refine (hR.out).at hs (by (with_reducible exact Pull.here _ _)) ?_); clear hs; intro w hs; (try simp only [emp_mul, mul_assoc'] at hs)))
  (go_ret)
  exact ⟨rfl, by ((with_reducible apply Sat.fin hs); (with_reducible exact Pull.last _))⟩
theorem z_arena (b : Nat) : Gives Tryz.prog 49 #[.pointer (some ⟨b, 0, none⟩)] (HzZ b) (.pointer none) (HzZ b) := by
  intro O w F hs
  unfold HzZ at hs ⊢
  go_enter Tryz.func49, Tryz.ntmps49
  go_wp2_with ((with_reducible apply wl_ld hs); infer_instance; rfl; (with_reducible exact Pull.here _ _); rfl; rfl; (simp only [List.set_cons_succ, List.set_cons_zero]))
  (go_ret)
  exact ⟨rfl, by ((with_reducible apply Sat.fin hs); (with_reducible exact Pull.last _))⟩
def ScnZ (b bh : Nat) (t : Int) : SProp := pt b (.cells #[.pointer (some ⟨bh, 0, none⟩), .int .i64 t, .int .i64 (-1), .int .i64 6, .int .i64 0, .map none, .slice none 0 0, .pointer none] 208)
theorem z_scan (b : Nat) (t : Int) : Makes Tryz.prog 45 #[.pointer (some ⟨b, 0, none⟩), .int .i64 t] (HzZ b) (fun g => ScnZ g b t * HzZ b) := by
  intro O w F hs
  have hR := Lib.hid (z_record b t)
  go_enter Tryz.func45, Tryz.ntmps45
  go_wp2_with (first | ((with_reducible apply wl_box hs); rfl; rfl; rfl; clear hs; intro w b hs; (simp only [List.set_cons_succ, List.set_cons_zero])) | (go_at_call 50; ((refine (hR.out).at hs (by (with_reducible exact Pull.here _ _)) ?_); clear hs; intro w hs; (try simp only [emp_mul, mul_assoc'] at hs))))
  (go_ret)
  refine ⟨_, rfl, ?_⟩
  unfold ScnZ
  ((with_reducible apply Sat.fin hs); (focus ((repeat (first | with_reducible exact Pull.last _ | with_reducible exact Pull.here _ _ | with_reducible apply Pull.both)); done)))
theorem z_scan_ready (b bh : Nat) (t : Int) (d : Value) : Gives Tryz.prog 46 #[.pointer (some ⟨b, 0, none⟩), d] (ScnZ b bh t) (.bool true) (ScnZ b bh t) := by
  intro O w F hs
  unfold ScnZ at hs ⊢
  go_enter Tryz.func46, Tryz.ntmps46
  go_wp2_with ((with_reducible apply wl_ld hs); infer_instance; rfl; (with_reducible exact Pull.here _ _); rfl; rfl; (simp only [List.set_cons_succ, List.set_cons_zero]))
  (go_ret)
  exact ⟨rfl, by ((with_reducible apply Sat.fin hs); (with_reducible exact Pull.last _))⟩
def RetZ (b bh : Nat) (t s : Int) : SProp := pt b (.cells #[.pointer (some ⟨bh, 0, none⟩), .int .i64 t, .int .i64 s, .pointer none] 210)
theorem z_retire (b : Nat) (t s : Int) : Makes Tryz.prog 47 #[.pointer (some ⟨b, 0, none⟩), .int .i64 t, .int .i64 s] (HzZ b) (fun g => RetZ g b t s * HzZ b) := by
  intro O w F hs
  go_enter Tryz.func47, Tryz.ntmps47
  go_wp2_with ((with_reducible apply wl_box hs); rfl; rfl; rfl; clear hs; intro w b hs; (simp only [List.set_cons_succ, List.set_cons_zero]))
  (go_ret)
  refine ⟨_, rfl, ?_⟩
  unfold RetZ
  ((with_reducible apply Sat.fin hs); (focus ((repeat (first | with_reducible exact Pull.last _ | with_reducible exact Pull.here _ _ | with_reducible apply Pull.both)); done)))
theorem z_retire_ready (b bh : Nat) (t s : Int) (d : Value) : Gives Tryz.prog 48 #[.pointer (some ⟨b, 0, none⟩), d] (RetZ b bh t s * HzZ bh) (.bool true) (RetZ b bh t s * HzZ bh) := by
  intro O w F hs
  simp only [mul_assoc'] at hs
  unfold RetZ at hs ⊢
  have hR := Lib.hid (z_record bh t)
  go_enter Tryz.func48, Tryz.ntmps48
  go_wp2_with (first | (first | (first | (with_reducible refine NQ.mk ?_) | ((with_reducible apply pl_neu); rfl; rfl) | (with_reducible refine pl_end ?_)) | ((with_reducible apply wl_ld hs); infer_instance; rfl; (with_reducible exact Pull.here _ _); rfl; rfl; (simp only [List.set_cons_succ, List.set_cons_zero]))) | (go_at_call 50; ((refine (hR.out).at hs (by (focus ((repeat (first | with_reducible exact Pull.here _ _ | with_reducible apply Pull.skip)); done))) ?_); clear hs; intro w hs; (try simp only [emp_mul, mul_assoc'] at hs))) | ((with_reducible refine wp_plan_sat (id := 5) [.neu 0, .neu 1, .neu 2, .neu 3, .neu 4, .neu 5, .neu 6, .neu 7, .neu 8, .neu 9, .neu 10, .neu 11, .neu 12, .neu 13, .neu 14, .neu 15, .neu 16, .neu 17, .neu 18, .neu 19, .neu 20] hs rfl ?_ ?_); kernel_rfl; clear hs; intro w hs))
  (go_ret)
  exact ⟨rfl, by ((with_reducible apply Sat.fin hs); (focus ((repeat (first | with_reducible exact Pull.last _ | with_reducible exact Pull.here _ _ | with_reducible apply Pull.both | with_reducible apply Pull.skip)); done)))⟩
theorem z_kit (b : Nat) : Does Tryz.prog 40 #[.pointer (some ⟨b, 0, none⟩)] (HzZ b) (fun v => mp .i64 (fun _ => none) v * HzZ b) := by
  intro O w F hs
  unfold HzZ at hs ⊢
  go_enter Tryz.func40, Tryz.ntmps40
  go_wp2_with (first | (first | ((with_reducible apply wl_ld hs); infer_instance; rfl; (focus ((repeat (first | with_reducible exact Pull.here _ _ | with_reducible apply Pull.skip)); done)); rfl; rfl; (simp only [List.set_cons_succ, List.set_cons_zero])) | ((with_reducible apply wl_box hs); rfl; rfl; rfl; clear hs; intro w b hs; (simp only [List.set_cons_succ, List.set_cons_zero]))) | ((with_reducible apply wl_mkmap hs); infer_instance; rfl; clear hs; intro w r hs; (simp only [List.set_cons_succ, List.set_cons_zero])))
  (go_ret)
  exact ⟨_, rfl, by ((with_reducible apply Sat.fin hs); (focus ((repeat (first | with_reducible exact Pull.last _ | with_reducible exact Pull.here _ _ | with_reducible apply Pull.both | exact Pull.here _ _ | with_reducible apply Pull.skip)); done)))⟩

theorem haz_zero (t k r : Int) : Gives Tryz.prog 10 #[.int .i64 t, .int .i64 k, .int .i64 r] emp (.bool true) emp := by
  intro O w F hs
  have hA := Lib.hid law_awake
  have hN := Lib.hid new_none
  have h1 := Lib.hid (fun b => z_scan b t)
  have h2 := Lib.hid (fun b bh d => z_scan_ready b bh t d)
  have h3 := Lib.hid (fun b => z_retire b t r)
  have h4 := Lib.hid (fun b bh d => z_retire_ready b bh t r d)
  have h5 := Lib.hid z_arena
  have h6 := Lib.hid (fun b => z_record b t)
  have h7 := Lib.hid (fun b => z_list b r)
  have h8 := Lib.hid (fun b => z_addr b t k)
  have h9 := Lib.hid z_kit
  go_enter Tryz.func10, Tryz.ntmps10
  go_wp2_with (first | ((with_reducible apply wl_alloc hs); infer_instance; rfl; clear hs; intro w b hs; (simp only [List.set_cons_succ, List.set_cons_zero])) | (go_at_call 37; ((refine (hN.out).at hs (by (focus ((repeat (with_reducible exact Pull.none _)); done))) ?_); clear hs; intro g w hs; (try simp only [emp_mul, mul_assoc'] at hs))))
  have hs2 : Sat O w (HzZ b * (HzZ g * F)) := by
    have e : HzZ b = _ := rfl
    unfold HzZ at hs ⊢
    ((with_reducible apply Sat.fin hs); (focus ((repeat (first | with_reducible exact Pull.last _ | with_reducible exact Pull.here _ _ | with_reducible apply Pull.both | with_reducible apply Pull.skip)); done)))
  clear hs
  have hs := hs2
  clear hs2
  go_loopw [9] (fun q wr => ∃ n : Nat, n ≤ 2 ∧ q = .int .i64 (n : Int) ∧ Sat O wr (HzZ b * (HzZ g * F))) (fun q _ => 3 - (intOf q).toNat)
  case atStart => exact ⟨0, by omega, rfl, hs⟩
  case round =>
    obtain ⟨n, k1, rfl, hs⟩ := hrel
    have hn : n = 0 ∨ n = 1 ∨ n = 2 := by omega
    rcases hn with rfl | rfl | rfl
    · go_wp2_with (first | ((with_reducible apply wl_alloc hs); infer_instance; rfl; clear hs; intro w b hs; (simp only [List.set_cons_succ, List.set_cons_zero])) | (go_at_call 45; ((refine ((h1.out _)).at hs (by (focus ((repeat (first | with_reducible exact Pull.here _ _ | with_reducible apply Pull.skip)); done))) ?_); clear hs; intro g w hs; (try simp only [emp_mul, mul_assoc'] at hs))) | (go_at_call 46; ((refine ((h2.out _ _ _)).at hs (by (with_reducible exact Pull.here _ _)) ?_); clear hs; intro w hs; (try simp only [emp_mul, mul_assoc'] at hs))) | (go_at_call 47; ((refine ((h3.out _)).at hs (by (focus ((repeat (first | with_reducible exact Pull.here _ _ | with_reducible apply Pull.skip)); done))) ?_); clear hs; intro g w hs; (try simp only [emp_mul, mul_assoc'] at hs))) | (go_at_call 48; ((refine ((h4.out _ _ _)).at hs (by (focus ((repeat (first | with_reducible exact Pull.here _ _ | with_reducible apply Pull.both)); done))) ?_); clear hs; intro w hs; (try simp only [emp_mul, mul_assoc'] at hs))) | (go_at_call 49; ((refine ((h5.out _)).at hs (by (focus ((repeat (first | with_reducible exact Pull.here _ _ | with_reducible apply Pull.skip)); done))) ?_); clear hs; intro w hs; (try simp only [emp_mul, mul_assoc'] at hs))) | (go_at_call 50; ((refine ((h6.out _)).at hs (by (with_reducible exact Pull.here _ _)) ?_); clear hs; intro w hs; (try simp only [emp_mul, mul_assoc'] at hs))) | (go_at_call 42; ((refine ((h7.out _)).at hs (by (with_reducible exact Pull.here _ _)) ?_); clear hs; intro w hs; (try simp only [emp_mul, mul_assoc'] at hs))) | (go_at_call 51; ((refine ((h8.out _)).at hs (by (with_reducible exact Pull.here _ _)) ?_); clear hs; intro w hs; (try simp only [emp_mul, mul_assoc'] at hs))) | (go_at_call 40; ((refine ((h9.out _)).at hs (by (with_reducible exact Pull.here _ _)) ?_); clear hs; intro v w hs; (try simp only [emp_mul, mul_assoc'] at hs))) | ((with_reducible apply wl_len0 hs); infer_instance; rfl; (with_reducible exact Pull.here _ _); rfl; (simp only [List.set_cons_succ, List.set_cons_zero])))
      go_roundw
      case rel => exact ⟨1, by omega, rfl, by ((with_reducible apply Sat.fin hs); (focus ((repeat (first | with_reducible exact Pull.last _ | with_reducible exact Pull.here _ _ | with_reducible apply Pull.both | with_reducible apply Pull.skip)); done)))⟩
      case measure => simp [intOf]
    · go_wp2_with (first | ((with_reducible apply wl_alloc hs); infer_instance; rfl; clear hs; intro w b hs; (simp only [List.set_cons_succ, List.set_cons_zero])) | (go_at_call 45; ((refine ((h1.out _)).at hs (by (focus ((repeat (first | with_reducible exact Pull.here _ _ | with_reducible apply Pull.skip)); done))) ?_); clear hs; intro g w hs; (try simp only [emp_mul, mul_assoc'] at hs))) | (go_at_call 46; ((refine ((h2.out _ _ _)).at hs (by (with_reducible exact Pull.here _ _)) ?_); clear hs; intro w hs; (try simp only [emp_mul, mul_assoc'] at hs))) | (go_at_call 47; ((refine ((h3.out _)).at hs (by (focus ((repeat (first | with_reducible exact Pull.here _ _ | with_reducible apply Pull.skip)); done))) ?_); clear hs; intro g w hs; (try simp only [emp_mul, mul_assoc'] at hs))) | (go_at_call 48; ((refine ((h4.out _ _ _)).at hs (by (focus ((repeat (first | with_reducible exact Pull.here _ _ | with_reducible apply Pull.both)); done))) ?_); clear hs; intro w hs; (try simp only [emp_mul, mul_assoc'] at hs))) | (go_at_call 49; ((refine ((h5.out _)).at hs (by (focus ((repeat (first | with_reducible exact Pull.here _ _ | with_reducible apply Pull.skip)); done))) ?_); clear hs; intro w hs; (try simp only [emp_mul, mul_assoc'] at hs))) | (go_at_call 50; ((refine ((h6.out _)).at hs (by (with_reducible exact Pull.here _ _)) ?_); clear hs; intro w hs; (try simp only [emp_mul, mul_assoc'] at hs))) | (go_at_call 42; ((refine ((h7.out _)).at hs (by (with_reducible exact Pull.here _ _)) ?_); clear hs; intro w hs; (try simp only [emp_mul, mul_assoc'] at hs))) | (go_at_call 51; ((refine ((h8.out _)).at hs (by (with_reducible exact Pull.here _ _)) ?_); clear hs; intro w hs; (try simp only [emp_mul, mul_assoc'] at hs))) | (go_at_call 40; ((refine ((h9.out _)).at hs (by (with_reducible exact Pull.here _ _)) ?_); clear hs; intro v w hs; (try simp only [emp_mul, mul_assoc'] at hs))) | ((with_reducible apply wl_len0 hs); infer_instance; rfl; (with_reducible exact Pull.here _ _); rfl; (simp only [List.set_cons_succ, List.set_cons_zero])))
      go_roundw
      case rel => exact ⟨2, by omega, rfl, by ((with_reducible apply Sat.fin hs); (focus ((repeat (first | with_reducible exact Pull.last _ | with_reducible exact Pull.here _ _ | with_reducible apply Pull.both | with_reducible apply Pull.skip)); done)))⟩
      case measure => simp [intOf]
    · have hlt : decide ((2 : Int) < 2) = false := rfl
      go_wp2_with (go_at_call 19; ((refine (hA.out).at hs (by (focus ((repeat (with_reducible exact Pull.none _)); done))) ?_); clear hs; intro w hs; (try simp only [emp_mul, mul_assoc'] at hs)))
      (go_ret)
      exact ⟨rfl, by ((with_reducible apply Sat.fin hs); (focus ((repeat (first | with_reducible exact Pull.last _ | with_reducible exact Pull.none _ | with_reducible apply Pull.both | with_reducible apply Pull.skip)); done)))⟩
end Go.Proofs.YtegafhhdegnigaaGreat
