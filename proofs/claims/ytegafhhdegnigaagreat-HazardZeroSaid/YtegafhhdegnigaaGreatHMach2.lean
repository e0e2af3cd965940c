/-
  The machine: a move.
-/
import Derived.Test.YtegafhhdegnigaaGreatHMach
set_option linter.all false
namespace Go.Proofs.YtegafhhdegnigaaGreat
open Go.RowKit Hp
set_option maxRecDepth 100000
set_option maxHeartbeats 1000000
attribute [local irreducible] Go.Calls

structure Mv where
  thread : Int
  op : Int
  arg : Int
  data : Int
abbrev Mv.v (m : Mv) : Value := .agg #[.int .i64 m.thread, .int .i64 m.op, .int .i64 m.arg, .int .i64 m.data]
abbrev Mv.e (m : Mv) : List Value := [.int .i64 m.thread, .int .i64 m.op, .int .i64 m.arg, .int .i64 m.data]

/-- what a maker leaves -/
def madeR {σ τ : Type} (T : Tasks σ τ) (s : σ) (o : Option τ) (v : Value) : SProp := match o with
  | none => pu (v = .nilIface) * T.X s
  | some k => T.R k v * T.X s
theorem made_none {σ τ : Type} {T : Tasks σ τ} {s : σ} {v : Value} {O w : World} {F : SProp} : Sat O w (madeR T s none v * F) ↔ v = .nilIface ∧ Sat O w (T.X s * F) := by
  unfold madeR; simp only [mul_assoc', sat_pu]
theorem made_some {σ τ : Type} {T : Tasks σ τ} {s : σ} {v : Value} {k : τ} {O w : World} {F : SProp} : Sat O w (madeR T s (some k) v * F) ↔ Sat O w (T.R k v * (T.X s * F)) := by
  unfold madeR; simp only [mul_assoc']

/-- a kit's makers -/
structure KitOk {σ τ : Type} (T : Tasks σ τ) (K : Int → Option Value) (mkr : σ → Nat → Mv → Option τ) (ok : σ → Prop) (n : Nat) : Prop where
  func : ∀ op u, K op = some u → ∃ f a b, u = .func f a b
  make : ∀ op u s t mv, K op = some u → mv.op = op → t < n → mv.thread = (t : Int) → ok s → Dyn Tryz.prog (callValue u #[.int .i64 (t : Int), mv.v]) (T.X s) (fun v => madeR T s (mkr s t mv) v)

def machBegin (m : Mch) (t : Nat) (mv : Mv) (v vc' : Value) : Mch :=
  { m with moves := m.moves + 1, vc := vc', seats := m.seats.set t ⟨v, false, (m.calls.length : Int), 1, 0⟩, calls := m.calls ++ [⟨mv.thread, mv.op, mv.arg, mv.data, m.moves, -1, -1, 0, 0⟩] }

section
variable {σ τ : Type} (T : Tasks σ τ) (bx bm : Nat)
variable (m : Mch) (mv : Mv)

theorem move_limit (hl : 65536 ≤ m.moves) (h0 : 0 < m.seats.length) :
    Gives Tryz.prog 41 #[.pointer (some ⟨bx, 0, none⟩), mv.v] (MchR bx bm m) (.bool false) (MchR bx bm m) := by
  intro O w F hs
  (obtain ⟨vh, call, told, hcur, hs⟩ := mchR.1 hs)
  have h0' : ((m.seats.length : Int) == 0) = false := by simp; intro e; simp [e] at h0
  have h1 : decide (m.moves ≥ 65536) = true := by simpa using hl
  go_enter Tryz.func41, Tryz.ntmps41
  go_wp2_with (first | ((with_reducible apply wl_ld hs); infer_instance; rfl; (focus ((repeat (first | with_reducible exact Pull.here _ _ | with_reducible apply Pull.skip)); done)); rfl; rfl; (simp only [List.set_cons_succ, List.set_cons_zero])) | ((with_reducible apply wl_box hs); rfl; rfl; rfl; clear hs; intro w b hs; (simp only [List.set_cons_succ, List.set_cons_zero])) | ((with_reducible apply wl_len hs); infer_instance; rfl; (focus ((repeat (first | with_reducible exact Pull.here _ _ | with_reducible apply Pull.skip)); done)); rfl; (simp only [List.set_cons_succ, List.set_cons_zero])))
  (go_ret)
  refine ⟨rfl, ?_⟩
  apply mchR_mk hcur
  ((with_reducible apply Sat.fin hs); (focus ((repeat (first | with_reducible exact Pull.last _ | with_reducible exact Pull.here _ _ | with_reducible apply Pull.both | with_reducible apply Pull.skip)); done)))

theorem move_thread (hl : m.moves < 65536) (hm0 : 0 ≤ m.moves) (h0 : 0 < m.seats.length) (ht : mv.thread < 0 ∨ (m.seats.length : Int) ≤ mv.thread) :
    Gives Tryz.prog 41 #[.pointer (some ⟨bx, 0, none⟩), mv.v] (MchR bx bm m) (.bool false) (MchR bx bm { m with moves := m.moves + 1 }) := by
  obtain ⟨v1, v2, v3, v4⟩ := mv
  intro O w F hs
  (obtain ⟨vh, call, told, hcur, hs⟩ := mchR.1 hs)
  have h0' : ((m.seats.length : Int) == 0) = false := by simp; intro e; simp [e] at h0
  have h1 : decide (m.moves ≥ 65536) = false := by simpa using hl
  simp only [] at ht
  by_cases hn : v1 < 0
  · have h2 : decide (v1 < 0) = true := by simpa using hn
    clear ht
    go_enter Tryz.func41, Tryz.ntmps41
    go_wp2_with (first | (first | (first | (with_reducible refine NQ.mk ?_) | ((with_reducible apply pl_neu); rfl; rfl) | (with_reducible refine pl_end ?_)) | ((with_reducible apply wl_ld hs); infer_instance; rfl; (focus ((repeat (first | with_reducible exact Pull.here _ _ | with_reducible apply Pull.skip)); done)); rfl; rfl; (simp only [List.set_cons_succ, List.set_cons_zero])) | ((with_reducible apply wl_st hs); infer_instance; rfl; rfl; (focus ((repeat (first | with_reducible exact Pull.here _ _ | with_reducible apply Pull.skip)); done)); (rfl); (exact Nat.le_of_ble_eq_true rfl); rfl; clear hs; intro w hs; simp only [List.setIfInBounds_toArray, List.set_cons_succ, List.set_cons_zero] at hs) | ((with_reducible apply wl_box hs); rfl; rfl; rfl; clear hs; intro w b hs; (simp only [List.set_cons_succ, List.set_cons_zero])) | ((with_reducible apply wl_len hs); infer_instance; rfl; (focus ((repeat (first | with_reducible exact Pull.here _ _ | with_reducible apply Pull.skip)); done)); rfl; (simp only [List.set_cons_succ, List.set_cons_zero]))) | ((with_reducible refine wp_plan_sat (id := 5) [.neu 0, .neu 1, .neu 2, .neu 3, .neu 4, .neu 5, .neu 6, .neu 7, .neu 8, .neu 9, .neu 10, .neu 11, .neu 12] hs rfl ?_ ?_); kernel_rfl; clear hs; intro w hs))
    (go_ret)
    refine ⟨rfl, ?_⟩
    apply mchR_mk (m := { m with moves := m.moves + 1 }) hcur
    ((with_reducible apply Sat.fin hs); (focus ((repeat (first | with_reducible exact Pull.last _ | with_reducible exact Pull.here _ _ | with_reducible apply Pull.both | with_reducible apply Pull.skip)); done)))
  · have h2 : decide (v1 < 0) = false := by simpa using hn
    have h3 : decide (v1 ≥ (m.seats.length : Int)) = true := by simp; omega
    clear ht
    go_enter Tryz.func41, Tryz.ntmps41
    go_wp2_with (first | (first | (first | (with_reducible refine NQ.mk ?_) | ((with_reducible apply pl_neu); rfl; rfl) | (with_reducible refine pl_end ?_)) | ((with_reducible apply wl_ld hs); infer_instance; rfl; (focus ((repeat (first | with_reducible exact Pull.here _ _ | with_reducible apply Pull.skip)); done)); rfl; rfl; (simp only [List.set_cons_succ, List.set_cons_zero])) | ((with_reducible apply wl_st hs); infer_instance; rfl; rfl; (focus ((repeat (first | with_reducible exact Pull.here _ _ | with_reducible apply Pull.skip)); done)); (rfl); (exact Nat.le_of_ble_eq_true rfl); rfl; clear hs; intro w hs; simp only [List.setIfInBounds_toArray, List.set_cons_succ, List.set_cons_zero] at hs) | ((with_reducible apply wl_box hs); rfl; rfl; rfl; clear hs; intro w b hs; (simp only [List.set_cons_succ, List.set_cons_zero])) | ((with_reducible apply wl_len hs); infer_instance; rfl; (focus ((repeat (first | with_reducible exact Pull.here _ _ | with_reducible apply Pull.skip)); done)); rfl; (simp only [List.set_cons_succ, List.set_cons_zero]))) | ((with_reducible refine wp_plan_sat (id := 5) [.neu 0, .neu 1, .neu 2, .neu 3, .neu 4, .neu 5, .neu 6, .neu 7, .neu 8, .neu 9, .neu 10, .neu 11, .neu 12] hs rfl ?_ ?_); kernel_rfl; clear hs; intro w hs))
    (go_ret)
    refine ⟨rfl, ?_⟩
    apply mchR_mk (m := { m with moves := m.moves + 1 }) hcur
    ((with_reducible apply Sat.fin hs); (focus ((repeat (first | with_reducible exact Pull.last _ | with_reducible exact Pull.here _ _ | with_reducible apply Pull.both | with_reducible apply Pull.skip)); done)))

variable {m} {mv}
/-- a busy thread is told to begin; an idle one to step -/
theorem move_no (hl : m.moves < 65536) (hm0 : 0 ≤ m.moves) {t : Nat} {se : Sea} (ht : mv.thread = (t : Int)) (hse : m.seats[t]? = some se) (h : (mv.op = 0 ∧ se.task = .nilIface) ∨ (mv.op ≠ 0 ∧ ∃ ty x, se.task = .iface ty x)) :
    Gives Tryz.prog 41 #[.pointer (some ⟨bx, 0, none⟩), mv.v] (MchR bx bm m) (.bool false) (MchR bx bm { m with moves := m.moves + 1 }) := by
  obtain ⟨v1, v2, v3, v4⟩ := mv
  obtain ⟨s1, s2, s3, s4, s5⟩ := se
  simp only [] at ht h
  subst ht
  intro O w F hs
  (obtain ⟨vh, call, told, hcur, hs⟩ := mchR.1 hs)
  have lt := (List.getElem?_eq_some_iff.1 hse).1
  have h0' : ((m.seats.length : Int) == 0) = false := by simp; intro e; simp [e] at lt
  have h1 : decide (m.moves ≥ 65536) = false := by simpa using hl
  have h2 : decide ((t : Int) < 0) = false := by simp
  have h3 : decide ((t : Int) ≥ (m.seats.length : Int)) = false := by simp; omega
  rcases h with ⟨rfl, rfl⟩ | ⟨hne, ty, x, rfl⟩
  · go_enter Tryz.func41, Tryz.ntmps41
    go_wp2_with (first | (first | (first | (with_reducible refine NQ.mk ?_) | ((with_reducible apply pl_neu); rfl; rfl) | (with_reducible refine pl_end ?_)) | ((with_reducible apply wl_ld hs); infer_instance; rfl; (focus ((repeat (first | with_reducible exact Pull.here _ _ | with_reducible apply Pull.skip)); done)); rfl; rfl; (simp only [List.set_cons_succ, List.set_cons_zero])) | ((with_reducible apply wl_st hs); infer_instance; rfl; rfl; (focus ((repeat (first | with_reducible exact Pull.here _ _ | with_reducible apply Pull.skip)); done)); (rfl); (exact Nat.le_of_ble_eq_true rfl); rfl; clear hs; intro w hs; simp only [List.setIfInBounds_toArray, List.set_cons_succ, List.set_cons_zero] at hs) | ((with_reducible apply wl_box hs); rfl; rfl; rfl; clear hs; intro w b hs; (simp only [List.set_cons_succ, List.set_cons_zero])) | ((with_reducible apply wl_ldS0 hs); infer_instance; rfl; assumption; (focus ((repeat (first | with_reducible exact Pull.here _ _ | with_reducible apply Pull.skip)); done)); rfl; (exact map_get (by assumption)); rfl; rfl; (simp only [List.set_cons_succ, List.set_cons_zero])) | ((with_reducible apply wl_ia hs); infer_instance; infer_instance; rfl; rfl; (focus ((repeat (first | with_reducible exact Pull.here _ _ | with_reducible apply Pull.skip)); done)); (rfl); (simp only [List.length_map, List.length_set, List.length_append, List.length_cons, List.length_nil, List.length_replicate] at *; omega); rfl; intro b off hat; (simp only [List.set_cons_succ, List.set_cons_zero])) | ((with_reducible apply wl_len hs); infer_instance; rfl; (focus ((repeat (first | with_reducible exact Pull.here _ _ | with_reducible apply Pull.skip)); done)); rfl; (simp only [List.set_cons_succ, List.set_cons_zero]))) | ((with_reducible refine wp_plan_sat (id := 5) [.neu 0, .neu 1, .neu 2, .neu 3, .neu 4, .neu 5, .neu 6, .neu 7, .neu 8, .neu 9, .neu 10, .neu 11, .neu 12] hs rfl ?_ ?_); kernel_rfl; clear hs; intro w hs) | ((with_reducible refine wp_plan_sat (id := 7) [.neu 0, .neu 1, .neu 2, .neu 3, .neu 4, .neu 5, .neu 6, .neu 7] hs rfl ?_ ?_); kernel_rfl; clear hs; intro w hs))
    (go_ret)
    refine ⟨rfl, ?_⟩
    apply mchR_mk (m := { m with moves := m.moves + 1 }) hcur
    ((with_reducible apply Sat.fin hs); (focus ((repeat (first | with_reducible exact Pull.last _ | with_reducible exact Pull.here _ _ | with_reducible apply Pull.both | with_reducible apply Pull.skip)); done)))
  · have h4 : (v2 == 0) = false := by simpa using hne
    have HN := Lib.hid hne; clear hne
    go_enter Tryz.func41, Tryz.ntmps41
    go_wp2_with (first | (first | (first | (with_reducible refine NQ.mk ?_) | ((with_reducible apply pl_neu); rfl; rfl) | (with_reducible refine pl_end ?_)) | ((with_reducible apply wl_ld hs); infer_instance; rfl; (focus ((repeat (first | with_reducible exact Pull.here _ _ | with_reducible apply Pull.skip)); done)); rfl; rfl; (simp only [List.set_cons_succ, List.set_cons_zero])) | ((with_reducible apply wl_st hs); infer_instance; rfl; rfl; (focus ((repeat (first | with_reducible exact Pull.here _ _ | with_reducible apply Pull.skip)); done)); (rfl); (exact Nat.le_of_ble_eq_true rfl); rfl; clear hs; intro w hs; simp only [List.setIfInBounds_toArray, List.set_cons_succ, List.set_cons_zero] at hs) | ((with_reducible apply wl_box hs); rfl; rfl; rfl; clear hs; intro w b hs; (simp only [List.set_cons_succ, List.set_cons_zero])) | ((with_reducible apply wl_ldS0 hs); infer_instance; rfl; assumption; (focus ((repeat (first | with_reducible exact Pull.here _ _ | with_reducible apply Pull.skip)); done)); rfl; (exact map_get (by assumption)); rfl; rfl; (simp only [List.set_cons_succ, List.set_cons_zero])) | ((with_reducible apply wl_ia hs); infer_instance; infer_instance; rfl; rfl; (focus ((repeat (first | with_reducible exact Pull.here _ _ | with_reducible apply Pull.skip)); done)); (rfl); (simp only [List.length_map, List.length_set, List.length_append, List.length_cons, List.length_nil, List.length_replicate] at *; omega); rfl; intro b off hat; (simp only [List.set_cons_succ, List.set_cons_zero])) | ((with_reducible apply wl_len hs); infer_instance; rfl; (focus ((repeat (first | with_reducible exact Pull.here _ _ | with_reducible apply Pull.skip)); done)); rfl; (simp only [List.set_cons_succ, List.set_cons_zero]))) | ((with_reducible refine wp_plan_sat (id := 5) [.neu 0, .neu 1, .neu 2, .neu 3, .neu 4, .neu 5, .neu 6, .neu 7, .neu 8, .neu 9, .neu 10, .neu 11, .neu 12] hs rfl ?_ ?_); kernel_rfl; clear hs; intro w hs) | ((with_reducible refine wp_plan_sat (id := 7) [.neu 0, .neu 1, .neu 2, .neu 3, .neu 4, .neu 5, .neu 6, .neu 7] hs rfl ?_ ?_); kernel_rfl; clear hs; intro w hs))
    (go_ret)
    refine ⟨rfl, ?_⟩
    apply mchR_mk (m := { m with moves := m.moves + 1 }) hcur
    ((with_reducible apply Sat.fin hs); (focus ((repeat (first | with_reducible exact Pull.last _ | with_reducible exact Pull.here _ _ | with_reducible apply Pull.both | with_reducible apply Pull.skip)); done)))
end
end Go.Proofs.YtegafhhdegnigaaGreat
