/-
  From a walk to the row: whatever a law reads, it reads as before, where the walk leaves old memory alone.
-/
import Derived.Test.YtegafhhdegnigaaGreatRows
import Derived.Test.YtegafhhdegnigaaGreatHLaws
import Derived.ProofKit
import Derived.OpenShut
import Derived.Carry
import Derived.Deep.Fields
set_option linter.all false
namespace Go.Proofs.YtegafhhdegnigaaGreat
open Go.ChangeShapes Go.WideShapes Go.ChangeAt Go.RowKit Hp

namespace Hp
/-- all of a world's memory, as one part -/
def full (W : World) : SProp := ⟨fun h => h = fun k => W.heap[k]?⟩
theorem sat_full (W : World) : Sat W W (full W) := ⟨rfl, rfl, rfl, Nat.le_refl _, _, rfl, fun _ _ h => h⟩
theorem below_full {W w' : World} (h : Sat W w' (full W)) : Below W.heap.size W w' := by
  refine ⟨h.os, h.tape, h.output, h.size, fun k hk => ?_⟩
  obtain ⟨x, hx, hh⟩ := h.has
  have hx' : x = fun k => W.heap[k]? := hx
  have := hh k W.heap[k] (by rw [hx']; simp [hk])
  rw [this]; simp [hk]
theorem Gives.below {P : Program} {f : FuncId} {args : Array Value} {v : Value} (h : Gives P f args emp v emp) (W : World) :
    Calls P f args W fun e W' => e = .returned v ∧ Below W.heap.size W W' :=
  (h W W (full W) ((sat_full W).cast (emp_mul _).symm)).mono fun _ _ ⟨he, hs⟩ => ⟨he, below_full (hs.cast (emp_mul _))⟩
end Hp

section
variable {H : Type} {enc : TypeId × Value → H} {P : Program}
theorem all_trod (hl : laidOutB P = true) {W W' : World} (hb : Below W.heap.size W W') : ∀ (ts : List TypeId) (vs : List Value) (ds : List (DataW H)) (ps : List MemPlace), (∀ t ∈ ts, P.readableRec t = true ∧ t < P.types.size) →
    DataW.TrodAll enc P W 0 (fun _ => true) true ts vs ds ps → (∀ x ∈ ps, x.block < W.heap.size) → DataW.TrodAll enc P W' 0 (fun b => decide (b < W.heap.size)) true ts vs ds ps
  | [], vs, ds, ps, _, h, _ => by
    obtain ⟨rfl, rfl, rfl⟩ := trodAll_nil h
    exact trodAll_mk0
  | t :: ts, vs, ds, ps, hr, h, hlt => by
    obtain ⟨v, vs', d, ds', p, q, rfl, rfl, rfl, h0, h1⟩ := trodAll_cons h
    exact trodAll_cons_mk (Below.trod hl (hr t (by simp)).1 (hr t (by simp)).2 h0 hb (fun x hx => hlt x (by simp [hx]))) (all_trod hl hb ts vs' ds' q (fun t' ht => hr t' (by simp [ht])) h1 (fun x hx => hlt x (by simp [hx])))

/-- the row's end: the law has answered true and left old memory alone -/
theorem post_true {f : Func} {s : ChangeSpec} {W W' : World} {args : Array Value} {ds : List (DataW H)} {before : List MemPlace} {t : TypeId} (hl : laidOutB P = true) (hv : s.vars = [])
    (hW : DataW.Whole enc P f.params.toList s.vars false W args.toList ds [] before) (hr : ∀ t ∈ f.params.toList, P.readableRec t = true ∧ t < P.types.size)
    (hb : Below W.heap.size W W') (ht : f.resultTypes = #[t]) (hu : P.underlying t = some .bool)
    (e1 : (s.fn H (ds ++ [])).results = [.lit (.bool true)]) (e2 : (s.fn H (ds ++ [])).args = ds) (e3 : (s.fn H (ds ++ [])).vars = []) :
    s.post enc P f false true false false W args (.bool true) W' := by
  have hlt := fun p hp => hW.lt (p := p) hp
  have hW0 := hW
  obtain ⟨p, q, hA, hV, hpq, _, _⟩ := hW
  rw [hv] at hV
  obtain ⟨_, rfl⟩ := trodVars_none hV
  refine ⟨ds, [], before, [], p, [], hW0, ?_, ?_, ?_, hb.frame _, fun h => by cases h⟩
  · rw [e1, ht]
    exact trodAll_mk1 (shut_bool hu true)
  · rw [e2]
    exact all_trod hl hb _ _ _ _ hr hA (fun x hx => by have := hlt x (by rw [hpq]; simp [hx]); simpa using this)
  · rw [e3, hv]; rfl
end

namespace Hp
section
variable {H : Type} {enc : TypeId × Value → H} {P : Program} {w : World} {base : Nat} {spare : Nat → Bool} {held : Bool}
/-- a struct of seven ints, by value -/
theorem open_int7 {r : Reach} {b0 : Nat} {t e : TypeId} {f0 f1 f2 f3 f4 f5 f6 : Field} {v : Value} {d : DataW H} {p : List MemPlace} (hs : P.underlying t = some (.struct #[f0, f1, f2, f3, f4, f5, f6])) (hone : Deep.oneCellFields P #[f0, f1, f2, f3, f4, f5, f6] = true) (hC : P.cellsOf t = 7)
    (hu : P.underlying e = some (.int .i64)) (e0 : f0.type = e) (e1 : f1.type = e) (e2 : f2.type = e) (e3 : f3.type = e) (e4 : f4.type = e) (e5 : f5.type = e) (e6 : f6.type = e)
    (hv : Value.okWide P w r b0 t v) (h : DataW.Trod enc P w base spare held t v d p) :
    ∃ z0 z1 z2 z3 z4 z5 z6 : Int, v = .agg #[.int .i64 z0, .int .i64 z1, .int .i64 z2, .int .i64 z3, .int .i64 z4, .int .i64 z5, .int .i64 z6] ∧ p = [] ∧ (Lit.int .i64 z0).wf = true ∧ (Lit.int .i64 z1).wf = true ∧ (Lit.int .i64 z2).wf = true ∧ (Lit.int .i64 z3).wf = true ∧ (Lit.int .i64 z4).wf = true ∧ (Lit.int .i64 z5).wf = true ∧ (Lit.int .i64 z6).wf = true := by
  obtain ⟨cs, rfl, hsz⟩ := okWide_struct hs hv
  obtain ⟨l⟩ := cs
  match l, hsz.trans hC with
  | [c0, c1, c2, c3, c4, c5, c6], _ =>
    obtain ⟨fuel, hf⟩ := h
    obtain ⟨xs, n, _, hx, _, hlen, hg⟩ := DataW.trod_struct hs hf
    obtain ⟨o0, k0⟩ := Deep.hone_of hone 0 f0 rfl
    obtain ⟨o1, k1⟩ := Deep.hone_of hone 1 f1 rfl
    obtain ⟨o2, k2⟩ := Deep.hone_of hone 2 f2 rfl
    obtain ⟨o3, k3⟩ := Deep.hone_of hone 3 f3 rfl
    obtain ⟨o4, k4⟩ := Deep.hone_of hone 4 f4 rfl
    obtain ⟨o5, k5⟩ := Deep.hone_of hone 5 f5 rfl
    obtain ⟨o6, k6⟩ := Deep.hone_of hone 6 f6 rfl
    match xs, hlen with
    | [y0, y1, y2, y3, y4, y5, y6], _ =>
      have h0 : DataW.trod enc P w base spare held n f0.type [c0] = some y0 := by simpa [Value.cells, o0, k0] using hg 0 f0 rfl
      rw [e0] at h0
      obtain ⟨z0, g0, q0, w0⟩ := DataW.trod_int hu h0
      have h1 : DataW.trod enc P w base spare held n f1.type [c1] = some y1 := by simpa [Value.cells, o1, k1] using hg 1 f1 rfl
      rw [e1] at h1
      obtain ⟨z1, g1, q1, w1⟩ := DataW.trod_int hu h1
      have h2 : DataW.trod enc P w base spare held n f2.type [c2] = some y2 := by simpa [Value.cells, o2, k2] using hg 2 f2 rfl
      rw [e2] at h2
      obtain ⟨z2, g2, q2, w2⟩ := DataW.trod_int hu h2
      have h3 : DataW.trod enc P w base spare held n f3.type [c3] = some y3 := by simpa [Value.cells, o3, k3] using hg 3 f3 rfl
      rw [e3] at h3
      obtain ⟨z3, g3, q3, w3⟩ := DataW.trod_int hu h3
      have h4 : DataW.trod enc P w base spare held n f4.type [c4] = some y4 := by simpa [Value.cells, o4, k4] using hg 4 f4 rfl
      rw [e4] at h4
      obtain ⟨z4, g4, q4, w4⟩ := DataW.trod_int hu h4
      have h5 : DataW.trod enc P w base spare held n f5.type [c5] = some y5 := by simpa [Value.cells, o5, k5] using hg 5 f5 rfl
      rw [e5] at h5
      obtain ⟨z5, g5, q5, w5⟩ := DataW.trod_int hu h5
      have h6 : DataW.trod enc P w base spare held n f6.type [c6] = some y6 := by simpa [Value.cells, o6, k6] using hg 6 f6 rfl
      rw [e6] at h6
      obtain ⟨z6, g6, q6, w6⟩ := DataW.trod_int hu h6
      simp only [List.cons.injEq, and_true] at g0 g1 g2 g3 g4 g5 g6
      subst g0 g1 g2 g3 g4 g5 g6
      simp only [Prod.mk.injEq] at hx
      refine ⟨z0, z1, z2, z3, z4, z5, z6, rfl, ?_, w0, w1, w2, w3, w4, w5, w6⟩
      rw [hx.2]
      simp [q0, q1, q2, q3, q4, q5, q6]
end
end Hp
end Go.Proofs.YtegafhhdegnigaaGreat
