/-
  Calls of function values and through interfaces, by contract.
-/
import Derived.Test.YtegafhhdegnigaaGreatHLaws
set_option linter.all false
namespace Go.Proofs.YtegafhhdegnigaaGreat
open Go.RowKit
namespace Hp

/-- the step 's' enters a function that does this -/
def Dyn (P : Program) (s : Sem Next) (A : SProp) (B : Value → SProp) : Prop :=
  ∀ O w F, Sat O w (A * F) → ∃ f args, s.run P w = .ok (.enter f args) w ∧ Calls P f args w fun e w' => ∃ v, e = .returned v ∧ Sat O w' (B v * F)
def callValue (u : Value) (args : Array Value) : Sem Next := do
  let d ← Deferred.ofValue u args
  invoke d.target d.args

section
variable {P : Program} {ops : Array Oper} {Q : Exit → Act → World → Prop} {w : World} {rest : List Oper} {O : World} {S A R : SProp} {B : Value → SProp}
variable {l : List Value} {ds : List Deferred} {ty : TypeId} {pos : String} {after : Array Edge} {gd : Option (Nat × Bool)} {d : Nat} {x y z : Operand} {u v zv : Value} {ts : Array TypeId} {name : String}

theorem wl_enter {o : Oper} {f : FuncId} {args : Array Value} (hg : Region.wanted o (yielded ops l.toArray) = true) (hd : o.dst = some d) (hr : (execOp (Act.mk l.toArray ds).eval o).run P w = .ok (.enter f args) w)
    (k : Calls P f args w fun e w' => ∃ v, e = .returned v ∧ wpList P ops Q rest ⟨(l.set d v).toArray, ds⟩ w') : wpList P ops Q (o :: rest) ⟨l.toArray, ds⟩ w := by
  unfold wpList; rw [if_pos hg]; left
  unfold Oper.wp; rw [hr]
  simp only [Oper.upon]
  refine k.mono ?_
  rintro e w' ⟨v, rfl, h⟩
  show wpList P ops Q rest _ _
  rw [hd, put_set]
  exact h

theorem wl_inv1 (hs : Sat O w S) (hx : ev l x = some u) (hy : ev l y = some v) (H : Dyn P (callMethod u name #[v]) A B) (hp : Pull S A R)
    (hg : Region.wanted { dst := some d, op := .call { callee := .invoke x name, args := #[y], argTypes := ts }, type := ty, pos, after, guard := gd } (yielded ops l.toArray) = true)
    (k : ∀ v w', Sat O w' (B v * R) → wpList P ops Q rest ⟨(l.set d v).toArray, ds⟩ w') :
    wpList P ops Q ({ dst := some d, op := .call { callee := .invoke x name, args := #[y], argTypes := ts }, type := ty, pos, after, guard := gd } :: rest) ⟨l.toArray, ds⟩ w := by
  obtain ⟨f, args, hr, hC⟩ := H O w R (hs.pull hp)
  refine wl_enter hg rfl ?_ (hC.mono fun e w' ⟨v, he, h⟩ => ⟨v, he, k v w' h⟩)
  simp only [execOp, resolve, invoke, ev_eval hx, ev_eval hy, Sem.run_bind, Sem.run_pure, Result.andThen_ok, List.map_toArray, List.map_cons, List.map_nil]
  exact hr

theorem wl_val2 (hs : Sat O w S) (hf : ev l x = some u) (hy : ev l y = some v) (hz : ev l z = some zv) (H : Dyn P (callValue u #[v, zv]) A B) (hp : Pull S A R)
    (hg : Region.wanted { dst := some d, op := .call { callee := .value x, args := #[y, z], argTypes := ts }, type := ty, pos, after, guard := gd } (yielded ops l.toArray) = true)
    (k : ∀ v w', Sat O w' (B v * R) → wpList P ops Q rest ⟨(l.set d v).toArray, ds⟩ w') :
    wpList P ops Q ({ dst := some d, op := .call { callee := .value x, args := #[y, z], argTypes := ts }, type := ty, pos, after, guard := gd } :: rest) ⟨l.toArray, ds⟩ w := by
  obtain ⟨f, args, hr, hC⟩ := H O w R (hs.pull hp)
  refine wl_enter hg rfl ?_ (hC.mono fun e w' ⟨v, he, h⟩ => ⟨v, he, k v w' h⟩)
  have e : (execOp (Act.mk l.toArray ds).eval { dst := some d, op := .call { callee := .value x, args := #[y, z], argTypes := ts }, type := ty, pos, after, guard := gd }) = callValue u #[v, zv] := by
    simp [execOp, resolve, callValue, ev_eval hf, ev_eval hy, ev_eval hz]
  rw [e]; exact hr
theorem wl_val1 (hs : Sat O w S) (hf : ev l x = some u) (hy : ev l y = some v) (H : Dyn P (callValue u #[v]) A B) (hp : Pull S A R)
    (hg : Region.wanted { dst := some d, op := .call { callee := .value x, args := #[y], argTypes := ts }, type := ty, pos, after, guard := gd } (yielded ops l.toArray) = true)
    (k : ∀ v w', Sat O w' (B v * R) → wpList P ops Q rest ⟨(l.set d v).toArray, ds⟩ w') :
    wpList P ops Q ({ dst := some d, op := .call { callee := .value x, args := #[y], argTypes := ts }, type := ty, pos, after, guard := gd } :: rest) ⟨l.toArray, ds⟩ w := by
  obtain ⟨f, args, hr, hC⟩ := H O w R (hs.pull hp)
  refine wl_enter hg rfl ?_ (hC.mono fun e w' ⟨v, he, h⟩ => ⟨v, he, k v w' h⟩)
  have e : (execOp (Act.mk l.toArray ds).eval { dst := some d, op := .call { callee := .value x, args := #[y], argTypes := ts }, type := ty, pos, after, guard := gd }) = callValue u #[v] := by
    simp [execOp, resolve, callValue, ev_eval hf, ev_eval hy]
  rw [e]; exact hr

theorem Gives.dyn {f : FuncId} {args : Array Value} {s : Sem Next} {B' : SProp} (h : Gives P f args A v B') (hr : ∀ w, s.run P w = .ok (.enter f args) w) : Dyn P s A (fun u => pu (u = v) * B') := by
  intro O w F hs
  refine ⟨f, args, hr w, (h O w F hs).mono fun e w' ⟨he, hs'⟩ => ⟨v, he, ?_⟩⟩
  rw [mul_assoc']
  exact sat_pu.2 ⟨rfl, hs'⟩
theorem Does.dyn {f : FuncId} {args : Array Value} {s : Sem Next} (h : Does P f args A B) (hr : ∀ w, s.run P w = .ok (.enter f args) w) : Dyn P s A B := by
  intro O w F hs
  exact ⟨f, args, hr w, h O w F hs⟩
end
end Hp
end Go.Proofs.YtegafhhdegnigaaGreat
