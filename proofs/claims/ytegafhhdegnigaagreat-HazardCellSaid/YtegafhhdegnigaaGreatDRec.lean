/-
  Who holds which record, counted from the calls that began and ended.
-/
import Derived.Test.YtegafhhdegnigaaGreatDOpen
set_option linter.all false
namespace Go.Proofs.YtegafhhdegnigaaGreat
open Go.RowKit Hp
set_option maxRecDepth 100000
set_option maxHeartbeats 1000000
attribute [local irreducible] Go.Calls
abbrev RS := List Int × List Int
def rcNext (mv : Int) (s : RS) (x : Cll) : RS :=
 if x.end_ = mv then
  if x.op = 20 then (if x.kind = 4 then s else (s.1.set x.value.toNat x.thread,s.2.set x.thread.toNat x.value))
  else if x.op = 21 then (s.1.set (s.2.getD x.thread.toNat 0).toNat (-1),s.2.set x.thread.toNat (-1))
  else s
 else s
structure RcOk (c : Cfg) (mv : Int) (s : RS) (x : Cll) : Prop where
 beg : x.begin_ = mv → (x.op = 20 ↔ s.2.getD x.thread.toNat 0 < 0)
 reg : x.end_ = mv → x.op = 20 → x.kind ≠ 4 → x.kind = 2 ∧ (0 ≤ x.value ∧ x.value < c.R) ∧ s.1.getD x.value.toNat 0 < 0
 unr : x.end_ = mv → x.op = 21 → 0 ≤ s.2.getD x.thread.toNat 0 ∧ s.2.getD x.thread.toNat 0 < c.R
def rcFold (mv : Int) (cs : List Cll) (s : RS) : RS := cs.foldl (rcNext mv) s
def rcS (c : Cfg) (cs : List Cll) : Nat → RS
 | 0 => (List.replicate c.R.toNat (-1),List.replicate c.T.toNat (-1))
 | n + 1 => rcFold n cs (rcS c cs n)
theorem rcNext_ne {mv : Int} {s : RS} {x : Cll} (h : x.end_ ≠ mv) : rcNext mv s x = s := by unfold rcNext;rw [if_neg h]
theorem rcFold_none {mv : Int} : ∀ {cs : List Cll} {s : RS},(∀ x ∈ cs,x.end_ ≠ mv) → rcFold mv cs s = s
 | [],_,_ => rfl
 | x :: r,s,h => by
  show rcFold mv r (rcNext mv s x) = s
  rw [rcNext_ne (h x (List.mem_cons_self ..))]
  exact rcFold_none fun z hz => h z (List.mem_cons_of_mem _ hz)
structure HeldTo (c : Cfg) (t : Nat) (h h' : Haz) (m : Mch) (m' : Mch) (ended : Bool) (k : HTask) : Prop where
 oth : kd k ≠ 20 → kd k ≠ 21 → h'.held = h.held
 on : ended = false → h'.held = h.held
 unr : kd k = 21 → ended = true → h'.held = h.held.set t (-1)
 reg : kd k = 20 → ended = true → (h'.held = h.held ∧ (getS m' t).kind = 4) ∨ ∃ r : Int,(0 ≤ r ∧ r < c.R) ∧ m.word (adr c 8 r) = 0 ∧ h'.held = h.held.set t r ∧ (getS m' t).kind = 2 ∧ (getS m' t).value = r
theorem kit_op {h : Haz} {a : Are} {t : Nat} {mv : Mv} {k : HTask} (hk : kitTask (h,a) t mv = some k) (ho : 20 ≤ mv.op ∧ mv.op ≤ 25) : mv.op = kd k ∧ (mv.op = 20 ↔ h.held.getD t 0 < 0) := by
 unfold kitTask at hk
 simp only [] at hk
 repeat' (split at hk)
 all_goals first|(cases hk;done)|(cases hk;simp only [kd];omega)
structure RcJ (c : Cfg) (n : Nat) (y : HW) : Prop where
 ok : ∀ mv : Nat,mv < n → ∀ x ∈ y.m.calls,RcOk c mv (rcS c y.m.calls mv) x
 held : (rcS c y.m.calls n).2 = y.s.1.held
 hl : (rcS c y.m.calls n).1.length = c.R.toNat
 hold : ∀ (t : Nat) (r : Int),y.s.1.held[t]? = some r → 0 ≤ r → (rcS c y.m.calls n).1[r.toNat]? = some (t : Int)
 free : ∀ r : Int,0 ≤ r → r < c.R → (∀ t : Nat,y.s.1.held[t]? ≠ some r) → (rcS c y.m.calls n).1.getD r.toNat 0 = -1
 op : ∀ (t i : Nat) (k : HTask) (se : Sea) (cl : Cll),y.tasks[t]? = some (some k) → y.m.seats[t]? = some se → se.last = (i : Int) → y.m.calls[i]? = some cl → cl.op = kd k
section
variable {c : Cfg} {n : Nat} {y y' : HW}
theorem RcJ.next (J : RcJ c n y) (hS : ∀ mv : Nat,mv ≤ n → rcS c y'.m.calls mv = rcS c y.m.calls mv) (hok : ∀ mv : Nat,mv ≤ n → ∀ x ∈ y'.m.calls,RcOk c mv (rcS c y.m.calls mv) x)
  (hne : ∀ x ∈ y'.m.calls,x.end_ ≠ n) (hh : y'.s.1.held = y.s.1.held)
  (hop : ∀ (t i : Nat) (k : HTask) (se : Sea) (cl : Cll),y'.tasks[t]? = some (some k) → y'.m.seats[t]? = some se → se.last = (i : Int) → y'.m.calls[i]? = some cl → cl.op = kd k) : RcJ c (n + 1) y' := by
 have e : rcS c y'.m.calls (n + 1) = rcS c y.m.calls n := by
  simp only [rcS]
  rw [hS n (Nat.le_refl _)]
  exact rcFold_none hne
 refine ⟨fun mv hm x hx => ?_,?_,?_,?_,?_,hop⟩
 ·rw [hS mv (by omega)];exact hok mv (by omega) x hx
 ·rw [e,hh];exact J.held
 ·rw [e];exact J.hl
 ·rw [e,hh];exact J.hold
 ·rw [e,hh];exact J.free
end
end Go.Proofs.YtegafhhdegnigaaGreat
