/-
  A small separation logic over the walk of the guide: partial heaps, their conjunction, and what holds of a world of which only some blocks are known.
-/
import Derived.WalkKit
import Derived.WalkSpells
import Derived.WalkMore
import Derived.Lib.Hide
import Derived.Deep.Draws
namespace Go.Proofs.Ytbkefjpjbijkfaa
open Go.RowKit
namespace Hp

/-! ### Heaps and assertions -/
abbrev PH := Nat → Option Obj
structure SProp where
  on : PH → Prop

theorem SProp.ext' {p q : SProp} (h : ∀ x, p.on x ↔ q.on x) : p = q := by
  cases p; cases q; congr; funext x; exact propext (h x)

def dis (a b : PH) : Prop := ∀ k, a k = none ∨ b k = none
def un (a b : PH) : PH := fun k => (a k).or (b k)
def emp : SProp := ⟨fun h => h = fun _ => none⟩
def pt (b : Nat) (o : Obj) : SProp := ⟨fun h => h = fun k => if k = b then some o else none⟩
def sep (p q : SProp) : SProp := ⟨fun h => ∃ a b, dis a b ∧ h = un a b ∧ p.on a ∧ q.on b⟩
def ex {α : Type} (f : α → SProp) : SProp := ⟨fun h => ∃ x, (f x).on h⟩
def pu (p : Prop) : SProp := ⟨fun h => p ∧ h = fun _ => none⟩
def orS (p q : SProp) : SProp := ⟨fun h => p.on h ∨ q.on h⟩
instance : Mul SProp := ⟨sep⟩

theorem mul_on (p q : SProp) (h : PH) : (p * q).on h ↔ ∃ a b, dis a b ∧ h = un a b ∧ p.on a ∧ q.on b := Iff.rfl

theorem dis_symm {a b : PH} (h : dis a b) : dis b a := fun k => (h k).symm
theorem un_comm {a b : PH} (h : dis a b) : un a b = un b a := by
  funext k; unfold un
  rcases h k with h | h <;> simp [h]
theorem un_assoc (a b c : PH) : un (un a b) c = un a (un b c) := by
  funext k; unfold un; cases a k <;> rfl
theorem dis_un {a b c : PH} : dis (un a b) c ↔ dis a c ∧ dis b c := by
  unfold dis un
  constructor
  · intro h
    constructor
    · intro k; rcases h k with h | h
      · left; revert h; cases a k <;> simp
      · right; exact h
    · intro k; rcases h k with h | h
      · left; revert h; cases a k <;> simp
      · right; exact h
  · rintro ⟨h1, h2⟩ k
    rcases h1 k with e1 | e1
    · rcases h2 k with e2 | e2
      · left; simp [e1, e2]
      · right; exact e2
    · right; exact e1

theorem mul_comm' (p q : SProp) : p * q = q * p := by
  apply SProp.ext'; intro h; simp only [mul_on]
  constructor <;> (rintro ⟨a, b, d, e, x, y⟩; exact ⟨b, a, dis_symm d, by rw [e, un_comm d], y, x⟩)

theorem mul_assoc' (p q r : SProp) : p * q * r = p * (q * r) := by
  apply SProp.ext'; intro h; simp only [mul_on]
  constructor
  · rintro ⟨ab, c, d, e, ⟨a, b, d1, e1, x, y⟩, z⟩
    subst e1; obtain ⟨dac, dbc⟩ := dis_un.1 d
    exact ⟨a, un b c, dis_symm (dis_un.2 ⟨dis_symm d1, dis_symm dac⟩), by rw [e, un_assoc], x, b, c, dbc, rfl, y, z⟩
  · rintro ⟨a, bc, d, e, x, b, c, d1, e1, y, z⟩
    subst e1
    obtain ⟨dba, dca⟩ := dis_un.1 (dis_symm d)
    exact ⟨un a b, c, dis_un.2 ⟨dis_symm dca, d1⟩, by rw [e, un_assoc], ⟨a, b, dis_symm dba, rfl, x, y⟩, z⟩

instance : Std.Associative (α := SProp) (· * ·) := ⟨mul_assoc'⟩
instance : Std.Commutative (α := SProp) (· * ·) := ⟨mul_comm'⟩

theorem emp_mul (p : SProp) : emp * p = p := by
  apply SProp.ext'; intro h; simp only [mul_on]
  constructor
  · rintro ⟨a, b, _, e, x, y⟩
    have : a = fun _ => none := x
    subst this
    have : h = b := by rw [e]; funext k; rfl
    rwa [this]
  · intro hp; exact ⟨fun _ => none, h, fun _ => .inl rfl, by funext k; rfl, rfl, hp⟩
theorem mul_emp (p : SProp) : p * emp = p := by rw [mul_comm', emp_mul]

theorem mul_left (p q r : SProp) : p * (q * r) = q * (p * r) := by
  rw [← mul_assoc', mul_comm' p q, mul_assoc']

theorem ex_mul {α : Type} (f : α → SProp) (r : SProp) : ex f * r = ex fun x => f x * r := by
  apply SProp.ext'; intro h; simp only [mul_on, ex]
  constructor
  · rintro ⟨a, b, d, e, ⟨x, hx⟩, y⟩; exact ⟨x, a, b, d, e, hx, y⟩
  · rintro ⟨x, a, b, d, e, hx, y⟩; exact ⟨a, b, d, e, ⟨x, hx⟩, y⟩

theorem or_mul (p q r : SProp) : orS p q * r = orS (p * r) (q * r) := by
  apply SProp.ext'; intro h; simp only [mul_on, orS]
  constructor
  · rintro ⟨a, b, d, e, x | x, y⟩
    · exact .inl ⟨a, b, d, e, x, y⟩
    · exact .inr ⟨a, b, d, e, x, y⟩
  · rintro (⟨a, b, d, e, x, y⟩ | ⟨a, b, d, e, x, y⟩)
    · exact ⟨a, b, d, e, .inl x, y⟩
    · exact ⟨a, b, d, e, .inr x, y⟩

theorem pu_mul_on {p : Prop} {r : SProp} {h : PH} : (pu p * r).on h ↔ p ∧ r.on h := by
  constructor
  · rintro ⟨a, b, _, e, ⟨hp, x⟩, y⟩
    refine ⟨hp, ?_⟩
    have : h = b := by rw [e, x]; funext k; rfl
    rwa [this]
  · rintro ⟨hp, y⟩; exact ⟨fun _ => none, h, fun _ => .inl rfl, by funext k; rfl, ⟨hp, rfl⟩, y⟩

theorem pu_true {p : Prop} (h : p) (r : SProp) : pu p * r = r := by
  apply SProp.ext'; intro x; rw [pu_mul_on]; exact ⟨fun y => y.2, fun y => ⟨h, y⟩⟩

/-! ### What is known of a world -/
structure Sat (O w : World) (p : SProp) : Prop where
  os : w.os = O.os
  tape : w.tape = O.tape
  output : w.output = O.output
  size : O.heap.size ≤ w.heap.size
  has : ∃ h : PH, p.on h ∧ ∀ k o, h k = some o → w.heap[k]? = some o

variable {O w w' : World} {p q r : SProp}

theorem Sat.imp (hs : Sat O w p) (h : ∀ x, p.on x → q.on x) : Sat O w q :=
  ⟨hs.os, hs.tape, hs.output, hs.size, let ⟨x, hx, hh⟩ := hs.has; ⟨x, h x hx, hh⟩⟩
theorem Sat.cast (hs : Sat O w p) (h : p = q) : Sat O w q := h ▸ hs
theorem Sat.left (hs : Sat O w (p * q)) : Sat O w p := by
  refine ⟨hs.os, hs.tape, hs.output, hs.size, ?_⟩
  obtain ⟨h, ⟨a, b, d, e, x, y⟩, hh⟩ := hs.has
  refine ⟨a, x, fun k o hk => hh k o ?_⟩
  rw [e]; unfold un; rw [hk]; rfl
theorem Sat.right (hs : Sat O w (p * q)) : Sat O w q := (hs.cast (mul_comm' p q)).left

theorem sat_ex {α : Type} {f : α → SProp} : Sat O w (ex f * r) ↔ ∃ x, Sat O w (f x * r) := by
  rw [ex_mul]
  constructor
  · rintro ⟨h1, h2, h3, h4, x, ⟨y, hy⟩, hh⟩; exact ⟨y, h1, h2, h3, h4, x, hy, hh⟩
  · rintro ⟨y, h1, h2, h3, h4, x, hy, hh⟩; exact ⟨h1, h2, h3, h4, x, ⟨y, hy⟩, hh⟩
theorem sat_or : Sat O w (orS p q * r) ↔ Sat O w (p * r) ∨ Sat O w (q * r) := by
  rw [or_mul]
  constructor
  · rintro ⟨h1, h2, h3, h4, x, hy | hy, hh⟩
    · exact .inl ⟨h1, h2, h3, h4, x, hy, hh⟩
    · exact .inr ⟨h1, h2, h3, h4, x, hy, hh⟩
  · rintro (⟨h1, h2, h3, h4, x, hy, hh⟩ | ⟨h1, h2, h3, h4, x, hy, hh⟩)
    · exact ⟨h1, h2, h3, h4, x, .inl hy, hh⟩
    · exact ⟨h1, h2, h3, h4, x, .inr hy, hh⟩
theorem sat_pu {P : Prop} : Sat O w (pu P * r) ↔ P ∧ Sat O w r := by
  constructor
  · rintro ⟨h1, h2, h3, h4, x, hx, hh⟩
    rw [pu_mul_on] at hx; exact ⟨hx.1, h1, h2, h3, h4, x, hx.2, hh⟩
  · rintro ⟨hp, h1, h2, h3, h4, x, hx, hh⟩
    exact ⟨h1, h2, h3, h4, x, pu_mul_on.2 ⟨hp, hx⟩, hh⟩

theorem Sat.block {b : Nat} {o : Obj} (hs : Sat O w (pt b o * r)) : w.heap[b]? = some o := by
  obtain ⟨h, ⟨a, c, _, e, x, _⟩, hh⟩ := hs.has
  have hx : a = fun k => if k = b then some o else none := x
  exact hh b o (by rw [e, hx]; simp [un])
theorem Sat.lt {b : Nat} {o : Obj} (hs : Sat O w (pt b o * r)) : b < w.heap.size := by
  have := hs.block
  exact (Array.getElem?_eq_some_iff.1 this).1

/-- one block turns -/
theorem Sat.turn {b : Nat} {o o' : Obj} (hs : Sat O w (pt b o * r)) (ho : w'.os = w.os) (ht : w'.tape = w.tape) (hp : w'.output = w.output) (hz : w.heap.size ≤ w'.heap.size)
    (hb : w'.heap[b]? = some o') (hn : ∀ k, k ≠ b → k < w.heap.size → w'.heap[k]? = w.heap[k]?) : Sat O w' (pt b o' * r) := by
  refine ⟨ho.trans hs.os, ht.trans hs.tape, hp.trans hs.output, Nat.le_trans hs.size hz, ?_⟩
  obtain ⟨h, ⟨a, c, d, e, x, y⟩, hh⟩ := hs.has
  have hx : a = fun k => if k = b then some o else none := x
  subst hx
  refine ⟨un (fun k => if k = b then some o' else none) c, ⟨_, c, ?_, rfl, rfl, y⟩, ?_⟩
  · intro k
    rcases d k with h1 | h1
    · left; revert h1; by_cases hk : k = b <;> simp [hk]
    · exact .inr h1
  · intro k u hk
    by_cases hkb : k = b
    · subst hkb; simp [un] at hk; rw [hb, hk]
    · have hk' : c k = some u := by simpa [un, hkb] using hk
      have hw := hh k u (by rw [e]; simpa [un, hkb] using hk')
      rw [hn k hkb (Array.getElem?_eq_some_iff.1 hw).1, hw]

/-- a new block -/
theorem Sat.fresh {b : Nat} {o : Obj} (hs : Sat O w r) (ho : w'.os = w.os) (ht : w'.tape = w.tape) (hp : w'.output = w.output) (hb : w.heap.size ≤ b) (hz : w.heap.size ≤ w'.heap.size)
    (hn : w'.heap[b]? = some o) (hk : ∀ k, k < w.heap.size → w'.heap[k]? = w.heap[k]?) : Sat O w' (pt b o * r) := by
  refine ⟨ho.trans hs.os, ht.trans hs.tape, hp.trans hs.output, Nat.le_trans hs.size hz, ?_⟩
  obtain ⟨h, x, hh⟩ := hs.has
  have hlt : ∀ k u, h k = some u → k < w.heap.size := fun k u hu => (Array.getElem?_eq_some_iff.1 (hh k u hu)).1
  refine ⟨un (fun k => if k = b then some o else none) h, ⟨_, h, ?_, rfl, rfl, x⟩, ?_⟩
  · intro k
    by_cases hkb : k = b
    · right
      subst hkb
      cases hc : h k with
      | none => rfl
      | some u => have := hlt k u hc; omega
    · left; simp [hkb]
  · intro k u hu
    by_cases hkb : k = b
    · subst hkb; simp [un] at hu; rw [hn, hu]
    · have hu' : h k = some u := by simpa [un, hkb] using hu
      rw [hk k (hlt k u hu'), hh k u hu']

/-- nothing turns -/
theorem Sat.same (hs : Sat O w r) (ho : w'.os = w.os) (ht : w'.tape = w.tape) (hp : w'.output = w.output) (hz : w.heap.size ≤ w'.heap.size)
    (hk : ∀ k, k < w.heap.size → w'.heap[k]? = w.heap[k]?) : Sat O w' r := by
  refine ⟨ho.trans hs.os, ht.trans hs.tape, hp.trans hs.output, Nat.le_trans hs.size hz, ?_⟩
  obtain ⟨h, x, hh⟩ := hs.has
  exact ⟨h, x, fun k u hu => by rw [hk k (Array.getElem?_eq_some_iff.1 (hh k u hu)).1, hh k u hu]⟩

theorem Sat.drew (hs : Sat O w r) : Sat O w.drew r := ⟨hs.os, hs.tape, hs.output, hs.size, hs.has⟩
theorem Sat.alloc (hs : Sat O w r) (o : Obj) : Sat O (w.alloc o) (pt w.heap.size o * r) :=
  hs.fresh rfl rfl rfl (Nat.le_refl _) (by simp) (heap_alloc_new w o) (fun k hk => Below.heap_alloc w o k hk)
theorem Sat.setRow {b : Nat} {cs cs' : Array Value} {E : TypeId} (hs : Sat O w (pt b (.cells cs E) * r)) : Sat O (w.setRow b cs') (pt b (.cells cs' E) * r) := by
  have hb := hs.block
  refine hs.turn rfl rfl rfl (by simp) (setRow_heap w b cs cs' E (0, 0) hb) ?_
  intro k hk _
  simp only [World.setRow, Array.getElem?_modify]
  rw [if_neg (fun e => hk e.symm)]

/-! ### Taking one part out -/
def Pull (S A R : SProp) : Prop := S = A * R
theorem Pull.here (A R : SProp) : Pull (A * R) A R := rfl
theorem Pull.last (A : SProp) : Pull A A emp := (mul_emp A).symm
theorem Pull.skip {S A R : SProp} (B : SProp) (h : Pull S A R) : Pull (B * S) A (B * R) := by
  unfold Pull at *; rw [h, mul_left]
theorem Pull.none (S : SProp) : Pull S emp S := (emp_mul S).symm
theorem Pull.both {S A B R R' : SProp} (h : Pull S A R) (k : Pull R B R') : Pull S (A * B) R' := by
  unfold Pull at *; rw [h, k, mul_assoc']
theorem Sat.pull {S A R : SProp} (hs : Sat O w S) (h : Pull S A R) : Sat O w (A * R) := hs.cast h

end Hp
end Go.Proofs.Ytbkefjpjbijkfaa
