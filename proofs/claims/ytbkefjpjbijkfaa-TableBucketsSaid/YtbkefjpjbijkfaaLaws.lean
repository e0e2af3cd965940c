/-
  Laws of the walk over what is known of a world: loads, stores, new blocks, append, calls by contract.
-/
import Derived.Test.YtbkefjpjbijkfaaSep
import Derived.Laws.AppendOwn
import Derived.Laws.MakeOwn
namespace Go.Proofs.Ytbkefjpjbijkfaa
open Go.RowKit
namespace Hp

/-! ### Types -/
def aggOf (P : Program) (T : TypeId) : Option Bool := (P.underlying T).map fun
  | .struct _ | .array _ _ => true
  | _ => false
class OneC (P : Program) (T : TypeId) : Prop where
  agg : aggOf P T = some false
  size : (P.info? T).map (·.size) = some 1
class AggC (P : Program) (T : TypeId) (n : outParam Nat) : Prop where
  agg : aggOf P T = some true
  size : (P.info? T).map (·.size) = some n
class ZeroC (P : Program) (T : TypeId) (z : outParam (Array Value)) : Prop where
  zero : (P.info? T).bind (fun i => i.zero.map (·.cells)) = some z
class ElC (P : Program) (E : TypeId) (sz : outParam Nat) (by_ : outParam Nat) : Prop where
  info : (P.info? E).map (fun i => (i.size, i.bytes)) = some (sz, by_)
  zero : ((P.info? E).bind (·.zero)).map (·.cells.size) = some sz
  pos : 0 < sz
class ArrC (P : Program) (T : TypeId) (len : outParam Nat) (E : outParam TypeId) : Prop where
  is : P.underlying T = some (.array len E)
class SlcC (P : Program) (T : TypeId) (E : outParam TypeId) : Prop where
  is : P.underlying T = some (.slice E)

section
variable {P : Program} {O w w' : World}

theorem run_isAgg {T : TypeId} {b : Bool} (h : aggOf P T = some b) (w : World) : (isAgg T).run P w = .ok b w := by
  unfold aggOf at h
  cases hu : P.underlying T with
  | none => simp [hu] at h
  | some d =>
    simp [hu] at h
    unfold isAgg
    simp only [Sem.run_bind, run_underlying hu, Result.andThen_ok]
    cases d <;> simp_all
theorem run_sizeOf {T : TypeId} {n : Nat} (h : (P.info? T).map (·.size) = some n) (w : World) : (sizeOf T).run P w = .ok n w := by
  cases hi : P.info? T with
  | none => simp [hi] at h
  | some i =>
    simp [hi] at h
    simp [sizeOf, typeInfo, hi, h]
theorem run_loadVar_one {T : TypeId} [h : OneC P T] {a : Addr} {v : Value} (hc : w.cell? a = some v) : (loadVar T a).run P w = .ok v w := by
  unfold loadVar
  simp [run_isAgg h.agg, hc]

def spl (cs : Array Value) (off : Nat) (vs : List Value) : Array Value := (cs.toList.take off ++ vs ++ cs.toList.drop (off + vs.length)).toArray

theorem run_loadVar_agg {T n : Nat} [h : AggC P T n] {b off : Nat} {cs : Array Value} {E : TypeId} {fr : Nat × Nat} (hb : w.heap[b]? = some (.cells cs E fr)) (hn : off + n ≤ cs.size) :
    (loadVar T ⟨b, off, none⟩).run P w = .ok (.agg (cs.extract off (off + n))) w := by
  unfold loadVar
  have hl : (cs.toList.drop off |>.take n).length = n := by simp; omega
  have := run_loadCells_list (P := P) w ⟨b, off, none⟩ (cs.toList.drop off |>.take n) (by
    intro j v hj
    rw [Addr.add_lit, cell_of_row w b (off + j) cs E fr hb]
    rw [List.getElem?_take] at hj
    split at hj
    · simpa using hj
    · cases hj)
  rw [hl] at this
  simp only [Sem.run_bind, run_isAgg h.agg, Result.andThen_ok, run_sizeOf h.size, if_true, this, Sem.run_pure]
  congr 2
  apply Array.ext'
  simp [List.extract_eq_take_drop]

theorem run_storeVar_one {T : TypeId} [h : OneC P T] {b off : Nat} {v : Value} {cs : Array Value} {E : TypeId} (hb : w.heap[b]? = some (.cells cs E)) (hv : v.oneCell' = true) (hoff : off < cs.size) :
    (storeVar T ⟨b, off, none⟩ v).run P w = .ok () (w.setRow b (cs.setIfInBounds off v)) := by
  have hc : v.cells = #[v] := by cases v <;> first | rfl | simp [Value.oneCell'] at hv
  unfold storeVar
  simp only [Sem.run_bind, run_sizeOf h.size, Result.andThen_ok, hc]
  have := run_storeCells_at P b off E [v] 0 cs w hb (by simp; omega) (by simpa using hv)
  simp only [List.size_toArray, List.length_cons, List.length_nil, Nat.zero_add, ne_eq, not_true_eq_false, if_false, Nat.add_zero] at this ⊢
  rw [this]
  congr 2
  apply Array.ext'
  simp only [Array.toList_setIfInBounds]
  rw [List.set_eq_take_append_cons_drop, if_pos (by simpa using hoff)]
  simp

theorem run_storeVar_agg {T n : Nat} [h : AggC P T n] {b off : Nat} {vs : Array Value} {cs : Array Value} {E : TypeId} (hb : w.heap[b]? = some (.cells cs E)) (hv : ∀ v ∈ vs.toList, v.oneCell' = true) (hs : vs.size = n) (hoff : off + n ≤ cs.size) :
    (storeVar T ⟨b, off, none⟩ (.agg vs)).run P w = .ok () (w.setRow b (spl cs off vs.toList)) := by
  unfold storeVar
  simp only [Sem.run_bind, run_sizeOf h.size, Result.andThen_ok, Value.cells]
  have := run_storeCells_at P b off E vs.toList 0 cs w hb (by simpa [hs] using hoff) hv
  simp only [hs, ne_eq, not_true_eq_false, if_false, Nat.add_zero] at this ⊢
  rw [this]
  rfl

theorem spl_full (cs : Array Value) (vs : List Value) (h : vs.length = cs.size) : spl cs 0 vs = vs.toArray := by
  unfold spl
  simp [h]
end

/-! ### Operations -/
section
variable {P : Program} {ops : Array Oper} {Q : Exit → Act → World → Prop} {a : Act} {w : World} {rest : List Oper} {o : Oper} {O : World} {S R : SProp}

theorem wl_val {v : Value} {w' : World} (hg : Region.wanted o (yielded ops a.tmps) = true) (hr : (execOp a.eval o).run P w = .ok (.value v) w') (k : wpList P ops Q rest (a.put o.dst v) w') :
    wpList P ops Q (o :: rest) a w := by
  unfold wpList; rw [if_pos hg]; left; unfold Oper.wp; rw [hr]; exact k
theorem wl_skip {w' : World} (hg : Region.wanted o (yielded ops a.tmps) = true) (hr : (execOp a.eval o).run P w = .ok .skip w') (k : wpList P ops Q rest (a.put o.dst undef) w') :
    wpList P ops Q (o :: rest) a w := by
  unfold wpList; rw [if_pos hg]; left; unfold Oper.wp; rw [hr]; exact k

def ev (l : List Value) : Operand → Option Value
  | .tmp t => l[t]?
  | .const v => some v
  | .global g => some (.pointer (some ⟨g, 0, none⟩))
  | .func f => some (.func (.func f) #[] #[])
def cel : Value → Option (Array Value)
  | .agg cs => some cs
  | v => some #[v]
theorem ev_eval {l : List Value} {ds : List Deferred} {x : Operand} {v : Value} (h : ev l x = some v) : (Act.mk l.toArray ds).eval x = v := by
  cases x <;> simp_all [ev, Act.eval]
theorem cel_cells {v : Value} {cs : Array Value} (h : cel v = some cs) : v.cells = cs := by
  cases v <;> simp_all [cel, Value.cells]
theorem put_set {l : List Value} {ds : List Deferred} {d : Nat} {v : Value} : (Act.mk l.toArray ds).put (some d) v = Act.mk (l.set d v).toArray ds := by
  simp [Act.put]

variable {l : List Value} {ds : List Deferred} {T ty : TypeId} {pos : String} {after : Array Edge} {gd : Option (Nat × Bool)} {d : Nat} {x y : Operand} {b off : Nat} {cs : Array Value} {E : TypeId} {fr : Nat × Nat} {v : Value}

theorem wl_ld (hs : Sat O w S) (h : OneC P T) (hx : ev l x = some (.pointer (some ⟨b, off, none⟩))) (hp : Pull S (pt b (.cells cs E fr)) R) (hv : cs.toList[off]? = some v)
    (hg : Region.wanted { dst := some d, op := .load T x, type := ty, pos, after, guard := gd } (yielded ops l.toArray) = true)
    (k : wpList P ops Q rest ⟨(l.set d v).toArray, ds⟩ w) : wpList P ops Q ({ dst := some d, op := .load T x, type := ty, pos, after, guard := gd } :: rest) ⟨l.toArray, ds⟩ w := by
  refine wl_val (v := v) hg ?_ (put_set ▸ k)
  have hb := (hs.pull hp).block
  have : w.cell? ⟨b, off, none⟩ = some v := by rw [cell_of_row w b off cs E fr hb, ← Array.getElem?_toList, hv]
  simp only [execOp, ev_eval hx, Instr.loadAt, Instr.sureAddr, Sem.run_bind, Sem.run_pure, Result.andThen_ok, run_loadVar_one this]

theorem wl_ldN {n : Nat} (hs : Sat O w S) (h : AggC P T n) (hx : ev l x = some (.pointer (some ⟨b, off, none⟩))) (hp : Pull S (pt b (.cells cs E fr)) R) {vs : Array Value} (hn : off + n ≤ cs.size) (hv : cs.extract off (off + n) = vs)
    (hg : Region.wanted { dst := some d, op := .load T x, type := ty, pos, after, guard := gd } (yielded ops l.toArray) = true)
    (k : wpList P ops Q rest ⟨(l.set d (.agg vs)).toArray, ds⟩ w) : wpList P ops Q ({ dst := some d, op := .load T x, type := ty, pos, after, guard := gd } :: rest) ⟨l.toArray, ds⟩ w := by
  refine wl_val (v := .agg vs) hg ?_ (put_set ▸ k)
  have hb := (hs.pull hp).block
  simp only [execOp, ev_eval hx, Instr.loadAt, Instr.sureAddr, Sem.run_bind, Sem.run_pure, Result.andThen_ok, run_loadVar_agg hb hn, hv]

/-- a whole variable is read -/
theorem wl_ldF {n : Nat} (hs : Sat O w S) (h : AggC P T n) (hx : ev l x = some (.pointer (some ⟨b, 0, none⟩))) (hp : Pull S (pt b (.cells cs E fr)) R) (hn : cs.size = n)
    (hg : Region.wanted { dst := some d, op := .load T x, type := ty, pos, after, guard := gd } (yielded ops l.toArray) = true)
    (k : wpList P ops Q rest ⟨(l.set d (.agg cs)).toArray, ds⟩ w) : wpList P ops Q ({ dst := some d, op := .load T x, type := ty, pos, after, guard := gd } :: rest) ⟨l.toArray, ds⟩ w :=
  wl_ldN hs h hx hp (by omega) (by subst hn; simp) hg k

theorem wl_st (hs : Sat O w S) (h : OneC P T) (hx : ev l x = some (.pointer (some ⟨b, off, none⟩))) (hy : ev l y = some v) (hp : Pull S (pt b (.cells cs E)) R) (hv : v.oneCell' = true) (hoff : off < cs.size)
    (hg : Region.wanted { dst := none, op := .store T x y, type := ty, pos, after, guard := gd } (yielded ops l.toArray) = true)
    (k : ∀ w', Sat O w' (pt b (.cells (cs.setIfInBounds off v) E) * R) → wpList P ops Q rest ⟨l.toArray, ds⟩ w') :
    wpList P ops Q ({ dst := none, op := .store T x y, type := ty, pos, after, guard := gd } :: rest) ⟨l.toArray, ds⟩ w := by
  have hs' := hs.pull hp
  refine wl_skip hg ?_ (k _ (hs'.setRow))
  simp only [execOp, ev_eval hx, ev_eval hy, Instr.storeAt, Instr.sureAddr, Sem.run_bind, Sem.run_pure, Result.andThen_ok, run_storeVar_one hs'.block hv hoff]

theorem wl_stN {n : Nat} {vs : Array Value} (hs : Sat O w S) (h : AggC P T n) (hx : ev l x = some (.pointer (some ⟨b, off, none⟩))) (hy : ev l y = some (.agg vs)) (hp : Pull S (pt b (.cells cs E)) R)
    (hv : ∀ v ∈ vs.toList, v.oneCell' = true) (hz : vs.size = n) (hoff : off + n ≤ cs.size)
    (hg : Region.wanted { dst := none, op := .store T x y, type := ty, pos, after, guard := gd } (yielded ops l.toArray) = true)
    (k : ∀ w', Sat O w' (pt b (.cells (spl cs off vs.toList) E) * R) → wpList P ops Q rest ⟨l.toArray, ds⟩ w') :
    wpList P ops Q ({ dst := none, op := .store T x y, type := ty, pos, after, guard := gd } :: rest) ⟨l.toArray, ds⟩ w := by
  have hs' := hs.pull hp
  refine wl_skip hg ?_ (k _ (hs'.setRow))
  simp only [execOp, ev_eval hx, ev_eval hy, Instr.storeAt, Instr.sureAddr, Sem.run_bind, Sem.run_pure, Result.andThen_ok, run_storeVar_agg hs'.block hv hz hoff]

/-- a whole variable is overwritten -/
theorem wl_stF {n : Nat} {vs : Array Value} (hs : Sat O w S) (h : AggC P T n) (hx : ev l x = some (.pointer (some ⟨b, 0, none⟩))) (hy : ev l y = some (.agg vs)) (hp : Pull S (pt b (.cells cs E)) R)
    (hv : vs.toList.all Value.oneCell' = true) (hz : vs.size = n) (hoff : cs.size = n)
    (hg : Region.wanted { dst := none, op := .store T x y, type := ty, pos, after, guard := gd } (yielded ops l.toArray) = true)
    (k : ∀ w', Sat O w' (pt b (.cells vs E) * R) → wpList P ops Q rest ⟨l.toArray, ds⟩ w') :
    wpList P ops Q ({ dst := none, op := .store T x y, type := ty, pos, after, guard := gd } :: rest) ⟨l.toArray, ds⟩ w := by
  refine wl_stN hs h hx hy hp (fun v hm => List.all_eq_true.1 hv v hm) hz (by omega) hg ?_
  rw [spl_full cs vs.toList (by simp [hz, hoff])]
  exact k

theorem wl_alloc {z : Array Value} (hs : Sat O w S) (h : ZeroC P T z)
    (hg : Region.wanted { dst := some d, op := .alloc T, type := ty, pos, after, guard := gd } (yielded ops l.toArray) = true)
    (k : ∀ w' b, Sat O w' (pt b (.cells z T) * S) → wpList P ops Q rest ⟨(l.set d (.pointer (some ⟨b, 0, none⟩))).toArray, ds⟩ w') :
    wpList P ops Q ({ dst := some d, op := .alloc T, type := ty, pos, after, guard := gd } :: rest) ⟨l.toArray, ds⟩ w := by
  refine wl_val (v := .pointer (some ⟨w.heap.size, 0, none⟩)) hg ?_ (put_set ▸ k _ _ (hs.alloc _))
  have hz := h.zero
  cases hi : P.info? T with
  | none => simp [hi] at hz
  | some i =>
    cases hzz : i.zero with
    | none => simp [hi, hzz] at hz
    | some v =>
      simp [hi, hzz] at hz
      simp only [execOp, Instr.alloc, zeroValue, typeInfo, hi, hzz, Sem.run_bind, run_program, Sem.run_pure, Result.andThen_ok, newVar, newRow, run_newObj, hz]
      rfl

theorem wl_box (hs : Sat O w S) (hx : ev l x = some v) (hc : cel v = some cs)
    (hg : Region.wanted { dst := some d, op := .box T x, type := ty, pos, after, guard := gd } (yielded ops l.toArray) = true)
    (k : ∀ w' b, Sat O w' (pt b (.cells cs T) * S) → wpList P ops Q rest ⟨(l.set d (.pointer (some ⟨b, 0, none⟩))).toArray, ds⟩ w') :
    wpList P ops Q ({ dst := some d, op := .box T x, type := ty, pos, after, guard := gd } :: rest) ⟨l.toArray, ds⟩ w := by
  refine wl_val (v := .pointer (some ⟨w.heap.size, 0, none⟩)) hg ?_ (put_set ▸ k _ _ (hs.alloc _))
  simp only [execOp, ev_eval hx, Instr.box, newVar, newRow, Sem.run_bind, Sem.run_pure, Result.andThen_ok, run_newObj, cel_cells hc]
  rfl

theorem ext_list (m : List Value) (i j : Nat) : m.toArray.extract i j = ((m.drop i).take (j - i)).toArray := by simp [List.extract_eq_take_drop]

/-- an element of an array value, itself a struct or an array -/
theorem wl_ixN {len n : Nat} {k : IntKind} {i : Int} (hs : Sat O w S) (h : ArrC P T len E) (hE : AggC P E n) (hx : ev l x = some (.agg cs)) (hy : ev l y = some (.int k i)) (h0 : 0 ≤ i) (h1 : i < len)
    {vs : Array Value} (hv : cs.extract (i.toNat * n) (i.toNat * n + n) = vs)
    (hg : Region.wanted { dst := some d, op := .index T x y, type := ty, pos, after, guard := gd } (yielded ops l.toArray) = true)
    (k : wpList P ops Q rest ⟨(l.set d (.agg vs)).toArray, ds⟩ w) : wpList P ops Q ({ dst := some d, op := .index T x y, type := ty, pos, after, guard := gd } :: rest) ⟨l.toArray, ds⟩ w := by
  refine wl_val (v := .agg vs) hg ?_ (put_set ▸ k)
  simp only [execOp, ev_eval hx, ev_eval hy, Instr.index, asIntOf, Sem.run_bind, Sem.run_pure, Result.andThen_ok, run_underlying h.is, if_pos (And.intro h0 h1), run_sizeOf hE.size, part, run_isAgg hE.agg, if_true, hv]

end

/-! ### Calls -/
def Does (P : Program) (f : FuncId) (args : Array Value) (A : SProp) (B : Value → SProp) : Prop :=
  ∀ O w F, Sat O w (A * F) → Calls P f args w fun e w' => ∃ v, e = .returned v ∧ Sat O w' (B v * F)
def Gives (P : Program) (f : FuncId) (args : Array Value) (A : SProp) (v : Value) (B : SProp) : Prop :=
  ∀ O w F, Sat O w (A * F) → Calls P f args w fun e w' => e = .returned v ∧ Sat O w' (B * F)

section
variable {P : Program} {f : FuncId} {args : Array Value} {A B' S R : SProp} {B : Value → SProp} {O w : World} {v : Value} {Post : Ending → World → Prop}
theorem Does.at (h : Does P f args A B) (hs : Sat O w S) (hp : Pull S A R) (k : ∀ v w', Sat O w' (B v * R) → Post (.returned v) w') : Calls P f args w Post :=
  (h O w R (hs.pull hp)).mono fun _ _ ⟨v, he, hs'⟩ => he ▸ k v _ hs'
theorem Gives.at (h : Gives P f args A v B') (hs : Sat O w S) (hp : Pull S A R) (k : ∀ w', Sat O w' (B' * R) → Post (.returned v) w') : Calls P f args w Post :=
  (h O w R (hs.pull hp)).mono fun _ _ ⟨he, hs'⟩ => he ▸ k _ hs'
end

end Hp
end Go.Proofs.Ytbkefjpjbijkfaa
