/-
  Small effects keep what is recorded in order.
-/
import Derived.Test.YtegafhhdegnigaaGreatDHist
import Derived.Test.YtegafhhdegnigaaGreatDTypes
set_option linter.all false
section
namespace Go.Proofs.YtegafhhdegnigaaGreat
open Go.RowKit Hp
set_option maxRecDepth 100000
set_option maxHeartbeats 1000000
attribute [local irreducible] Go.Calls
def rep1 (ws : List Int) (e : Acc) : Option (List Int) :=
 if 0 ≤ e.addr ∧ e.addr < ws.length then
  if e.kind = 1 then (if e.old = 0 ∧ e.new = 0 ∧ e.saw = ws.getD e.addr.toNat 0 then some ws else none)
  else if e.kind = 2 then (if e.old = 0 ∧ e.saw = 0 then some (ws.set e.addr.toNat e.new) else none)
  else if e.kind = 3 then (if e.saw = ws.getD e.addr.toNat 0 then some (if e.saw = e.old then ws.set e.addr.toNat e.new else ws) else none)
  else none
 else none
def rep (ws : List Int) : List Acc → Option (List Int)
 | [] => some ws
 | e :: r => (rep1 ws e).bind fun ws' => rep ws' r
theorem rep_append (ws : List Int) (l r : List Acc) : rep ws (l ++ r) = (rep ws l).bind fun ws' => rep ws' r := by
 induction l generalizing ws with
 | nil => rfl
 | cons e l ih =>
  simp only [List.cons_append,rep]
  cases rep1 ws e with
  | none => rfl
  | some ws' => exact ih ws'
theorem rep_snoc (ws : List Int) (l : List Acc) (e : Acc) {ws1 ws2 : List Int} (h : rep ws l = some ws1) (h2 : rep1 ws1 e = some ws2) : rep ws (l ++ [e]) = some ws2 := by
 rw [rep_append,h]
 simp only [Option.bind_some,rep,h2]
def shf1 (sl : List Slt) (x : Shf) : Option (List Slt) :=
 if (0 ≤ x.slot ∧ x.slot < sl.length) ∧ (0 ≤ x.to ∧ x.to ≤ 5) ∧ x.fr = (sl.getD x.slot.toNat ⟨0,0⟩).state then some (sl.set x.slot.toNat ⟨x.to,if x.to = 0 ∨ x.to = 3 then -1 else x.thread⟩) else none
def shfs (sl : List Slt) : List Shf → Option (List Slt)
 | [] => some sl
 | e :: r => (shf1 sl e).bind fun sl' => shfs sl' r
theorem shfs_append (sl : List Slt) (l r : List Shf) : shfs sl (l ++ r) = (shfs sl l).bind fun sl' => shfs sl' r := by
 induction l generalizing sl with
 | nil => rfl
 | cons e l ih =>
  simp only [List.cons_append,shfs]
  cases shf1 sl e with
  | none => rfl
  | some sl' => exact ih sl'
theorem shfs_snoc (sl : List Slt) (l : List Shf) (e : Shf) {s1 s2 : List Slt} (h : shfs sl l = some s1) (h2 : shf1 s1 e = some s2) : shfs sl (l ++ [e]) = some s2 := by
 rw [shfs_append,h]
 simp only [Option.bind_some,shfs,h2]
structure Hist (c : Cfg) (a : Are) (m : Mch) : Prop where
 mv : m.mem.move = m.now
 ac : a.c = c
 slots : (a.slots.length : Int) = c.Sl
 lsort : m.mem.log.Pairwise (fun x y => x.move < y.move)
 lle : ∀ e ∈ m.mem.log,e.move ≤ m.now
 llt : m.used = false → ∀ e ∈ m.mem.log,e.move < m.now
 lth : ∀ e ∈ m.mem.log,e.move = m.now → e.thread = m.thread
 lrep : rep (firstW c 0) m.mem.log = some m.mem.words
 ssort : m.shifts.Pairwise (fun x y => x.move ≤ y.move ∧ (x.move = y.move → x.thread = y.thread))
 sle : ∀ e ∈ m.shifts,e.move ≤ m.now
 sth : ∀ e ∈ m.shifts,e.move = m.now → e.thread = m.thread
 cross : ∀ e ∈ m.shifts,∀ x ∈ m.mem.log,x.move = e.move → x.thread = e.thread
 srep : shfs (are0 c).slots m.shifts = some a.slots
theorem pw_snoc {α : Type} {R : α → α → Prop} {l : List α} {x : α} (h : l.Pairwise R) (hx : ∀ y ∈ l,R y x) : (l ++ [x]).Pairwise R := by
 rw [List.pairwise_append]
 exact ⟨h,by simp,fun a ha b hb => by simp at hb;subst hb;exact hx a ha⟩
section
variable {i t : Nat} {c : Cfg} {h : Haz} {a : Are} {m m' : Mch}
theorem Hist.acc (H : Hist c a m) (hu : m.used = false) {e : Acc} {ws : List Int} {ah : List Int} (hm : e.move = m.mem.move) (ht : e.thread = m.thread) (hr : rep1 m.mem.words e = some ws) :
  Hist c a { m with used := true,mem := { m.mem with words := ws,log := m.mem.log ++ [e],ahead := ah } } := by
 obtain ⟨q1,q2,q3,q4,q5,q6,q7,q8,q9,q10,q11,q12,q13⟩ := H
 have hl := q6 hu
 refine ⟨q1,q2,q3,pw_snoc q4 (fun y hy => by rw [hm,q1];exact hl y hy),?_,fun hf => (by cases hf),?_,rep_snoc _ _ _ q8 hr,q9,q10,q11,?_,q13⟩
 ·intro x hx
  rcases List.mem_append.1 hx with hx|hx
  ·exact q5 x hx
  ·simp at hx;subst hx;show x.move ≤ m.now;omega
 ·intro x hx hxe
  rcases List.mem_append.1 hx with hx|hx
  ·exact q7 x hx hxe
  ·simp at hx;subst hx;exact ht
 ·intro s hs x hx hxe
  rcases List.mem_append.1 hx with hx|hx
  ·exact q12 s hs x hx hxe
  ·simp at hx;subst hx
   rw [ht,q11 s hs (by omega)]
theorem word_getD (m : Mch) (j : Nat) : m.mem.words.getD j 0 = m.word j := rfl
theorem Hist.load (H : Hist c a m) {j : Nat} (hu : m.used = false) (hj : j < m.mem.words.length) : Hist c a (m.load j (m.word j)) := by
 refine H.acc hu rfl rfl ?_
 simp only [rep1]
 rw [if_pos ⟨by omega,by omega⟩,if_pos True.intro,Int.toNat_natCast,if_pos ⟨True.intro,True.intro,rfl⟩]
theorem Hist.store (H : Hist c a m) {j : Nat} {z : Int} (hu : m.used = false) (hj : j < m.mem.words.length) : Hist c a (m.store j (m.word j) z) := by
 refine H.acc hu rfl rfl ?_
 simp only [rep1]
 rw [if_pos ⟨by omega,by omega⟩,if_neg (by omega),if_pos True.intro,Int.toNat_natCast,if_pos ⟨True.intro,True.intro⟩]
theorem Hist.swap (H : Hist c a m) {j : Nat} {o z : Int} (hu : m.used = false) (hj : j < m.mem.words.length) : Hist c a (m.swap j (m.word j) o z) := by
 refine H.acc hu rfl rfl ?_
 simp only [rep1]
 rw [if_pos ⟨by omega,by omega⟩,if_neg (by omega),if_neg (by omega),if_pos True.intro,Int.toNat_natCast,if_pos (word_getD m j).symm]
theorem Hist.shift (H : Hist c a m) {s to : Int} (s0 : 0 ≤ s) (s1 : s < a.c.Sl) (t0 : 0 ≤ to) (t5 : to ≤ 5) :
  Hist c (a.shift s.toNat m.thread to) (m.shift s (a.slots.getD s.toNat ⟨0,0⟩).state to) := by
 obtain ⟨q1,q2,q3,q4,q5,q6,q7,q8,q9,q10,q11,q12,q13⟩ := H
 refine ⟨q1,q2,by simp only [Are.shift,List.length_set];exact q3,q4,q5,q6,q7,q8,pw_snoc q9 (fun y hy => ⟨q10 y hy,q11 y hy⟩),?_,?_,?_,shfs_snoc _ _ _ q13 ?_⟩
 ·intro x hx
  rcases List.mem_append.1 hx with hx|hx
  ·exact q10 x hx
  ·simp at hx;subst hx;exact Int.le_refl _
 ·intro x hx hxe
  rcases List.mem_append.1 hx with hx|hx
  ·exact q11 x hx hxe
  ·simp at hx;subst hx;rfl
 ·intro x hx y hy hye
  rcases List.mem_append.1 hx with hx|hx
  ·exact q12 x hx y hy hye
  ·simp at hx;subst hx;exact q7 y hy hye
 ·simp only [shf1]
  rw [if_pos ⟨⟨s0,by rw [q3,← q2];exact s1⟩,⟨t0,t5⟩,True.intro⟩]
  rfl
theorem Hist.of (H : Hist c a m) (h1 : m'.mem = m.mem) (h2 : m'.now = m.now) (h3 : m'.thread = m.thread) (h4 : m'.shifts = m.shifts) (h5 : m'.used = m.used) : Hist c a m' := by
 obtain ⟨q1,q2,q3,q4,q5,q6,q7,q8,q9,q10,q11,q12,q13⟩ := H
 refine ⟨by rw [h1,h2];exact q1,q2,q3,by rw [h1];exact q4,by rw [h1,h2];exact q5,by rw [h1,h2,h5];exact q6,by rw [h1,h2,h3];exact q7,by rw [h1];exact q8,by rw [h4];exact q9,by rw [h4,h2];exact q10,by rw [h4,h2,h3];exact q11,by rw [h4,h1];exact q12,by rw [h4];exact q13⟩
theorem Hist.evo {x y : St3} (E : Evo i t x y) : Hist c x.2.1 x.2.2 → Hist c y.2.1 y.2.2 := by
 induction E with
 | refl => exact id
 | trans _ _ ih1 ih2 => exact fun H => ih2 (ih1 H)
 | load j hu hj => exact fun H => H.load hu hj
 | store j z hu hj => exact fun H => H.store hu hj
 | swap j o z hu hj => exact fun H => H.swap hu hj
 | shift s to s0 s1 t0 t5 => exact fun H => H.shift s0 s1 t0 t5
 | point cl z _ _ _ => exact fun H => H.of rfl rfl rfl rfl rfl
 | answer se k v _ _ _ _ => exact fun H => H.of rfl rfl rfl rfl rfl
 | haz => exact id
 | cache cs => exact fun H => ⟨H.mv,H.ac,H.slots,H.lsort,H.lle,H.llt,H.lth,H.lrep,H.ssort,H.sle,H.sth,H.cross,H.srep⟩
structure Told (i t : Nat) (cl : Cll) (m : Mch) : Prop where
 call : ∃ z,m.calls[i]? = some { cl with point := z } ∧ (z = cl.point ∨ cl.begin_ < z ∧ z ≤ m.now)
 seat : ∃ se,m.seats[t]? = some se ∧ 1 ≤ se.kind ∧ se.kind ≤ 6 ∧ (se.kind ≠ 2 → se.value = 0)
theorem Told.evo {cl : Cll} {x y : St3} (E : Evo i t x y) : Told i t cl x.2.2 → Told i t cl y.2.2 ∧ y.2.2.now = x.2.2.now := by
 induction E with
 | refl => exact fun H => ⟨H,rfl⟩
 | trans _ _ ih1 ih2 => intro H;obtain ⟨a1,a2⟩ := ih1 H;obtain ⟨b1,b2⟩ := ih2 a1;exact ⟨b1,b2.trans a2⟩
 | load j hu hj => exact fun H => ⟨⟨H.call,H.seat⟩,rfl⟩
 | store j z hu hj => exact fun H => ⟨⟨H.call,H.seat⟩,rfl⟩
 | swap j o z hu hj => exact fun H => ⟨⟨H.call,H.seat⟩,rfl⟩
 | shift s to s0 s1 t0 t5 => exact fun H => ⟨⟨H.call,H.seat⟩,rfl⟩
 | @point h a m cl' z' hc hz hn =>
  intro H
  obtain ⟨⟨z,hz1,hz2⟩,hse⟩ := H
  simp only [] at hz1 hz2 hse
  rw [hz1] at hc
  cases hc
  have hlt := (List.getElem?_eq_some_iff.1 hz1).1
  refine ⟨⟨⟨z',?_,.inr ⟨hz,hn⟩⟩,hse⟩,rfl⟩
  simp only [Mch.point,List.getElem?_set_self hlt]
 | @answer h a m se k v hs k1 k6 hv =>
  intro H
  have hlt := (List.getElem?_eq_some_iff.1 hs).1
  refine ⟨⟨H.call,⟨{ se with kind := k,value := v },?_,k1,k6,hv⟩⟩,rfl⟩
  simp only [Mch.answer,List.getElem?_set_self hlt]
 | haz => exact fun H => ⟨H,rfl⟩
 | cache cs => exact fun H => ⟨H,rfl⟩
theorem evo_move {x y : St3} (E : Evo i t x y) : y.2.2.mem.move = x.2.2.mem.move ∧ y.2.2.now = x.2.2.now := by
 induction E with
 | trans _ _ ih1 ih2 => exact ⟨ih2.1.trans ih1.1,ih2.2.trans ih1.2⟩
 | _ => exact ⟨rfl,rfl⟩
theorem evo_log {x y : St3} (E : Evo i t x y) : ∃ l,y.2.2.mem.log = x.2.2.mem.log ++ l ∧ ∀ e ∈ l,e.move = x.2.2.mem.move := by
 induction E with
 | refl x => exact ⟨[],by simp,by simp⟩
 | trans E1 _ ih1 ih2 =>
  obtain ⟨l1,a1,a2⟩ := ih1
  obtain ⟨l2,b1,b2⟩ := ih2
  refine ⟨l1 ++ l2,by rw [b1,a1,List.append_assoc],fun e he => ?_⟩
  rcases List.mem_append.1 he with he|he
  ·exact a2 e he
  ·rw [b2 e he,(evo_move E1).1]
 | load j _ _ => exact ⟨_,rfl,fun e he => by simp at he;subst he;rfl⟩
 | store j z _ _ => exact ⟨_,rfl,fun e he => by simp at he;subst he;rfl⟩
 | swap j o z _ _ => exact ⟨_,rfl,fun e he => by simp at he;subst he;rfl⟩
 | _ => exact ⟨[],(List.append_nil _).symm,by simp⟩
theorem evo_shifts {x y : St3} (E : Evo i t x y) : ∃ l,y.2.2.shifts = x.2.2.shifts ++ l ∧ ∀ e ∈ l,e.move = x.2.2.now := by
 induction E with
 | refl x => exact ⟨[],by simp,by simp⟩
 | trans E1 _ ih1 ih2 =>
  obtain ⟨l1,a1,a2⟩ := ih1
  obtain ⟨l2,b1,b2⟩ := ih2
  refine ⟨l1 ++ l2,by rw [b1,a1,List.append_assoc],fun e he => ?_⟩
  rcases List.mem_append.1 he with he|he
  ·exact a2 e he
  ·rw [b2 e he,(evo_move E1).2]
 | shift s to _ _ _ _ => exact ⟨_,rfl,fun e he => by simp at he;subst he;rfl⟩
 | _ => exact ⟨[],(List.append_nil _).symm,by simp⟩
end
end Go.Proofs.YtegafhhdegnigaaGreat
end
/-
  Lists that are only read, wherever they lie.
-/
section
namespace Go.Proofs.YtegafhhdegnigaaGreat
open Go.RowKit
namespace Hp
structure Rd (A : SProp) (sz : Nat) (css : List (List Value)) (v : Value) : Prop where
 at_ : (css = [] ∧ v = .slice none 0 0) ∨ ∃ a cap,css.length ≤ cap ∧ v = .slice (some a) css.length cap
 wf : ∀ c ∈ css,c.length = sz
 get : ∀ (O w : World) (F : SProp),Sat O w (A * F) → ∀ a n cap,v = .slice (some a) n cap → ∀ i c,css[i]? = some c → ∀ j x,c[j]? = some x → w.cell? ((a.add (i * sz)).add j) = some x
structure RAt (v : Value) (a : Addr) : Prop where
 is : ∃ n cap,v = .slice (some a) n cap
section
variable {P : Program} {ops : Array Oper} {Q : Exit → Act → World → Prop} {w : World} {rest : List Oper} {O : World} {S R A : SProp}
variable {l : List Value} {ds : List Deferred} {T ty E : TypeId} {pos : String} {after : Array Edge} {gd : Option (Nat × Bool)} {d : Nat} {x y : Operand} {i sz n : Nat} {css : List (List Value)} {c : List Value} {v : Value} {a : Addr}
theorem Rd.len (h : Rd A sz css v) : ∃ a cap,v = .slice a css.length cap := by
 rcases h.at_ with ⟨h1,h2⟩|⟨a,cap,_,h1⟩
 ·subst h1;exact ⟨none,0,h2⟩
 ·exact ⟨_,_,h1⟩
theorem wl_ir {kd : IntKind} {z : Int} {by_ : Nat} (hr : Rd A sz css v) (h : SlcC P T E) (hE : ElC P E sz by_) (hx : ev l x = some v) (hy : ev l y = some (.int kd z)) (hz : z = (i : Int)) (hi : i < css.length)
  (hg : Region.wanted { dst := some d,op := .indexAddr T x y,type := ty,pos,after,guard := gd } (yielded ops l.toArray) = true)
  (kk : ∀ a,RAt v a → wpList P ops Q rest ⟨(l.set d (.pointer (some (a.add (i * sz))))).toArray,ds⟩ w) :
  wpList P ops Q ({ dst := some d,op := .indexAddr T x y,type := ty,pos,after,guard := gd } :: rest) ⟨l.toArray,ds⟩ w := by
 rcases hr.at_ with ⟨h1,_⟩|⟨a,cap,_,e⟩
 ·subst h1;simp at hi
 refine wl_val (v := .pointer (some (a.add (i * sz)))) hg ?_ (put_set ▸ kk a ⟨_,_,e⟩)
 have h1 : (0 : Int) ≤ z ∧ z < (css.length : Int) := by omega
 have h2 : z.toNat = i := by omega
 subst e
 simp only [execOp,ev_eval hx,ev_eval hy,Instr.indexAt,asIntOf,Sem.run_bind,Sem.run_pure,Result.andThen_ok,run_underlying h.is,if_pos h1,h2,run_sizeOf hE.size]
theorem wl_lr (hs : Sat O w S) (hr : Rd A sz css v) (h : AggC P T sz) (ha : RAt v a) (hx : ev l x = some (.pointer (some (a.add (i * sz))))) (hp : Pull S A R) (hi : css[i]? = some c)
  (hg : Region.wanted { dst := some d,op := .load T x,type := ty,pos,after,guard := gd } (yielded ops l.toArray) = true)
  (kk : wpList P ops Q rest ⟨(l.set d (.agg c.toArray)).toArray,ds⟩ w) : wpList P ops Q ({ dst := some d,op := .load T x,type := ty,pos,after,guard := gd } :: rest) ⟨l.toArray,ds⟩ w := by
 refine wl_val (v := .agg c.toArray) hg ?_ (put_set ▸ kk)
 obtain ⟨n,cap,e⟩ := ha.is
 have hl := hr.wf c (List.mem_of_getElem? hi)
 have := run_loadCells_list (P := P) (w := w) (a.add (i * sz)) c (fun j x hj => hr.get O w R (hs.pull hp) a n cap e i c hi j x hj)
 rw [hl] at this
 simp only [execOp,ev_eval hx,Instr.loadAt,Instr.sureAddr,loadVar,Sem.run_bind,Sem.run_pure,Result.andThen_ok,run_isAgg h.agg,run_sizeOf h.size,if_true,this]
theorem rd_reH {kd : IntKind} {zz : Int} {by_ : Nat} (hr : Rd A sz css v) (h : SlcC P T E) (hE : ElC P E sz by_) (hx : ev l x = some v) (hy : ev l y = some (.int kd zz)) (hz : zz = (i : Int)) (hi : i ≤ css.length)
  (hg : Region.wanted { dst := some d,op := .slice T x none (some y) none,type := ty,pos,after,guard := gd } (yielded ops l.toArray) = true)
  (kk : wpList P ops Q rest ⟨(l.set d (resH v i)).toArray,ds⟩ w) :
  wpList P ops Q ({ dst := some d,op := .slice T x none (some y) none,type := ty,pos,after,guard := gd } :: rest) ⟨l.toArray,ds⟩ w := by
 refine wl_val (v := resH v i) hg ?_ (put_set ▸ kk)
 have h2 : zz.toNat = i := by omega
 rcases hr.at_ with ⟨hc,hv⟩|⟨a,cap,g2,hv⟩
 ·subst hv;subst hc
  have hi0 : i = 0 := by simpa using hi
  have hz0 : zz = 0 := by omega
  subst hi0;subst hz0
  simp [execOp,ev_eval hx,ev_eval hy,Instr.sliceAt,Instr.slice,Instr.sliceBounds,Instr.sliceBound,asIntOf,run_underlying h.is,run_sizeOf hE.size,resH]
 ·subst hv
  have h1 : (0 : Int) ≤ zz ∧ zz ≤ (cap : Int) := by omega
  simp [execOp,ev_eval hx,ev_eval hy,Instr.sliceAt,Instr.slice,Instr.sliceBounds,Instr.sliceBound,asIntOf,run_underlying h.is,run_sizeOf hE.size,resH,h1,h2,Addr.add]
theorem Rd.resH (h : Rd A sz css v) (hi : i ≤ css.length) : Rd A sz (css.take i) (Hp.resH v i) := by
 have hl : (css.take i).length = i := by simp;omega
 refine ⟨?_,fun c hc => h.wf c (List.mem_of_mem_take hc),?_⟩
 ·rcases h.at_ with ⟨h1,h2⟩|⟨a,cap,hc,h1⟩
  ·subst h1;subst h2
   have : i = 0 := by simpa using hi
   subst this
   exact .inl ⟨rfl,rfl⟩
  ·subst h1
   exact .inr ⟨a,cap,by rw [hl];omega,by rw [hl];rfl⟩
 ·intro O w F hs a n cap e j c hj
  rcases h.at_ with ⟨h1,h2⟩|⟨a',cap',hc,h1⟩
  ·subst h1;simp at hj
  ·subst h1
   injection e with e _ _
   injection e with e
   subst e
   refine h.get O w F hs a' _ _ rfl j c ?_
   rw [List.getElem?_take] at hj
   split at hj
   ·exact hj
   ·cases hj
end
theorem rd_pt {b off cap : Nat} {cs : List Value} {E : TypeId} {fr : Nat × Nat} {sz : Nat} {css : List (List Value)} {pre post : List Value} (hcs : cs = pre ++ css.flatten ++ post) (hpre : pre.length = off) (hw : ∀ c ∈ css,c.length = sz) (hpos : 0 < sz) (hcap : css.length ≤ cap) :
  Rd (pt b (.cells cs.toArray E fr)) sz css (.slice (some ⟨b,off,none⟩) css.length cap) := by
 refine ⟨.inr ⟨_,_,hcap,rfl⟩,hw,?_⟩
 intro O w F hs a n cap' e i c hi j x hj
 injection e with e1 e2 e3
 injection e1 with e1
 subst e1
 have hb := hs.block
 have hflen : ∀ css : List (List Value),(∀ c ∈ css,c.length = sz) → ∀ i c,css[i]? = some c → ∃ L Rr,css.flatten = L ++ c ++ Rr ∧ L.length = i * sz := by
  intro css hw i c hi
  obtain ⟨h1,h2⟩ := split_at hi
  refine ⟨(css.take i).flatten,(css.drop (i + 1)).flatten,?_,?_⟩
  ·conv => lhs;rw [h1]
   simp
  ·have : ∀ l : List (List Value),(∀ c ∈ l,c.length = sz) → l.flatten.length = l.length * sz := by
    intro l hl
    induction l with
    | nil => simp
    | cons c r ih =>
     simp only [List.flatten_cons,List.length_append,List.length_cons,Nat.add_mul,Nat.one_mul]
     rw [ih (fun x hx => hl x (by simp [hx])),hl c (by simp)];omega
   rw [this _ (fun c hc => hw c (List.mem_of_mem_take hc)),h2]
 obtain ⟨L,Rr,g1,g2⟩ := hflen css hw i c hi
 have hjl := (List.getElem?_eq_some_iff.1 hj).1
 rw [Addr.add_lit,Addr.add_mid]
 rw [cell_of_row w b (off + i * sz + j) cs.toArray E fr hb]
 have e2 : cs = (pre ++ L) ++ (c ++ (Rr ++ post)) := by rw [hcs,g1];simp
 show cs.toArray[off + i * sz + j]? = some x
 rw [List.getElem?_toArray,e2,List.getElem?_append_right (by simp [hpre,g2]),List.getElem?_append_left (by simp [hpre,g2];omega)]
 have : off + i * sz + j - (pre ++ L).length = j := by simp [hpre,g2]
 rw [this];exact hj
end Hp
end Go.Proofs.YtegafhhdegnigaaGreat
end
