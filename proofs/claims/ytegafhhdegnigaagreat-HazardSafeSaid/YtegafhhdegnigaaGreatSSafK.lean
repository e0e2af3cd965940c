/-
  HazardSafe: what safe effects leave in the log and among the shifts.
-/
import Derived.Test.YtegafhhdegnigaaGreatSEvp
set_option linter.all false
section
namespace Go.Proofs.YtegafhhdegnigaaGreat
open Go.RowKit Hp
set_option maxRecDepth 100000
set_option maxHeartbeats 1000000
attribute [local irreducible] Go.Calls
def put (sl : List Slt) (x : Shf) : List Slt := sl.set x.slot.toNat ⟨x.to,if x.to = 0 ∨ x.to = 3 then -1 else x.thread⟩
def puts (sl : List Slt) (ds : List Shf) : List Slt := ds.foldl put sl
theorem puts_append (sl : List Slt) (x y : List Shf) : puts sl (x ++ y) = puts (puts sl x) y := List.foldl_append ..
def MayL : List Slt → List Shf → Prop
 | _,[] => True
 | sl,x :: r => MayS x.thread (sl.getD x.slot.toNat ⟨0,0⟩) x.to ∧ MayL (put sl x) r
theorem mayL_append : ∀ {x y : List Shf} {sl : List Slt},MayL sl (x ++ y) ↔ MayL sl x ∧ MayL (puts sl x) y
 | [],y,sl => by simp [MayL,puts]
 | d :: x,y,sl => by
  have h := mayL_append (x := x) (y := y) (sl := put sl d)
  simp only [List.cons_append,MayL]
  rw [h]
  exact ⟨fun ⟨h1,h2,h3⟩ => ⟨⟨h1,h2⟩,h3⟩,fun ⟨⟨h1,h2⟩,h3⟩ => ⟨h1,h2,h3⟩⟩
def Each (R : List Slt → Shf → Prop) (sl : List Slt) (ds : List Shf) : Prop := ∀ pre d post,ds = pre ++ d :: post → R (puts sl pre) d
theorem each_nil {R : List Slt → Shf → Prop} {sl : List Slt} : Each R sl [] := fun pre d post e => by simp at e
theorem each_one {R : List Slt → Shf → Prop} {sl : List Slt} {d : Shf} (h : R sl d) : Each R sl [d] := fun pre d' post e => by
 cases pre with
 | nil => simp at e;rw [← e.1];exact h
 | cons a r => simp at e
theorem each_append {R : List Slt → Shf → Prop} {sl : List Slt} {x y : List Shf} (h1 : Each R sl x) (h2 : Each R (puts sl x) y) : Each R sl (x ++ y) := by
 intro pre d post e
 rcases List.append_eq_append_iff.1 e with ⟨a',e1,e2⟩|⟨c',e1,e2⟩
 ·rw [e1,puts_append]
  exact h2 a' d post e2
 ·cases c' with
  | nil =>
   simp only [List.append_nil] at e1
   simp only [List.nil_append] at e2
   rw [← e1]
   exact h2 [] d post e2.symm
  | cons z c'' =>
   simp only [List.cons_append,List.cons.injEq] at e2
   obtain ⟨rfl,rfl⟩ := e2
   exact h1 pre d c'' e1
structure Eff (c : Cfg) (Q : Nat → Prop) (P B : Int → Prop) (w : Prop) (t : Nat) (x y : St3) (es : List Acc) (ds : List Shf) : Prop where
 log : y.2.2.mem.log = x.2.2.mem.log ++ es
 shifts : y.2.2.shifts = x.2.2.shifts ++ ds
 slots : y.2.1.slots = puts x.2.1.slots ds
 acc : ∀ e ∈ es,∃ j : Nat,e.addr = (j : Int) ∧ Q j ∧ (e.kind = 1 ∨ (Hzj c j → w ∧ e.kind = 2))
 quiet : w → ds = []
 each : Each (fun sl d => 0 ≤ d.slot ∧ d.thread = (t : Int) ∧ MayS t (sl.getD d.slot.toNat ⟨0,0⟩) d.to ∧ ((sl.getD d.slot.toNat ⟨0,0⟩).state = 5 → P d.slot) ∧ (d.to = 4 → B d.slot)) x.2.1.slots ds
 mm : y.2.2.mem.move = x.2.2.mem.move
 now : y.2.2.now = x.2.2.now
 th : y.2.2.thread = x.2.2.thread
 em : ∀ e ∈ es,e.move = x.2.2.mem.move ∧ e.thread = x.2.2.thread
 dm : ∀ d ∈ ds,d.move = x.2.2.now
theorem EvP.eff {c : Cfg} {Q : Nat → Prop} {P B : Int → Prop} {w : Prop} {t : Nat} {x y : St3} (h : EvP c Q P B w t x y) : ∃ es ds,Eff c Q P B w t x y es ds := by
 induction h with
 | refl x => exact ⟨[],[],by simp,by simp,rfl,by simp,fun _ => rfl,each_nil,rfl,rfl,rfl,by simp,by simp⟩
 | trans _ _ ih1 ih2 =>
  obtain ⟨es1,ds1,a1,a2,a3,a4,a5,a6,a7,a8,a9,a10,a11⟩ := ih1
  obtain ⟨es2,ds2,b1,b2,b3,b4,b5,b6,b7,b8,b9,b10,b11⟩ := ih2
  refine ⟨es1 ++ es2,ds1 ++ ds2,by rw [b1,a1,List.append_assoc],by rw [b2,a2,List.append_assoc],by rw [b3,a3,puts_append],fun e he => ?_,fun hw => by rw [a5 hw,b5 hw];rfl,each_append a6 (by rw [← a3];exact b6),b7.trans a7,b8.trans a8,b9.trans a9,fun e he => ?_,fun e he => ?_⟩
  ·rcases List.mem_append.1 he with h|h
   ·exact a4 e h
   ·exact b4 e h
  ·rcases List.mem_append.1 he with h|h
   ·exact a10 e h
   ·have := b10 e h;rw [a7,a9] at this;exact this
  ·rcases List.mem_append.1 he with h|h
   ·exact a11 e h
   ·have := b11 e h;rw [a8] at this;exact this
 | load j hq => exact ⟨[_],[],rfl,by simp [Mch.load],rfl,fun e he => by simp at he;subst he;exact ⟨j,rfl,hq,.inl rfl⟩,fun _ => rfl,each_nil,rfl,rfl,rfl,fun e he => by simp at he;subst he;exact ⟨rfl,rfl⟩,by simp⟩
 | store j z hq hw => exact ⟨[_],[],rfl,by simp [Mch.store],rfl,fun e he => by simp at he;subst he;exact ⟨j,rfl,hq,.inr fun hz => ⟨hw hz,rfl⟩⟩,fun _ => rfl,each_nil,rfl,rfl,rfl,fun e he => by simp at he;subst he;exact ⟨rfl,rfl⟩,by simp⟩
 | swap j o z hq hn => exact ⟨[_],[],rfl,by simp [Mch.swap],rfl,fun e he => by simp at he;subst he;exact ⟨j,rfl,hq,.inr fun hz => absurd hz hn⟩,fun _ => rfl,each_nil,rfl,rfl,rfl,fun e he => by simp at he;subst he;exact ⟨rfl,rfl⟩,by simp⟩
 | @shift h a m s to h0 ht hm hp hw hb =>
  have e : a.sl s = a.slots.getD s.toNat ⟨0,0⟩ := by unfold Are.sl;rw [if_pos h0]
  rw [e] at hm hp
  exact ⟨[],[⟨m.now,m.thread,s,(a.slots.getD s.toNat ⟨0,0⟩).state,to⟩],by simp [Mch.shift],rfl,by simp [puts,put,Are.shift],by simp,fun h => absurd h hw,each_one ⟨h0,ht,hm,hp,hb⟩,rfl,rfl,rfl,by simp,by simp⟩
 | quiet h1 h2 h3 h4 => exact ⟨[],[],by rw [h1];simp,by rw [h2];simp,rfl,by simp,fun _ => rfl,each_nil,by rw [h1],h3,h4,by simp,by simp⟩
 | haz h' => exact ⟨[],[],by simp,by simp,rfl,by simp,fun _ => rfl,each_nil,rfl,rfl,rfl,by simp,by simp⟩
 | cache cs => exact ⟨[],[],by simp,by simp,rfl,by simp,fun _ => rfl,each_nil,rfl,rfl,rfl,by simp,by simp⟩
end Go.Proofs.YtegafhhdegnigaaGreat
end
/-
  HazardSafe, the plain law: along every run each access is to an open slot, each shift may be made, and nothing is given back that a hazard names since it was linked.
-/
section
namespace Go.Proofs.YtegafhhdegnigaaGreat
open Go.RowKit Hp
set_option maxRecDepth 100000
set_option maxHeartbeats 1000000
attribute [local irreducible] Go.Calls
def s0 (c : Cfg) : List Slt := (are0 c).slots
def sAt (c : Cfg) (sh : List Shf) (s : Int) : Slt := (puts (s0 c) sh).getD s.toNat ⟨0,0⟩
def opn (x : Slt) (t : Int) : Prop := x.state = 3 ∨ x.state = 4 ∨ x.state = 5 ∨ x.state = 2 ∧ x.holder = t
def Seen (c : Cfg) (sh : List Shf) (s fr : Int) : Prop := ∃ p x q,sh = p ++ x :: q ∧ fr ≤ x.move ∧ (sAt c p s).state = 3
def Wrt (a : Int) (e : Acc) : Prop := e.addr = a ∧ (e.kind = 2 ∨ e.kind = 3 ∧ e.saw = e.old)
instance (a : Int) (e : Acc) : Decidable (Wrt a e) := by unfold Wrt;infer_instance
def wr1 (a : Int) (w : Int × Int) (e : Acc) : Int × Int := if Wrt a e then (e.move,e.new) else w
def lastW (a : Int) (l : List Acc) : Int × Int := l.foldl (wr1 a) (-1,0)
theorem puts_len : ∀ (ds : List Shf) (sl : List Slt),(puts sl ds).length = sl.length
 | [],_ => rfl
 | d :: r,sl => by show (puts (put sl d) r).length = _;rw [puts_len r];simp [put]
theorem fold_none {a : Int} : ∀ {l : List Acc} {w : Int × Int},(∀ e ∈ l,¬ Wrt a e) → l.foldl (wr1 a) w = w
 | [],_,_ => rfl
 | e :: r,w,h => by
  show r.foldl (wr1 a) (wr1 a w e) = w
  rw [show wr1 a w e = w from if_neg (h e (List.mem_cons_self ..))]
  exact fold_none fun e he => h e (List.mem_cons_of_mem _ he)
theorem fold_some {a : Int} : ∀ {l : List Acc} {w : Int × Int},(∃ e ∈ l,Wrt a e) → ∃ e ∈ l,Wrt a e ∧ l.foldl (wr1 a) w = (e.move,e.new)
 | [],_,h => by obtain ⟨e,h,_⟩ := h;simp at h
 | e :: r,w,h => by
  show ∃ e' ∈ e :: r,Wrt a e' ∧ r.foldl (wr1 a) (wr1 a w e) = _
  by_cases hr : ∃ e ∈ r,Wrt a e
  ·obtain ⟨e',h1,h2,h3⟩ := fold_some (w := wr1 a w e) hr
   exact ⟨e',List.mem_cons_of_mem _ h1,h2,h3⟩
  ·obtain ⟨e',h1,h2⟩ := h
   rcases List.mem_cons.1 h1 with rfl|h1
   ·exact ⟨e',List.mem_cons_self ..,h2,by rw [fold_none fun z hz hw => hr ⟨z,hz,hw⟩];exact if_pos h2⟩
   ·exact absurd ⟨e',h1,h2⟩ hr
theorem lastW_none {a : Int} {l es : List Acc} (h : ∀ e ∈ es,¬ Wrt a e) : lastW a (l ++ es) = lastW a l := by
 unfold lastW;rw [List.foldl_append];exact fold_none h
theorem lastW_some {a : Int} {l es : List Acc} (h : ∃ e ∈ es,Wrt a e) : ∃ e ∈ es,Wrt a e ∧ lastW a (l ++ es) = (e.move,e.new) := by
 unfold lastW;rw [List.foldl_append];exact fold_some h
theorem rep_word {a : Nat} : ∀ {l : List Acc} {ws ws' : List Int} {w : Int × Int},rep ws l = some ws' → w.2 = ws.getD a 0 → (l.foldl (wr1 (a : Int)) w).2 = ws'.getD a 0
 | [],ws,ws',w,h,hw => by cases h;exact hw
 | e :: r,ws,ws',w,h,hw => by
  simp only [rep] at h
  cases h1 : rep1 ws e with
  | none => rw [h1] at h;cases h
  | some w1 =>
   rw [h1] at h
   refine rep_word (l := r) (ws := w1) h ?_
   have hset : ∀ z,e.addr = (a : Int) → e.addr < ws.length → (ws.set e.addr.toNat z).getD a 0 = z := by
    intro z he hl
    rw [he,Int.toNat_natCast,List.getD_eq_getElem?_getD,List.getElem?_set_self (by omega)];rfl
   have hset2 : ∀ z,e.addr ≠ (a : Int) → 0 ≤ e.addr → (ws.set e.addr.toNat z).getD a 0 = ws.getD a 0 := by
    intro z he h0
    rw [List.getD_eq_getElem?_getD,List.getElem?_set_ne (by omega),List.getD_eq_getElem?_getD]
   unfold rep1 at h1
   unfold wr1
   split at h1
   ·rename_i hr
    split at h1
    ·rename_i hk
     split at h1
     ·cases h1;rw [if_neg (fun h : Wrt _ _ => by obtain ⟨_,h|h⟩ := h <;> omega)];exact hw
     ·cases h1
    ·split at h1
     ·rename_i hk hk2
      split at h1
      ·cases h1
       by_cases he : e.addr = (a : Int)
       ·rw [if_pos (show Wrt (a : Int) e from ⟨he,.inl hk2⟩),hset _ he hr.2]
       ·rw [if_neg (fun hf : Wrt _ _ => he hf.1),hset2 _ he hr.1];exact hw
      ·cases h1
     ·split at h1
      ·rename_i hk hk2 hk3
       split at h1
       ·cases h1
        by_cases hs : e.saw = e.old
        ·rw [if_pos hs]
         by_cases he : e.addr = (a : Int)
         ·rw [if_pos (show Wrt (a : Int) e from ⟨he,.inr ⟨hk3,hs⟩⟩),hset _ he hr.2]
         ·rw [if_neg (fun hf : Wrt _ _ => he hf.1),hset2 _ he hr.1];exact hw
        ·rw [if_neg hs,if_neg (fun h : Wrt _ _ => by obtain ⟨_,h|h⟩ := h <;> omega)];exact hw
       ·cases h1
      ·cases h1
   ·cases h1
theorem shfs_puts : ∀ {ds : List Shf} {sl sl' : List Slt},shfs sl ds = some sl' → sl' = puts sl ds
 | [],sl,sl',h => by cases h;rfl
 | d :: r,sl,sl',h => by
  simp only [shfs] at h
  cases h1 : shf1 sl d with
  | none => rw [h1] at h;cases h
  | some s1 =>
   rw [h1] at h
   have := shfs_puts (ds := r) (sl := s1) h
   unfold shf1 at h1
   split at h1
   ·cases h1;exact this
   ·cases h1
structure SafJ (c : Cfg) (pr : Int → Prop) (lg : List Acc) (sh : List Shf) : Prop where
 acc : ∀ e ∈ lg,(0 ≤ e.addr ∧ e.addr < base c 11) ∨ ∃ s,e.addr = base c 11 + s ∧ 0 ≤ s ∧ s < c.Sl ∧ opn (sAt c (sh.filter (fun x => decide (x.move ≤ e.move))) s) e.thread
 may : MayL (s0 c) sh
 held : ∀ p x q,sh = p ++ x :: q → (sAt c p x.slot).state = 5 → ∀ j,0 ≤ j → j < c.R * c.Hz → (lastW (base c 9 + j) (lg.filter (fun e => decide (e.move ≤ x.move)))).2 = x.slot + 1 →
  ¬ Seen c p x.slot (lastW (base c 9 + j) (lg.filter (fun e => decide (e.move ≤ x.move)))).1
 since : ∀ j s,0 ≤ j → j < c.R * c.Hz → 0 ≤ s → s < c.Sl → (lastW (base c 9 + j) lg).2 = s + 1 → (Seen c sh s (lastW (base c 9 + j) lg).1 ∨ (sAt c sh s).state = 3) → pr j
section
variable {c : Cfg} {n : Int} {t : Nat} {pr pr' : Int → Prop} {x y : St3} {es : List Acc} {ds : List Shf} {Q : Nat → Prop} {P B : Int → Prop} {w : Prop}
theorem sAt_app (c : Cfg) (a b : List Shf) (s : Int) : sAt c (a ++ b) s = (puts (puts (s0 c) a) b).getD s.toNat ⟨0,0⟩ := by unfold sAt;rw [puts_append]
theorem stay {sl : List Slt} {s : Int} (h0 : 0 ≤ s) : ∀ (r pre : List Shf) (all : List Shf),all = pre ++ r → Each (fun sl d => 0 ≤ d.slot ∧ d.thread = (t : Int) ∧ MayS t (sl.getD d.slot.toNat ⟨0,0⟩) d.to ∧ ((sl.getD d.slot.toNat ⟨0,0⟩).state = 5 → P d.slot) ∧ (d.to = 4 → B d.slot)) sl all →
  ((puts sl pre).getD s.toNat ⟨0,0⟩).state = 3 → ((puts sl all).getD s.toNat ⟨0,0⟩).state = 3 ∨ B s
 | [],pre,all,e,_,h => by rw [e,List.append_nil];exact .inl h
 | d :: r,pre,all,e,hE,h => by
  obtain ⟨d0,_,d2,_,d4⟩ := hE pre d r e
  have e' : all = (pre ++ [d]) ++ r := by rw [e];simp
  by_cases hs : d.slot = s
  ·subst hs
   refine .inr (d4 ?_)
   rcases d2 with ⟨h1,_⟩|⟨h1,_⟩|⟨h1,_⟩|⟨_,h1⟩|⟨h1,_⟩|⟨h1,_⟩ <;> omega
  ·refine stay h0 r (pre ++ [d]) all e' hE ?_
   rw [puts_append]
   show ((put (puts sl pre) d).getD s.toNat ⟨0,0⟩).state = 3
   unfold put
   rw [List.getD_eq_getElem?_getD,List.getElem?_set_ne (by omega),← List.getD_eq_getElem?_getD]
   exact h
theorem each_may {R : List Slt → Shf → Prop} (hR : ∀ sl d,R sl d → MayS d.thread (sl.getD d.slot.toNat ⟨0,0⟩) d.to) : ∀ (ds : List Shf) (sl : List Slt),Each R sl ds → MayL sl ds
 | [],_,_ => trivial
 | d :: r,sl,h => ⟨hR _ _ (h [] d r rfl),each_may hR r _ fun pre d' post e => h (d :: pre) d' post (by rw [e];rfl)⟩
theorem split_app {α : Type} {a b p q : List α} {x : α} (h : a ++ b = p ++ x :: q) : (∃ q',a = p ++ x :: q' ∧ q = q' ++ b) ∨ ∃ p',p = a ++ p' ∧ b = p' ++ x :: q := by
 rcases List.append_eq_append_iff.1 h with ⟨a',e1,e2⟩|⟨c',e1,e2⟩
 ·exact .inr ⟨a',e1,e2⟩
 ·cases c' with
  | nil => exact .inr ⟨[],by simpa using e1.symm,by simpa using e2.symm⟩
  | cons z c'' =>
   simp only [List.cons_append,List.cons.injEq] at e2
   obtain ⟨rfl,e2⟩ := e2
   exact .inl ⟨c'',e1,e2⟩
theorem filter_app_none {α : Type} {p : α → Bool} {a b : List α} (h : ∀ z ∈ b,p z = false) : (a ++ b).filter p = a.filter p := by
 have hb : b.filter p = [] := List.filter_eq_nil_iff.2 (fun z hz => by rw [h z hz];simp)
 rw [List.filter_append,hb,List.append_nil]
theorem filter_all {α : Type} {p : α → Bool} {a : List α} (h : ∀ z ∈ a,p z = true) : a.filter p = a := List.filter_eq_self.2 h
theorem SafJ.half (hok : c.Ok) (S : SafJ c pr x.2.2.mem.log x.2.2.shifts) (E : Eff c Q P B w t x y es ds) (hsl : x.2.1.slots = puts (s0 c) x.2.2.shifts)
  (hm : x.2.2.mem.move = n) (hn : x.2.2.now = n) (hth : x.2.2.thread = (t : Int)) (hlt : ∀ e ∈ x.2.2.mem.log,e.move < n) (hsh : ∀ d ∈ x.2.2.shifts,d.move ≤ n) (hshw : w → ∀ d ∈ x.2.2.shifts,d.move < n)
  (hQ : ∀ j,Q j → (j : Int) < base c 11 ∨ ∃ s,(j : Int) = base c 11 + s ∧ 0 ≤ s ∧ s < c.Sl ∧ opn (y.2.1.slots.getD s.toNat ⟨0,0⟩) t)
  (hP : ∀ s,P s → ∀ j,0 ≤ j → j < c.R * c.Hz → pr j → (lastW (base c 9 + j) x.2.2.mem.log).2 ≠ s + 1) (hB : ∀ s,B s → 0 ≤ s → (sAt c x.2.2.shifts s).state = 3)
  (hpr : ∀ j,0 ≤ j → j < c.R * c.Hz → (¬ ∃ e ∈ es,e.kind = 2 ∧ e.addr = base c 9 + j) → pr j → pr' j)
  (hpr2 : ∀ j s,0 ≤ j → j < c.R * c.Hz → 0 ≤ s → s < c.Sl → (lastW (base c 9 + j) y.2.2.mem.log).2 = s + 1 → (sAt c y.2.2.shifts s).state = 3 → pr' j)
  (hrg : ∀ d ∈ ds,d.slot < c.Sl) :
  SafJ c pr' y.2.2.mem.log y.2.2.shifts := by
 have hbs := bases hok
 have hb9 := (base_le hok 9).1
 have b10 : base c 10 = base c 9 + c.R * c.Hz := rfl
 have em := fun e he => (E.em e he).1.trans hm
 have dm := fun d hd => (E.dm d hd).trans hn
 
 have hwr : ∀ j,0 ≤ j → j < c.R * c.Hz → ∀ e ∈ es,Wrt (base c 9 + j) e → w ∧ e.kind = 2 := by
  intro j j0 j1 e he hw
  obtain ⟨k,hk,_,h⟩ := E.acc e he
  obtain ⟨w1,w2⟩ := hw
  rcases h with h|h
  ·omega
  ·exact h ⟨by omega,by omega⟩
 have hyS : ∀ s,(y.2.1.slots.getD s.toNat ⟨0,0⟩) = sAt c y.2.2.shifts s := by
  intro s;rw [E.slots,E.shifts,hsl,sAt_app]
 have hnl : ds ≠ [] → ¬ w := fun h hw => h (E.quiet hw)
 have hnow : ds ≠ [] → ∀ j,0 ≤ j → j < c.R * c.Hz → ∀ e ∈ es,¬ Wrt (base c 9 + j) e := fun h j j0 j1 e he hw => hnl h (hwr j j0 j1 e he hw).1
 refine ⟨fun e he => ?_,?_,?_,?_⟩
 ·rw [E.log] at he
  rcases List.mem_append.1 he with he|he
  ·have hl := hlt e he
   rw [E.shifts,filter_app_none fun d hd => by have := dm d hd;rw [decide_eq_false_iff_not];omega]
   exact S.acc e he
  ·obtain ⟨k,hk,hq,_⟩ := E.acc e he
   rw [hk]
   rcases hQ k hq with h|⟨s,h1,h2,h3,h4⟩
   ·exact .inl ⟨by omega,h⟩
   ·refine .inr ⟨s,h1,h2,h3,?_⟩
    have hmv := em e he
    rw [E.shifts,filter_all (fun d hd => by
     rw [decide_eq_true_eq,hmv]
     rcases List.mem_append.1 hd with hd|hd
     ·exact hsh d hd
     ·rw [dm d hd];omega),← E.shifts,← hyS,(E.em e he).2,hth]
    exact h4
 ·rw [E.shifts,mayL_append,← hsl]
  exact ⟨S.may,each_may (fun sl d h => by rw [h.2.1];exact h.2.2.1) ds _ E.each⟩
 ·intro p d q e h5 j j0 j1 hv hseen
  rw [E.log] at hv hseen
  rw [E.shifts] at e
  rcases split_app e with ⟨q',e1,e2⟩|⟨p',e1,e2⟩
  ·have hd : d ∈ x.2.2.shifts := by rw [e1];simp
   have hfl : lastW (base c 9 + j) ((x.2.2.mem.log ++ es).filter (fun e => decide (e.move ≤ d.move))) = lastW (base c 9 + j) (x.2.2.mem.log.filter (fun e => decide (e.move ≤ d.move))) := by
    rw [List.filter_append]
    refine lastW_none fun e he hw => ?_
    obtain ⟨he,hle⟩ := List.mem_filter.1 he
    rw [decide_eq_true_eq,em e he] at hle
    have := hshw (hwr j j0 j1 e he hw).1 d hd
    omega
   rw [hfl] at hv hseen
   exact S.held p d q' e1 h5 j j0 j1 hv hseen
  ·have hd : d ∈ ds := by rw [e2];simp
   have hdn : ds ≠ [] := List.ne_nil_of_mem hd
   have hdm := dm d hd
   have hfl : lastW (base c 9 + j) ((x.2.2.mem.log ++ es).filter (fun e => decide (e.move ≤ d.move))) = lastW (base c 9 + j) x.2.2.mem.log := by
    rw [filter_all fun z hz => by
     rw [decide_eq_true_eq,hdm]
     rcases List.mem_append.1 hz with hz|hz
     ·have := hlt z hz;omega
     ·rw [em z hz];omega]
    exact lastW_none (hnow hdn j j0 j1)
   rw [hfl] at hv hseen
   obtain ⟨d0,_,d2,d3,_⟩ := E.each p' d q e2
   have hst : ((puts x.2.1.slots p').getD d.slot.toNat ⟨0,0⟩).state = 5 := by rw [hsl,← sAt_app,← e1];exact h5
   have hPd := d3 hst
   have hds := hrg d hd
   refine hP _ hPd j j0 j1 ?_ hv
   refine S.since j d.slot j0 j1 d0 hds hv ?_
   obtain ⟨p1,z,r,f1,f2,f3⟩ := hseen
   rw [e1] at f1
   rcases split_app f1 with ⟨q',g1,g2⟩|⟨p2,g1,g2⟩
   ·exact .inl ⟨p1,z,q',g1,f2,f3⟩
   ·rw [g1,sAt_app,← hsl] at f3
    have hE : Each (fun sl d => 0 ≤ d.slot ∧ d.thread = (t : Int) ∧ MayS t (sl.getD d.slot.toNat ⟨0,0⟩) d.to ∧ ((sl.getD d.slot.toNat ⟨0,0⟩).state = 5 → P d.slot) ∧ (d.to = 4 → B d.slot)) x.2.1.slots p' :=
     fun a b k hk => E.each a b (k ++ d :: q) (by rw [e2,hk];simp)
    rcases stay d0 (z :: r) p2 p' g2 hE f3 with h|h
    ·omega
    ·exact .inr (hB _ h d0)
 ·intro j s j0 j1 h0 h1 hv hL
  have hfin : (sAt c y.2.2.shifts s).state = 3 → pr' j := hpr2 j s j0 j1 h0 h1 hv
  rcases hL with hL|hL
  ·by_cases hw : ∃ e ∈ es,Wrt (base c 9 + j) e
   ·obtain ⟨e,he,hwe,hl⟩ := lastW_some (l := x.2.2.mem.log) hw
    rw [E.log,hl] at hL
    have hww := (hwr j j0 j1 e he hwe).1
    obtain ⟨p,d,q,f1,f2,f3⟩ := hL
    rw [E.shifts,E.quiet hww,List.append_nil] at f1
    have := hshw hww d (by rw [f1];simp)
    have := em e he
    simp only [] at f2
    omega
   ·have hl : lastW (base c 9 + j) y.2.2.mem.log = lastW (base c 9 + j) x.2.2.mem.log := by
     rw [E.log];exact lastW_none fun e he hwe => hw ⟨e,he,hwe⟩
    rw [hl] at hL hv
    have hpk : pr j → pr' j := hpr j j0 j1 fun ⟨e,he,k1,k2⟩ => hw ⟨e,he,k2,.inl k1⟩
    obtain ⟨p,d,q,f1,f2,f3⟩ := hL
    rw [E.shifts] at f1
    rcases split_app f1 with ⟨q',g1,g2⟩|⟨p2,g1,g2⟩
    ·exact hpk (S.since j s j0 j1 h0 h1 hv (.inl ⟨p,d,q',g1,f2,f3⟩))
    ·rw [g1,sAt_app,← hsl] at f3
     rcases stay h0 (d :: q) p2 ds g2 E.each f3 with h|h
     ·refine hfin ?_
      rw [E.shifts,sAt_app,← hsl];exact h
     ·exact hpk (S.since j s j0 j1 h0 h1 hv (.inr (hB _ h h0)))
  ·exact hfin hL
end
end Go.Proofs.YtegafhhdegnigaaGreat
end
/-
  HazardSafe, the plain law: every move keeps what is known of the recorded.
-/
section
namespace Go.Proofs.YtegafhhdegnigaaGreat
open Go.RowKit Hp
set_option maxRecDepth 100000
set_option maxHeartbeats 1000000
attribute [local irreducible] Go.Calls
section
variable {c : Cfg} {a : Are} {m : Mch}
theorem hz_last (hok : c.Ok) (hr : rep (firstW c 0) m.mem.log = some m.mem.words) {j : Int} (j0 : 0 ≤ j) (j1 : j < c.R * c.Hz) : (mv c m).hz j = (lastW (base c 9 + j) m.mem.log).2 := by
 obtain ⟨_,_,_,_,_,w6⟩ := mv0 hok (m := (wst0 c 0 .nilIface).m) rfl
 have h0 := w6 j
 rw [hz_at j0 j1] at h0 ⊢
 have h1 : (firstW c 0).getD (adr c 9 j) 0 = 0 := h0
 have := rep_word (a := adr c 9 j) (w := (-1,0)) hr (by rw [h1])
 rw [adr_i hok 9 j0] at this
 exact this.symm
theorem shfs_rng : ∀ {ds : List Shf} {sl sl' : List Slt},shfs sl ds = some sl' → ∀ d ∈ ds,0 ≤ d.slot ∧ d.slot < sl.length
 | [],_,_,_,d,hd => by simp at hd
 | z :: r,sl,sl',h,d,hd => by
  simp only [shfs] at h
  cases h1 : shf1 sl z with
  | none => rw [h1] at h;cases h
  | some s1 =>
   rw [h1] at h
   unfold shf1 at h1
   split at h1
   ·rename_i hc
    cases h1
    rcases List.mem_cons.1 hd with rfl|hd
    ·exact hc.1
    ·have := shfs_rng (ds := r) h d hd
     simpa using this
   ·cases h1
theorem s0_len (hok : c.Ok) : ((s0 c).length : Int) = c.Sl := by have := hok.S1;simp [s0,are0];omega
theorem Are.sl_at (a : Are) {s : Int} (h : 0 ≤ s) : a.sl s = a.slots.getD s.toNat ⟨0,0⟩ := by unfold Are.sl;rw [if_pos h]
theorem rdy_wr {s : Haz × Are} {m : Mch} {i t : Nat} {cl : Cll} {se : Sea} {k : HTask} (h : WrH (htReady s m i t cl se k).2.2.2) : (htReady s m i t cl se k).2.2.1 = m := by
 cases k <;> first|exact h.elim|rfl
theorem safJ_ok (c : Cfg) (hok : c.Ok) : JOk c (fun _ pr y => SafJ c pr y.m.mem.log y.m.shifts) := by
 have hbs := bases hok
 have hb9 := (base_le hok 9).1
 refine ⟨?_,?_,?_,?_⟩
 ·intro km vs
  refine ⟨fun e he => ?_,trivial,fun p x q h => ?_,fun j s _ _ s0 _ h => ?_⟩
  ·exact absurd he (List.not_mem_nil)
  ·have h : [] = p ++ x :: q := h
   simp at h
  ·have h : (0 : Int) = s + 1 := h
   omega
 ·intro n pr y hn P R _ J
  exact J
 ·intro n pr y mv t k v vc hn P R _ J ht htT hop hk hK hmk
  exact J
 ·intro n pr F y t i cl se k Z Y r1 pr1 F1 r2 pr2 F2 hn P R SO R' J
  have hmv : y.m.moves = (n : Int) := P.moves
  have H0 : Hist c y.s.2 (stepM y t i se) := by
   refine ⟨rfl,R.ac,R.slots,R.lsort,fun e he => ?_,fun _ e he => ?_,fun e he h => ?_,R.lrep,R.ssort,fun e he => ?_,fun e he h => ?_,R.cross,R.srep⟩
   ·have := R.llt e he
    show e.move ≤ y.m.moves;omega
   ·have := R.llt e he
    show e.move < y.m.moves;omega
   ·have := R.llt e he
    have h : e.move = y.m.moves := h
    omega
   ·have := R.slt e he
    show e.move ≤ y.m.moves;omega
   ·have := R.slt e he
    have h : e.move = y.m.moves := h
    omega
  have H1 : Hist c r1.2.1.2 r1.2.2.1 := Hist.evo SO.ev1 H0
  have H2 : Hist c r2.2.1.2 r2.2.2.1 := Hist.evo SO.ev2 H1
  
  have key : ∀ {L S N : Nat} {g : Int} {r : RT} {pr' : Int → Prop} {F' : List Int},Half c n L S N g y t i cl se k Z Y pr' F' r → Hist c r.2.1.2 r.2.2.1 → ∀ j s,0 ≤ j → j < c.R * c.Hz → 0 ≤ s → s < c.Sl → (lastW (base c 9 + j) r.2.2.1.mem.log).2 = s + 1 → (sAt c r.2.2.1.shifts s).state = 3 → pr' j := by
   intro L S N g r pr' F' HH H j s j0 j1 h0 h1 hv hst
   have hh := hz_last hok H.lrep j0 j1
   rw [hv] at hh
   refine HH.gd.pr2 j j0 j1 ?_ ?_
   ·show 1 ≤ (mv c r.2.2.1).hz j;omega
   ·show (r.2.1.2.sl ((mv c r.2.2.1).hz j - 1)).state = 3
    rw [hh,show s + 1 - 1 = s by omega,Are.sl_at _ h0,shfs_puts H.srep]
    exact hst
  have hrng : ∀ d ∈ r2.2.2.1.shifts,d.slot < c.Sl := fun d hd => by
   have := shfs_rng H2.srep d hd
   have := s0_len hok
   unfold s0 at this
   omega
  have hrng1 : ∀ d ∈ r1.2.2.1.shifts,d.slot < c.Sl := fun d hd => by
   have := shfs_rng H1.srep d hd
   have := s0_len hok
   unfold s0 at this
   omega
  
  have half1 : SafJ c pr1 r1.2.2.1.mem.log r1.2.2.1.shifts ∧ r1.2.2.1.mem.log = y.m.mem.log ∧ r1.2.2.1.mem.move = n ∧ r1.2.2.1.now = n ∧ (WrH r1.2.2.2 → ∀ d ∈ r1.2.2.1.shifts,d.move < n) := by
   rcases SO.rdy with ⟨hf,e1⟩|⟨_,e1,e2,e3⟩
   ·have hI := SO.i0
    rw [hf] at hI
    obtain ⟨es,ds,E⟩ := (evp_rdy (Q := fun _ => False) (P := fun _ => False) (B := fun _ => False) (w := False) (i := i) (cl := cl) (se := { se with ready := true }) SO.c0 SO.htT rfl hI SO.g0 (fun h => h)).eff
    have hes : es = [] := List.eq_nil_iff_forall_not_mem.2 fun e he => by obtain ⟨_,_,h,_⟩ := E.acc e he;exact h
    have er : (((htReady (y.s.1,y.s.2) (stepM y t i se) i t cl { se with ready := true } k).2.1.1,(htReady (y.s.1,y.s.2) (stepM y t i se) i t cl { se with ready := true } k).2.1.2,(htReady (y.s.1,y.s.2) (stepM y t i se) i t cl { se with ready := true } k).2.2.1) : St3) = rst r1 := by rw [e1];rfl
    rw [er] at E
    have hlog : r1.2.2.1.mem.log = y.m.mem.log := by
     have := E.log
     rw [hes,List.append_nil] at this
     exact this
    refine ⟨?_,hlog,E.mm.trans hmv,E.now.trans hmv,fun hw => ?_⟩
    ·refine SafJ.half (n := n) hok (x := (y.s.1,y.s.2,stepM y t i se)) (y := rst r1) (pr := pr) J E (shfs_puts R.srep) hmv hmv rfl R.llt (fun d hd => by have := R.slt d hd;omega) (fun h => h.elim) (fun _ h => h.elim) (fun _ h => h.elim) (fun _ h => h.elim) ?_ (key SO.h1 H1) ?_
     ·intro j j0 j1 hne hp
      refine (SO.rl1.hz j ?_).2 hp
      rintro ⟨_,e,h1,_⟩
      rw [hlog] at h1
      have := congrArg List.length h1
      simp [stepM,Mch.prep,Wst.tick] at this
     ·intro d hd
      exact hrng1 d (by have := E.shifts;simp only [rst] at this;rw [this];simp [hd])
    ·rw [e1] at hw ⊢
     rw [rdy_wr hw]
     exact R.slt
   ·rw [e2,e1]
    exact ⟨J,rfl,hmv,hmv,fun _ => R.slt⟩
  obtain ⟨J1,hlog,hmm,hnn,hwr⟩ := half1
  
  have he : (stepY y t i r2).m.mem.log = r2.2.2.1.mem.log ∧ (stepY y t i r2).m.shifts = r2.2.2.1.shifts := by
   unfold stepY stepEnd
   simp only []
   split <;> exact ⟨rfl,rfl⟩
  show SafJ c pr2 (stepY y t i r2).m.mem.log (stepY y t i r2).m.shifts
  rw [he.1,he.2]
  rcases SO.stp with ⟨_,e1,e2,_⟩|⟨hf,e1⟩
  ·rw [e1,e2];exact J1
  ·have G := SO.h1.gd
   have hI := SO.h1.ti hf
   have D := SO.h1.td hf
   have hrS : rS r1 = hS r1.2.2.2 := by unfold rS;rw [if_neg (by simp [hf])]
   have hrL : rL r1 = hL r1.2.2.2 := by unfold rL;rw [if_neg (by simp [hf])]
   rw [hrS,hrL] at G
   have hR : ∀ r,r1.2.2.2 = .rdg r → r.stage = 3 → (fun j : Nat => (j : Int) < base c 11 ∨ ∃ s,(j : Int) = base c 11 + s ∧ 0 ≤ s ∧ s < c.Sl ∧ opn (r2.2.1.2.slots.getD s.toNat ⟨0,0⟩) (t : Int)) (adr c 11 (r.w - 1)) := by
    intro r hk h3
    rw [hk] at hI e1
    have hI : RdI c r := hI
    obtain ⟨w1,w2⟩ := hI.w (by omega)
    obtain ⟨_,_,d3⟩ := D.rd r hk
    obtain ⟨p1,p2⟩ := d3 h3
    obtain ⟨_,_,q⟩ := G.pr1 _ p1
    have p2 : (mv c r1.2.2.1).hz (r.addr - base c 9) = r.w := p2
    have q : (r1.2.1.2.sl ((mv c r1.2.2.1).hz (r.addr - base c 9) - 1)).state = 3 ∨ (r1.2.1.2.sl ((mv c r1.2.2.1).hz (r.addr - base c 9) - 1)).state = 5 := q
    rw [p2,Are.sl_at _ (by omega)] at q
    refine .inr ⟨r.w - 1,adr_i hok 11 (by omega),by omega,by omega,?_⟩
    have ea : r2.2.1.2 = r1.2.1.2 := by rw [e1];rfl
    rw [ea]
    rcases q with q|q
    ·exact .inl q
    ·exact .inr (.inr (.inl q))
   have hV : ∀ p,r1.2.2.2 = .pst p → p.stage = 1 → (fun j : Nat => (j : Int) < base c 11 ∨ ∃ s,(j : Int) = base c 11 + s ∧ 0 ≤ s ∧ s < c.Sl ∧ opn (r2.2.1.2.slots.getD s.toNat ⟨0,0⟩) (t : Int)) (adr c 11 (p.link - 1)) := by
    intro p hk h1
    rw [hk] at hI e1
    have hI := hI.2.2.1 rfl
    obtain ⟨kk,hkk,_,k1⟩ := hI.take
    obtain ⟨g1,g2,g3⟩ := k1 (.inl h1)
    have ho := D.own (p.link - 1) (by rw [hk];simp only [hO];rw [if_pos (.inl h1)];exact List.mem_cons_self ..)
    have ho : r1.2.1.2.sl (p.link - 1) = ⟨2,(t : Int)⟩ := ho
    rw [Are.sl_at _ (by omega)] at ho
    refine .inr ⟨p.link - 1,adr_i hok 11 (by omega),by omega,by omega,?_⟩
    have ea : r2.2.1.2 = r1.2.1.2 := by
     rw [e1]
     simp only [htStep]
     unfold postStep
     rw [hkk]
     simp only []
     rw [if_neg (by omega),if_pos h1]
    rw [ea,ho]
    exact .inr (.inr (.inr ⟨rfl,rfl⟩))
   obtain ⟨es,ds,E⟩ := (evp_stp (i := i) (cl := getC r1.2.2.1 i) (se := getS r1.2.2.1 t) (k := r1.2.2.2) (Q := (fun j : Nat => (j : Int) < base c 11 ∨ ∃ s,(j : Int) = base c 11 + s ∧ 0 ≤ s ∧ s < c.Sl ∧ opn (r2.2.1.2.slots.getD s.toNat ⟨0,0⟩) (t : Int)))
    (P := fun s => ∀ j,pr1 j → (mv c r1.2.2.1).hz j ≠ s + 1) (B := fun s => (r1.2.1.2.sl s).state = 3) SO.h1.core SO.htT SO.h1.thread hI G D (fun j hj => .inl hj) hR hV (fun _ h => h) (fun _ h => h)).eff
   have er : (((htStep (r1.2.1.1,r1.2.1.2) r1.2.2.1 i t (getC r1.2.2.1 i) (getS r1.2.2.1 t) r1.2.2.2).2.1.1,(htStep (r1.2.1.1,r1.2.1.2) r1.2.2.1 i t (getC r1.2.2.1 i) (getS r1.2.2.1 t) r1.2.2.2).2.1.2,(htStep (r1.2.1.1,r1.2.1.2) r1.2.2.1 i t (getC r1.2.2.1 i) (getS r1.2.2.1 t) r1.2.2.2).2.2.1) : St3) = rst r2 := by rw [e1];rfl
   rw [er] at E
   refine SafJ.half (n := n) hok (x := rst r1) (y := rst r2) (pr := pr1) J1 E (shfs_puts H1.srep) hmm hnn SO.h1.thread (fun e he => ?_) (fun d hd => ?_) hwr (fun j h => h) (fun s hp j j0 j1 hj => ?_) (fun s hb h0 => ?_) ?_ (key SO.h2 H2) ?_
   ·have he : e ∈ r1.2.2.1.mem.log := he
    rw [hlog] at he
    exact R.llt e he
   ·have := H1.sle d hd
    rw [hnn] at this
    exact this
   ·show (lastW (base c 9 + j) r1.2.2.1.mem.log).2 ≠ s + 1
    rw [← hz_last hok H1.lrep j0 j1]
    exact hp j hj
   ·show ((puts (s0 c) r1.2.2.1.shifts).getD s.toNat ⟨0,0⟩).state = 3
    have hb : (r1.2.1.2.sl s).state = 3 := hb
    rw [Are.sl_at _ h0,shfs_puts H1.srep] at hb
    exact hb
   ·intro j j0 j1 hne hp
    refine (SO.rl2.hz j ?_).2 hp
    rintro ⟨_,e,h1,h2⟩
    have h3 := E.log
    simp only [rst] at h3
    rw [h1] at h3
    have h4 := List.append_cancel_left h3
    exact hne ⟨e,by rw [← h4];simp,h2⟩
   ·intro d hd
    exact hrng d (by have := E.shifts;simp only [rst] at this;rw [this];simp [hd])
end
end Go.Proofs.YtegafhhdegnigaaGreat
end
