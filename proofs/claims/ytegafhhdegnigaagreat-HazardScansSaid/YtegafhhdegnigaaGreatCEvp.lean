/-
  HazardLists, the plain law: how long the records' lists are.
-/
import Derived.Test.YtegafhhdegnigaaGreatCOpen
set_option linter.all false
section
namespace Go.Proofs.YtegafhhdegnigaaGreat
open Go.RowKit Hp
set_option maxRecDepth 100000
set_option maxHeartbeats 1000000
attribute [local irreducible] Go.Calls
def Am (c : Cfg) : Int := c.R * c.Hz
def Bt (c : Cfg) : Int := if c.Rt ≤ Am c + 1 then Am c + 1 else c.Rt
def ll (h : Haz) (r : Int) : Int := ((h.lists.getD r.toNat []).length : Int)
def hlp (rc at_ : Int) : Int := if rc < at_ then at_ - 1 else at_
structure LsS (c : Cfg) (s : Scn) (l : Int) : Prop where
 try_ : s.stage = 0 ∨ s.stage = 1 → l ≤ Bt c + hlp s.record s.at_ * Am c
 lv : s.stage = 2 → l ≤ Bt c + (hlp s.record s.at_ + 1) * Am c
 look : s.stage = 3 → l ≤ Bt c + (c.R - 1) * Am c ∧ ∃ w : List Int,(w.length : Int) = s.at_ ∧ ∀ z,0 ≤ z → 0 < s.named z → z ∈ w
 done : s.stage = 5 ∨ s.stage = 6 → l ≤ Am c
section
variable {c : Cfg} {L S N : Nat} {h : Haz} {a : Are} {m : Mch} {t : Nat}
variable {n : Int} {Z Y : Int → Nat} {F : List Int} {pr : Int → Prop} {K K2 : List Int}
structure LsP (c : Cfg) (h : Haz) (s : Scn) (r : Bool × Haz × Are × Mch × Scn) : Prop where
 ls : LsS c r.2.2.2.2 (ll r.2.1 s.record)
 oth : ∀ q,0 ≤ q → q ≠ s.record → r.2.1.lists.getD q.toNat [] = h.lists.getD q.toNat [] ∨ r.2.1.lists.getD q.toNat [] = []
 held : r.2.1.held = h.held
 fin : r.1 = true → ll r.2.1 s.record ≤ Am c
theorem getD_set {l : List (List Int)} {q r : Int} {x : List Int} (q0 : 0 ≤ q) (r0 : 0 ≤ r) : (l.set r.toNat x).getD q.toNat [] = if q = r ∧ r.toNat < l.length then x else l.getD q.toNat [] := by
 by_cases e : q = r
 ·subst e
  by_cases hl : q.toNat < l.length
  ·rw [if_pos ⟨rfl,hl⟩,List.getD_eq_getElem?_getD,List.getElem?_set_self hl];rfl
  ·rw [if_neg (fun h => hl h.2),List.getD_eq_getElem?_getD,List.getD_eq_getElem?_getD,List.getElem?_eq_none (by simp;omega),List.getElem?_eq_none (by omega)]
 ·rw [if_neg (fun h => e h.1),List.getD_eq_getElem?_getD,List.getElem?_set_ne (by omega),← List.getD_eq_getElem?_getD]
end
end Go.Proofs.YtegafhhdegnigaaGreat
end
/-
  HazardSafe: each step by small effects that are safe: accesses to slots that are open, shifts that may be made, nothing given back that a hazard protects.
-/
section
namespace Go.Proofs.YtegafhhdegnigaaGreat
open Go.RowKit Hp
set_option maxRecDepth 100000
set_option maxHeartbeats 1000000
attribute [local irreducible] Go.Calls
def MayS (t : Int) (x : Slt) (to : Int) : Prop :=
 (x.state = 0 ∧ to = 2) ∨ (x.state = 1 ∧ (to = 2 ∨ to = 0) ∧ x.holder = t) ∨ (x.state = 2 ∧ (to = 3 ∨ to = 1 ∨ to = 0) ∧ x.holder = t) ∨ (x.state = 3 ∧ to = 4) ∨ (x.state = 4 ∧ to = 5 ∧ x.holder = t) ∨ (x.state = 5 ∧ (to = 1 ∨ to = 0))
def Hzj (c : Cfg) (j : Nat) : Prop := base c 9 ≤ (j : Int) ∧ (j : Int) < base c 10
inductive EvP (c : Cfg) (Q : Nat → Prop) (P B : Int → Prop) (w : Prop) (t : Nat) : St3 → St3 → Prop where
 | refl (x : St3) : EvP c Q P B w t x x
 | trans {x y z : St3} : EvP c Q P B w t x y → EvP c Q P B w t y z → EvP c Q P B w t x z
 | load {h : Haz} {a : Are} {m : Mch} (j : Nat) : Q j → EvP c Q P B w t (h,a,m) (h,a,m.load j (m.word j))
 | store {h : Haz} {a : Are} {m : Mch} (j : Nat) (z : Int) : Q j → (Hzj c j → w) → EvP c Q P B w t (h,a,m) (h,a,m.store j (m.word j) z)
 | swap {h : Haz} {a : Are} {m : Mch} (j : Nat) (o z : Int) : Q j → ¬ Hzj c j → EvP c Q P B w t (h,a,m) (h,a,m.swap j (m.word j) o z)
 | shift {h : Haz} {a : Are} {m : Mch} (s to : Int) : 0 ≤ s → m.thread = (t : Int) → MayS t (a.sl s) to → ((a.sl s).state = 5 → P s) → ¬ w → (to = 4 → B s) → EvP c Q P B w t (h,a,m) (h,a.shift s.toNat m.thread to,m.shift s (a.slots.getD s.toNat ⟨0,0⟩).state to)
 | quiet {h : Haz} {a : Are} {m m' : Mch} : m'.mem = m.mem → m'.shifts = m.shifts → m'.now = m.now → m'.thread = m.thread → EvP c Q P B w t (h,a,m) (h,a,m')
 | haz {h : Haz} (h' : Haz) {a : Are} {m : Mch} : EvP c Q P B w t (h,a,m) (h',a,m)
 | cache {h : Haz} {a : Are} {m : Mch} (cs : List (List Int)) : EvP c Q P B w t (h,a,m) (h,{ a with caches := cs },m)
section
variable {t : Nat} {c : Cfg} {L S N : Nat} {h : Haz} {a : Are} {m : Mch} {Q : Nat → Prop} {P B : Int → Prop} {w : Prop}
theorem lt11 (hc : c.Ok) {r : Nat} {z : Int} (h1 : r = 1 ∧ z = 0 ∨ r = 2 ∧ z = 0 ∨ r = 8 ∧ z < c.R ∨ r = 9 ∧ z < c.R * c.Hz ∨ r = 10 ∧ z < c.Sl) (h0 : 0 ≤ z) : ((adr c r z : Nat) : Int) < base c 11 := by
 have e := adr_i hc r h0
 obtain ⟨b1,b2,b8,b9,b10,b11,b12,b13,b14,rh,rh2⟩ := bases hc
 have := hc.S1
 have := hc.R1
 rcases h1 with ⟨rfl,rfl⟩|⟨rfl,rfl⟩|⟨rfl,_⟩|⟨rfl,_⟩|⟨rfl,_⟩ <;> omega
theorem nhz (hc : c.Ok) {r : Nat} {z : Int} (h1 : r = 1 ∧ z = 0 ∨ r = 2 ∧ z = 0 ∨ r = 8 ∧ z < c.R ∨ r = 10) (h0 : 0 ≤ z) : ¬ Hzj c (adr c r z) := by
 have e := adr_i hc r h0
 obtain ⟨b1,b2,b8,b9,b10,b11,b12,b13,b14,rh,rh2⟩ := bases hc
 have := hc.S1
 have := hc.R1
 unfold Hzj
 rcases h1 with ⟨rfl,rfl⟩|⟨rfl,rfl⟩|⟨rfl,_⟩|rfl <;> omega
theorem evp_push {p : Psh} (k : Core c L S N h a m) (I : PInv c p) (hQ : ∀ j : Nat,(j : Int) < base c 11 → Q j) (ht : m.thread = (t : Int)) (hm : MayS t (a.sl p.slot) 0) (hp : (a.sl p.slot).state = 5 → P p.slot) (hw : ¬ w) :
  EvP c Q P B w t (h,a,m) (h,(pushStep a m p).2.1,(pushStep a m p).2.2.1) := by
 obtain ⟨p1,p2,p3,p4⟩ := I
 have hac := k.ac
 have h1 := hQ _ (lt11 k.ok (.inl ⟨rfl,rfl⟩) (by omega))
 have h2 := hQ _ (lt11 k.ok (r := 10) (.inr (.inr (.inr (.inr ⟨rfl,p2⟩)))) p1)
 unfold pushStep
 rw [hac]
 split
 ·exact .load _ h1
 ·split
  ·exact .store _ _ h2 (fun hf => absurd hf (nhz k.ok (.inr (.inr (.inr rfl))) p1))
  ·simp only []
   split
   ·exact (EvP.swap _ _ _ h1 (nhz k.ok (.inl ⟨rfl,rfl⟩) (by omega))).trans (EvP.shift (m := m.swap _ _ _ _) _ _ p1 ht hm hp hw (fun hf => by omega))
   ·exact .swap _ _ _ h1 (nhz k.ok (.inl ⟨rfl,rfl⟩) (by omega))
theorem sl_ne {a : Are} {cs : List (List Int)} {s s' th to : Int} (h0 : 0 ≤ s) (h1 : s.toNat < a.slots.length) (hne : s' ≠ s) : ({ a with caches := cs }.shift s.toNat th to).sl s' = a.sl s' := by
 rw [sl_shift (a := { a with caches := cs }) h0 h1,updS_ne _ _ hne];rfl
theorem evp_free (hw : ¬ w) : ∀ (pend : List Int) (g : Option Psh) (a : Are) (m : Mch),m.thread = (t : Int) → pend.Nodup → (∀ z ∈ pend,(0 ≤ z ∧ z.toNat < a.slots.length) ∧ (a.sl z).state = 5 ∧ P z) →
  EvP c Q P B w t (h,a,m) (h,(freeLoop (t : Int) pend g a m).2.2.2.1,(freeLoop (t : Int) pend g a m).2.2.2.2)
 | [],g,a,m,_,_,_ => .refl _
 | s :: r,g,a,m,ht,hn,hin => by
  obtain ⟨⟨s0,s1⟩,h5,hP⟩ := hin s (List.mem_cons_self ..)
  obtain ⟨n1,n2⟩ := List.nodup_cons.1 hn
  unfold freeLoop
  unfold giveReady
  simp only []
  by_cases hf : a.c.Ca ≤ ((a.caches.getD ((t : Int)).toNat []).length : Int)
  ·rw [if_pos hf]
   simp only [Bool.false_eq_true,if_false]
   exact .refl _
  ·rw [if_neg hf]
   simp only [if_true]
   refine EvP.trans ((EvP.cache _).trans (EvP.shift (a := { a with caches := _ }) s 1 s0 ht ?_ (fun _ => hP) hw (fun hf => by omega))) (evp_free hw r _ _ _ ht n2 fun z hz => ?_)
   ·exact .inr (.inr (.inr (.inr (.inr ⟨h5,.inl rfl⟩))))
   ·obtain ⟨⟨z0,z1⟩,z5,zP⟩ := hin z (List.mem_cons_of_mem _ hz)
    have hne : z ≠ s := fun e => n1 (e ▸ hz)
    refine ⟨⟨z0,by simp only [Are.shift,List.length_set];exact z1⟩,?_,zP⟩
    rw [sl_ne s0 s1 hne]
    exact z5
theorem push_sl {p : Psh} (h0 : 0 ≤ p.slot) (h1 : p.slot.toNat < a.slots.length) {z : Int} (hne : z ≠ p.slot) : (pushStep a m p).2.1.sl z = a.sl z := by
 unfold pushStep
 split
 ·rfl
 ·split
  ·rfl
  ·simp only []
   split
   ·rw [sl_shift h0 h1,updS_ne _ _ hne]
   ·rfl
theorem push_len (a : Are) (m : Mch) (p : Psh) : (pushStep a m p).2.1.slots.length = a.slots.length ∧ (pushStep a m p).2.2.1.thread = m.thread := by
 unfold pushStep
 split
 ·exact ⟨rfl,rfl⟩
 ·split
  ·exact ⟨rfl,rfl⟩
  ·simp only []
   split
   ·exact ⟨by simp only [Are.shift,List.length_set],rfl⟩
   ·exact ⟨rfl,rfl⟩
variable {n : Int} {Z Y : Int → Nat} {F : List Int} {K Lk : List Int} {pr : Int → Prop}
theorem Gd.nodup {x : Sx} (G : Gd c n Z Y F x K Lk) : K.Nodup := List.nodup_iff_count.2 fun s => by have := G.le s;omega
theorem Gd.rng {x : Sx} (G : Gd c n Z Y F x K Lk) {s : Int} (h : s ∈ K) : 0 ≤ s ∧ s < c.Sl := G.range (by have := cpos h;omega)
theorem evp_scan {s : Scn} (C : Core c L S N h a m) (I : ScI c s) (hs : s.thread = (t : Int)) (hm : m.thread = (t : Int)) (G : Gd c n Z Y F (sx pr c h a m) (scnP s) (lkS s)) (D : ScD t (sx pr c h a m) s)
  (hQ : ∀ j : Nat,(j : Int) < base c 11 → Q j) (hP : ∀ s0,(∀ j,pr j → (mv c m).hz j ≠ s0 + 1) → P s0) (hnw : ¬ w) :
  EvP c Q P B w t (h,a,m) ((scanStep h a m s).2.1,(scanStep h a m s).2.2.1,(scanStep h a m s).2.2.2.1) := by
 have hok := C.ok
 have hac := C.ac
 have hb := bases hok
 obtain rfl := C.hc
 obtain ⟨i1,i2,i3,i4,i5,i6,i7,i8,i9⟩ := I
 obtain ⟨d1,d2,d3,d4,d5⟩ := D
 obtain ⟨e1,e2,e3⟩ := C.lget i1 i2
 have hK : s.stage ≠ 5 → scnP s = [] := fun hz => by unfold scnP;rw [if_neg hz]
 unfold scanStep
 by_cases s0 : s.stage = 0
 ·rw [if_pos s0]
  obtain ⟨a0,a1,a2⟩ := i6 (by omega)
  have h1 := hQ _ (lt11 hok (r := 8) (.inr (.inr (.inl ⟨rfl,a1⟩))) a0)
  unfold scanTry
  simp only []
  split <;> exact .load _ h1
 rw [if_neg s0]
 by_cases s1 : s.stage = 1
 ·rw [if_pos s1]
  obtain ⟨a0,a1,a2⟩ := i6 (by omega)
  have h1 := hQ _ (lt11 hok (r := 8) (.inr (.inr (.inl ⟨rfl,a1⟩))) a0)
  unfold scanTake
  simp only []
  split
  ·exact (EvP.swap _ _ _ h1 (nhz hok (.inr (.inr (.inl ⟨rfl,a1⟩))) a0)).trans (.haz _)
  ·exact .swap _ _ _ h1 (nhz hok (.inr (.inr (.inl ⟨rfl,a1⟩))) a0)
 rw [if_neg s1]
 by_cases s2 : s.stage = 2
 ·rw [if_pos s2]
  obtain ⟨a0,a1,a2⟩ := i6 (by omega)
  exact .store _ _ (hQ _ (lt11 hok (r := 8) (.inr (.inr (.inl ⟨rfl,a1⟩))) a0)) (fun hf => absurd hf (nhz hok (.inr (.inr (.inl ⟨rfl,a1⟩))) a0))
 rw [if_neg s2]
 by_cases s3 : s.stage = 3
 ·rw [if_pos s3]
  obtain ⟨⟨a0,a1⟩,a2,a3⟩ := i8 s3
  have hp := i7 (by omega)
  have hA : (base h.c 9 + s.at_).toNat = adr h.c 9 s.at_ := rfl
  have h1 := hQ _ (lt11 hok (r := 9) (.inr (.inr (.inr (.inl ⟨rfl,a1⟩)))) a0)
  have d2 := d2 s3
  have hw : m.word (adr h.c 9 s.at_) = (mv h.c m).hz s.at_ := (hz_at a0 a1).symm
  have look' : ∀ s0 ∈ h.lists.getD s.record.toNat [],∀ j,0 ≤ j → j < s.at_ + 1 → pr j → (mv h.c m).hz j = s0 + 1 → 0 < addName s.named (m.word (adr h.c 9 s.at_) - 1) s0 := by
   intro s0 hs0 j j0 j1 hpj hz
   have h0 := (a3 s0).1
   unfold addName
   by_cases e : j = s.at_
   ·subst e
    rw [if_pos (by omega)]
    have : s0 = m.word (adr h.c 9 s.at_) - 1 := by omega
    have := (a3 (m.word (adr h.c 9 s.at_) - 1)).1
    omega
   ·have := d2 s0 hs0 j j0 (by omega) hpj hz
    split
    ·rename_i e2;rw [← e2];omega
    ·exact this
  unfold scanLook
  simp only [scanLook1,hA]
  split
  ·exact .load _ h1
  ·rename_i hlast
   simp only [scanSplit,hp,List.nil_append]
   generalize hnm : addName s.named (m.word (adr h.c 9 s.at_) - 1) = nm at look' ⊢
   generalize hx : h.lists.getD s.record.toNat [] = x0 at e1 e2 e3 look' ⊢
   have hst : ∀ s0 ∈ x0,(a.sl s0).state = 5 := fun s0 h0 => G.stL x0 (List.mem_of_getElem? e1) s0 h0
   have hun : ∀ s0 ∈ x0.filter (notNamed nm),∀ j,pr j → (mv h.c m).hz j ≠ s0 + 1 := by
    intro s0 h0 j hj hz
    obtain ⟨h1,h2⟩ := List.mem_filter.1 h0
    obtain ⟨⟨p1,p1'⟩,_,_⟩ := G.pr1 j hj
    have := look' s0 h1 j p1 (by omega) hj hz
    have hs0 := (e3 s0 h1).1
    have h2 : ¬ 0 < unNone nm s0 := by simpa [notNamed,isNamed] using h2
    unfold unNone at h2
    rw [if_neg (by omega)] at h2
    exact h2 this
   have hnd : (x0.filter (notNamed nm)).Nodup := List.Sublist.nodup List.filter_sublist (List.nodup_iff_count.2 fun s' => by
    have h1 := G.le s'
    have h2 := cnt2_get (s := s') e1
    have h3 : cnt2 (sx pr h.c h a m).lists s' = cnt2 h.lists s' := rfl
    omega)
   refine (EvP.load _ h1).trans ((EvP.haz { h with lists := h.lists.set s.record.toNat (x0.filter (isNamed nm)) }).trans ?_)
   rw [hs]
   exact evp_free hnw _ _ _ _ hm hnd fun z hz => ⟨⟨(e3 z (List.mem_filter.1 hz).1).1,by rw [C.slots];have := e3 z (List.mem_filter.1 hz).1;omega⟩,hst z (List.mem_filter.1 hz).1,hP z (hun z hz)⟩
 rw [if_neg s3]
 obtain ⟨p,p1,p2,p3,p4⟩ := i9 (by omega)
 have s5 : s.stage = 5 := by omega
 have hk5 : scnP s = p.slot :: s.pending := by unfold scnP;rw [if_pos s5,p1];rfl
 rw [hk5] at G d4 d5
 rw [p1]
 simp only []
 have hps := G.rng (s := p.slot) (List.mem_cons_self ..)
 have hpl : p.slot.toNat < a.slots.length := by rw [C.slots];omega
 have hq := evp_push (h := h) (Q := Q) (P := P) (B := B) C p2 hQ hm (.inr (.inr (.inr (.inr (.inr ⟨d4 _ (List.mem_cons_self ..),.inr rfl⟩))))) (fun _ => hP _ (d5 _ (List.mem_cons_self ..))) hnw
 unfold scanGive
 simp only []
 split
 ·refine hq.trans ?_
  rw [hs]
  obtain ⟨n1,n2⟩ := List.nodup_cons.1 G.nodup
  refine evp_free hnw _ _ _ _ ((push_len a m p).2.trans hm) n2 fun z hz => ?_
  have hr := G.rng (s := z) (List.mem_cons_of_mem _ hz)
  have hne : z ≠ p.slot := fun e => n1 (e ▸ hz)
  refine ⟨⟨hr.1,by rw [(push_len a m p).1,C.slots];omega⟩,?_,hP z (d5 z (List.mem_cons_of_mem _ hz))⟩
  rw [push_sl hps.1 hpl hne]
  exact d4 z (List.mem_cons_of_mem _ hz)
 ·exact hq
theorem evp_retire {r : Ret} (hs0 : 0 ≤ r.slot) (hm : m.thread = (t : Int)) (hst : a.sl r.slot = ⟨4,(t : Int)⟩) (hw : ¬ w) : EvP c Q P B w t (h,a,m) ((retireReady h a m r).2.1,(retireReady h a m r).2.2.1,(retireReady h a m r).2.2.2.1) := by
 have h1 : MayS t (a.sl r.slot) 5 := by rw [hst];exact .inr (.inr (.inr (.inr (.inl ⟨rfl,rfl,rfl⟩))))
 have h2 : (a.sl r.slot).state = 5 → P r.slot := fun hf => by rw [hst] at hf;cases hf
 unfold retireReady
 simp only []
 split <;> exact (EvP.shift _ _ hs0 hm h1 h2 hw (fun hf => by omega)).trans (.haz _)
theorem evp_take {k : Tak} (C : Core c L S N h a m) (T : TkI c k) (hm : m.thread = (t : Int)) (G : Gd c n Z Y F (sx pr c h a m) K Lk) (hQ : ∀ j : Nat,(j : Int) < base c 11 → Q j) (hnw : ¬ w) :
  EvP c Q P B w t (h,a,m) (h,(takeStep a m k).2.1,(takeStep a m k).2.2.1) := by
 have hok := C.ok
 have hac := C.ac
 obtain ⟨t1,t2,t3,t4⟩ := T
 have h1 := hQ _ (lt11 hok (.inl ⟨rfl,rfl⟩) (by omega))
 unfold takeStep
 rw [hac]
 split
 ·exact .load _ h1
 ·rename_i hn
  obtain ⟨h3,h4,h5⟩ := t3 hn
  have h2 := hQ _ (lt11 hok (r := 10) (z := k.head % 4294967296 - 1) (.inr (.inr (.inr (.inr ⟨rfl,by omega⟩)))) (by omega))
  split
  ·exact .load _ h2
  ·simp only []
   split
   ·rename_i hw
    have hc : Chain (mv c m).nx (k.head % 4294967296) F := by have := G.chain;rw [← hw];exact this
    have hmem : k.head % 4294967296 - 1 ∈ F := by
     cases F with
     | nil => have : k.head % 4294967296 = 0 := hc;omega
     | cons s r => obtain ⟨e,_,_⟩ := hc;rw [e];simp
    have hst : (a.sl (k.head % 4294967296 - 1)).state = 0 := G.stF _ hmem
    exact (EvP.swap _ _ _ h1 (nhz hok (.inl ⟨rfl,rfl⟩) (by omega))).trans (EvP.shift (m := m.swap _ _ _ _) _ _ (by omega) hm (.inl ⟨hst,rfl⟩) (fun hf => by rw [hst] at hf;cases hf) hnw (fun hf => by omega))
   ·exact .swap _ _ _ h1 (nhz hok (.inl ⟨rfl,rfl⟩) (by omega))
theorem evp_reg {se : Sea} {r : Reg} (C : Core c L S N h a m) (i0 : 0 ≤ r.i) (i1 : r.i < c.R) (hQ : ∀ j : Nat,(j : Int) < base c 11 → Q j) : EvP c Q P B w t (h,a,m) ((regStep h m t se r).2.1,a,(regStep h m t se r).2.2.1) := by
 have hok := C.ok
 obtain rfl := C.hc
 have h1 := hQ _ (lt11 hok (r := 8) (.inr (.inr (.inl ⟨rfl,i1⟩))) i0)
 have hN : ∀ m',EvP h.c Q P B w t (h,a,m') ((regNext h m' t se r).2.1,a,(regNext h m' t se r).2.2.1) := by
  intro m'
  unfold regNext
  split
  ·exact .refl _
  ·exact .quiet rfl rfl rfl rfl
 have h2 := nhz hok (r := 8) (.inr (.inr (.inl ⟨rfl,i1⟩))) i0
 unfold regStep
 simp only []
 split
 ·split
  ·exact (EvP.load _ h1).trans (hN _)
  ·exact .load _ h1
 ·split
  ·exact (EvP.swap _ _ _ h1 h2).trans (.trans (y := (h,a,(m.swap (adr h.c 8 r.i) (m.word (adr h.c 8 r.i)) 0 1).answer t se 2 r.i)) (.quiet rfl rfl rfl rfl) (.haz _))
  ·exact (EvP.swap _ _ _ h1 h2).trans (hN _)
theorem evp_flush {p : Psh} (C : Core c L S N h a m) (I : PInv c p) (hQ : ∀ j : Nat,(j : Int) < base c 11 → Q j) (hm : m.thread = (t : Int)) (hst : a.sl p.slot = ⟨1,(t : Int)⟩) (hw : ¬ w) : EvP c Q P B w t (h,a,m) (h,(flushStep a m p).2.1,(flushStep a m p).2.2.1) := by
 have hq := evp_push (h := h) (Q := Q) (P := P) (B := B) C I hQ hm (by rw [hst];exact .inr (.inl ⟨rfl,.inr rfl,rfl⟩)) (fun hf => by rw [hst] at hf;cases hf) hw
 unfold flushStep
 split
 ·exact hq
 ·simp only []
  split <;> exact hq.trans (.cache _)
theorem evp_unr {u : Unr} (C : Core c L S N h a m) (ht : (t : Int) < c.T) (hm : m.thread = (t : Int)) (hu' : u.thread = (t : Int)) (hd : 0 ≤ h.held.getD t 0) (I : UnI c (a.caches.getD t []) u)
  (G : Gd c n Z Y F (sx pr c h a m) (hS (.unr u)) (hL (.unr u))) (D : TD c t (sx pr c h a m) (.unr u)) (hQ : ∀ j : Nat,(j : Int) < base c 11 → Q j) (hP : ∀ s0,(∀ j,pr j → (mv c m).hz j ≠ s0 + 1) → P s0) (hw0 : u.stage = 0 → w) (hw1 : u.stage = 1 ∨ u.stage = 2 → ¬ w) :
  EvP c Q P B w t (h,a,m) ((unregStep h a m u).2.1,(unregStep h a m u).2.2.1,(unregStep h a m u).2.2.2.1) := by
 have hok := C.ok
 obtain rfl := C.hc
 obtain ⟨r1,_⟩ := C.hget ht
 obtain ⟨i1,i2,i3,i4⟩ := I
 unfold unregStep
 have e : u.thread.toNat = t := by omega
 simp only [e]
 by_cases s0 : u.stage = 0
 ·rw [if_pos s0]
  obtain ⟨k0,k1⟩ := i2 s0
  have hz := hz_adr hok hd r1 k0 k1
  have h1 : Q (base h.c 9 + h.held.getD t 0 * h.c.Hz + u.k).toNat := hQ _ (by have hb := bases hok;have := hb.b11;have := (base_le hok 9).1;have := hok.S1;omega)
  split
  ·exact .store _ _ h1 (fun _ => hw0 s0)
  ·split <;> exact .store _ _ h1 (fun _ => hw0 s0)
 rw [if_neg s0]
 by_cases s1 : u.stage = 1
 ·rw [if_pos s1]
  obtain ⟨s,e1,e2,e3⟩ := i3 s1
  rw [e1]
  simp only []
  obtain ⟨q1,q2⟩ := hS_unr1 s1 e1
  rw [q1,q2] at G
  have F := evp_scan (Q := Q) (P := P) (B := B) (w := w) (t := t) C e2 (by omega) hm G (D.scan s (by simp only [scOf,if_pos s1];exact e1)) hQ hP (hw1 (.inl s1))
  split <;> exact F
 rw [if_neg s1]
 by_cases s2 : u.stage = 2
 ·rw [if_pos s2]
  obtain ⟨p,e1,e2,e3,e4⟩ := i4 s2
  rw [e1]
  obtain ⟨_,y,hy⟩ := D.flush u rfl s2 p e1
  exact evp_flush C e2 hQ hm (G.stC t _ hy _ (by simp)) (hw1 (.inr s2))
 rw [if_neg s2]
 exact (EvP.store _ _ (hQ _ (lt11 hok (r := 8) (.inr (.inr (.inl ⟨rfl,r1⟩))) hd)) (fun hf => absurd hf (nhz hok (.inr (.inr (.inl ⟨rfl,r1⟩))) hd))).trans (.haz _)
theorem evp_read {i : Nat} {cl : Cll} {se : Sea} {r : Rdg} (C : Core c L S N h a m) (I : RdI c r) (hQ : ∀ j : Nat,(j : Int) < base c 11 → Q j) (hR : r.stage = 3 → Q (adr c 11 (r.w - 1))) (hw0 : r.stage = 1 → w) :
  EvP c Q P B w t (h,a,m) (h,a,(readStep h m i t cl se r).2.1) := by
 have hok := C.ok
 have hc := C.hc
 obtain ⟨i1,i2,i3,i4⟩ := I
 have hb9 := (base_le hok 9).1
 have hbs := bases hok
 have h1 := hQ _ (lt11 hok (.inr (.inl ⟨rfl,rfl⟩)) (by omega))
 have h2 : Q r.addr.toNat := hQ _ (by have := hbs.b11;have := hok.S1;omega)
 have hS : ∀ m' u,EvP c Q P B w t (h,a,m') (h,a,(readSaw m' i t cl se r u).2.1) := by
  intro m' u
  unfold readSaw
  split
  ·exact .quiet rfl rfl rfl rfl
  ·exact .refl _
 unfold readStep
 rw [hc]
 simp only []
 split
 ·exact (EvP.load _ h1).trans (hS _ _)
 ·split
  ·rename_i s0 s1
   exact .store _ _ h2 (fun _ => hw0 s1)
  ·split
   ·split
    ·exact .load _ h1
    ·exact (EvP.load _ h1).trans (hS _ _)
   ·rename_i s0 s1 s2
    exact (EvP.load _ (hR (by omega))).trans (.quiet rfl rfl rfl rfl)
theorem evp_took {i : Nat} {cl : Cll} {se : Sea} {p : Pst} {k : Tak} {m' : Mch} : EvP c Q P B w t (h,a,m') (h,a,(postTook m' i t cl se p k).2.1) := by
 unfold postTook
 split
 ·exact .quiet rfl rfl rfl rfl
 ·exact .refl _
theorem evp_done {i : Nat} {cl : Cll} {se : Sea} {p : Pst} {sl0 : Int} (hm : m.thread = (t : Int)) (q0 : 0 ≤ sl0) (q1 : sl0.toNat < a.slots.length) (w0 : 0 ≤ p.saw) (w1 : p.saw ≤ a.slots.length) (h2 : a.sl sl0 = ⟨2,(t : Int)⟩) (h3 : 1 ≤ p.saw → (a.sl (p.saw - 1)).state = 3) (hw : ¬ w) (hB : ∀ s,(a.sl s).state = 3 → B s) :
  EvP c Q P B w t (h,a,m) ((postDone h a m i t cl se p sl0).2.1,(postDone h a m i t cl se p sl0).2.2.1,(postDone h a m i t cl se p sl0).2.2.2.1) := by
 unfold postDone
 simp only []
 have E1 : EvP c Q P B w t (h,a,m) (h,a.shift sl0.toNat m.thread 3,((m.point i cl m.now).answer t se 1 0).shift sl0 (a.slots.getD sl0.toNat ⟨0,0⟩).state 3) :=
  .trans (y := (h,a,(m.point i cl m.now).answer t se 1 0)) (.quiet rfl rfl rfl rfl) (EvP.shift (Q := Q) (P := P) (B := B) (w := w) (h := h) (a := a) (m := (m.point i cl m.now).answer t se 1 0) sl0 3 q0 hm (by rw [h2];exact .inr (.inr (.inl ⟨rfl,.inl rfl,rfl⟩))) (fun hf => by rw [h2] at hf;cases hf) hw (fun hf => by omega))
 split
 ·exact E1
 ·rename_i hn
  have h3 := h3 (by omega)
  have hne : p.saw - 1 ≠ sl0 := fun e => by rw [e,h2] at h3;cases h3
  have e1 : (a.shift sl0.toNat m.thread 3).sl (p.saw - 1) = a.sl (p.saw - 1) := by rw [sl_shift q0 q1,updS_ne _ _ hne]
  have E2 : EvP c Q P B w t (h,a.shift sl0.toNat m.thread 3,((m.point i cl m.now).answer t se 1 0).shift sl0 (a.slots.getD sl0.toNat ⟨0,0⟩).state 3) _ :=
   EvP.shift (p.saw - 1) 4 (by omega) hm (by rw [e1];exact .inr (.inr (.inr (.inl ⟨h3,rfl⟩)))) (fun hf => by rw [e1,h3] at hf;cases hf) hw (fun _ => hB _ h3)
  refine E1.trans (E2.trans (evp_retire (by show 0 ≤ p.saw - 1;omega) hm ?_ hw))
  show ((a.shift sl0.toNat m.thread 3).shift (p.saw - 1).toNat m.thread 4).sl (p.saw - 1) = _
  rw [sl_shift (by omega) (by simp only [Are.shift,List.length_set];omega),updS_self,hm]
  rfl
theorem evp_post {i : Nat} {cl : Cll} {se : Sea} {p : Pst} (C : Core c L S N h a m) (hm : m.thread = (t : Int)) (hu : p.thread = (t : Int)) (I : PoI c p)
  (G : Gd c n Z Y F (sx pr c h a m) (hS (.pst p)) (hL (.pst p))) (D : TD c t (sx pr c h a m) (.pst p)) (hQ : ∀ j : Nat,(j : Int) < base c 11 → Q j) (hV : p.stage = 1 → Q (adr c 11 (p.link - 1))) (hP : ∀ s0,(∀ j,pr j → (mv c m).hz j ≠ s0 + 1) → P s0) (hnw : ¬ w) (hB : ∀ s,(a.sl s).state = 3 → B s) :
  EvP c Q P B w t (h,a,m) ((postStep h a m i t cl se p).2.1,(postStep h a m i t cl se p).2.2.1,(postStep h a m i t cl se p).2.2.2.1) := by
 have hok := C.ok
 have hc := C.hc
 obtain ⟨⟨k,hk,k0,k1⟩,i2,i3,i4⟩ := I
 have h1 := hQ _ (lt11 hok (.inr (.inl ⟨rfl,rfl⟩)) (by omega))
 unfold postStep
 rw [hk,hc]
 simp only []
 by_cases s0 : p.stage = 0
 ·rw [if_pos s0]
  have E := evp_take (Q := Q) (P := P) (B := B) (h := h) C (k0 s0) hm G hQ hnw
  split
  ·exact E.trans evp_took
  ·exact E
 rw [if_neg s0]
 by_cases s1 : p.stage = 1
 ·rw [if_pos s1]
  obtain ⟨g1,g2,g3⟩ := k1 (.inl s1)
  have e : tookSlot k = p.link - 1 := by omega
  rw [e]
  exact .store _ _ (hV s1) (fun hf => absurd hf (by have := adr_i hok 11 g1;have hb := bases hok;have := hb.b11;have := hok.S1;unfold Hzj;rw [← e];omega))
 rw [if_neg s1]
 by_cases s2 : p.stage = 2
 ·rw [if_pos s2]
  exact .load _ h1
 rw [if_neg s2]
 by_cases s3 : p.stage = 3
 ·rw [if_pos s3]
  obtain ⟨g1,g2,g3⟩ := k1 (.inr (.inr s3))
  have hsw := i3 s3
  have e : tookSlot k = p.link - 1 := by omega
  split
  ·rename_i hw
   refine (EvP.swap _ _ _ h1 (nhz hok (.inr (.inl ⟨rfl,rfl⟩)) (by omega))).trans (evp_done hm g1 (by rw [C.slots];omega) hsw.1 (by rw [C.slots];omega) ?_ (fun h1 => ?_) hnw hB)
   ·rw [e]
    exact D.own _ (by simp only [hO];rw [if_pos (.inr (.inr s3))];simp)
   ·exact G.stX (p.saw - 1) (by omega) (by show m.word (adr c 2 0) = _;rw [hw];omega)
  ·exact .swap _ _ _ h1 (nhz hok (.inr (.inl ⟨rfl,rfl⟩)) (by omega))
 rw [if_neg s3]
 have s4 : p.stage = 4 := by rcases i2 with h|h|h|h|h <;> first|exact absurd h s0|exact absurd h s1|exact absurd h s2|exact absurd h s3|exact h
 obtain ⟨r,sc,e1,e2,e3,e4⟩ := i4 s4
 rw [e1]
 simp only [e2]
 obtain ⟨q1,q2⟩ := hS_pst4 s4 e1 e2
 rw [q1,q2] at G
 exact evp_scan C e3 (by omega) hm G (D.scan sc (by simp only [scOf,if_pos s4,e1];exact e2)) hQ hP hnw
def WrH : HTask → Prop
 | .rdg r => r.stage = 1
 | .clr _ => True
 | .unr u => u.stage = 0
 | _ => False
theorem evp_stp {i : Nat} {cl : Cll} {se : Sea} {k : HTask} (C : Core c L S N h a m) (ht : (t : Int) < c.T) (hm : m.thread = (t : Int)) (I : TI c t true (h.held.getD t 0) (a.caches.getD t []) k)
  (G : Gd c n Z Y F (sx pr c h a m) (hS k) (hL k)) (D : TD c t (sx pr c h a m) k) (hQ : ∀ j : Nat,(j : Int) < base c 11 → Q j) (hR : ∀ r,k = .rdg r → r.stage = 3 → Q (adr c 11 (r.w - 1))) (hV : ∀ p,k = .pst p → p.stage = 1 → Q (adr c 11 (p.link - 1)))
  (hP : ∀ s0,(∀ j,pr j → (mv c m).hz j ≠ s0 + 1) → P s0) (hB : ∀ s,(a.sl s).state = 3 → B s) :
  EvP c Q P B (WrH k) t (h,a,m) ((htStep (h,a) m i t cl se k).2.1.1,(htStep (h,a) m i t cl se k).2.1.2,(htStep (h,a) m i t cl se k).2.2.1) := by
 have hok := C.ok
 cases k with
 | reg r =>
  obtain ⟨i1,i2,i3⟩ := I
  exact evp_reg C i2 i3 hQ
 | unr u =>
  obtain ⟨i1,i2,i3⟩ := I
  exact evp_unr C ht hm i1 i2 i3 G D hQ hP (fun h => h) (fun h hf => by have hf : u.stage = 0 := hf;omega)
 | rdg r => exact evp_read C I hQ (hR r rfl) (fun h => h)
 | clr ad =>
  obtain ⟨i1,i2⟩ := I
  exact .store _ _ (hQ _ (by have hb := bases hok;have := hb.b11;have := hok.S1;omega)) (fun _ => trivial)
 | scn s => exact evp_scan C (I.2.2 rfl) I.1 hm G (D.scan s rfl) hQ hP id
 | pst p => exact evp_post C hm I.1 (I.2.2.1 rfl) G D hQ (hV p rfl) hP id hB
end
end Go.Proofs.YtegafhhdegnigaaGreat
end
