/-
  The same: a step of a call.
-/
import Derived.Test.YtegafhhdegnigaaGreatLInv3
set_option linter.all false
namespace Go.Proofs.YtegafhhdegnigaaGreat
open Go.RowKit Hp
set_option maxRecDepth 100000
set_option maxHeartbeats 1000000
attribute [local irreducible] Go.Calls
section
variable {c : Cfg} {L S N : Nat} {h : Haz} {a : Are} {m : Mch}
theorem reg_core {t : Nat} {se : Sea} {r : Reg} (C : Core c L S N h a m) (ht : r.thread = (t : Int)) (i0 : 0 ≤ r.i) (i1 : r.i < c.R) :
  Core c (L + 1) S N (regStep h m t se r).2.1 a (regStep h m t se r).2.2.1 ∧ (∀ j,j ≠ t → (regStep h m t se r).2.1.held[j]? = h.held[j]?) ∧ ((regStep h m t se r).1 = false → (regStep h m t se r).2.2.2.thread = (t : Int) ∧ 0 ≤ (regStep h m t se r).2.2.2.i ∧ (regStep h m t se r).2.2.2.i < c.R) := by
 have hok := C.ok
 obtain rfl := C.hc
 have hw := wok_active hok i0 i1 1
 unfold regStep
 simp only []
 have hN : ∀ m',Core h.c (L + 1) S N h a m' → Core h.c (L + 1) S N (regNext h m' t se r).2.1 a (regNext h m' t se r).2.2.1 ∧ (∀ j,j ≠ t → (regNext h m' t se r).2.1.held[j]? = h.held[j]?) ∧ ((regNext h m' t se r).1 = false → (regNext h m' t se r).2.2.2.thread = (t : Int) ∧ 0 ≤ (regNext h m' t se r).2.2.2.i ∧ (regNext h m' t se r).2.2.2.i < h.c.R) := by
  intro m' k
  unfold regNext
  split
  ·exact ⟨k,fun _ _ => rfl,fun _ => ⟨ht,by simp only [];omega,by simp only [];omega⟩⟩
  ·exact ⟨k.answer ..,fun _ _ => rfl,fun hf => (by cases hf)⟩
 split
 ·split
  ·exact hN _ (C.load ..)
  ·exact ⟨C.load ..,fun _ _ => rfl,fun _ => ⟨ht,i0,i1⟩⟩
 ·split
  ·refine ⟨((C.swap _ _ _ _ hw).answer ..).hold _ _ ⟨by omega,i1⟩,fun j hj => set_ne (by rw [ht];simpa using hj),fun hf => (by cases hf)⟩
  ·exact hN _ (C.swap _ _ _ _ hw)
theorem empty_inv {u : Unr} (C : Core c L S N h a m) {t : Nat} (hu : u.thread = (t : Int)) (ht : (t : Int) < c.T) : UnI c (a.caches.getD t []) (unregEmpty a u) := by
 obtain ⟨g1,g2,g3⟩ := C.cget (t := (t : Int)) (by omega) ht
 rw [Int.toNat_natCast] at g1 g2 g3
 have e : u.thread.toNat = t := by omega
 unfold unregEmpty flushReady
 simp only [e]
 generalize a.caches.getD t [] = x at g1 g2 g3 ⊢
 by_cases h0 : x.length = 0
 ·rw [if_pos h0]
  simp only [if_true]
  exact ⟨.inr (.inr (.inr rfl)),fun hf => by simp at hf,fun hf => by simp at hf,fun hf => by simp at hf⟩
 ·rw [if_neg h0]
  simp only [Bool.false_eq_true,if_false]
  have hlt : x.length - 1 < x.length := by omega
  have hm : x.getD (x.length - 1) 0 ∈ x := by
   rw [List.getD_eq_getElem?_getD,List.getElem?_eq_getElem hlt];exact List.getElem_mem hlt
  exact ⟨.inr (.inr (.inl rfl)),fun hf => by simp at hf,fun hf => by simp at hf,fun _ => ⟨_,rfl,⟨(g3 _ hm).1,(g3 _ hm).2,.inl rfl,fun hf => absurd rfl hf⟩,rfl,by omega⟩⟩
theorem flush_core {p : Psh} (C : Core c L S N h a m) (P : PInv c p) {t : Nat} (hu : p.thread = (t : Int)) (ht : (t : Int) < c.T) (hl : 0 < (a.caches.getD t []).length) :
  Core c (L + 1) (S + 1) N h (flushStep a m p).2.1 (flushStep a m p).2.2.1 ∧ (∀ j,j ≠ t → (flushStep a m p).2.1.caches[j]? = a.caches[j]?) ∧
  ((flushStep a m p).1 = false → PInv c (flushStep a m p).2.2.2 ∧ (flushStep a m p).2.2.2.thread = (t : Int) ∧ 0 < ((flushStep a m p).2.1.caches.getD t []).length) := by
 obtain ⟨q1,q2,q3,q4⟩ := push_core C P
 obtain ⟨g1,g2,g3⟩ := C.cget (t := (t : Int)) (by omega) ht
 rw [Int.toNat_natCast] at g1 g2 g3
 have hlt := (List.getElem?_eq_some_iff.1 g1).1
 unfold flushStep
 split
 ·rename_i hf
  refine ⟨q1,fun j _ => by rw [q3],fun _ => ⟨q2 hf,by rw [q4,hu],by rw [q3];exact hl⟩⟩
 ·have hx3 : (pushStep a m p).2.2.2.thread = p.thread := q4
  have e : p.thread.toNat = t := by omega
  simp only [e]
  generalize a.caches.getD t [] = x at g1 g2 g3 hl ⊢
  have k2 : Core c (L + 1) (S + 1) N h { (pushStep a m p).2.1 with caches := a.caches.set t (x.take (x.length - 1)) } (pushStep a m p).2.2.1 := by
   have := q1.cache t (x.take (x.length - 1)) (by simp only [List.length_take];omega) (fun z hz => g3 z (List.mem_of_mem_take hz))
   rw [q3] at this
   exact this
  split
  ·exact ⟨k2,fun j hj => set_ne hj,fun hf => (by cases hf)⟩
  ·refine ⟨k2,fun j hj => set_ne hj,fun _ => ?_⟩
   have hy : (x.take (x.length - 1)).length = x.length - 1 := by simp
   have hlt2 : (x.take (x.length - 1)).length - 1 < (x.take (x.length - 1)).length := by omega
   have hm : (x.take (x.length - 1)).getD ((x.take (x.length - 1)).length - 1) 0 ∈ x.take (x.length - 1) := by
    rw [List.getD_eq_getElem?_getD,List.getElem?_eq_getElem hlt2];exact List.getElem_mem hlt2
   have hr := g3 _ (List.mem_of_mem_take hm)
   refine ⟨⟨hr.1,hr.2,.inl rfl,fun hf => absurd rfl hf⟩,by rw [q4,hu],?_⟩
   simp only [List.getD_eq_getElem?_getD,List.getElem?_set_self hlt]
   simp;omega
theorem unr_core {t : Nat} {u : Unr} (C : Core c L S N h a m) (hN : N < 1000000) (ht : (t : Int) < c.T) (hu : u.thread = (t : Int)) (hd : 0 ≤ h.held.getD t 0) (I : UnI c (a.caches.getD t []) u) :
  Core c (L + 1) (S + 66) N (unregStep h a m u).2.1 (unregStep h a m u).2.2.1 (unregStep h a m u).2.2.2.1 ∧ Fr t h (unregStep h a m u).2.1 a (unregStep h a m u).2.2.1 ∧
  ((unregStep h a m u).1 = false → (unregStep h a m u).2.2.2.2.thread = (t : Int) ∧ 0 ≤ (unregStep h a m u).2.1.held.getD t 0 ∧ UnI c ((unregStep h a m u).2.2.1.caches.getD t []) (unregStep h a m u).2.2.2.2) := by
 have hok := C.ok
 obtain rfl := C.hc
 obtain ⟨r1,_⟩ := C.hget ht
 obtain ⟨i1,i2,i3,i4⟩ := I
 unfold unregStep
 have e : u.thread.toNat = t := by omega
 simp only [e]
 generalize hrc : h.held.getD t 0 = rc at hd r1 ⊢
 by_cases s0 : u.stage = 0
 ·rw [if_pos s0]
  obtain ⟨k0,k1⟩ := i2 s0
  have hz := hz_adr hok hd r1 k0 k1
  have hb := (base_le hok 9).1
  have hw : WOk h.c ((base h.c 9 + rc * h.c.Hz + u.k).toNat : Int) 0 := wok_hz hok (by omega) (by omega) ⟨by omega,by have := hok.S1;omega⟩
  have C1 := C.store _ (m.word (base h.c 9 + rc * h.c.Hz + u.k).toNat) _ hw
  split
  ·rename_i hlt
   exact ⟨C1.mono (by omega) (by omega) (by omega),.refl ..,fun _ => ⟨hu,by rw [hrc];exact hd,⟨.inl s0,fun _ => ⟨by simp only [];omega,hlt⟩,fun hf => by simp only [s0] at hf;omega,fun hf => by simp only [s0] at hf;omega⟩⟩⟩
  ·have hR := ready_inv (s := ⟨u.thread,rc,6,0,false,fun _ => 0,[],none⟩) C1 hd r1 (by simp only [];omega) (by simp only [];omega) rfl
   split
   ·exact ⟨C1.mono (by omega) (by omega) (by omega),.refl ..,fun _ => ⟨hu,by rw [hrc];exact hd,empty_inv C1 hu ht⟩⟩
   ·rename_i hf
    exact ⟨C1.mono (by omega) (by omega) (by omega),.refl ..,fun _ => ⟨hu,by rw [hrc];exact hd,⟨.inr (.inl rfl),fun hf => by simp at hf,fun _ => ⟨_,rfl,hR.1 (by simpa using hf),hR.2⟩,fun hf => by simp at hf⟩⟩⟩
 rw [if_neg s0]
 by_cases s1 : u.stage = 1
 ·rw [if_pos s1]
  obtain ⟨s,e1,e2,e3⟩ := i3 s1
  rw [e1]
  simp only []
  have F := scan_core C e2 hN
  generalize scanStep h a m s = r at F ⊢
  obtain ⟨f1,f2,f3,f4,f5⟩ := F
  have hfr : Fr t h r.2.1 a r.2.2.1 := ⟨fun j _ => by rw [f3],fun j hj => f4 j (by rw [e3,hu];simpa using hj)⟩
  split
  ·exact ⟨f1,hfr,fun _ => ⟨hu,by rw [f3,hrc];exact hd,empty_inv f1 hu ht⟩⟩
  ·rename_i hf
   exact ⟨f1,hfr,fun _ => ⟨hu,by rw [f3,hrc];exact hd,⟨.inr (.inl s1),fun hf => by simp only [s1] at hf;omega,fun _ => ⟨_,rfl,f2 (by simpa using hf),by rw [f5,e3]⟩,fun hf => by simp only [s1] at hf;omega⟩⟩⟩
 rw [if_neg s1]
 by_cases s2 : u.stage = 2
 ·rw [if_pos s2]
  obtain ⟨p,e1,e2,e3,e4⟩ := i4 s2
  rw [e1]
  simp only []
  obtain ⟨f1,f2,f3⟩ := flush_core C e2 (e3.trans hu) ht e4
  generalize flushStep a m p = r at f1 f2 f3 ⊢
  refine ⟨f1.mono (by omega) (by omega) (by omega),⟨fun _ _ => rfl,f2⟩,fun _ => ⟨hu,by rw [hrc];exact hd,?_⟩⟩
  by_cases hf : r.1 = true
  ·simp only [if_pos hf]
   exact ⟨.inr (.inr (.inr rfl)),fun hf => by simp at hf,fun hf => by simp at hf,fun hf => by simp at hf⟩
  ·simp only [if_neg hf]
   obtain ⟨g1,g2,g3⟩ := f3 (by simpa using hf)
   exact ⟨.inr (.inr (.inl rfl)),fun hf => by simp at hf,fun hf => by simp at hf,fun _ => ⟨_,rfl,g1,g2.trans hu.symm,g3⟩⟩
 rw [if_neg s2]
 exact ⟨((C.store _ _ _ (wok_active hok hd r1 0)).hold t (-1) ⟨by omega,by have := hok.R1;omega⟩).mono (by omega) (by omega) (by omega),⟨fun j hj => set_ne hj,fun _ _ => rfl⟩,fun hf => (by cases hf)⟩
theorem read_core {i t : Nat} {x : Cll} {se : Sea} {r : Rdg} (C : Core c L S N h a m) (I : RdI c r) :
  Core c (L + 1) S N h a (readStep h m i t x se r).2.1 ∧ ((readStep h m i t x se r).1 = false → RdI c (readStep h m i t x se r).2.2) := by
 have hok := C.ok
 have hc := C.hc
 obtain ⟨i1,i2,i3,i4⟩ := I
 have hw := (C.word (adr_lt14 hok).2).cell (by rw [adr_i hok 2 (Int.le_refl 0)];simp)
 have hb := (base_le hok 9).1
 have hS : ∀ m',Core c (L + 1) S N h a m' → Core c (L + 1) S N h a (readSaw m' i t x se r (m.word (adr c 2 0))).2.1 ∧ ((readSaw m' i t x se r (m.word (adr c 2 0))).1 = false → RdI c (readSaw m' i t x se r (m.word (adr c 2 0))).2.2) := by
  intro m' k
  unfold readSaw
  split
  ·exact ⟨(k.point ..).answer ..,fun hf => (by cases hf)⟩
  ·exact ⟨k,fun _ => ⟨i1,i2,.inr (.inl rfl),fun _ => ⟨by simp only [];omega,hw.2⟩⟩⟩
 unfold readStep
 rw [hc]
 simp only []
 split
 ·exact hS _ (C.load ..)
 ·rename_i s0
  have hw2 := i4 s0
  split
  ·refine ⟨C.store _ _ _ (wok_hz hok (by omega) (by omega) ⟨by omega,hw2.2⟩),fun _ => ⟨i1,i2,.inr (.inr (.inl rfl)),fun _ => hw2⟩⟩
  ·split
   ·split
    ·exact ⟨C.load ..,fun _ => ⟨i1,i2,.inr (.inr (.inr rfl)),fun _ => hw2⟩⟩
    ·exact hS _ (C.load ..)
   ·exact ⟨((C.load ..).point ..).answer ..,fun hf => (by cases hf)⟩
theorem took_core {i t : Nat} {x : Cll} {se : Sea} {p : Pst} {k : Tak} (C : Core c L S N h a m) (hp : p.take = some k) (hk : tookSlot k = -1 ∨ (0 ≤ tookSlot k ∧ tookSlot k < c.Sl)) :
  Core c L S N h a (postTook m i t x se p k).2.1 ∧ (postTook m i t x se p k).2.2.thread = p.thread ∧ ((postTook m i t x se p k).1 = false → PoI c (postTook m i t x se p k).2.2) := by
 unfold postTook
 split
 ·exact ⟨(C.point ..).answer ..,rfl,fun hf => (by cases hf)⟩
 ·exact ⟨C,rfl,fun _ => ⟨⟨k,hp,fun hf => by simp at hf,fun _ => ⟨by omega,by omega,rfl⟩⟩,.inr (.inl rfl),fun hf => by simp at hf,fun hf => by simp at hf⟩⟩
structure PostI (c : Cfg) (L S N : Nat) (t : Nat) (h : Haz) (a : Are) (r : Bool × Haz × Are × Mch × Pst) : Prop where
 core : Core c L S N r.2.1 r.2.2.1 r.2.2.2.1
 held : r.2.1.held = h.held
 caches : ∀ j,j ≠ t → r.2.2.1.caches[j]? = a.caches[j]?
 fin : r.1 = false → r.2.2.2.2.thread = (t : Int) ∧ PoI c r.2.2.2.2
theorem done_core {i t : Nat} {x : Cll} {se : Sea} {p : Pst} {k : Tak} {sl0 : Int} (C : Core c L S N h a m) (ht : (t : Int) < c.T) (hp : p.take = some k) (hu : p.thread = (t : Int)) (hd : 0 ≤ h.held.getD t 0) (hs : p.saw ≤ c.Sl) :
  PostI c L (S + 3) (N + 1) t h a (postDone h a m i t x se p sl0) := by
 unfold postDone
 simp only []
 have C1 := (((C.point i x m.now).answer t se 1 0).ashift sl0.toNat m.thread 3).mshift sl0 (a.slots.getD sl0.toNat ⟨0,0⟩).state 3
 split
 ·exact ⟨C1.mono (by omega) (by omega) (by omega),rfl,fun _ _ => rfl,fun hf => (by cases hf)⟩
 ·rename_i hn
  have C2 := (C1.ashift (p.saw - 1).toNat m.thread 4).mshift (p.saw - 1) ((a.shift sl0.toNat m.thread 3).slots.getD (p.saw - 1).toNat ⟨0,0⟩).state 4
  have R := retire_core (r := ⟨p.thread,p.saw - 1,none⟩) C2 (by simp only [];omega) (by simp only [];omega) (by simp only [];omega) (by simp only [];omega) (by simp only [hu,Int.toNat_natCast];exact hd)
  generalize retireReady h _ _ ⟨p.thread,p.saw - 1,none⟩ = r at R ⊢
  obtain ⟨q1,q2,q3,q4⟩ := R
  refine ⟨q1,q3,fun j _ => by rw [q4];rfl,fun hf => ?_⟩
  obtain ⟨sc,e1,e2,e3⟩ := q2 hf
  exact ⟨hu,⟨⟨k,hp,fun hf => by simp at hf,fun hf => by simp at hf⟩,.inr (.inr (.inr (.inr rfl))),fun hf => by simp at hf,fun _ => ⟨_,sc,rfl,e1,e2,e3⟩⟩⟩
theorem post_core {i t : Nat} {x : Cll} {se : Sea} {p : Pst} (C : Core c L S N h a m) (hN : N < 1000000) (ht : (t : Int) < c.T) (hu : p.thread = (t : Int)) (hd : 0 ≤ h.held.getD t 0) (I : PoI c p) :
  PostI c (L + 1) (S + 66) (N + 1) t h a (postStep h a m i t x se p) := by
 have hok := C.ok
 have hc := C.hc
 obtain ⟨⟨k,hk,k0,k1⟩,i2,i3,i4⟩ := I
 have hw := (C.word (adr_lt14 hok).2).cell (by rw [adr_i hok 2 (Int.le_refl 0)];simp)
 unfold postStep
 rw [hk,hc]
 simp only []
 by_cases s0 : p.stage = 0
 ·rw [if_pos s0]
  obtain ⟨e1,e2,e3,e4⟩ := take_core C (k0 s0)
  generalize takeStep a m k = r at e1 e2 e3 e4 ⊢
  obtain ⟨f1,f2,f3⟩ := took_core (i := i) (t := t) (x := x) (se := se) (p := { p with take := some r.2.2.2 }) e1 rfl e3
  split
  ·exact ⟨f1.mono (by omega) (by omega) (by omega),rfl,fun j _ => by rw [e4],fun hf => ⟨f2.trans hu,f3 hf⟩⟩
  ·rename_i hf
   exact ⟨e1.mono (by omega) (by omega) (by omega),rfl,fun j _ => by rw [e4],fun _ => ⟨hu,⟨⟨_,rfl,fun _ => e2 (by simpa using hf),fun hf => by simp only [s0] at hf;omega⟩,.inl s0,fun hf => by simp only [s0] at hf;omega,fun hf => by simp only [s0] at hf;omega⟩⟩⟩
 rw [if_neg s0]
 by_cases s1 : p.stage = 1
 ·rw [if_pos s1]
  obtain ⟨g1,g2,g3⟩ := k1 (.inl s1)
  exact ⟨(C.store _ _ _ (wok_value hok g1 _)).mono (by omega) (by omega) (by omega),rfl,fun _ _ => rfl,fun _ => ⟨hu,⟨⟨k,rfl,fun hf => by simp at hf,fun _ => ⟨g1,g2,g3⟩⟩,.inr (.inr (.inl rfl)),fun hf => by simp at hf,fun hf => by simp at hf⟩⟩⟩
 rw [if_neg s1]
 by_cases s2 : p.stage = 2
 ·rw [if_pos s2]
  obtain ⟨g1,g2,g3⟩ := k1 (.inr (.inl s2))
  exact ⟨(C.load _ _).mono (by omega) (by omega) (by omega),rfl,fun _ _ => rfl,fun _ => ⟨hu,⟨⟨k,rfl,fun hf => by simp at hf,fun _ => ⟨g1,g2,g3⟩⟩,.inr (.inr (.inr (.inl rfl))),fun _ => hw,fun hf => by simp at hf⟩⟩⟩
 rw [if_neg s2]
 by_cases s3 : p.stage = 3
 ·rw [if_pos s3]
  obtain ⟨g1,g2,g3⟩ := k1 (.inr (.inr s3))
  have hz : WOk c (adr c 2 0) p.link := wok_cell hok (by omega)
  have hsw := i3 s3
  split
  ·have D := done_core (i := i) (t := t) (x := x) (se := se) (p := p) (sl0 := tookSlot k) (C.swap (adr c 2 0) (m.word (adr c 2 0)) p.saw p.link hz) ht hk hu hd hsw.2
   exact ⟨D.core.mono (by omega) (by omega) (by omega),D.held,D.caches,D.fin⟩
  ·exact ⟨(C.swap _ _ _ _ hz).mono (by omega) (by omega) (by omega),rfl,fun _ _ => rfl,fun _ => ⟨hu,⟨⟨k,rfl,fun hf => by simp at hf,fun _ => ⟨g1,g2,g3⟩⟩,.inr (.inr (.inl rfl)),fun hf => by simp at hf,fun hf => by simp at hf⟩⟩⟩
 rw [if_neg s3]
 have s4 : p.stage = 4 := by rcases i2 with h|h|h|h|h <;> first|exact absurd h s0|exact absurd h s1|exact absurd h s2|exact absurd h s3|exact h
 obtain ⟨r,sc,e1,e2,e3,e4⟩ := i4 s4
 rw [e1]
 simp only [e2]
 have F := scan_core C e3 hN
 generalize scanStep h a m sc = q at F ⊢
 obtain ⟨f1,f2,f3,f4,f5⟩ := F
 refine ⟨f1.mono (by omega) (by omega) (by omega),f3,fun j hj => f4 j (by rw [e4,hu];simpa using hj),fun hf => ⟨hu,⟨⟨k,rfl,fun hf => by simp only [s4] at hf;omega,fun hf => by simp only [s4] at hf;omega⟩,.inr (.inr (.inr (.inr s4))),fun hf => by simp only [s4] at hf;omega,fun _ => ⟨_,_,rfl,rfl,f2 hf,by rw [f5,e4]⟩⟩⟩⟩
theorem step_core {i t : Nat} {x : Cll} {se : Sea} {k : HTask} (C : Core c L S N h a m) (hN : N < 1000000) (ht : (t : Int) < c.T) (I : TI c t true (h.held.getD t 0) (a.caches.getD t []) k) :
  StI c (L + 1) (S + 66) (N + 1) t h a (htStep (h,a) m i t x se k) := by
 have hok := C.ok
 cases k with
 | reg r =>
  obtain ⟨i1,i2,i3⟩ := I
  obtain ⟨f1,f2,f3⟩ := reg_core (se := se) C i1 i2 i3
  exact ⟨f1.mono (by omega) (by omega) (by omega),⟨f2,fun _ _ => rfl⟩,f3⟩
 | unr u =>
  obtain ⟨i1,i2,i3⟩ := I
  obtain ⟨f1,f2,f3⟩ := unr_core C hN ht i1 i2 i3
  exact ⟨f1.mono (by omega) (by omega) (by omega),f2,f3⟩
 | rdg r =>
  obtain ⟨f1,f2⟩ := read_core (i := i) (t := t) (x := x) (se := se) C I
  exact ⟨f1.mono (by omega) (by omega) (by omega),.refl ..,f2⟩
 | clr ad =>
  obtain ⟨i1,i2⟩ := I
  exact ⟨(C.store _ _ _ (wok_hz hok i1 i2 ⟨by omega,by have := hok.S1;omega⟩)).mono (by omega) (by omega) (by omega),.refl ..,fun hf => (by cases hf)⟩
 | scn s =>
  obtain ⟨i1,i2,i3⟩ := I
  have F := scan_core C (i3 rfl) hN
  obtain ⟨f1,f2,f3,f4,f5⟩ := F
  exact ⟨f1.mono (by omega) (by omega) (by omega),⟨fun j _ => by simp only [htStep];rw [f3],fun j hj => f4 j (by rw [i1];simpa using hj)⟩,fun hf => ⟨by simp only [htStep];rw [f5,i1],fun hf => (by cases hf),fun _ => f2 hf⟩⟩
 | pst p =>
  obtain ⟨i1,i2,i3,_⟩ := I
  obtain ⟨f1,f2,f3,f4⟩ := post_core (i := i) (x := x) (se := se) C hN ht i1 i2 (i3 rfl)
  exact ⟨f1,⟨fun j _ => by simp only [htStep];rw [f2],f3⟩,fun hf => ⟨(f4 hf).1,by simp only [htStep];rw [f2];exact i2,fun _ => (f4 hf).2,fun hf => (by cases hf)⟩⟩
end
end Go.Proofs.YtegafhhdegnigaaGreat
