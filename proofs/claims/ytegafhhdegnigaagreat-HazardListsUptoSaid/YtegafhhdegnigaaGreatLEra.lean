/-
  The same: any moves of the machine.
-/
import Derived.Test.YtegafhhdegnigaaGreatLInv4
import Derived.Test.YtegafhhdegnigaaGreatLPlay
set_option linter.all false
section
namespace Go.Proofs.YtegafhhdegnigaaGreat
open Go.RowKit Hp
set_option maxRecDepth 100000
set_option maxHeartbeats 1000000
attribute [local irreducible] Go.Calls
section
variable {c : Cfg} {L S N : Nat} {h : Haz} {a : Are} {m : Mch}
theorem okr_of {t : Nat} {k : HTask} (C : Core c L S N h a m) (hu : m.used = false) (hL : L < 4294967296) (hS : S < 1000000000) (hN : N < 1000000) (ht : (t : Int) < c.T) (I : TI c t false (h.held.getD t 0) (a.caches.getD t []) k) : htOkr (h,a) m t k := by
 have hz := C.haz hu hL hS hN
 have hc := C.hc
 cases k with
 | pst p => obtain ⟨i1,_⟩ := I;exact ⟨hz,by omega,by rw [hc];omega⟩
 | scn s => obtain ⟨i1,i2,_⟩ := I;obtain ⟨r0,r1,_⟩ := i2 rfl;exact ⟨hz,r0,by rw [hc];exact r1⟩
 | reg r => trivial
 | unr r => trivial
 | rdg r => trivial
 | clr r => trivial
theorem oks_of {t : Nat} {k : HTask} (C : Core c L S N h a m) (hu : m.used = false) (hL : L < 4294967296) (hS : S < 1000000000) (hN : N < 1000000) (ht : (t : Int) < c.T) (I : TI c t true (h.held.getD t 0) (a.caches.getD t []) k) : htOks (h,a) m t k := by
 have hz := C.haz hu hL hS hN
 have hc := C.hc
 have hok := C.ok
 have hS2 := hok.S2
 have hC2 := hok.C2
 cases k with
 | reg r => obtain ⟨i1,i2,i3⟩ := I;exact ⟨hz,by omega,by rw [hc];omega,i2,by rw [hc];exact i3⟩
 | unr u =>
  obtain ⟨i1,i2,i3,i4,i5,i6⟩ := I
  refine ⟨hz,by omega,by rw [hc];omega,by rw [i1];simpa using i2,i3,by rw [hc];exact i4,fun h1 => ?_,fun h2 => ?_⟩
  ·obtain ⟨s,e1,e2,e3⟩ := i5 h1
   have F := scan_core C e2 hN
   have g := F.core.cget (t := u.thread) (by omega) (by omega)
   exact ⟨s,e1,e2.ok C hu hL hS hN,_,g.1,by have := g.2.1;omega⟩
  ·obtain ⟨p,e1,e2,e3,e4⟩ := i6 h2
   have g := C.cget (t := u.thread) (by omega) (by omega)
   exact ⟨p,e1,e2.pok C hu hL hS,e3,_,g.1,by have := g.2.1;omega,by rw [i1];simpa using e4⟩
 | pst p =>
  obtain ⟨i1,i2,i3,_⟩ := I
  obtain ⟨⟨k,hk,k0,k1⟩,j2,j3,j4⟩ := i3 rfl
  refine ⟨k,hz,by omega,by rw [hc];omega,by rw [i1];simpa using i2,hk,j2,fun h0 => ?_,fun h1 => ?_,fun h3 => by rw [hc];exact j3 h3,fun h3 => ?_,fun h4 => ?_⟩
  ·have e := (take_core C (k0 h0)).2.2.1
   show TakeOk a m k ∧ tookSlot (takeStep a m k).2.2.2 ≤ 2147483646 ∧ -1 ≤ tookSlot (takeStep a m k).2.2.2
   exact ⟨(k0 h0).ok C hu hL hS hN,by omega,by omega⟩
  ·have := k1 (by omega)
   rw [hc];exact ⟨this.1,this.2.1⟩
  ·have := k1 (by omega)
   rw [hc];omega
  ·obtain ⟨r,sc,e1,e2,e3,e4⟩ := j4 h4
   exact ⟨r,sc,e1,e2,e3.ok C hu hL hS hN⟩
 | rdg r =>
  obtain ⟨i1,i2,i3,i4⟩ := I
  have hb := bases hok
  have hb9 := (base_le hok 9).1
  refine ⟨hz,i3,by omega,?_,fun h3 => (i4 (by omega)).1,fun h3 => by rw [hc];exact (i4 (by omega)).2⟩
  rw [C.words]
  obtain ⟨b1,b2,b8,b9,b10,b11,b12,b13,b14,rh,rh2⟩ := hb
  have := hok.S1
  omega
 | clr ad =>
  obtain ⟨i1,i2⟩ := I
  have hb := bases hok
  have hl := C.log
  have ha := C.ahead
  refine ⟨hu,?_,by omega,by omega⟩
  rw [C.words]
  obtain ⟨b1,b2,b8,b9,b10,b11,b12,b13,b14,rh,rh2⟩ := hb
  have := hok.S1
  omega
 | scn s => exact (I.2.2 rfl).ok C hu hL hS hN
theorem FrameM.trans {i t : Nat} {cl : Cll} {s : Sea} {m0 m1 m2 : Mch} {z k v : Int} (f : FrameM i t cl s m0 m1) (g : FrameM i t { cl with point := z } { s with kind := k,value := v } m1 m2) : FrameM i t cl s m0 m2 := by
 obtain ⟨z1,hz1⟩ := f.calls
 obtain ⟨k1,v1,hk1⟩ := f.seats
 obtain ⟨z2,hz2⟩ := g.calls
 obtain ⟨k2,v2,hk2⟩ := g.seats
 exact ⟨g.cur.trans f.cur,g.vs.trans f.vs,g.vc.trans f.vc,g.kit.trans f.kit,g.moves.trans f.moves,g.now.trans f.now,g.thread.trans f.thread,
  ⟨z2,by rw [hz2,hz1,List.set_set]⟩,⟨k2,v2,by rw [hk2,hk1,List.set_set]⟩⟩
structure MoreI (c : Cfg) (L S N : Nat) (i t : Nat) (cl : Cll) (se : Sea) (h : Haz) (a : Are) (m : Mch) (r : Bool × (Haz × Are) × Mch × HTask) : Prop extends StI c L S N t h a r where
 frame : FrameM i t cl se m r.2.2.1
theorem rdy_more {bh ba : Nat} {CX : SProp} {i t : Nat} {cl : Cll} {se : Sea} {k : HTask} {now : Int} (C : Core c L S N h a m) (hN : N < 1000000) (ht : (t : Int) < c.T) (hc : m.calls[i]? = some cl) (hs : t < m.seats.length)
  (I : TI c t se.ready (h.held.getD t 0) (a.caches.getD t []) k) :
  MoreI c L (S + 1) N i t cl { se with ready := true } h a (m.prep t i now se) (stepReady (hzT bh ba CX) (h,a) m i t cl se k now) ∧ (stepReady (hzT bh ba CX) (h,a) m i t cl se k now).2.2.1.used = false := by
 have C0 : Core c L S N h a (m.prep t i now se) := C.of rfl rfl rfl rfl
 have hci : CurIn (m.prep t i now se) i t cl { se with ready := true } := ⟨rfl,hc,by simp [Mch.prep,hs]⟩
 unfold stepReady
 split
 ·rename_i hf
  rw [hf] at I
  obtain ⟨⟨e1,e2,e3⟩,e4⟩ := ready_core (i := i) (t := t) (cl := cl) (se := { se with ready := true }) C0 ht I
  exact ⟨⟨⟨e1,e2,e3⟩,(hzT_good bh ba CX).fr _ _ _ _ _ _ _ hci⟩,e4⟩
 ·rename_i hf
  have hf : se.ready = true := by simpa using hf
  rw [hf] at I
  exact ⟨⟨⟨C0.mono (by omega) (by omega) (by omega),.refl ..,fun _ => I⟩,(Same.refl _).frame hci⟩,rfl⟩
theorem more_core {bh ba : Nat} {CX : SProp} {i t : Nat} {cl : Cll} {se : Sea} {k : HTask} {now : Int} (C : Core c L S N h a m) (hN : N < 1000000) (ht : (t : Int) < c.T) (hc : m.calls[i]? = some cl) (hs : t < m.seats.length)
  (I : TI c t se.ready (h.held.getD t 0) (a.caches.getD t []) k) :
  MoreI c (L + 1) (S + 67) (N + 1) i t cl { se with ready := true } h a (m.prep t i now se) (stepMore (hzT bh ba CX) i t (stepReady (hzT bh ba CX) (h,a) m i t cl se k now)) := by
 obtain ⟨⟨⟨r1,r2,r3⟩,r4⟩,_⟩ := rdy_more (bh := bh) (ba := ba) (CX := CX) (now := now) C hN ht hc hs I
 have hci : CurIn (m.prep t i now se) i t cl { se with ready := true } := ⟨rfl,hc,by simp [Mch.prep,hs]⟩
 generalize stepReady (hzT bh ba CX) (h,a) m i t cl se k now = r at r1 r2 r3 r4 ⊢
 unfold stepMore
 split
 ·rename_i hf
  obtain ⟨z,kk,vv,hcc⟩ := r4.curIn hci
  obtain ⟨e1,e2,e3⟩ := step_core (i := i) (t := t) (x := getC r.2.2.1 i) (se := getS r.2.2.1 t) r1 hN ht (r3 hf)
  have fs := (hzT_good bh ba CX).fs r.2.1 _ i t _ _ r.2.2.2 hcc
  rw [← hcc.getC,← hcc.getS] at fs
  refine ⟨⟨e1,⟨fun j hj => (e2.held j hj).trans (r2.held j hj),fun j hj => (e2.caches j hj).trans (r2.caches j hj)⟩,e3⟩,?_⟩
  rw [hcc.getC,hcc.getS] at fs
  have := r4.trans fs
  rw [← hcc.getC,← hcc.getS] at this
  exact this
 ·exact ⟨⟨r1.mono (by omega) (by omega) (by omega),r2,r3⟩,r4⟩
end
structure PI (c : Cfg) (n : Nat) (y : HW) : Prop where
 cur : y.m.cur = none
 moves : y.m.moves = (n : Int)
 core : Core c n (100 * n) n y.s.1 y.s.2 y.m
 tasks : y.tasks.length = c.T.toNat
 seats : y.m.seats.length = c.T.toNat
 calls : y.m.calls.length ≤ n
 task : ∀ (t : Nat) (k : HTask) (se : Sea),y.tasks[t]? = some (some k) → y.m.seats[t]? = some se → (∃ i : Nat,se.last = (i : Int) ∧ i < y.m.calls.length) ∧ TI c t se.ready (y.s.1.held.getD t 0) (y.s.2.caches.getD t []) k
theorem PI.may {c : Cfg} {n : Nat} {y : HW} {bh ba : Nat} {CX : SProp} (P : PI c n y) (hn : n < 65536) (mv : Mv) : MayMove (hzT bh ba CX) (KOk c.T.toNat) c.T.toNat y mv := by
 obtain ⟨p1,p2,p3,p4,p5,p6,p7⟩ := P
 have hok := p3.ok
 have hT1 := hok.T1
 refine ⟨p1,by omega,by omega,by omega,p4,p5,⟨by rw [p3.hc];exact hok,p3.held,fun r hr => by rw [p3.hc];exact (p3.hin r hr).2⟩,by omega,?_⟩
 intro t k se ht hop hk hse
 obtain ⟨⟨i,e1,e2⟩,I⟩ := p7 t k se hk hse
 have hlt := (List.getElem?_eq_some_iff.1 hse).1
 have htT : (t : Int) < c.T := by omega
 have C0 : Core c n (100 * n) n y.s.1 y.s.2 (y.tick.m.prep t i y.m.moves se) := p3.of rfl rfl rfl rfl
 have C1 : Core c n (100 * n) n y.s.1 y.s.2 y.tick.m := p3.of rfl rfl rfl rfl
 refine ⟨i,_,e1,List.getElem?_eq_getElem e2,fun hf => ?_,fun hf => ?_⟩
 ·rw [hf] at I
  exact okr_of C0 rfl (by omega) (by omega) (by omega) htT I
 ·obtain ⟨⟨⟨r1,r2,r3⟩,_⟩,r5⟩ := rdy_more (bh := bh) (ba := ba) (CX := CX) (i := i) (cl := y.m.calls[i]) (now := y.m.moves) C1 (by omega) htT (List.getElem?_eq_getElem e2) hlt I
  exact oks_of r1 r5 (by omega) (by omega) (by omega) htT (r3 hf)
theorem PI.tick {c : Cfg} {n : Nat} {y : HW} (P : PI c n y) : PI c (n + 1) y.tick := by
 obtain ⟨p1,p2,p3,p4,p5,p6,p7⟩ := P
 exact ⟨p1,by simp only [Wst.tick];omega,(p3.mono (by omega) (by omega) (by omega)).of rfl rfl rfl rfl,p4,p5,by simp only [Wst.tick];omega,p7⟩
theorem TI.others {c : Cfg} {t j : Nat} {b : Bool} {h h' : Haz} {a a' : Are} {k : HTask} (hj : j ≠ t) (f : Fr t h h' a a') (I : TI c j b (h.held.getD j 0) (a.caches.getD j []) k) : TI c j b (h'.held.getD j 0) (a'.caches.getD j []) k := by
 rw [List.getD_eq_getElem?_getD,List.getD_eq_getElem?_getD] at I ⊢
 rw [f.held j hj,f.caches j hj]
 exact I
theorem PI.move {c : Cfg} {n : Nat} {y y' : HW} {bh ba : Nat} {CX : SProp} {K : Int → Option Value} {mv : Mv} {b : Bool} (P : PI c n y) (hn : n < 65536) (h : MoveTo (hzT bh ba CX) K kitTask y mv b y') : PI c (n + 1) y' := by
 cases h with
 | out => exact P.tick
 | idle => exact P.tick
 | busy => exact P.tick
 | nokit => exact P.tick
 | refused => exact P.tick
 | step t i cl se k ht hop hk hse hl hc =>
  obtain ⟨p1,p2,p3,p4,p5,p6,p7⟩ := P
  have hok := p3.ok
  have hlt := (List.getElem?_eq_some_iff.1 hse).1
  have htT : (t : Int) < c.T := by omega
  obtain ⟨_,I⟩ := p7 t k se hk hse
  have C1 : Core c n (100 * n) n y.s.1 y.s.2 y.tick.m := p3.of rfl rfl rfl rfl
  have hci : CurIn (y.tick.m.prep t i y.m.moves se) i t cl { se with ready := true } := ⟨rfl,hc,by simp [Mch.prep,Wst.tick,hlt]⟩
  obtain ⟨⟨e1,e2,e3⟩,e4⟩ := more_core (bh := bh) (ba := ba) (CX := CX) (now := y.m.moves) C1 (by omega) htT hc hlt I
  have hsd : y.s = (y.s.1,y.s.2) := rfl
  unfold machStep
  rw [hsd]
  simp only []
  generalize stepMore (hzT bh ba CX) i t (stepReady (hzT bh ba CX) (y.s.1,y.s.2) y.tick.m i t cl se k y.m.moves) = r at e1 e2 e3 e4 ⊢
  obtain ⟨z,kk,vv,hcc⟩ := e4.curIn hci
  obtain ⟨z1,hz1⟩ := e4.calls
  obtain ⟨k1,v1,hk1⟩ := e4.seats
  have hcl : r.2.2.1.calls.length = y.m.calls.length := by rw [hz1];simp [Mch.prep,Wst.tick]
  have hsl : r.2.2.1.seats.length = y.m.seats.length := by rw [hk1];simp [Mch.prep,Wst.tick]
  have hmv : r.2.2.1.moves = y.m.moves + 1 := e4.moves
  have hsS : ∀ j,j ≠ t → r.2.2.1.seats[j]? = y.m.seats[j]? := by
   intro j hj
   rw [hk1,set_ne hj]
   simp only [Mch.prep,Wst.tick]
   rw [set_ne hj]
  rw [hcc.getC,hcc.getS]
  by_cases hb : r.1 = true
  ·simp only [stepEnd,if_pos hb]
   refine ⟨rfl,by show r.2.2.1.moves = _;omega,(e1.mono (by omega) (by omega) (by omega)).of rfl rfl rfl rfl,by simp [p4],by simp [hsl,p5],by simp;omega,?_⟩
   intro j kj sj hkj hsj
   simp only [] at hkj hsj
   by_cases hj : j = t
   ·subst hj
    rw [List.getElem?_set_self (by omega)] at hkj
    simp at hkj
   ·rw [set_ne hj] at hkj hsj
    rw [hsS j hj] at hsj
    obtain ⟨⟨i',q1,q2⟩,q3⟩ := p7 j kj sj hkj hsj
    exact ⟨⟨i',q1,by simp;omega⟩,q3.others hj e2⟩
  ·simp only [stepEnd,if_neg hb]
   refine ⟨rfl,by show r.2.2.1.moves = _;omega,(e1.mono (by omega) (by omega) (by omega)).of rfl rfl rfl rfl,by simp [p4],by simp [hsl,p5],by simp;omega,?_⟩
   intro j kj sj hkj hsj
   simp only [] at hkj hsj
   by_cases hj : j = t
   ·subst hj
    rw [List.getElem?_set_self (by omega)] at hkj
    simp at hkj
    subst hkj
    rw [hcc.seat] at hsj
    cases hsj
    exact ⟨⟨i,hl,by have := (List.getElem?_eq_some_iff.1 hc).1;simp only [];omega⟩,e3 (by simpa using hb)⟩
   ·rw [set_ne hj] at hkj
    rw [hsS j hj] at hsj
    obtain ⟨⟨i',q1,q2⟩,q3⟩ := p7 j kj sj hkj hsj
    exact ⟨⟨i',q1,by simp only [];omega⟩,q3.others hj e2⟩
 | begin_ t k v vc ht hop hk hKn hmk =>
  obtain ⟨p1,p2,p3,p4,p5,p6,p7⟩ := P
  have hlt := (List.getElem?_eq_some_iff.1 hk).1
  have htT : (t : Int) < c.T := by have := p3.ok.T1;omega
  refine ⟨p1,by simp only [machBegin];omega,(p3.mono (by omega) (by omega) (by omega)).of rfl rfl rfl rfl,by simp [p4],by simp [machBegin,p5],by simp [machBegin];omega,?_⟩
  intro j kj sj hkj hsj
  simp only [machBegin] at hkj hsj
  by_cases hj : j = t
  ·subst hj
   rw [List.getElem?_set_self (by omega)] at hkj hsj
   cases hkj
   cases hsj
   exact ⟨⟨_,rfl,by simp [machBegin]⟩,made_inv p3 htT hmk _⟩
  ·rw [set_ne hj] at hkj hsj
   obtain ⟨⟨i',q1,q2⟩,q3⟩ := p7 j kj sj hkj hsj
   exact ⟨⟨i',q1,by simp [machBegin];omega⟩,q3⟩
/-! ## the beginning -/
theorem fill_wok {c : Cfg} (hok : c.Ok) {ws : List Int} (hw : ∀ (k : Nat) (u : Int),ws[k]? = some u → WOk c k u) : ∀ n : Nat,(n : Int) + 1 ≤ c.Sl → ∀ (k : Nat) (u : Int),(fillW ws (base c 10) 0 n)[k]? = some u → WOk c k u
 | 0,_,k,u,h => hw k u h
 | n + 1,hn,k,u,h => by
  simp only [fillW] at h
  have hb := (base_le hok 10).1
  by_cases hk : (base c 10 + ((0 + n : Nat) : Int)).toNat = k
  ·subst hk
   rw [List.getElem?_set_self'] at h
   cases hg : (fillW ws (base c 10) 0 n)[(base c 10 + ((0 + n : Nat) : Int)).toNat]? with
   | none => rw [hg] at h;simp at h
   | some w =>
    rw [hg] at h;simp at h;subst h
    have := wok_next hok (i := ((0 + n : Nat) : Int)) (by omega) (u := ((n : Int) + 2)) ⟨by omega,by omega⟩
    simpa [adr] using this
  ·rw [List.getElem?_set_ne hk] at h
   exact fill_wok hok hw n (by omega) k u h
theorem first_wok {c : Cfg} (hok : c.Ok) (k : Nat) (u : Int) (h : (firstW c 0)[k]? = some u) : WOk c k u := by
 have hS1 := hok.S1
 simp only [firstW] at h
 rw [if_neg (by omega),if_pos (by show ((0 : Nat) : Int) < c.Sl;omega)] at h
 refine fill_wok hok ?_ (c.Sl.toNat - 1 - 0) (by omega) k u h
 intro k u h
 by_cases hk : k = 0
 ·subst hk
  have h0 : u = 1 := by
   rw [List.getElem?_set_self'] at h
   cases hg : (List.replicate (base c 14).toNat (0 : Int))[0]? with
   | none => rw [hg] at h;simp at h
   | some w => rw [hg] at h;simp at h;exact h.symm
  subst h0
  have := wok_head hok (u := 1) ⟨by omega,by omega,by omega⟩
  simpa [adr,base] using this
 ·rw [List.getElem?_set_ne (by omega)] at h
  have h0 : u = 0 := by
   have := List.mem_of_getElem? h
   exact (List.mem_replicate.1 this).2
  subst h0
  exact ⟨fun _ => ⟨by omega,by omega,by omega⟩,fun _ => ⟨by omega,by omega⟩,fun _ _ => ⟨by omega,by omega⟩,fun _ _ => ⟨by omega,by omega⟩⟩
theorem tot_nils : ∀ n,tot (List.replicate n []) = 0
 | 0 => rfl
 | n + 1 => by simp only [List.replicate_succ,tot,tot_nils n,List.length_nil]
theorem PI.start {c : Cfg} (hok : c.Ok) (km : Nat) (vs : Value) : PI c 0 (wst0 c km vs) := by
 have h1 := hok.R1
 have h2 := hok.C1
 refine ⟨rfl,rfl,⟨hok,rfl,rfl,firstW_len c 0,first_wok hok,by simp [wst0,mch0],by simp [wst0,mch0],by simp [wst0,mch0],by simp [wst0,are0],by simp [wst0,haz0],?_,by simp [wst0,haz0],by simp [wst0,haz0,tot_nils],?_,by simp [wst0,are0],?_,?_⟩,by simp [wst0],by simp [wst0,mch0],by simp [wst0,mch0],?_⟩
 ·intro r hr
  have := (List.mem_replicate.1 hr).2
  subst this
  omega
 ·intro l hl z hz
  have := (List.mem_replicate.1 hl).2
  subst this
  simp at hz
 ·intro x hx
  have := (List.mem_replicate.1 hx).2
  subst this
  simpa using h2
 ·intro x hx z hz
  have := (List.mem_replicate.1 hx).2
  subst this
  simp at hz
 ·intro t k se hk
  simp only [wst0,List.getElem?_replicate] at hk
  split at hk <;> simp at hk
end Go.Proofs.YtegafhhdegnigaaGreat
end
/-
  What a machine computes does not depend on where its parts stand in memory.
-/
section
namespace Go.Proofs.YtegafhhdegnigaaGreat
open Go.RowKit Hp
set_option maxRecDepth 100000
set_option maxHeartbeats 1000000
attribute [local irreducible] Go.Calls
def Sea.er (s : Sea) : Sea := { s with task := .nilIface }
def Mch.er (m : Mch) : Mch := { m with kit := .nilIface,vs := .nilIface,vc := .nilIface,seats := m.seats.map Sea.er }
section
variable {α β γ : Type}
def er3 (r : Bool × α × Mch × β) : Bool × α × Mch × β := (r.1,r.2.1,r.2.2.1.er,r.2.2.2)
def er4 (r : Bool × α × β × Mch × γ) : Bool × α × β × Mch × γ := (r.1,r.2.1,r.2.2.1,r.2.2.2.1.er,r.2.2.2.2)
def er2 (r : Bool × Mch × β) : Bool × Mch × β := (r.1,r.2.1.er,r.2.2)
theorem er3_ite {p : Prop} [Decidable p] (x y : Bool × α × Mch × β) : er3 (if p then x else y) = if p then er3 x else er3 y := by split <;> rfl
theorem er4_ite {p : Prop} [Decidable p] (x y : Bool × α × β × Mch × γ) : er4 (if p then x else y) = if p then er4 x else er4 y := by split <;> rfl
theorem er2_ite {p : Prop} [Decidable p] (x y : Bool × Mch × β) : er2 (if p then x else y) = if p then er2 x else er2 y := by split <;> rfl
end
variable (h : Haz) (a : Are) (m : Mch) (i t : Nat)
theorem er_word (i : Nat) : m.er.word i = m.word i := rfl
theorem er_load (u : Int) : m.er.load i u = (m.load i u).er := rfl
theorem er_store (u z : Int) : m.er.store i u z = (m.store i u z).er := rfl
theorem er_swap (u o z : Int) : m.er.swap i u o z = (m.swap i u o z).er := rfl
theorem er_shift (s f t : Int) : m.er.shift s f t = (m.shift s f t).er := rfl
theorem er_point (c : Cll) (z : Int) : m.er.point i c z = (m.point i c z).er := rfl
theorem er_thread : m.er.thread = m.thread := rfl
theorem er_now : m.er.now = m.now := rfl
theorem er_answer (s : Sea) (k v : Int) : m.er.answer t s.er k v = (m.answer t s k v).er := by
 simp only [Mch.answer,Mch.er,List.map_set];rfl
theorem er_prep (now : Int) (s : Sea) : m.er.prep t i now s.er = (m.prep t i now s).er := by
 simp only [Mch.prep,Mch.er,List.map_set];rfl
theorem er_push (p : Psh) : pushStep a m.er p = er3 (pushStep a m p) := by
 simp only [pushStep,er_word,er_load,er_store,er_swap,er_shift,er_thread,er3_ite];rfl
theorem er_give (p : Psh) : giveReady a m.er p = er3 (giveReady a m p) := by
 simp only [giveReady,er_shift,er_thread,er3_ite];rfl
def er5 {α β γ : Type} (r : Bool × α × β × γ × Mch) : Bool × α × β × γ × Mch := (r.1,r.2.1,r.2.2.1,r.2.2.2.1,r.2.2.2.2.er)
theorem er5_ite {α β γ : Type} {p : Prop} [Decidable p] (x y : Bool × α × β × γ × Mch) : er5 (if p then x else y) = if p then er5 x else er5 y := by split <;> rfl
theorem er_free (th : Int) : ∀ (l : List Int) (g : Option Psh) (a : Are) (m : Mch),freeLoop th l g a m.er = er5 (freeLoop th l g a m)
 | [],g,a,m => rfl
 | s :: r,g,a,m => by
  unfold freeLoop
  rw [er_give,er5_ite]
  simp only [er3]
  rw [er_free th r]
  rfl
theorem er_takeReady (k : Tak) : takeReady a m.er k = er3 (takeReady a m k) := by
 simp only [takeReady,takeGot,er_shift,er_thread,er3_ite];rfl
theorem er_take (k : Tak) : takeStep a m.er k = er3 (takeStep a m k) := by
 simp only [takeStep,takeGot,er_word,er_load,er_swap,er_shift,er_thread,er3_ite];rfl
theorem er_try (s : Scn) : scanTry h m.er s = er2 (scanTry h m s) := by
 simp only [scanTry,er_word,er_load,er2_ite];rfl
theorem er_stake (s : Scn) : scanTake h m.er s = er3 (scanTake h m s) := by
 simp only [scanTake,er_word,er_swap,er3_ite];rfl
theorem er_look (s : Scn) : scanLook h a m.er s = er4 (scanLook h a m s) := by
 have e1 : (scanLook1 h m.er s).1 = (scanLook1 h m s).1.er := rfl
 have e2 : (scanLook1 h m.er s).2 = (scanLook1 h m s).2 := rfl
 unfold scanLook
 rw [e1,e2]
 dsimp only
 rw [er_free,er4_ite]
 rfl
theorem er_sgive (s : Scn) (p : Psh) : scanGive h a m.er s p = er3 (scanGive h a m s p) := by
 simp only [scanGive,er_push,er3_ite]
 simp only [er3,er_free];rfl
theorem er_scan (s : Scn) : scanStep h a m.er s = er4 (scanStep h a m s) := by
 unfold scanStep
 simp only [er4_ite]
 congr 1
 ·rw [er_try];rfl
 congr 1
 ·rw [er_stake];rfl
 congr 1
 congr 1
 ·exact er_look ..
 ·split
  ·rw [er_sgive];rfl
  ·rfl
theorem er_retire (r : Ret) : retireReady h a m.er r = er4 (retireReady h a m r) := by
 simp only [retireReady,er_shift,er_thread,er4_ite];rfl
theorem er_reg (s : Sea) (r : Reg) : regStep h m.er t s.er r = er3 (regStep h m t s r) := by
 simp only [regStep,regNext,er_word,er_load,er_swap,er_answer,er3_ite];rfl
theorem er_flush (p : Psh) : flushStep a m.er p = er3 (flushStep a m p) := by
 simp only [flushStep,er_push,er3_ite];rfl
theorem er_unr (u : Unr) : unregStep h a m.er u = er4 (unregStep h a m u) := by
 unfold unregStep
 simp only [er_word,er_store,er4_ite]
 congr 1
 congr 1
 ·split
  ·rfl
  ·simp only [er_scan,er4_ite];rfl
 congr 1
 split
 ·rfl
 ·simp only [er_flush];rfl
theorem er_read (c : Cll) (s : Sea) (r : Rdg) : readStep h m.er i t c s.er r = er2 (readStep h m i t c s r) := by
 simp only [readStep,readSaw,er_word,er_load,er_store,er_point,er_now,er_answer,er2_ite];rfl
theorem er_took (c : Cll) (s : Sea) (p : Pst) (k : Tak) : postTook m.er i t c s.er p k = er2 (postTook m i t c s p k) := by
 simp only [postTook,er_point,er_now,er_answer,er2_ite];rfl
theorem er_postReady (c : Cll) (s : Sea) (p : Pst) : postReady a m.er i t c s.er p = er3 (postReady a m i t c s p) := by
 simp only [postReady,er_takeReady,er3_ite]
 simp only [er3,er_took];rfl
theorem er_post (c : Cll) (s : Sea) (p : Pst) : postStep h a m.er i t c s.er p = er4 (postStep h a m i t c s p) := by
 unfold postStep
 split
 ·rfl
 ·simp only [er4_ite,er_take,er_word]
  congr 1
  ·simp only [er3,er_took];rfl
  congr 1
  congr 1
  congr 1
  ·congr 1
   simp only [er_swap,postDone,er_point,er_answer,er_now,er_shift,er_thread,er_retire,er4_ite];rfl
  ·split
   ·rfl
   ·split
    ·rfl
    ·rw [er_scan];rfl
theorem er_rdy (s : Haz × Are) (c : Cll) (se : Sea) (k : HTask) : htReady s m.er i t c se.er k = er3 (htReady s m i t c se k) := by
 cases k <;> first|rfl|(simp only [htReady,er_postReady];rfl)
theorem er_stp (s : Haz × Are) (c : Cll) (se : Sea) (k : HTask) : htStep s m.er i t c se.er k = er3 (htStep s m i t c se k) := by
 cases k <;> first|rfl|(simp only [htStep,er_reg,er_unr,er_read,er_post,er_scan];rfl)
abbrev nT : Tasks (Haz × Are) HTask := ⟨fun _ => emp,fun _ _ => emp,htReady,htStep,fun _ _ _ _ => True,fun _ _ _ _ => True⟩
theorem er_stepReady {bh ba : Nat} {CX : SProp} (s : Haz × Are) (c : Cll) (se : Sea) (k : HTask) (now : Int) : stepReady nT s m.er i t c se.er k now = er3 (stepReady (hzT bh ba CX) s m i t c se k now) := by
 unfold stepReady
 rw [er3_ite]
 congr 1
 ·rw [er_prep];exact er_rdy _ i t s c { se with ready := true } k
 ·rw [er_prep];rfl
theorem er_getC : getC m.er i = getC m i := rfl
theorem er_getS : getS m.er t = (getS m t).er := by
 simp only [getS,Mch.er,List.getD_eq_getElem?_getD,List.getElem?_map]
 cases m.seats[t]? <;> rfl
theorem er_stepMore {bh ba : Nat} {CX : SProp} (r : Bool × (Haz × Are) × Mch × HTask) : stepMore nT i t (er3 r) = er3 (stepMore (hzT bh ba CX) i t r) := by
 unfold stepMore
 rw [er3_ite]
 congr 1
 simp only [er3,er_getC,er_getS]
 exact er_stp _ i t _ _ _ _
theorem er_end (c : Cll) (s : Sea) (now : Int) (b : Bool) : stepEnd m.er t i now c s.er b = (stepEnd m t i now c s b).er := by
 unfold stepEnd
 split
 ·simp only [Mch.er,List.map_set];rfl
 ·rfl
def Wst.er (y : HW) : HW := { y with m := y.m.er }
def moveE (y : HW) (mv : Mv) : HW :=
 if mv.thread < 0 ∨ (y.tasks.length : Int) ≤ mv.thread then y.tick
 else match y.tasks.getD mv.thread.toNat none with
  | none =>
   if mv.op < 20 ∨ 25 < mv.op then y.tick
   else match kitTask y.s mv.thread.toNat mv with
    | none => y.tick
    | some k => ⟨y.s,machBegin y.m mv.thread.toNat mv .nilIface .nilIface,y.tasks.set mv.thread.toNat (some k)⟩
  | some k =>
   if mv.op ≠ 0 then y.tick
   else
    let se := getS y.m mv.thread.toNat
    let r := machStep nT y.s y.tick.m se.last.toNat mv.thread.toNat (getC y.m se.last.toNat) se k y.m.moves
    ⟨r.1,r.2.1,y.tasks.set mv.thread.toNat r.2.2⟩
def didE (y : HW) (mv : Mv) : Bool :=
 if mv.thread < 0 ∨ (y.tasks.length : Int) ≤ mv.thread then false
 else match y.tasks.getD mv.thread.toNat none with
  | none => if mv.op < 20 ∨ 25 < mv.op then false else (kitTask y.s mv.thread.toNat mv).isSome
  | some _ => mv.op = 0
theorem kitFn_none {x : Caps} {op : Int} : kitFn x op = none ↔ op < 20 ∨ 25 < op := by
 unfold kitFn
 constructor
 ·intro h
  repeat (split at h;· cases h)
  omega
 ·intro h
  rw [if_neg (by omega),if_neg (by omega),if_neg (by omega),if_neg (by omega),if_neg (by omega),if_neg (by omega)]
theorem moveE_of {y y' : HW} {mv : Mv} {b : Bool} {bh ba : Nat} {CX : SProp} {x : Caps} (h : MoveTo (hzT bh ba CX) (kitFn x) kitTask y mv b y') : y'.er = moveE y.er mv ∧ b = didE y.er mv := by
 cases h with
 | out h => unfold moveE didE;rw [if_pos (by exact h),if_pos (by exact h)];exact ⟨rfl,rfl⟩
 | idle t ht hop hk =>
  have hl := (List.getElem?_eq_some_iff.1 hk).1
  have e : y.er.tasks.getD mv.thread.toNat none = none := by rw [ht,Int.toNat_natCast,List.getD_eq_getElem?_getD];show (y.tasks[t]?).getD none = none;rw [hk];rfl
  unfold moveE didE
  have hn : ¬ (mv.thread < 0 ∨ (y.er.tasks.length : Int) ≤ mv.thread) := by show ¬ (mv.thread < 0 ∨ (y.tasks.length : Int) ≤ mv.thread);omega
  rw [if_neg hn,if_neg hn,e]
  simp only []
  rw [if_pos (by omega),if_pos (by omega)]
  exact ⟨rfl,rfl⟩
 | busy t k ht hop hk =>
  have hl := (List.getElem?_eq_some_iff.1 hk).1
  have e : y.er.tasks.getD mv.thread.toNat none = some k := by rw [ht,Int.toNat_natCast,List.getD_eq_getElem?_getD];show (y.tasks[t]?).getD none = some k;rw [hk];rfl
  unfold moveE didE
  have hn : ¬ (mv.thread < 0 ∨ (y.er.tasks.length : Int) ≤ mv.thread) := by show ¬ (mv.thread < 0 ∨ (y.tasks.length : Int) ≤ mv.thread);omega
  rw [if_neg hn,if_neg hn,e]
  simp only []
  rw [if_pos hop]
  exact ⟨rfl,by simp [hop]⟩
 | nokit t ht hop hk hK =>
  have hl := (List.getElem?_eq_some_iff.1 hk).1
  have e : y.er.tasks.getD mv.thread.toNat none = none := by rw [ht,Int.toNat_natCast,List.getD_eq_getElem?_getD];show (y.tasks[t]?).getD none = none;rw [hk];rfl
  unfold moveE didE
  have hn : ¬ (mv.thread < 0 ∨ (y.er.tasks.length : Int) ≤ mv.thread) := by show ¬ (mv.thread < 0 ∨ (y.tasks.length : Int) ≤ mv.thread);omega
  rw [if_neg hn,if_neg hn,e]
  simp only []
  rw [if_pos (kitFn_none.1 hK),if_pos (kitFn_none.1 hK)]
  exact ⟨rfl,rfl⟩
 | refused t ht hop hk hK hm =>
  have hl := (List.getElem?_eq_some_iff.1 hk).1
  have e : y.er.tasks.getD mv.thread.toNat none = none := by rw [ht,Int.toNat_natCast,List.getD_eq_getElem?_getD];show (y.tasks[t]?).getD none = none;rw [hk];rfl
  unfold moveE didE
  have hn : ¬ (mv.thread < 0 ∨ (y.er.tasks.length : Int) ≤ mv.thread) := by show ¬ (mv.thread < 0 ∨ (y.tasks.length : Int) ≤ mv.thread);omega
  have hm2 : kitTask y.er.s mv.thread.toNat mv = none := by rw [ht,Int.toNat_natCast];exact hm
  rw [if_neg hn,if_neg hn,e]
  simp only []
  rw [if_neg (fun h => hK (kitFn_none.2 h)),if_neg (fun h => hK (kitFn_none.2 h)),hm2]
  exact ⟨rfl,rfl⟩
 | begin_ t k v vc ht hop hk hK hm =>
  have hl := (List.getElem?_eq_some_iff.1 hk).1
  have e : y.er.tasks.getD mv.thread.toNat none = none := by rw [ht,Int.toNat_natCast,List.getD_eq_getElem?_getD];show (y.tasks[t]?).getD none = none;rw [hk];rfl
  unfold moveE didE
  have hn : ¬ (mv.thread < 0 ∨ (y.er.tasks.length : Int) ≤ mv.thread) := by show ¬ (mv.thread < 0 ∨ (y.tasks.length : Int) ≤ mv.thread);omega
  have hm2 : kitTask y.er.s mv.thread.toNat mv = some k := by rw [ht,Int.toNat_natCast];exact hm
  rw [if_neg hn,if_neg hn,e]
  simp only []
  rw [if_neg (fun h => hK (kitFn_none.2 h)),if_neg (fun h => hK (kitFn_none.2 h)),hm2]
  refine ⟨?_,rfl⟩
  rw [ht,Int.toNat_natCast]
  simp only [Wst.er,machBegin,Mch.er,List.map_set]
  rfl
 | step t i c se k ht hop hk hse hl hc =>
  have hlt := (List.getElem?_eq_some_iff.1 hk).1
  have e : y.er.tasks.getD mv.thread.toNat none = some k := by rw [ht,Int.toNat_natCast,List.getD_eq_getElem?_getD];show (y.tasks[t]?).getD none = some k;rw [hk];rfl
  unfold moveE didE
  have hn : ¬ (mv.thread < 0 ∨ (y.er.tasks.length : Int) ≤ mv.thread) := by show ¬ (mv.thread < 0 ∨ (y.tasks.length : Int) ≤ mv.thread);omega
  rw [if_neg hn,if_neg hn,e]
  simp only []
  rw [if_neg (by simpa using hop)]
  refine ⟨?_,by simp [hop]⟩
  have e1 : getS y.er.m mv.thread.toNat = se.er := by
   rw [ht,Int.toNat_natCast]
   show getS y.m.er t = _
   rw [er_getS]
   simp [getS,List.getD_eq_getElem?_getD,hse]
  have e2 : getC y.er.m se.er.last.toNat = c := by
   show getC y.m.er se.last.toNat = c
   rw [hl,Int.toNat_natCast,er_getC]
   simp [getC,List.getD_eq_getElem?_getD,hc]
  have e3 : se.er.last.toNat = i := by show se.last.toNat = i;omega
  rw [e1,e2,e3,ht,Int.toNat_natCast]
  have e4 : machStep nT y.er.s y.er.tick.m i t c se.er k y.er.m.moves = ((machStep (hzT bh ba CX) y.s y.tick.m i t c se k y.m.moves).1,(machStep (hzT bh ba CX) y.s y.tick.m i t c se k y.m.moves).2.1.er,(machStep (hzT bh ba CX) y.s y.tick.m i t c se k y.m.moves).2.2) := by
   have h1 := er_stepReady (bh := bh) (ba := ba) (CX := CX) y.tick.m i t y.s c se k y.m.moves
   have h2 := er_stepMore (bh := bh) (ba := ba) (CX := CX) i t (stepReady (hzT bh ba CX) y.s y.tick.m i t c se k y.m.moves)
   rw [← h1] at h2
   unfold machStep
   simp only []
   have h3 : stepMore nT i t (stepReady nT y.er.s y.er.tick.m i t c se.er k y.er.m.moves) = er3 (stepMore (hzT bh ba CX) i t (stepReady (hzT bh ba CX) y.s y.tick.m i t c se k y.m.moves)) := h2
   rw [h3]
   simp only [er3,er_getC,er_getS,er_end];rfl
  simp only [e4]
  rfl
end Go.Proofs.YtegafhhdegnigaaGreat
end
