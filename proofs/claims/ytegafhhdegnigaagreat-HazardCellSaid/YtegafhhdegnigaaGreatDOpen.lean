/-
  A move, opened: what is known ahead of a call's step, between its two halves and behind it.
-/
import Derived.Test.YtegafhhdegnigaaGreatDOw7
set_option linter.all false
namespace Go.Proofs.YtegafhhdegnigaaGreat
open Go.RowKit Hp
set_option maxRecDepth 100000
set_option maxHeartbeats 1000000
attribute [local irreducible] Go.Calls
def kd : HTask → Int
 | .reg _ => 20
 | .unr _ => 21
 | .pst _ => 22
 | .rdg _ => 23
 | .clr _ => 24
 | .scn _ => 25
theorem kd_rdy (s : Haz × Are) (m : Mch) (i t : Nat) (cl : Cll) (se : Sea) (k : HTask) : kd (htReady s m i t cl se k).2.2.2 = kd k := by cases k <;> rfl
theorem kd_stp (s : Haz × Are) (m : Mch) (i t : Nat) (cl : Cll) (se : Sea) (k : HTask) : kd (htStep s m i t cl se k).2.2.2 = kd k := by cases k <;> rfl
abbrev RT := Bool × (Haz × Are) × Mch × HTask
def rsx (pr : Int → Prop) (c : Cfg) (r : RT) : Sx := sx pr c r.2.1.1 r.2.1.2 r.2.2.1
def rS (r : RT) : List Int := if r.1 = true then [] else hS r.2.2.2
def rL (r : RT) : List Int := if r.1 = true then [] else hL r.2.2.2
def rst (r : RT) : St3 := (r.2.1.1,r.2.1.2,r.2.2.1)
structure Half (c : Cfg) (n L S N : Nat) (g : Int) (y : HW) (t i : Nat) (cl : Cll) (se : Sea) (k : HTask) (Z Y : Int → Nat) (pr : Int → Prop) (F : List Int) (r : RT) : Prop where
 core : Core c L S N r.2.1.1 r.2.1.2 r.2.2.1
 ti : r.1 = false → TI c t true (r.2.1.1.held.getD t 0) (r.2.1.2.caches.getD t []) r.2.2.2
 gd : Gd c g Z Y F (rsx pr c r) (rS r) (rL r)
 td : r.1 = false → TD c t (rsx pr c r) r.2.2.2
 thread : r.2.2.1.thread = (t : Int)
 now : r.2.2.1.now = (n : Int)
 calls : ∃ z,r.2.2.1.calls = y.m.calls.set i { cl with point := z } ∧ (z = cl.point ∨ cl.begin_ < z ∧ z ≤ n)
 seats : ∃ q v,r.2.2.1.seats = y.m.seats.set t { se with ready := true,kind := q,value := v } ∧ (1 ≤ q ∧ q ≤ 6 ∧ (q ≠ 2 → v = 0))
 kd : kd r.2.2.2 = kd k
 rdp : RdP cl.begin_ n r.2.2.2
def stepM (y : HW) (t i : Nat) (se : Sea) : Mch := y.tick.m.prep t i y.m.moves se
def stepY (y : HW) (t i : Nat) (r : RT) : HW := ⟨r.2.1,stepEnd r.2.2.1 t i y.m.moves (getC r.2.2.1 i) (getS r.2.2.1 t) r.1,y.tasks.set t (if r.1 = true then none else some r.2.2.2)⟩
structure StepO (c : Cfg) (n : Nat) (pr : Int → Prop) (F : List Int) (y : HW) (t i : Nat) (cl : Cll) (se : Sea) (k : HTask) (Z Y : Int → Nat) (r1 : RT) (pr1 : Int → Prop) (F1 : List Int) (r2 : RT) (pr2 : Int → Prop) (F2 : List Int) : Prop where
 htT : (t : Int) < c.T
 hk : y.tasks[t]? = some (some k)
 hse : y.m.seats[t]? = some se
 hl : se.last = (i : Int)
 hc : y.m.calls[i]? = some cl
 end_ : cl.end_ = -1
 thr : cl.thread = (t : Int)
 bn : cl.begin_ < n
 Zeq : Z = cnt2 ((y.tasks.set t none).map tS)
 Yeq : Y = cnt2 ((y.tasks.set t none).map tL)
 c0 : Core c n (100 * n) n y.s.1 y.s.2 (stepM y t i se)
 i0 : TI c t se.ready (y.s.1.held.getD t 0) (y.s.2.caches.getD t []) k
 g0 : Gd c n Z Y F (sx pr c y.s.1 y.s.2 (stepM y t i se)) (hS k) (hL k)
 d0 : TD c t (sx pr c y.s.1 y.s.2 (stepM y t i se)) k
 fr : se.ready = false → hS k = [] ∧ hL k = []
 h1 : Half c n n (100 * n + 1) n n y t i cl se k Z Y pr1 F1 r1
 used1 : r1.2.2.1.used = false
 rdy : se.ready = false ∧ r1 = htReady y.s (stepM y t i se) i t cl { se with ready := true } k ∨ se.ready = true ∧ r1 = (false,y.s,stepM y t i se,k) ∧ pr1 = pr ∧ F1 = F
 rl1 : Rl Z t (OwW c t (sx pr c y.s.1 y.s.2 (stepM y t i se)) (stepM y t i se).mem.log r1.2.2.1.mem.log) (sx pr c y.s.1 y.s.2 (stepM y t i se)) (rsx pr1 c r1)
 he1 : r1.2.1.1.held = y.s.1.held
 ev1 : Evo i t (y.s.1,y.s.2,stepM y t i se) (rst r1)
 h2 : Half c n (n + 1) (100 * n + 67) (n + 1) (n + 1) y t i cl se k Z Y pr2 F2 r2
 stp : r1.1 = true ∧ r2 = r1 ∧ pr2 = pr1 ∧ F2 = F1 ∨ r1.1 = false ∧ r2 = htStep r1.2.1 r1.2.2.1 i t (getC r1.2.2.1 i) (getS r1.2.2.1 t) r1.2.2.2
 rl2 : Rl Z t (OwW c t (rsx pr1 c r1) r1.2.2.1.mem.log r2.2.2.1.mem.log) (rsx pr1 c r1) (rsx pr2 c r2)
 ev2 : Evo i t (rst r1) (rst r2)
section
variable {c : Cfg} {n : Nat} {y y' : HW}
theorem Half.getC {L S N : Nat} {g : Int} {t i : Nat} {cl : Cll} {se : Sea} {k : HTask} {Z Y : Int → Nat} {pr : Int → Prop} {F : List Int} {r : RT} (H : Half c n L S N g y t i cl se k Z Y pr F r) (hc : y.m.calls[i]? = some cl) :
  ∃ z,getC r.2.2.1 i = { cl with point := z } ∧ r.2.2.1.calls = y.m.calls.set i { cl with point := z } ∧ r.2.2.1.calls[i]? = some { cl with point := z } ∧ (z = cl.point ∨ cl.begin_ < z ∧ z ≤ n) := by
 obtain ⟨z,h1,h2⟩ := H.calls
 have h3 : r.2.2.1.calls[i]? = some { cl with point := z } := by rw [h1];exact List.getElem?_set_self (List.getElem?_eq_some_iff.1 hc).1
 exact ⟨z,by simp [Go.Proofs.YtegafhhdegnigaaGreat.getC,List.getD_eq_getElem?_getD,h3],h1,h3,h2⟩
theorem Half.getS {L S N : Nat} {g : Int} {t i : Nat} {cl : Cll} {se : Sea} {k : HTask} {Z Y : Int → Nat} {pr : Int → Prop} {F : List Int} {r : RT} (H : Half c n L S N g y t i cl se k Z Y pr F r) (hc : y.m.seats[t]? = some se) :
  ∃ q v,getS r.2.2.1 t = { se with ready := true,kind := q,value := v } ∧ r.2.2.1.seats = y.m.seats.set t { se with ready := true,kind := q,value := v } ∧ r.2.2.1.seats[t]? = some { se with ready := true,kind := q,value := v } ∧ (1 ≤ q ∧ q ≤ 6 ∧ (q ≠ 2 → v = 0)) := by
 obtain ⟨q,v,h1,h2⟩ := H.seats
 have h3 : r.2.2.1.seats[t]? = some { se with ready := true,kind := q,value := v } := by rw [h1];exact List.getElem?_set_self (List.getElem?_eq_some_iff.1 hc).1
 exact ⟨q,v,by simp [Go.Proofs.YtegafhhdegnigaaGreat.getS,List.getD_eq_getElem?_getD,h3],h1,h3,h2⟩
theorem move_open {pr : Int → Prop} {F : List Int} {bh ba : Nat} {CX : SProp} {K : Int → Option Value} {mv : Mv} {b : Bool} (P : PI c n y) (R : RunOk c n y) (D : DI c pr F n y) (hn : n < 65536) (hM : MoveTo (hzT bh ba CX) K kitTask y mv b y') :
  (y' = y.tick ∧ DI c pr F ((n + 1 : Nat) : Int) y') ∨
  (∃ (t : Nat) (k : HTask) (v vc : Value),mv.thread = (t : Int) ∧ (t : Int) < c.T ∧ mv.op ≠ 0 ∧ y.tasks[t]? = some none ∧ K mv.op ≠ none ∧ kitTask y.s t mv = some k ∧ y' = ⟨y.s,machBegin y.m t mv v vc,y.tasks.set t (some k)⟩ ∧ DI c pr F ((n + 1 : Nat) : Int) y') ∨
  (∃ (t i : Nat) (cl : Cll) (se : Sea) (k : HTask) (Z Y : Int → Nat) (r1 : RT) (pr1 : Int → Prop) (F1 : List Int) (r2 : RT) (pr2 : Int → Prop) (F2 : List Int),mv.thread = (t : Int) ∧ mv.op = 0 ∧ StepO c n pr F y t i cl se k Z Y r1 pr1 F1 r2 pr2 F2 ∧ y' = stepY y t i r2 ∧ DI c pr2 F2 ((n + 1 : Nat) : Int) y') := by
 have e1 : ((n + 1 : Nat) : Int) = (n : Int) + 1 := by omega
 rw [e1]
 have tick : DI c pr F ((n : Int) + 1) y.tick := ⟨D.gd.mono (by omega),D.td,D.fresh⟩
 cases hM with
 | out => exact .inl ⟨rfl,tick⟩
 | idle => exact .inl ⟨rfl,tick⟩
 | busy => exact .inl ⟨rfl,tick⟩
 | nokit => exact .inl ⟨rfl,tick⟩
 | refused => exact .inl ⟨rfl,tick⟩
 | begin_ t k v vc ht hop hk hKn hmk =>
  have hlt := (List.getElem?_eq_some_iff.1 hk).1
  have htT : (t : Int) < c.T := by have := P.core.ok.T1;have := P.tasks;omega
  obtain ⟨m1,m2,m3⟩ := made_td (pr := pr) P.core htT hmk
  refine .inr (.inl ⟨t,k,v,vc,ht,htT,hop,hk,hKn,hmk,rfl,⟨?_,?_,?_⟩⟩)
  ·refine Gd.mono (n := n) ?_ (by omega)
   refine Gd.unfocus (o := some k) hlt ?_ (fun s hs => by rw [show tS (some k) = hS k from rfl,m1] at hs;simp at hs)
   have := D.gd.focus hk
   rw [show tS (some k) = hS k from rfl,show tL (some k) = hL k from rfl,m1,m2]
   exact this
  ·intro j kj hkj
   simp only [] at hkj
   by_cases hj : j = t
   ·subst hj
    rw [List.getElem?_set_self hlt] at hkj
    cases hkj;exact m3
   ·rw [set_ne hj] at hkj
    exact D.td j kj hkj
  ·intro j kj se hkj hse hf
   simp only [machBegin] at hkj hse
   by_cases hj : j = t
   ·subst hj
    rw [List.getElem?_set_self hlt] at hkj
    cases hkj;exact ⟨m1,m2⟩
   ·rw [set_ne hj] at hkj hse
    exact D.fresh j kj se hkj hse hf
 | step t i cl se k ht hop hk hse hl hc =>
  refine .inr (.inr ?_)
  obtain ⟨p1,p2,p3,p4,p5,p6,p7⟩ := P
  have hok := p3.ok
  have hlt := (List.getElem?_eq_some_iff.1 hse).1
  have hltk := (List.getElem?_eq_some_iff.1 hk).1
  have hilt := (List.getElem?_eq_some_iff.1 hc).1
  have htT : (t : Int) < c.T := by omega
  obtain ⟨_,I⟩ := p7 t k se hk hse
  obtain ⟨i',cl',b1,b2,b3,b4,b5,b6⟩ := R.busy t k se hk hse
  have hii : i' = i := by omega
  subst hii
  rw [hc] at b2
  cases b2
  have hbn := (R.cl _ (List.mem_of_getElem? hc)).bn
  have C1 : Core c n (100 * n) n y.s.1 y.s.2 y.tick.m := p3.of rfl rfl rfl rfl
  have C0 : Core c n (100 * n) n y.s.1 y.s.2 (y.tick.m.prep t i' y.m.moves se) := p3.of rfl rfl rfl rfl
  have hci : CurIn (y.tick.m.prep t i' y.m.moves se) i' t cl { se with ready := true } := ⟨rfl,hc,by simp [Mch.prep,Wst.tick,hlt]⟩
  obtain ⟨⟨⟨r1,r2,r3⟩,r4⟩,r5⟩ := rdy_more (bh := bh) (ba := ba) (CX := CX) (now := y.m.moves) C1 (by omega) htT hc hlt I
  obtain ⟨⟨e1,e2,e3⟩,e4⟩ := more_core (bh := bh) (ba := ba) (CX := CX) (now := y.m.moves) C1 (by omega) htT hc hlt I
  have hx0 : sx pr c y.s.1 y.s.2 (y.tick.m.prep t i' y.m.moves se) = sx pr c y.s.1 y.s.2 y.m := sx_words rfl
  have T0 : Told i' t cl (y.tick.m.prep t i' y.m.moves se) := ⟨⟨cl.point,hc,.inl rfl⟩,⟨_,hci.seat,b5.1,b5.2.1,b5.2.2⟩⟩
  have G0 := D.gd.focus hk
  have D0 := D.td t k hk
  rw [← hx0] at G0 D0
  generalize hZ : cnt2 ((y.tasks.set t none).map tS) = Z at G0
  generalize hY : cnt2 ((y.tasks.set t none).map tL) = Y at G0
  have hsd : y.s = (y.s.1,y.s.2) := rfl
  have hrd : (stepReady (hzT bh ba CX) (y.s.1,y.s.2) y.tick.m i' t cl se k y.m.moves).1 = false ∧ se.ready = true ∧ stepReady (hzT bh ba CX) (y.s.1,y.s.2) y.tick.m i' t cl se k y.m.moves = (false,y.s,stepM y t i' se,k) ∨ se.ready = false ∧ stepReady (hzT bh ba CX) (y.s.1,y.s.2) y.tick.m i' t cl se k y.m.moves = htReady y.s (stepM y t i' se) i' t cl { se with ready := true } k := by
   unfold stepReady
   split
   ·rename_i hf;exact .inr ⟨hf,rfl⟩
   ·rename_i hf;exact .inl ⟨rfl,by simpa using hf,rfl⟩
  have E1 : ∃ pr' F',Gd c n Z Y F' (rsx pr' c (stepReady (hzT bh ba CX) (y.s.1,y.s.2) y.tick.m i' t cl se k y.m.moves)) (rS (stepReady (hzT bh ba CX) (y.s.1,y.s.2) y.tick.m i' t cl se k y.m.moves)) (rL (stepReady (hzT bh ba CX) (y.s.1,y.s.2) y.tick.m i' t cl se k y.m.moves)) ∧
    Rl Z t (OwW c t (sx pr c y.s.1 y.s.2 (y.tick.m.prep t i' y.m.moves se)) (stepM y t i' se).mem.log (stepReady (hzT bh ba CX) (y.s.1,y.s.2) y.tick.m i' t cl se k y.m.moves).2.2.1.mem.log) (sx pr c y.s.1 y.s.2 (y.tick.m.prep t i' y.m.moves se)) (rsx pr' c (stepReady (hzT bh ba CX) (y.s.1,y.s.2) y.tick.m i' t cl se k y.m.moves)) ∧
    ((stepReady (hzT bh ba CX) (y.s.1,y.s.2) y.tick.m i' t cl se k y.m.moves).1 = false → TD c t (rsx pr' c (stepReady (hzT bh ba CX) (y.s.1,y.s.2) y.tick.m i' t cl se k y.m.moves)) (stepReady (hzT bh ba CX) (y.s.1,y.s.2) y.tick.m i' t cl se k y.m.moves).2.2.2) ∧ (se.ready = true → pr' = pr ∧ F' = F) := by
   unfold stepReady
   split
   ·rename_i hf
    rw [hf] at I
    obtain ⟨pr',F',q1,q2,q3⟩ := (ready_gd (n := n) (i := i') (cl := cl) (se := { se with ready := true }) C0 htT rfl I (D.fresh t k se hk hse hf) G0 D0).ex
    exact ⟨pr',F',q1.mono (by omega),q2,q3,fun h => by rw [hf] at h;cases h⟩
   ·exact ⟨pr,F,G0.mono (by omega),Rl.refl ..,fun _ => D0,fun _ => ⟨rfl,rfl⟩⟩
  have V1 : Evo i' t (y.s.1,y.s.2,y.tick.m.prep t i' y.m.moves se) (rst (stepReady (hzT bh ba CX) (y.s.1,y.s.2) y.tick.m i' t cl se k y.m.moves)) ∧ RdP cl.begin_ n (stepReady (hzT bh ba CX) (y.s.1,y.s.2) y.tick.m i' t cl se k y.m.moves).2.2.2 := by
   unfold stepReady
   split
   ·rename_i hf
    rw [hf] at I
    exact ⟨evo_rdy C0 htT I hci.call hci.seat (by show cl.begin_ < y.m.moves;omega),rdp_rdy (cl := cl) b6⟩
   ·exact ⟨.refl _,b6⟩
  have hkd1 : kd (stepReady (hzT bh ba CX) (y.s.1,y.s.2) y.tick.m i' t cl se k y.m.moves).2.2.2 = kd k := by
   unfold stepReady
   split
   ·exact kd_rdy ..
   ·rfl
  have hth : (stepReady (hzT bh ba CX) (y.s.1,y.s.2) y.tick.m i' t cl se k y.m.moves).2.2.1.thread = (t : Int) := r4.thread
  have hnow : (stepReady (hzT bh ba CX) (y.s.1,y.s.2) y.tick.m i' t cl se k y.m.moves).2.2.1.now = n := by rw [r4.now];exact p2
  have hhe : (stepReady (hzT bh ba CX) (y.s.1,y.s.2) y.tick.m i' t cl se k y.m.moves).2.1.1.held = y.s.1.held := by
   unfold stepReady
   split
   ·cases k <;> rfl
   ·rfl
  obtain ⟨z,kk,vv,hcc⟩ := r4.curIn hci
  unfold machStep
  rw [hsd]
  simp only []
  
  have told : ∀ r : RT,FrameM i' t cl { se with ready := true } (y.tick.m.prep t i' y.m.moves se) r.2.2.1 → Evo i' t (y.s.1,y.s.2,y.tick.m.prep t i' y.m.moves se) (rst r) →
    (∃ z,r.2.2.1.calls = y.m.calls.set i' { cl with point := z } ∧ (z = cl.point ∨ cl.begin_ < z ∧ z ≤ n)) ∧ (∃ q v,r.2.2.1.seats = y.m.seats.set t { se with ready := true,kind := q,value := v } ∧ (1 ≤ q ∧ q ≤ 6 ∧ (q ≠ 2 → v = 0))) := by
   intro r f4 EV
   obtain ⟨⟨⟨z,T1,T2⟩,⟨se1,T3,T4,T5,T6⟩⟩,Tn⟩ := T0.evo EV
   simp only [rst] at T1 T2 T3 Tn
   obtain ⟨z1,hz1⟩ := f4.calls
   obtain ⟨k1,v1,hk1⟩ := f4.seats
   refine ⟨⟨z,?_,?_⟩,⟨k1,v1,?_,?_⟩⟩
   ·have e : r.2.2.1.calls = y.m.calls.set i' { cl with point := z1 } := hz1
    rw [e] at T1 ⊢
    rw [List.getElem?_set_self hilt] at T1
    injection T1 with T1
    injection T1 with _ _ _ _ _ _ T1
    rw [T1]
   ·rcases T2 with e|⟨e1,e2⟩
    ·exact .inl e
    ·exact .inr ⟨e1,by rw [Tn] at e2;rw [← p2];exact e2⟩
   ·rw [hk1]
    simp only [Mch.prep,Wst.tick,List.set_set]
   ·rw [hk1] at T3
    simp only [Mch.prep,Wst.tick] at T3
    rw [List.getElem?_set_self (by simp;exact hlt)] at T3
    cases T3
    exact ⟨T4,T5,T6⟩
  obtain ⟨pr1,F1,q1,q2,q3,q4⟩ := E1
  obtain ⟨V1,V1'⟩ := V1
  have tl1 := told _ r4 V1
  have HH1 : Half c n n (100 * n + 1) n n y t i' cl se k Z Y pr1 F1 (stepReady (hzT bh ba CX) (y.s.1,y.s.2) y.tick.m i' t cl se k y.m.moves) :=
   ⟨r1,r3,q1,q3,hth,hnow,tl1.1,tl1.2,hkd1,V1'⟩
  
  have E2 : ∃ pr' F',Gd c (n + 1) Z Y F' (rsx pr' c (stepMore (hzT bh ba CX) i' t (stepReady (hzT bh ba CX) (y.s.1,y.s.2) y.tick.m i' t cl se k y.m.moves))) (rS (stepMore (hzT bh ba CX) i' t (stepReady (hzT bh ba CX) (y.s.1,y.s.2) y.tick.m i' t cl se k y.m.moves))) (rL (stepMore (hzT bh ba CX) i' t (stepReady (hzT bh ba CX) (y.s.1,y.s.2) y.tick.m i' t cl se k y.m.moves))) ∧
    Rl Z t (OwW c t (rsx pr1 c (stepReady (hzT bh ba CX) (y.s.1,y.s.2) y.tick.m i' t cl se k y.m.moves)) (stepReady (hzT bh ba CX) (y.s.1,y.s.2) y.tick.m i' t cl se k y.m.moves).2.2.1.mem.log (stepMore (hzT bh ba CX) i' t (stepReady (hzT bh ba CX) (y.s.1,y.s.2) y.tick.m i' t cl se k y.m.moves)).2.2.1.mem.log) (rsx pr1 c (stepReady (hzT bh ba CX) (y.s.1,y.s.2) y.tick.m i' t cl se k y.m.moves)) (rsx pr' c (stepMore (hzT bh ba CX) i' t (stepReady (hzT bh ba CX) (y.s.1,y.s.2) y.tick.m i' t cl se k y.m.moves))) ∧
    ((stepMore (hzT bh ba CX) i' t (stepReady (hzT bh ba CX) (y.s.1,y.s.2) y.tick.m i' t cl se k y.m.moves)).1 = false → TD c t (rsx pr' c (stepMore (hzT bh ba CX) i' t (stepReady (hzT bh ba CX) (y.s.1,y.s.2) y.tick.m i' t cl se k y.m.moves))) (stepMore (hzT bh ba CX) i' t (stepReady (hzT bh ba CX) (y.s.1,y.s.2) y.tick.m i' t cl se k y.m.moves)).2.2.2) ∧
    Evo i' t (rst (stepReady (hzT bh ba CX) (y.s.1,y.s.2) y.tick.m i' t cl se k y.m.moves)) (rst (stepMore (hzT bh ba CX) i' t (stepReady (hzT bh ba CX) (y.s.1,y.s.2) y.tick.m i' t cl se k y.m.moves))) ∧ RdP cl.begin_ n (stepMore (hzT bh ba CX) i' t (stepReady (hzT bh ba CX) (y.s.1,y.s.2) y.tick.m i' t cl se k y.m.moves)).2.2.2 ∧
    kd (stepMore (hzT bh ba CX) i' t (stepReady (hzT bh ba CX) (y.s.1,y.s.2) y.tick.m i' t cl se k y.m.moves)).2.2.2 = kd k ∧
    ((stepReady (hzT bh ba CX) (y.s.1,y.s.2) y.tick.m i' t cl se k y.m.moves).1 = true ∧ stepMore (hzT bh ba CX) i' t (stepReady (hzT bh ba CX) (y.s.1,y.s.2) y.tick.m i' t cl se k y.m.moves) = stepReady (hzT bh ba CX) (y.s.1,y.s.2) y.tick.m i' t cl se k y.m.moves ∧ pr' = pr1 ∧ F' = F1 ∨ (stepReady (hzT bh ba CX) (y.s.1,y.s.2) y.tick.m i' t cl se k y.m.moves).1 = false ∧ stepMore (hzT bh ba CX) i' t (stepReady (hzT bh ba CX) (y.s.1,y.s.2) y.tick.m i' t cl se k y.m.moves) = htStep (stepReady (hzT bh ba CX) (y.s.1,y.s.2) y.tick.m i' t cl se k y.m.moves).2.1 (stepReady (hzT bh ba CX) (y.s.1,y.s.2) y.tick.m i' t cl se k y.m.moves).2.2.1 i' t (getC (stepReady (hzT bh ba CX) (y.s.1,y.s.2) y.tick.m i' t cl se k y.m.moves).2.2.1 i') (getS (stepReady (hzT bh ba CX) (y.s.1,y.s.2) y.tick.m i' t cl se k y.m.moves).2.2.1 t) (stepReady (hzT bh ba CX) (y.s.1,y.s.2) y.tick.m i' t cl se k y.m.moves).2.2.2) := by
   generalize stepReady (hzT bh ba CX) (y.s.1,y.s.2) y.tick.m i' t cl se k y.m.moves = r at r1 r2 r3 r4 r5 hcc hth hhe hnow hkd1 q1 q2 q3 V1 V1' ⊢
   unfold stepMore
   split
   ·rename_i hf
    have q1' := q1
    unfold rS rL at q1'
    rw [if_neg (by simp [hf]),if_neg (by simp [hf])] at q1'
    have hb : (getC r.2.2.1 i').begin_ = cl.begin_ := by rw [hcc.getC]
    have X := step_gd (i := i') (cl := getC r.2.2.1 i') (se := getS r.2.2.1 t) r1 (by omega) htT hth (r3 hf) (by omega) (q1'.mono (n' := n) (by omega)) (q3 hf)
    obtain ⟨pr2,F2,x1,x2,x3⟩ := X
    have XE := evo_stp (i := i') (t := t) (cl := getC r.2.2.1 i') (se := getS r.2.2.1 t) r1 htT (r3 hf) (by rw [hcc.getC];exact hcc.call) (by rw [hcc.getS];exact hcc.seat) (by rw [hb,hnow];exact hbn) (by rw [hb,hnow];exact V1') r5
    have Y := rdp_stp (h := r.2.1.1) (a := r.2.1.2) (m := r.2.2.1) (i := i') (t := t) (cl := cl) (cl' := getC r.2.2.1 i') (se := getS r.2.2.1 t) (k := r.2.2.2) (by rw [hnow];exact hbn) (by rw [hnow];exact V1')
    rw [hnow] at Y
    refine ⟨pr2,F2,x1,x2,x3,XE,Y,?_,.inr ⟨hf,rfl⟩⟩
    exact (kd_stp ..).trans hkd1
   ·rename_i hf
    exact ⟨pr1,F1,q1.mono (by omega),Rl.refl ..,q3,.refl _,V1',hkd1,.inl ⟨by simpa using hf,rfl,rfl,rfl⟩⟩
  obtain ⟨pr2,F2,s1,s2,s3,s4,s5,s6,s7⟩ := E2
  have tl2 := told _ e4 (V1.trans s4)
  have HH2 : Half c n (n + 1) (100 * n + 67) (n + 1) (n + 1) y t i' cl se k Z Y pr2 F2 (stepMore (hzT bh ba CX) i' t (stepReady (hzT bh ba CX) (y.s.1,y.s.2) y.tick.m i' t cl se k y.m.moves)) :=
   ⟨e1,e3,s1,s3,e4.thread,by rw [e4.now];exact p2,tl2.1,tl2.2,s6,s5⟩
  have SO : StepO c n pr F y t i' cl se k Z Y (stepReady (hzT bh ba CX) (y.s.1,y.s.2) y.tick.m i' t cl se k y.m.moves) pr1 F1 (stepMore (hzT bh ba CX) i' t (stepReady (hzT bh ba CX) (y.s.1,y.s.2) y.tick.m i' t cl se k y.m.moves)) pr2 F2 :=
   ⟨htT,hk,hse,hl,hc,b4,b3,hbn,hZ.symm,hY.symm,C0,I,G0,D0,fun hf => D.fresh t k se hk hse hf,HH1,r5,by
    rcases hrd with ⟨_,w1,w2⟩|⟨w1,w2⟩
    ·exact .inr ⟨w1,w2,q4 w1⟩
    ·exact .inl ⟨w1,w2⟩,q2,hhe,V1,HH2,s7,s2,s4⟩
  refine ⟨t,i',cl,se,k,Z,Y,_,pr1,F1,_,pr2,F2,ht,hop,SO,rfl,?_⟩
  have hT2 := (q2.weaken fun _ hj => hj.1).trans (s2.weaken fun j hj => (hj.1.he (by show y.s.1.held[t]? = _;simp only [rsx,sx];rw [hhe]) : Own c t (sx pr c y.s.1 y.s.2 (y.tick.m.prep t i' y.m.moves se)) j))
  clear SO HH1 HH2 hrd V1 s4
  obtain ⟨k1,v1,hk1⟩ := e4.seats
  generalize stepMore (hzT bh ba CX) i' t (stepReady (hzT bh ba CX) (y.s.1,y.s.2) y.tick.m i' t cl se k y.m.moves) = r at e1 e2 e3 e4 s1 s2 s3 hk1 hT2 ⊢
  have hsS : ∀ j,j ≠ t → r.2.2.1.seats[j]? = y.m.seats[j]? := by
   intro j hj
   rw [hk1,set_ne hj]
   simp only [Mch.prep,Wst.tick]
   rw [set_ne hj]
  have hwd : ∀ cl2 se2 now b2,(stepEnd r.2.2.1 t i' now cl2 se2 b2).mem.words = r.2.2.1.mem.words := by
   intro cl2 se2 now b2;unfold stepEnd;split <;> rfl
  have hx1 : ∀ cl2 se2 now b2,sx pr2 c r.2.1.1 r.2.1.2 (stepEnd r.2.2.1 t i' now cl2 se2 b2) = sx pr2 c r.2.1.1 r.2.1.2 r.2.2.1 := fun cl2 se2 now b2 => sx_words (hwd cl2 se2 now b2)
  refine ⟨?_,?_,?_⟩
  ·simp only [hx1]
   refine Gd.unfocus hltk ?_ ?_
   ·rw [hZ,hY]
    have q1 := s1
    unfold rS rL at q1
    by_cases hb : r.1 = true
    ·rw [if_pos hb,if_pos hb] at q1
     rw [if_pos hb];exact q1
    ·rw [if_neg hb,if_neg hb] at q1
     rw [if_neg hb];exact q1
   ·intro s hs
    by_cases hb : r.1 = true
    ·rw [if_pos hb] at hs;simp [tS] at hs
    ·rw [if_neg hb] at hs
     exact (s3 (by simpa using hb)).st s hs
  ·intro j kj hkj
   simp only [] at hkj
   simp only [hx1]
   by_cases hj : j = t
   ·subst hj
    rw [List.getElem?_set_self hltk] at hkj
    by_cases hb : r.1 = true
    ·rw [if_pos hb] at hkj;cases hkj
    ·rw [if_neg hb] at hkj
     cases hkj
     exact s3 (by simpa using hb)
   ·rw [set_ne hj] at hkj
    have hjT : j < y.m.seats.length := by have := (List.getElem?_eq_some_iff.1 hkj).1;omega
    obtain ⟨_,I2⟩ := p7 j kj _ hkj (List.getElem?_eq_getElem hjT)
    have T2 := (TkS.of I2 (fun hf => D.fresh j kj _ hkj (List.getElem?_eq_getElem hjT) hf)).2
    have Dj := D.td j kj hkj
    rw [← hx0] at Dj
    refine Dj.rely hT2 hj T2 (fun s hs => ?_) (fun w h1 h2 => hj (own_two G0 hok h1 h2))
    rw [← hZ]
    refine cnt2_at (i := j) (l := hS kj) ?_ hs
    rw [List.getElem?_map,set_ne hj,hkj];rfl
  ·intro j kj sj hkj hsj hf
   simp only [] at hkj hsj
   by_cases hj : j = t
   ·subst hj
    rw [List.getElem?_set_self hltk] at hkj
    by_cases hb : r.1 = true
    ·rw [if_pos hb] at hkj;cases hkj
    ·exfalso
     have hsj2 : r.2.2.1.seats[j]? = some sj := by
      unfold stepEnd at hsj
      rw [if_neg hb] at hsj
      exact hsj
     rw [hk1,List.getElem?_set_self (by simp [Mch.prep,Wst.tick];exact hlt)] at hsj2
     cases hsj2
     cases hf
   ·rw [set_ne hj] at hkj
    have hsj2 : y.m.seats[j]? = some sj := by
     rw [← hsS j hj]
     unfold stepEnd at hsj
     split at hsj
     ·simp only [] at hsj;rw [set_ne hj] at hsj;exact hsj
     ·exact hsj
    exact D.fresh j kj sj hkj hsj2 hf
structure JOk (c : Cfg) (J : Nat → (Int → Prop) → HW → Prop) : Prop where
 start : ∀ km vs,J 0 (fun _ => False) (wst0 c km vs)
 tick : ∀ n pr y,n < 65536 → PI c n y → RunOk c n y → (∃ F,DI c pr F n y) → J n pr y → J (n + 1) pr y.tick
 beg : ∀ n pr y mv t k v vc,n < 65536 → PI c n y → RunOk c n y → (∃ F,DI c pr F n y) → J n pr y → mv.thread = ((t : Nat) : Int) → (t : Int) < c.T → mv.op ≠ 0 → y.tasks[t]? = some none → 20 ≤ mv.op ∧ mv.op ≤ 25 → kitTask y.s t mv = some k → J (n + 1) pr ⟨y.s,machBegin y.m t mv v vc,y.tasks.set t (some k)⟩
 step : ∀ n pr F y t i cl se k Z Y r1 pr1 F1 r2 pr2 F2,n < 65536 → PI c n y → RunOk c n y → StepO c n pr F y t i cl se k Z Y r1 pr1 F1 r2 pr2 F2 → RunOk c ((n + 1 : Nat) : Int) (stepY y t i r2) → J n pr y → J (n + 1) pr2 (stepY y t i r2)
structure KI (c : Cfg) (J : Nat → (Int → Prop) → HW → Prop) (n : Nat) (y : HW) : Prop where
 pi : PI c n y
 ok : RunOk c n y
 ex : ∃ pr F,DI c pr F n y ∧ J n pr y
theorem kitFn_op {x : Caps} {o : Int} (h : kitFn x o ≠ none) : 20 ≤ o ∧ o ≤ 25 := by
 unfold kitFn at h
 repeat' (split at h)
 all_goals first|omega|exact absurd rfl h
theorem KI.start {J : Nat → (Int → Prop) → HW → Prop} (hok : c.Ok) (hJ : JOk c J) (km : Nat) (vs : Value) : KI c J 0 (wst0 c km vs) :=
 ⟨PI.start hok km vs,RunOk.start hok km vs,_,_,DI.start hok km vs,hJ.start km vs⟩
theorem KI.move {J : Nat → (Int → Prop) → HW → Prop} (hJ : JOk c J) {bh ba : Nat} {CX : SProp} {x : Caps} {mv : Mv} {b : Bool} (k : KI c J n y) (hn : n < 65536) (hM : MoveTo (hzT bh ba CX) (kitFn x) kitTask y mv b y') : KI c J (n + 1) y' := by
 obtain ⟨P,R,pr,F,D,j⟩ := k
 have R' := R.move P hn hM
 refine ⟨P.move hn hM,R',?_⟩
 rcases move_open P R D hn hM with ⟨rfl,D'⟩|⟨t,k,v,vc,h1,h2,h3,h4,h5,h6,rfl,D'⟩|⟨t,i,cl,se,k,Z,Y,r1,pr1,F1,r2,pr2,F2,h1,h2,h3,rfl,D'⟩
 ·exact ⟨pr,F,D',hJ.tick n pr y hn P R ⟨F,D⟩ j⟩
 ·exact ⟨pr,F,D',hJ.beg n pr y mv t k v vc hn P R ⟨F,D⟩ j h1 h2 h3 h4 (kitFn_op h5) h6⟩
 ·exact ⟨pr2,F2,D',hJ.step n pr F y t i cl se k Z Y r1 pr1 F1 r2 pr2 F2 hn P R h3 R' j⟩
end
end Go.Proofs.YtegafhhdegnigaaGreat
