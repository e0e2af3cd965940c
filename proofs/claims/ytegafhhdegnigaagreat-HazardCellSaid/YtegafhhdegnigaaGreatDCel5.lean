/-
  HazardCell: calls by their points are a cell: what is kept along runs.
-/
import Derived.Test.YtegafhhdegnigaaGreatDCel2
set_option linter.all false
section
namespace Go.Proofs.YtegafhhdegnigaaGreat
open Go.RowKit Hp
set_option maxRecDepth 100000
set_option maxHeartbeats 1000000
attribute [local irreducible] Go.Calls
def IsO (x : Cll) : Prop := x.op = 22 ∨ x.op = 23
def IsP (x : Cll) : Prop := x.op = 22 ∧ x.kind ≠ 4 ∧ 0 ≤ x.point
def CellAt (cs : List Cll) (p : Int) : Option Int → Prop
 | none => ∀ x ∈ cs,IsP x → p ≤ x.point
 | some v => ∃ x ∈ cs,IsP x ∧ x.point < p ∧ wrap64 x.arg = v ∧ ∀ z ∈ cs,IsP z → z.point < p → z.point ≤ x.point
def cellV (V : MV) : Option Int := if V.cell = 0 then none else some (wrap64 (V.val (V.cell - 1)))
theorem wrap64_mod (a : Int) : wrap64 (a % 18446744073709551616) = wrap64 a := by unfold wrap64;omega
section
variable {cs : List Cll} {i : Nat} {cl cl' : Cll} {p n : Int} {o : Option Int}
theorem CellAt.set (hc : cs[i]? = some cl) (h : (IsP cl' ∧ IsP cl ∧ cl'.point = cl.point ∧ cl'.arg = cl.arg) ∨ (¬ IsP cl ∧ (¬ IsP cl' ∨ p ≤ cl'.point))) (H : CellAt cs p o) : CellAt (cs.set i cl') p o := by
 have hlt := (List.getElem?_eq_some_iff.1 hc).1
 have hle : ∀ q : Int,(∀ z ∈ cs,IsP z → z.point < p → z.point ≤ q) → ∀ z ∈ cs.set i cl',IsP z → z.point < p → z.point ≤ q := by
  intro q hq z hz hp hl
  rcases mem_set_or hz with rfl|⟨j,_,hj⟩
  ·rcases h with ⟨_,h2,h3,_⟩|⟨_,h2|h2⟩
   ·have := hq cl (List.mem_of_getElem? hc) h2 (by omega);omega
   ·exact absurd hp h2
   ·omega
  ·exact hq z (List.mem_of_getElem? hj) hp hl
 cases o with
 | none =>
  intro z hz hp
  rcases mem_set_or hz with rfl|⟨j,_,hj⟩
  ·rcases h with ⟨_,h2,h3,_⟩|⟨_,h2|h2⟩
   ·have := H cl (List.mem_of_getElem? hc) h2;omega
   ·exact absurd hp h2
   ·exact h2
  ·exact H z (List.mem_of_getElem? hj) hp
 | some v =>
  obtain ⟨x,x1,x2,x3,x4,x5⟩ := H
  obtain ⟨j,hj⟩ := List.getElem?_of_mem x1
  by_cases e : j = i
  ·subst e
   rw [hc] at hj
   cases hj
   rcases h with ⟨h1,h2,h3,h4⟩|⟨h2,_⟩
   ·exact ⟨cl',List.mem_of_getElem? (List.getElem?_set_self hlt),h1,by omega,by rw [h4];exact x4,by rw [h3];exact hle _ x5⟩
   ·exact absurd x2 h2
  ·exact ⟨x,List.mem_of_getElem? (i := j) (by rw [set_ne e];exact hj),x2,x3,x4,hle _ x5⟩
theorem CellAt.next (H : CellAt cs n o) (h : ∀ x ∈ cs,IsP x → x.point < n) : CellAt cs (n + 1) o := by
 cases o with
 | none =>
  intro x hx hp
  have := H x hx hp
  have := h x hx hp
  omega
 | some v =>
  obtain ⟨x,x1,x2,x3,x4,x5⟩ := H
  exact ⟨x,x1,x2,by omega,x4,fun z hz hp _ => x5 z hz hp (h z hz hp)⟩
theorem CellAt.post (hc : cs[i]? = some cl) (h1 : IsP cl') (h2 : cl'.point = n) (h : ∀ x ∈ cs,IsP x → x.point < n) : CellAt (cs.set i cl') (n + 1) (some (wrap64 cl'.arg)) := by
 have hlt := (List.getElem?_eq_some_iff.1 hc).1
 refine ⟨cl',List.mem_of_getElem? (List.getElem?_set_self hlt),h1,by omega,rfl,fun z hz hp _ => ?_⟩
 rcases mem_set_or hz with rfl|⟨j,_,hj⟩
 ·omega
 ·have := h z (List.mem_of_getElem? hj) hp;omega
theorem CellAt.app {x : Cll} (h : ¬ IsP x) (H : CellAt cs p o) : CellAt (cs ++ [x]) p o := by
 have key : ∀ q : Int,(∀ z ∈ cs,IsP z → z.point < p → z.point ≤ q) → ∀ z ∈ cs ++ [x],IsP z → z.point < p → z.point ≤ q := by
  intro q hq z hz hp hl
  rcases List.mem_append.1 hz with hz|hz
  ·exact hq z hz hp hl
  ·simp at hz;subst hz;exact absurd hp h
 cases o with
 | none =>
  intro z hz hp
  rcases List.mem_append.1 hz with hz|hz
  ·exact H z hz hp
  ·simp at hz;subst hz;exact absurd hp h
 | some v =>
  obtain ⟨x0,x1,x2,x3,x4,x5⟩ := H
  exact ⟨x0,List.mem_append_left _ x1,x2,x3,x4,key _ x5⟩
end
structure CelT (c : Cfg) (n : Int) (y : HW) (se : Sea) (cl : Cll) (k : HTask) : Prop where
 pst : ∀ p,k = .pst p → cl.arg = p.value ∧ se.kind = 1 ∧ se.value = 0 ∧ (p.stage = 4 ∧ 0 ≤ cl.point ∨ p.stage ≠ 4 ∧ cl.point = -1)
 rdg : ∀ r,k = .rdg r → cl.point = -1 ∧ (r.stage = 3 → 0 ≤ r.point ∧ r.point < n ∧ CellAt y.m.calls r.point (some (wrap64 ((mv c y.m).val (r.w - 1)))) ∧ ∀ x ∈ y.m.calls,IsO x → x.point ≠ r.point)
structure CelJ (c : Cfg) (n : Int) (y : HW) : Prop where
 op : ∀ x ∈ y.m.calls,20 ≤ x.op ∧ x.op ≤ 25
 fin : ∀ x ∈ y.m.calls,IsO x → 0 ≤ x.end_ → 0 ≤ x.point
 uniq : ∀ (i j : Nat) (x z : Cll),i ≠ j → y.m.calls[i]? = some x → y.m.calls[j]? = some z → IsO x → IsO z → 0 ≤ x.point → x.point ≠ z.point
 rd : ∀ x ∈ y.m.calls,x.op = 23 → 0 ≤ x.point → (x.kind = 3 ∧ x.value = 0 ∧ CellAt y.m.calls x.point none) ∨ (x.kind = 2 ∧ CellAt y.m.calls x.point (some x.value))
 ps : ∀ x ∈ y.m.calls,x.op = 22 → 0 ≤ x.point → (x.kind = 0 ∨ x.kind = 1 ∨ x.kind = 4) ∧ x.value = 0
 now : CellAt y.m.calls n (cellV (mv c y.m))
 tk : ∀ (t i : Nat) (k : HTask) (se : Sea) (cl : Cll),y.tasks[t]? = some (some k) → y.m.seats[t]? = some se → se.last = (i : Int) → y.m.calls[i]? = some cl → CelT c n y se cl k
 top : ∀ (t i : Nat) (k : HTask) (se : Sea) (cl : Cll),y.tasks[t]? = some (some k) → y.m.seats[t]? = some se → se.last = (i : Int) → y.m.calls[i]? = some cl → cl.op = kd k
 pend : ∀ (t t' : Nat) (r r' : Rdg),t ≠ t' → y.tasks[t]? = some (some (.rdg r)) → y.tasks[t']? = some (some (.rdg r')) → r.stage = 3 → r'.stage = 3 → r.point ≠ r'.point
section
variable {c : Cfg} {n : Nat} {y y' : HW}
theorem pt_lt (R : RunOk c n y) {x : Cll} (hx : x ∈ y.m.calls) : x.point < n := by
 have h1 := (R.cl x hx).p
 omega
theorem CelJ.next {t i : Nat} {cl cl' : Cll} (J : CelJ c n y) (R : RunOk c n y) (hc : y.m.calls[i]? = some cl) (hcs : y'.m.calls = y.m.calls.set i cl') (ho : cl'.op = cl.op) (ha : cl'.arg = cl.arg)
  (hot : ∀ (t' i' : Nat) (k' : HTask) (se' : Sea) (cl2 : Cll),t' ≠ t → y'.tasks[t']? = some (some k') → y'.m.seats[t']? = some se' → se'.last = (i' : Int) → y'.m.calls[i']? = some cl2 → y.tasks[t']? = some (some k') ∧ y.m.seats[t']? = some se' ∧ y.m.calls[i']? = some cl2)
  (htk : ∀ (t' : Nat) (k' : HTask),t' ≠ t → y'.tasks[t']? = some (some k') → y.tasks[t']? = some (some k'))
  (hself : ∀ (k' : HTask) (se' : Sea),y'.tasks[t]? = some (some k') → y'.m.seats[t]? = some se' → se'.last = (i : Int) ∧ kd k' = cl.op)
  (hv : ∀ (t' : Nat) (r' : Rdg),t' ≠ t → y.tasks[t']? = some (some (.rdg r')) → r'.stage = 3 → (mv c y'.m).val (r'.w - 1) = (mv c y.m).val (r'.w - 1))
  (p0 : cl'.point ≤ n) (p1 : IsO cl → 0 ≤ cl'.end_ → 0 ≤ cl'.point)
  (p2 : IsO cl → cl'.point = cl.point ∨ ((∀ z ∈ y.m.calls,IsO z → z.point ≠ cl'.point) ∧ ∀ (t' : Nat) (r' : Rdg),t' ≠ t → y.tasks[t']? = some (some (.rdg r')) → r'.stage = 3 → r'.point ≠ cl'.point))
  (p3 : (IsP cl' ∧ IsP cl ∧ cl'.point = cl.point) ∨ (¬ IsP cl ∧ (¬ IsP cl' ∨ cl'.point = n)))
  (p4 : cl.op = 23 → 0 ≤ cl'.point → (cl'.kind = 3 ∧ cl'.value = 0 ∧ CellAt y.m.calls cl'.point none) ∨ (cl'.kind = 2 ∧ CellAt y.m.calls cl'.point (some cl'.value)))
  (p5 : cl.op = 22 → 0 ≤ cl'.point → (cl'.kind = 0 ∨ cl'.kind = 1 ∨ cl'.kind = 4) ∧ cl'.value = 0)
  (p6 : CellAt y'.m.calls ((n + 1 : Nat) : Int) (cellV (mv c y'.m)))
  (p7 : ∀ (k' : HTask) (se' : Sea) (cl2 : Cll) (i' : Nat),y'.tasks[t]? = some (some k') → y'.m.seats[t]? = some se' → se'.last = (i' : Int) → y'.m.calls[i']? = some cl2 → CelT c ((n + 1 : Nat) : Int) y' se' cl2 k')
  (p8 : ∀ (r : Rdg) (t' : Nat) (r' : Rdg),t' ≠ t → y'.tasks[t]? = some (some (.rdg r)) → r.stage = 3 → y.tasks[t']? = some (some (.rdg r')) → r'.stage = 3 → r.point ≠ r'.point) : CelJ c ((n + 1 : Nat) : Int) y' := by
 have hlt := (List.getElem?_eq_some_iff.1 hc).1
 have hO : IsO cl' ↔ IsO cl := by unfold IsO;rw [ho]
 have hset : ∀ {p : Int} {o : Option Int},p ≤ n → CellAt y.m.calls p o → CellAt y'.m.calls p o := by
  intro p o hp H
  rw [hcs]
  refine H.set hc ?_
  rcases p3 with ⟨h1,h2,h3⟩|⟨h1,h2⟩
  ·exact .inl ⟨h1,h2,h3,ha⟩
  ·exact .inr ⟨h1,h2.imp_right fun e => by omega⟩
 have hcl := (R.cl cl (List.mem_of_getElem? hc)).p
 refine ⟨?_,?_,?_,?_,?_,p6,?_,?_,?_⟩
 ·intro x hx
  rw [hcs] at hx
  rcases mem_set_or hx with rfl|⟨j,_,hj⟩
  ·rw [ho];exact J.op _ (List.mem_of_getElem? hc)
  ·exact J.op x (List.mem_of_getElem? hj)
 ·intro x hx hox he
  rw [hcs] at hx
  rcases mem_set_or hx with rfl|⟨j,_,hj⟩
  ·exact p1 (hO.1 hox) he
  ·exact J.fin x (List.mem_of_getElem? hj) hox he
 ·have one : ∀ (j : Nat) (z : Cll),i ≠ j → y.m.calls[j]? = some z → IsO cl' → IsO z → (0 ≤ cl'.point ∨ 0 ≤ z.point) → cl'.point ≠ z.point := by
   intro j z hij hj h1 h2 h3
   rcases p2 (hO.1 h1) with e|⟨e,_⟩
   ·intro e2
    exact J.uniq i j cl z hij hc hj (hO.1 h1) h2 (by omega) (by omega)
   ·exact fun e2 => e z (List.mem_of_getElem? hj) h2 e2.symm
  intro a b x z hab hx hz h1 h2 h3
  rw [hcs] at hx hz
  by_cases e1 : a = i
  ·subst e1
   rw [List.getElem?_set_self hlt] at hx
   cases hx
   rw [set_ne (Ne.symm hab)] at hz
   exact one b z hab hz h1 h2 (.inl h3)
  ·rw [set_ne e1] at hx
   by_cases e2 : b = i
   ·subst e2
    rw [List.getElem?_set_self hlt] at hz
    cases hz
    exact fun e => one a x (Ne.symm hab) hx h2 h1 (.inr h3) e.symm
   ·rw [set_ne e2] at hz
    exact J.uniq a b x z hab hx hz h1 h2 h3
 ·intro x hx h1 h2
  rw [hcs] at hx
  rcases mem_set_or hx with rfl|⟨j,_,hj⟩
  ·have hp : x.point ≤ n := p0
   rcases p4 (by rw [← ho];exact h1) h2 with ⟨q1,q2,q3⟩|⟨q1,q2⟩
   ·exact .inl ⟨q1,q2,hset hp q3⟩
   ·exact .inr ⟨q1,hset hp q2⟩
  ·have hx := List.mem_of_getElem? hj
   have hp := pt_lt R hx
   rcases J.rd x hx h1 h2 with ⟨q1,q2,q3⟩|⟨q1,q2⟩
   ·exact .inl ⟨q1,q2,hset (by omega) q3⟩
   ·exact .inr ⟨q1,hset (by omega) q2⟩
 ·intro x hx h1 h2
  rw [hcs] at hx
  rcases mem_set_or hx with rfl|⟨j,_,hj⟩
  ·exact p5 (by rw [← ho];exact h1) h2
  ·exact J.ps x (List.mem_of_getElem? hj) h1 h2
 ·intro t' i' k' se' cl2 h1 h2 h3 h4
  by_cases e : t' = t
  ·subst e
   exact p7 k' se' cl2 i' h1 h2 h3 h4
  ·obtain ⟨g1,g2,g4⟩ := hot t' i' k' se' cl2 e h1 h2 h3 h4
   obtain ⟨T1,T2⟩ := J.tk t' i' k' se' cl2 g1 g2 h3 g4
   refine ⟨T1,fun r hr => ?_⟩
   subst hr
   obtain ⟨a1,a2⟩ := T2 r rfl
   refine ⟨a1,fun h3 => ?_⟩
   obtain ⟨b0,b1,b2,b3⟩ := a2 h3
   refine ⟨b0,by omega,?_,fun x hx hox => ?_⟩
   ·rw [hv t' r e g1 h3]
    exact hset (by omega) b2
   ·rw [hcs] at hx
    rcases mem_set_or hx with rfl|⟨j,_,hj⟩
    ·rcases p2 (hO.1 hox) with e2|⟨_,e2⟩
     ·rw [e2];exact b3 cl (List.mem_of_getElem? hc) (hO.1 hox)
     ·exact fun e3 => e2 t' r e g1 h3 e3.symm
    ·exact b3 x (List.mem_of_getElem? hj) hox
 ·intro t' i' k' se' cl2 h1 h2 h3 h4
  by_cases e : t' = t
  ·subst e
   obtain ⟨g1,g2⟩ := hself k' se' h1 h2
   have hi : i' = i := by omega
   subst hi
   rw [hcs,List.getElem?_set_self hlt] at h4
   cases h4
   rw [g2];exact ho
  ·obtain ⟨g1,g2,g4⟩ := hot t' i' k' se' cl2 e h1 h2 h3 h4
   exact J.top t' i' k' se' cl2 g1 g2 h3 g4
 ·intro a b r r' hab h1 h2 h3 h4
  by_cases e1 : a = t
  ·subst e1
   exact p8 r b r' (Ne.symm hab) h1 h3 (htk b _ (Ne.symm hab) h2) h4
  ·have g1 := htk a _ e1 h1
   by_cases e2 : b = t
   ·subst e2
    exact fun e => p8 r' a r hab h2 h4 g1 h3 e.symm
   ·exact J.pend a b r r' hab g1 (htk b _ e2 h2) h3 h4
end
end Go.Proofs.YtegafhhdegnigaaGreat
end
/-
  HazardCell: calls by their points are a cell, along runs.
-/
section
namespace Go.Proofs.YtegafhhdegnigaaGreat
open Go.RowKit Hp
set_option maxRecDepth 100000
set_option maxHeartbeats 1000000
attribute [local irreducible] Go.Calls
structure JOk2 (c : Cfg) (J : Nat → (Int → Prop) → HW → Prop) : Prop where
 start : ∀ km vs,J 0 (fun _ => False) (wst0 c km vs)
 tick : ∀ n pr y,n < 65536 → PI c n y → RunOk c n y → (∃ F,DI c pr F n y) → J n pr y → J (n + 1) pr y.tick
 beg : ∀ n pr y mv t k v vc,n < 65536 → PI c n y → RunOk c n y → (∃ F,DI c pr F n y) → J n pr y → mv.thread = ((t : Nat) : Int) → (t : Int) < c.T → mv.op ≠ 0 → y.tasks[t]? = some none → 20 ≤ mv.op ∧ mv.op ≤ 25 → kitTask y.s t mv = some k → J (n + 1) pr ⟨y.s,machBegin y.m t mv v vc,y.tasks.set t (some k)⟩
 step : ∀ n pr F y t i cl se k Z Y r1 pr1 F1 r2 pr2 F2,n < 65536 → PI c n y → RunOk c n y → DI c pr F n y → StepO c n pr F y t i cl se k Z Y r1 pr1 F1 r2 pr2 F2 → RunOk c ((n + 1 : Nat) : Int) (stepY y t i r2) → J n pr y → J (n + 1) pr2 (stepY y t i r2)
section
variable {c : Cfg} {n : Nat} {y y' : HW}
theorem KI.move2 {J : Nat → (Int → Prop) → HW → Prop} (hJ : JOk2 c J) {bh ba : Nat} {CX : SProp} {x : Caps} {mv : Mv} {b : Bool} (k : KI c J n y) (hn : n < 65536) (hM : MoveTo (hzT bh ba CX) (kitFn x) kitTask y mv b y') : KI c J (n + 1) y' := by
 obtain ⟨P,R,pr,F,D,j⟩ := k
 have R' := R.move P hn hM
 refine ⟨P.move hn hM,R',?_⟩
 rcases move_open P R D hn hM with ⟨rfl,D'⟩|⟨t,k,v,vc,h1,h2,h3,h4,h5,h6,rfl,D'⟩|⟨t,i,cl,se,k,Z,Y,r1,pr1,F1,r2,pr2,F2,h1,h2,h3,rfl,D'⟩
 ·exact ⟨pr,F,D',hJ.tick n pr y hn P R ⟨F,D⟩ j⟩
 ·exact ⟨pr,F,D',hJ.beg n pr y mv t k v vc hn P R ⟨F,D⟩ j h1 h2 h3 h4 (kitFn_op h5) h6⟩
 ·exact ⟨pr2,F2,D',hJ.step n pr F y t i cl se k Z Y r1 pr1 F1 r2 pr2 F2 hn P R D h3 R' j⟩
theorem arg_move {J : Nat → (Int → Prop) → HW → Prop} {bh ba : Nat} {CX : SProp} {x : Caps} {mv : Mv} {b : Bool} (k : KI c J n y) (hn : n < 65536) (hM : MoveTo (hzT bh ba CX) (kitFn x) kitTask y mv b y') : ∀ z ∈ y'.m.calls,(∃ u ∈ y.m.calls,u.arg = z.arg) ∨ z.arg = mv.arg := by
 obtain ⟨P,R,pr,F,D,j⟩ := k
 intro z hz
 rcases move_open P R D hn hM with ⟨rfl,D'⟩|⟨t,k,v,vc,h1,h2,h3,h4,h5,h6,rfl,D'⟩|⟨t,i,cl,se,k,Z,Y,r1,pr1,F1,r2,pr2,F2,h1,h2,SO,rfl,D'⟩
 ·exact .inl ⟨z,hz,rfl⟩
 ·simp only [machBegin] at hz
  rcases List.mem_append.1 hz with hz|hz
  ·exact .inl ⟨z,hz,rfl⟩
  ·simp at hz;subst hz;exact .inr rfl
 ·obtain ⟨w,g1,g2,g3,g4⟩ := SO.h2.getC SO.hc
  have hc := List.mem_of_getElem? SO.hc
  left
  simp only [stepY,stepEnd] at hz
  split at hz
  ·simp only [g2,g1,List.set_set] at hz
   rcases mem_set_or hz with rfl|⟨j,_,hj⟩
   ·exact ⟨cl,hc,rfl⟩
   ·exact ⟨z,List.mem_of_getElem? hj,rfl⟩
  ·simp only [g2] at hz
   rcases mem_set_or hz with rfl|⟨j,_,hj⟩
   ·exact ⟨cl,hc,rfl⟩
   ·exact ⟨z,List.mem_of_getElem? hj,rfl⟩
theorem ki_ex2 {J : Nat → (Int → Prop) → HW → Prop} (hok : c.Ok) (hJ : JOk2 c J) (mvs : List Mv) (hl : mvs.length ≤ 65536) : ∃ y,Beh c mvs y ∧ KI c J mvs.length y ∧ ∀ z ∈ y.m.calls,∃ mv ∈ mvs,z.arg = mv.arg := by
 have : ∀ k,k ≤ mvs.length → ∃ y,Beh c (mvs.take k) y ∧ KI c J k y ∧ ∀ z ∈ y.m.calls,∃ mv ∈ mvs,z.arg = mv.arg := by
  intro k
  induction k with
  | zero =>
   intro _
   refine ⟨wst0 c 0 .nilIface,⟨by simpa using PI.start hok 0 .nilIface,by simpa using RunOk.start hok 0 .nilIface,?_⟩,⟨PI.start hok 0 .nilIface,RunOk.start hok 0 .nilIface,_,_,DI.start hok 0 .nilIface,hJ.start 0 .nilIface⟩,fun z hz => ?_⟩
   ·simp only [List.take_zero];show _ = e0 c;simp only [e0,Wst.er,wst0,Mch.er,mch0]
   ·have hz : z ∈ ([] : List Cll) := hz
    simp at hz
  | succ k ih =>
   intro hk
   obtain ⟨y,⟨P,R,e⟩,Kx,hA⟩ := ih (by omega)
   have hlk : (mvs.take k).length = k := by simp;omega
   have hlk1 : (mvs.take (k + 1)).length = k + 1 := by simp;omega
   rw [hlk] at P R
   obtain ⟨mv,hmv⟩ : ∃ mv,mvs[k]? = some mv := ⟨_,List.getElem?_eq_getElem (by omega)⟩
   obtain ⟨b,y',hm⟩ := move_total P 0 0 emp ⟨0,0,0,0,0,0⟩ mv
   refine ⟨y',⟨by rw [hlk1];exact P.move (by omega) hm,by rw [hlk1];exact R.move P (by omega) hm,by rw [runE_take hmv,← e];exact (moveE_of hm).1⟩,Kx.move2 hJ (by omega) hm,fun z hz => ?_⟩
   rcases arg_move Kx (by omega) hm z hz with ⟨u,h1,h2⟩|h
   ·obtain ⟨m,h3,h4⟩ := hA u h1
    exact ⟨m,h3,by rw [← h2];exact h4⟩
   ·exact ⟨mv,List.mem_of_getElem? hmv,h⟩
 obtain ⟨y,h,k⟩ := this mvs.length (Nat.le_refl _)
 rw [List.take_length] at h
 exact ⟨y,h,k⟩
theorem StepO.other {pr : Int → Prop} {F : List Int} {t i : Nat} {cl : Cll} {se : Sea} {k : HTask} {Z Y : Int → Nat} {r1 : RT} {pr1 : Int → Prop} {F1 : List Int} {r2 : RT} {pr2 : Int → Prop} {F2 : List Int}
  (SO : StepO c n pr F y t i cl se k Z Y r1 pr1 F1 r2 pr2 F2) (R : RunOk c n y) {t' i' : Nat} {k' : HTask} {se' : Sea} {cl2 : Cll} (hj : t' ≠ t) (h1 : (stepY y t i r2).tasks[t']? = some (some k')) (h2 : (stepY y t i r2).m.seats[t']? = some se') (h3 : se'.last = (i' : Int)) (h4 : (stepY y t i r2).m.calls[i']? = some cl2) :
  y.tasks[t']? = some (some k') ∧ y.m.seats[t']? = some se' ∧ y.m.calls[i']? = some cl2 := by
 obtain ⟨z,g1,g2,g3,g4⟩ := SO.h2.getC SO.hc
 obtain ⟨q,v,s1,s2,s3,s4⟩ := SO.h2.getS SO.hse
 simp only [stepY] at h1 h2 h4
 rw [set_ne hj] at h1
 have hs2 : y.m.seats[t']? = some se' := by
  unfold stepEnd at h2
  split at h2
  ·simp only [] at h2
   rw [set_ne hj,s2,set_ne hj] at h2;exact h2
  ·simp only [] at h2
   rw [s2,set_ne hj] at h2;exact h2
 obtain ⟨i2,cl3,w1,w2,w3,w4,_⟩ := R.busy t' k' se' h1 hs2
 have : i' = i2 := by omega
 subst this
 have hne : i' ≠ i := by
  rintro rfl
  rw [SO.hc] at w2;cases w2
  have := SO.thr;omega
 refine ⟨h1,hs2,?_⟩
 unfold stepEnd at h4
 split at h4
 ·simp only [] at h4
  rw [set_ne hne,g2,set_ne hne] at h4;exact h4
 ·simp only [] at h4
  rw [g2,set_ne hne] at h4;exact h4
theorem StepO.self {pr : Int → Prop} {F : List Int} {t i : Nat} {cl : Cll} {se : Sea} {k : HTask} {Z Y : Int → Nat} {r1 : RT} {pr1 : Int → Prop} {F1 : List Int} {r2 : RT} {pr2 : Int → Prop} {F2 : List Int}
  (SO : StepO c n pr F y t i cl se k Z Y r1 pr1 F1 r2 pr2 F2) {k' : HTask} {se' : Sea} (h1 : (stepY y t i r2).tasks[t]? = some (some k')) (h2 : (stepY y t i r2).m.seats[t]? = some se') : se'.last = (i : Int) ∧ kd k' = kd k := by
 obtain ⟨q,v,s1,s2,s3,s4⟩ := SO.h2.getS SO.hse
 have htk := (List.getElem?_eq_some_iff.1 SO.hk).1
 simp only [stepY] at h1 h2
 rw [List.getElem?_set_self htk] at h1
 by_cases hb : r2.1 = true
 ·rw [if_pos hb] at h1;cases h1
 ·rw [if_neg hb] at h1
  cases h1
  unfold stepEnd at h2
  rw [if_neg hb] at h2
  simp only [] at h2
  rw [s3] at h2
  cases h2
  exact ⟨SO.hl,SO.h2.kd⟩
theorem StepO.call {pr : Int → Prop} {F : List Int} {t i : Nat} {cl : Cll} {se : Sea} {k : HTask} {Z Y : Int → Nat} {r1 : RT} {pr1 : Int → Prop} {F1 : List Int} {r2 : RT} {pr2 : Int → Prop} {F2 : List Int}
  (SO : StepO c n pr F y t i cl se k Z Y r1 pr1 F1 r2 pr2 F2) : ∃ (z q v : Int),r2.2.2.1.calls = y.m.calls.set i { cl with point := z } ∧ (z = cl.point ∨ cl.begin_ < z ∧ z ≤ n) ∧ r2.2.2.1.seats = y.m.seats.set t { se with ready := true,kind := q,value := v } ∧
   (r2.1 = true → (stepY y t i r2).m.calls = y.m.calls.set i { cl with point := z,end_ := y.m.moves,kind := q,value := v }) ∧ (r2.1 = false → (stepY y t i r2).m.calls = y.m.calls.set i { cl with point := z } ∧ (stepY y t i r2).m.seats = y.m.seats.set t { se with ready := true,kind := q,value := v }) ∧
   mv c (stepY y t i r2).m = mv c r2.2.2.1 := by
 obtain ⟨z,g1,g2,g3,g4⟩ := SO.h2.getC SO.hc
 obtain ⟨q,v,s1,s2,s3,s4⟩ := SO.h2.getS SO.hse
 refine ⟨z,q,v,g2,g4,s2,fun hb => ?_,fun hb => ?_,mv_same ?_⟩
 ·show (stepEnd _ _ _ _ _ _ _).calls = _
  unfold stepEnd
  rw [if_pos hb]
  simp only [g1,s1,g2,List.set_set]
 ·have : (stepY y t i r2).m = { r2.2.2.1 with cur := none } := by
   show stepEnd _ _ _ _ _ _ _ = _
   unfold stepEnd
   rw [if_neg (by rw [hb];simp)]
  rw [this]
  exact ⟨g2,s2⟩
 ·show (stepEnd _ _ _ _ _ _ _).mem.words = _
  unfold stepEnd
  split <;> rfl
end
end Go.Proofs.YtegafhhdegnigaaGreat
end
/-
  HazardCell: calls by their points are a cell, along runs: each move.
-/
section
namespace Go.Proofs.YtegafhhdegnigaaGreat
open Go.RowKit Hp
set_option maxRecDepth 100000
set_option maxHeartbeats 2000000
attribute [local irreducible] Go.Calls
section
variable {c : Cfg} {n : Nat} {y y' : HW}
theorem getC_of {m : Mch} {i : Nat} {cl : Cll} (h : m.calls[i]? = some cl) : getC m i = cl := by simp [getC,List.getD_eq_getElem?_getD,h]
theorem getS_of {m : Mch} {t : Nat} {se : Sea} (h : m.seats[t]? = some se) : getS m t = se := by simp [getS,List.getD_eq_getElem?_getD,h]
theorem set_point {cs : List Cll} {i : Nat} {cl : Cll} {a b : Int} (hlt : i < cs.length) (h : cs.set i { cl with point := a } = cs.set i { cl with point := b }) : a = b := by
 have h2 : (cs.set i { cl with point := a })[i]? = (cs.set i { cl with point := b })[i]? := by rw [h]
 rw [List.getElem?_set_self hlt,List.getElem?_set_self hlt] at h2
 injection h2 with h2
 injection h2
theorem set_kind {ss : List Sea} {t : Nat} {se : Sea} {a b u v : Int} (hlt : t < ss.length) (h : ss.set t { se with ready := true,kind := a,value := u } = ss.set t { se with ready := true,kind := b,value := v }) : a = b ∧ u = v := by
 have h2 : (ss.set t { se with ready := true,kind := a,value := u })[t]? = (ss.set t { se with ready := true,kind := b,value := v })[t]? := by rw [h]
 rw [List.getElem?_set_self hlt,List.getElem?_set_self hlt] at h2
 injection h2 with h2
 injection h2 with _ _ _ h3 h4
 exact ⟨h3,h4⟩
theorem CelJ.pnd (J : CelJ c n y) (P : PI c n y) (R : RunOk c n y) {t : Nat} {r : Rdg} (hk : y.tasks[t]? = some (some (.rdg r))) (h3 : r.stage = 3) : 0 ≤ r.point ∧ r.point < n ∧ CellAt y.m.calls r.point (some (wrap64 ((mv c y.m).val (r.w - 1)))) ∧ ∀ x ∈ y.m.calls,IsO x → x.point ≠ r.point := by
 have hlt := (List.getElem?_eq_some_iff.1 hk).1
 have hs : t < y.m.seats.length := by rw [P.seats,← P.tasks];exact hlt
 obtain ⟨i,cl,h1,h2,_⟩ := R.busy t _ _ hk (List.getElem?_eq_getElem hs)
 exact ((J.tk t i _ _ cl hk (List.getElem?_eq_getElem hs) h1 h2).rdg r rfl).2 h3
theorem cellV_eq {V V' : MV} (h1 : V'.cell = V.cell) (h2 : V.cell ≠ 0 → V'.val (V.cell - 1) = V.val (V.cell - 1)) : cellV V' = cellV V := by
 unfold cellV
 rw [h1]
 split
 ·rfl
 ·rename_i h;rw [h2 h]
theorem celJ_tick (R : RunOk c n y) (J : CelJ c n y) : CelJ c ((n + 1 : Nat) : Int) y.tick := by
 obtain ⟨j1,j2,j3,j4,j5,j6,j7,j9,j8⟩ := J
 have e1 : ((n + 1 : Nat) : Int) = (n : Int) + 1 := by omega
 refine ⟨j1,j2,j3,j4,j5,?_,fun t i k se cl h1 h2 h3 h4 => ?_,j9,j8⟩
 ·rw [e1];exact CellAt.next j6 fun x hx _ => pt_lt R hx
 ·obtain ⟨T1,T2⟩ := j7 t i k se cl h1 h2 h3 h4
  refine ⟨T1,fun r hr => ⟨(T2 r hr).1,fun h3 => ?_⟩⟩
  obtain ⟨a,b,d⟩ := (T2 r hr).2 h3
  exact ⟨a,by omega,d⟩
theorem celJ_beg (P : PI c n y) (R : RunOk c n y) (J : CelJ c n y) {mv0 : Mv} {t : Nat} {k : HTask} {v vc : Value} (ht : mv0.thread = (t : Int)) (hk : y.tasks[t]? = some none) (hK : 20 ≤ mv0.op ∧ mv0.op ≤ 25) (hmk : kitTask y.s t mv0 = some k) :
  CelJ c ((n + 1 : Nat) : Int) ⟨y.s,machBegin y.m t mv0 v vc,y.tasks.set t (some k)⟩ := by
 have e1 : ((n + 1 : Nat) : Int) = (n : Int) + 1 := by omega
 have hlt := (List.getElem?_eq_some_iff.1 hk).1
 have hs : t < y.m.seats.length := by rw [P.seats,← P.tasks];exact hlt
 have hn : ¬ IsP ⟨mv0.thread,mv0.op,mv0.arg,mv0.data,y.m.moves,-1,-1,0,0⟩ := fun h => by have := h.2.2;simp only [] at this;omega
 have h0 : ∀ r,k = .rdg r → r.stage = 0 := by
  intro r hr
  subst hr
  unfold kitTask at hmk
  repeat' (split at hmk)
  all_goals first|(cases hmk;done)|(cases hmk;rfl)
 have hko : mv0.op = kd k := (kit_op (h := y.s.1) (a := y.s.2) hmk hK).1
 have h1 : ∀ p,k = .pst p → mv0.arg = p.value ∧ p.stage = 0 := by
  intro r hr
  subst hr
  unfold kitTask at hmk
  repeat' (split at hmk)
  all_goals first|(cases hmk;done)|(cases hmk;exact ⟨rfl,rfl⟩)
 refine ⟨?_,?_,?_,?_,?_,?_,?_,?_,?_⟩
 ·intro x hx
  rcases List.mem_append.1 hx with hx|hx
  ·exact J.op x hx
  ·simp at hx;subst hx;exact hK
 ·intro x hx h1 h2
  rcases List.mem_append.1 hx with hx|hx
  ·exact J.fin x hx h1 h2
  ·simp at hx;subst hx;simp only [] at h2;omega
 ·intro i j x z hij hx hz h1 h2 h3
  have hx : (y.m.calls ++ [_])[i]? = some x := hx
  have hz : (y.m.calls ++ [_])[j]? = some z := hz
  rw [List.getElem?_append] at hx hz
  split at hx
  ·split at hz
   ·exact J.uniq i j x z hij hx hz h1 h2 h3
   ·have hz := List.mem_of_getElem? hz
    simp at hz;subst hz;simp only [];omega
  ·have hx := List.mem_of_getElem? hx
   simp at hx;subst hx;simp only [] at h3;omega
 ·intro x hx h1 h2
  rcases List.mem_append.1 hx with hx|hx
  ·rcases J.rd x hx h1 h2 with ⟨a,b,d⟩|⟨a,b⟩
   ·exact .inl ⟨a,b,d.app hn⟩
   ·exact .inr ⟨a,b.app hn⟩
  ·simp at hx;subst hx;simp only [] at h2;omega
 ·intro x hx h1 h2
  rcases List.mem_append.1 hx with hx|hx
  ·exact J.ps x hx h1 h2
  ·simp at hx;subst hx;simp only [] at h2;omega
 ·rw [e1]
  exact CellAt.app hn (CellAt.next J.now fun x hx _ => pt_lt R hx)
 ·intro t' i' k' se' cl' g1 g2 g3 g4
  simp only [machBegin] at g1 g2 g4
  by_cases hj : t' = t
  ·subst hj
   rw [List.getElem?_set_self hlt] at g1
   rw [List.getElem?_set_self hs] at g2
   cases g1;cases g2
   simp only [] at g3
   have : i' = y.m.calls.length := by omega
   subst this
   rw [List.getElem?_append_right (Nat.le_refl _),Nat.sub_self] at g4
   cases g4
   exact ⟨fun p hp => ⟨(h1 p hp).1,rfl,rfl,.inr ⟨by rw [(h1 p hp).2];omega,rfl⟩⟩,fun r hr => ⟨rfl,fun h3 => by rw [h0 r hr] at h3;omega⟩⟩
  ·rw [set_ne hj] at g1 g2
   obtain ⟨⟨i2,e1,e2⟩,_⟩ := P.task t' k' se' g1 g2
   have : i' = i2 := by omega
   subst this
   rw [List.getElem?_append_left e2] at g4
   obtain ⟨T1,T2⟩ := J.tk t' i' k' se' cl' g1 g2 g3 g4
   refine ⟨T1,fun r hr => ⟨(T2 r hr).1,fun h3 => ?_⟩⟩
   obtain ⟨a,b,d,e⟩ := (T2 r hr).2 h3
   refine ⟨a,by omega,d.app hn,fun x hx hox => ?_⟩
   rcases List.mem_append.1 hx with hx|hx
   ·exact e x hx hox
   ·simp at hx;subst hx;simp only [];omega
 ·intro t' i' k' se' cl' g1 g2 g3 g4
  simp only [machBegin] at g1 g2 g4
  by_cases hj : t' = t
  ·subst hj
   rw [List.getElem?_set_self hlt] at g1
   rw [List.getElem?_set_self hs] at g2
   cases g1;cases g2
   simp only [] at g3
   have : i' = y.m.calls.length := by omega
   subst this
   rw [List.getElem?_append_right (Nat.le_refl _),Nat.sub_self] at g4
   cases g4
   exact hko
  ·rw [set_ne hj] at g1 g2
   obtain ⟨⟨i2,e1,e2⟩,_⟩ := P.task t' k' se' g1 g2
   have : i' = i2 := by omega
   subst this
   rw [List.getElem?_append_left e2] at g4
   exact J.top t' i' k' se' cl' g1 g2 g3 g4
 ·intro a b r r' hab g1 g2 h3 h4
  simp only [] at g1 g2
  by_cases e1 : a = t
  ·subst e1
   rw [List.getElem?_set_self hlt] at g1
   cases g1
   have := h0 r rfl;omega
  ·rw [set_ne e1] at g1
   by_cases e2 : b = t
   ·subst e2
    rw [List.getElem?_set_self hlt] at g2
    cases g2
    have := h0 r' rfl;omega
   ·rw [set_ne e2] at g2
    exact J.pend a b r r' hab g1 g2 h3 h4
section
variable {pr : Int → Prop} {F : List Int} {t i : Nat} {cl : Cll} {se : Sea} {k : HTask} {Z Y : Int → Nat} {r1 : RT} {pr1 : Int → Prop} {F1 : List Int} {r2 : RT} {pr2 : Int → Prop} {F2 : List Int}
theorem celJ_oth (P : PI c n y) (R : RunOk c n y) (J : CelJ c n y) (SO : StepO c n pr F y t i cl se k Z Y r1 pr1 F1 r2 pr2 F2) (hop : cl.op = kd k) (h22 : kd k ≠ 22) (h23 : kd k ≠ 23) : CelJ c ((n + 1 : Nat) : Int) (stepY y t i r2) := by
 have hok := P.core.ok
 obtain ⟨z,q,v,c1,c2,c3,c4,c5,c6⟩ := SO.call
 have hlt := (List.getElem?_eq_some_iff.1 SO.hc).1
 have htk := (List.getElem?_eq_some_iff.1 SO.hk).1
 have Q0 : Qt c y.m (stepM y t i se) := .of rfl
 have Q1 : Qt c y.m r1.2.2.1 := by
  rcases SO.rdy with ⟨_,w⟩|⟨_,w,_⟩
  ·rw [w];exact Q0.trans (qt_rdy (h := y.s.1) (a := y.s.2))
  ·rw [w];exact Q0
 have Q2 : Qt c y.m r2.2.2.1 := by
  rcases SO.stp with ⟨_,w,_⟩|⟨w1,w⟩
  ·rw [w];exact Q1
  ·rw [w];exact Q1.trans (qt_stp SO.h1.core SO.htT (SO.h1.ti w1) (by rw [SO.h1.kd];exact h22))
 obtain ⟨q1,q2⟩ := Q2.mv hok
 have hO : ¬ IsO cl := fun h => by unfold IsO at h;omega
 have hP : ¬ IsP cl := fun h => hO (.inl h.1)
 have hpl := pt_lt R (List.mem_of_getElem? SO.hc)
 have hz : z ≤ n := by omega
 obtain ⟨cl',d1,d2,d3,d4⟩ : ∃ cl' : Cll,(stepY y t i r2).m.calls = y.m.calls.set i cl' ∧ cl'.op = cl.op ∧ cl'.arg = cl.arg ∧ cl'.point = z := by
  by_cases hb : r2.1 = true
  ·exact ⟨_,c4 hb,rfl,rfl,rfl⟩
  ·exact ⟨_,(c5 (by simpa using hb)).1,rfl,rfl,rfl⟩
 have hP' : ¬ IsP cl' := fun h => hO (.inl (by rw [← d2];exact h.1))
 have e1 : ((n + 1 : Nat) : Int) = (n : Int) + 1 := by omega
 have hself : ∀ k',(stepY y t i r2).tasks[t]? = some (some k') → kd k' = kd k := by
  intro k' h
  simp only [stepY] at h
  rw [List.getElem?_set_self htk] at h
  split at h
  ·cases h
  ·cases h;exact SO.h2.kd
 refine J.next (t := t) R SO.hc d1 d2 d3 (fun t' i' k' se' cl2 hj h1 h2 h3 h4 => SO.other R hj h1 h2 h3 h4) (fun t' k' hj h => by simp only [stepY] at h;rw [set_ne hj] at h;exact h) (fun k' se' h1 h2 => by rw [hop];exact SO.self h1 h2) (fun t' r' _ _ _ => by rw [c6];exact q2 _)
  (by omega) (fun h => absurd h hO) (fun h => absurd h hO) (.inr ⟨hP,.inl hP'⟩) (fun h => absurd (.inr h) hO) (fun h => absurd (.inl h) hO) ?_ ?_ ?_
 ·rw [e1,d1,c6,cellV_eq q1 (fun _ => q2 _)]
  exact (CellAt.next J.now fun x hx _ => pt_lt R hx).set SO.hc (.inr ⟨hP,.inl hP'⟩)
 ·intro k' se' cl2 i' h1 h2 h3 h4
  have := hself k' h1
  exact ⟨fun p hp => by subst hp;exact absurd this.symm h22,fun r hr => by subst hr;exact absurd this.symm h23⟩
 ·intro r t' r' _ h1
  exact absurd (hself _ h1).symm h23
theorem celJ_rdg {r : Rdg} (P : PI c n y) (R : RunOk c n y) (J : CelJ c n y) (SO : StepO c n pr F y t i cl se (.rdg r) Z Y r1 pr1 F1 r2 pr2 F2) (hop : cl.op = 23) : CelJ c ((n + 1 : Nat) : Int) (stepY y t i r2) := by
 have hok := P.core.ok
 obtain ⟨z,q,v,c1,c2,c3,c4,c5,c6⟩ := SO.call
 have hlt := (List.getElem?_eq_some_iff.1 SO.hc).1
 have hst := (List.getElem?_eq_some_iff.1 SO.hse).1
 have htk := (List.getElem?_eq_some_iff.1 SO.hk).1
 have hr1 : r1 = (false,y.s,stepM y t i se,.rdg r) := by
  rcases SO.rdy with ⟨_,w⟩|⟨_,w,_⟩ <;> exact w
 have hr2 : r2 = ((readStep y.s.1 (stepM y t i se) i t cl { se with ready := true } r).1,y.s,(readStep y.s.1 (stepM y t i se) i t cl { se with ready := true } r).2.1,.rdg (readStep y.s.1 (stepM y t i se) i t cl { se with ready := true } r).2.2) := by
  rcases SO.stp with ⟨w,_⟩|⟨_,w⟩
  ·rw [hr1] at w;cases w
  ·rw [w,hr1]
   rw [getC_of (m := stepM y t i se) SO.hc,getS_of (m := stepM y t i se) (se := { se with ready := true }) (by show (y.m.seats.set t _)[t]? = _;rw [List.getElem?_set_self hst])]
   rfl
 have I : RdI c r := SO.i0
 have hQ := qt_read (i := i) (t := t) (cl := cl) (se := { se with ready := true }) (r := r) SO.c0 I
 have hO := rdo_read (i := i) (t := t) (cl := cl) (se := { se with ready := true }) (r := r) SO.c0 I
 generalize readStep y.s.1 (stepM y t i se) i t cl { se with ready := true } r = x at hr2 hQ hO
 obtain ⟨b,m2,r'⟩ := x
 simp only [] at hr2
 subst hr2
 have hmvM : mv c (stepM y t i se) = mv c y.m := mv_same rfl
 obtain ⟨q1,q2⟩ := hQ.mv hok
 rw [hmvM] at q1 q2
 simp only [] at q1 q2 c1 c3 c4 c5 c6
 obtain ⟨_,T⟩ := J.tk t i _ se cl SO.hk SO.hse SO.hl SO.hc
 obtain ⟨T1,T2⟩ := T r rfl
 have hP : ¬ IsP cl := fun h => by have := h.1;omega
 have hOc : IsO cl := .inr hop
 have hnow : (stepM y t i se).now = n := P.moves
 have e1 : ((n + 1 : Nat) : Int) = (n : Int) + 1 := by omega
 have hcm : (stepM y t i se).calls = y.m.calls := rfl
 have hsm : (stepM y t i se).seats = y.m.seats.set t { se with ready := true } := rfl
 
 have core : ∀ cl' : Cll,(stepY y t i (b,y.s,m2,.rdg r')).m.calls = y.m.calls.set i cl' → cl'.op = cl.op → cl'.arg = cl.arg → cl'.point ≤ n → (0 ≤ cl'.end_ → 0 ≤ cl'.point) →
   (cl'.point = cl.point ∨ ((∀ z ∈ y.m.calls,IsO z → z.point ≠ cl'.point) ∧ ∀ (t' : Nat) (r' : Rdg),t' ≠ t → y.tasks[t']? = some (some (.rdg r')) → r'.stage = 3 → r'.point ≠ cl'.point)) →
   (0 ≤ cl'.point → (cl'.kind = 3 ∧ cl'.value = 0 ∧ CellAt y.m.calls cl'.point none) ∨ (cl'.kind = 2 ∧ CellAt y.m.calls cl'.point (some cl'.value))) →
   (b = false → cl'.point = -1 ∧ (r'.stage = 3 → r'.point = n ∧ r'.w = (mv c y.m).cell ∧ 1 ≤ r'.w)) → CelJ c ((n + 1 : Nat) : Int) (stepY y t i (b,y.s,m2,.rdg r')) := by
  intro cl' d1 d2 d3 d4 d5 d6 d7 d8
  have hP' : ¬ IsP cl' := fun h => by have := h.1;omega
  have hself : ∀ k',(stepY y t i (b,y.s,m2,.rdg r')).tasks[t]? = some (some k') → b = false ∧ k' = .rdg r' := by
   intro k' h
   simp only [stepY] at h
   rw [List.getElem?_set_self htk] at h
   split at h
   ·cases h
   ·rename_i hb
    cases h;exact ⟨by simpa using hb,rfl⟩
  refine J.next (t := t) R SO.hc d1 d2 d3 (fun t' i' k' se' cl2 hj h1 h2 h3 h4 => SO.other R hj h1 h2 h3 h4) (fun t' k' hj h => by simp only [stepY] at h;rw [set_ne hj] at h;exact h) (fun k' se' h1 h2 => by rw [hop];exact SO.self h1 h2) (fun t' r' _ _ _ => by rw [c6];exact q2 _)
   d4 (fun _ => d5) (fun _ => d6) (.inr ⟨hP,.inl hP'⟩) (fun _ => d7) (fun h => by omega) ?_ ?_ ?_
  ·rw [e1,d1,c6,cellV_eq q1 (fun _ => q2 _)]
   exact (CellAt.next J.now fun x hx _ => pt_lt R hx).set SO.hc (.inr ⟨hP,.inl hP'⟩)
  ·intro k' se' cl2 i' h1 h2 h3 h4
   obtain ⟨hb,rfl⟩ := hself k' h1
   obtain ⟨f1,f2⟩ := d8 hb
   refine ⟨fun p hp => (by cases hp),fun r2 hr2 => ?_⟩
   cases hr2
   have hi : i' = i := by
    have h2 := h2
    rw [(c5 hb).2,List.getElem?_set_self hst] at h2
    cases h2
    have h3 : se.last = (i' : Int) := h3
    have := SO.hl;omega
   subst hi
   have hcl2 : cl2 = cl' := by
    rw [d1,List.getElem?_set_self hlt] at h4
    cases h4;rfl
   subst hcl2
   refine ⟨f1,fun h3 => ?_⟩
   obtain ⟨g1,g2,g3⟩ := f2 h3
   refine ⟨by omega,by omega,?_,fun x hx hox => ?_⟩
   ·rw [g1,d1,c6,q2]
    refine CellAt.set SO.hc (.inr ⟨hP,.inl hP'⟩) ?_
    have h := J.now
    unfold cellV at h
    rw [if_neg (by omega),← g2] at h
    exact h
   ·rw [d1] at hx
    rcases mem_set_or hx with rfl|⟨j,_,hj⟩
    ·omega
    ·have := pt_lt R (List.mem_of_getElem? hj);omega
  ·intro r2 t' r3 hj h1 h3 h4 h5
   obtain ⟨hb,hk⟩ := hself _ h1
   cases hk
   have := (d8 hb).2 h3
   have := (J.pnd P R h4 h5).2.1
   omega
 have hb1 : b = false → z = cl.point → CelJ c ((n + 1 : Nat) : Int) (stepY y t i (b,y.s,m2,.rdg r')) ∨ True := fun _ _ => .inr trivial
 cases hO with
 | on h1 h2 h3 h4 =>
  simp only [] at h1 h2 h3 h4
  rw [hcm] at h2
  have hz : z = cl.point := by
   rw [c1] at h2
   have h3 : (y.m.calls.set i { cl with point := z })[i]? = y.m.calls[i]? := by rw [h2]
   rw [List.getElem?_set_self hlt,SO.hc] at h3
   injection h3 with h3
   rw [← h3]
  exact core _ (c5 h1).1 rfl rfl (by show z ≤ _;omega) (fun h => by have h : 0 ≤ cl.end_ := h;have := SO.end_;omega) (.inl hz) (fun h => by have h : 0 ≤ z := h;omega) (fun _ => ⟨by show z = _;omega,fun h => absurd h h4⟩)
 | saw h1 h2 h3 h4 h5 h6 h7 =>
  simp only [] at h1 h2 h3 h4 h5 h6 h7
  rw [hcm] at h2
  rw [hmvM] at h6
  have hz : z = cl.point := by
   rw [c1] at h2
   have h3 : (y.m.calls.set i { cl with point := z })[i]? = y.m.calls[i]? := by rw [h2]
   rw [List.getElem?_set_self hlt,SO.hc] at h3
   injection h3 with h3
   rw [← h3]
  exact core _ (c5 h1).1 rfl rfl (by show z ≤ _;omega) (fun h => by have h : 0 ≤ cl.end_ := h;have := SO.end_;omega) (.inl hz) (fun h => by have h : 0 ≤ z := h;omega) (fun _ => ⟨by show z = _;omega,fun h => ⟨by rw [h5];exact hnow,h6,h7⟩⟩)
 | empty h1 h2 h3 h4 =>
  simp only [] at h1 h2 h3 h4
  rw [hcm,c1] at h2
  have hz := set_point hlt h2
  rw [hnow] at hz
  rw [hsm,c3,List.set_set] at h3
  obtain ⟨hq,hv⟩ := set_kind hst h3
  rw [hmvM] at h4
  refine core _ (c4 h1) rfl rfl (by show z ≤ _;omega) (fun _ => by show 0 ≤ z;omega) (.inr ⟨fun x hx _ => by have := pt_lt R hx;show x.point ≠ z;omega,fun t' r2 _ g1 g2 => by have := (J.pnd P R g1 g2).2.1;show _ ≠ z;omega⟩) (fun _ => .inl ⟨hq,hv,?_⟩) (fun hb => by rw [h1] at hb;cases hb)
  show CellAt _ z none
  have h := J.now
  unfold cellV at h
  rw [if_pos h4] at h
  rw [hz];exact h
 | got h0 h1 h2 h3 =>
  simp only [] at h0 h1 h2 h3
  rw [hcm,c1] at h2
  have hz := set_point hlt h2
  rw [hsm,c3,List.set_set] at h3
  obtain ⟨hq,hv⟩ := set_kind hst h3
  rw [hmvM] at hv
  obtain ⟨g0,g1,g2,g3⟩ := T2 h0
  refine core _ (c4 h1) rfl rfl (by show z ≤ _;omega) (fun _ => by show 0 ≤ z;omega) (.inr ⟨fun x hx hox => by show x.point ≠ z;rw [hz];exact g3 x hx hox,fun t' r2 hj f1 f2 => by show _ ≠ z;rw [hz];exact J.pend t' t r2 r hj f1 SO.hk f2 h0⟩) (fun _ => .inr ⟨hq,?_⟩) (fun hb => by rw [h1] at hb;cases hb)
  show CellAt _ z (some v)
  rw [hz,hv];exact g2
end
end
end Go.Proofs.YtegafhhdegnigaaGreat
end
