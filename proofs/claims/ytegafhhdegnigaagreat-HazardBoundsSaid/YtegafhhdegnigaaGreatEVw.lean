/-
  What a run records goes together, behind any moves.
-/
import Derived.Test.YtegafhhdegnigaaGreatEInv5
set_option linter.all false
namespace Go.Proofs.YtegafhhdegnigaaGreat
open Go.RowKit Hp
set_option maxRecDepth 100000
set_option maxHeartbeats 1000000
attribute [local irreducible] Go.Calls
section
def Pw {α:Type}(R:α→α→Prop)(xs:List α):Prop:=∀(i j:Nat) (x z:α),i<j→xs[i]? = some x→xs[j]? = some z→R x z
theorem Pw.nil {α:Type}{R:α→α→Prop}:Pw R []:=fun _ _ _ _ _ h _=>by simp at h
theorem Pw.snoc {α:Type}{R:α→α→Prop}{xs:List α}{v:α}(H:Pw R xs)(h:∀x∈xs,R x v):Pw R (xs++[v]):=by
 intro i j x z hij hx hz
 have hj:=(List.getElem?_eq_some_iff.1 hz).1
 simp only[List.length_append,List.length_cons,List.length_nil]at hj
 rw[List.getElem?_append_left (by omega)]at hx
 by_cases hjl:j<xs.length
 ·rw[List.getElem?_append_left hjl]at hz
  exact H i j x z hij hx hz
 ·have:j=xs.length:=by omega
  subst this
  rw[List.getElem?_append_right (by omega)]at hz
  simp at hz
  subst hz
  exact h x (Yc hx)
theorem Pw.set {α:Type}{R:α→α→Prop}{xs:List α}{v:α}{k:Nat}(H:Pw R xs)(h1:∀j z,j<k→xs[j]? = some z→R z v)(h2:∀j z,k<j→xs[j]? = some z→R v z):Pw R (xs.set k v):=by
 intro i j x z hij hx hz
 by_cases hi:i=k
 ·subst hi
  have hl:=(List.getElem?_eq_some_iff.1 hx).1
  simp only[List.length_set]at hl
  rw[Ye hl]at hx
  cases hx
  rw[Yf (by omega)]at hz
  exact h2 j z hij hz
 ·rw[Yf (Ne.symm hi)]at hx
  by_cases hj:j=k
  ·subst hj
   have hl:=(List.getElem?_eq_some_iff.1 hz).1
   simp only[List.length_set]at hl
   rw[Ye hl]at hz
   cases hz
   exact h1 i x hij hx
  ·rw[Yf (Ne.symm hj)]at hz
   exact H i j x z hij hx hz
theorem pw_get {α:Type}{R:α→α→Prop}{xs:List α}(h:xs.Pairwise R){i j:Nat}{x z:α}(hij:i<j)(hx:xs[i]? = some x)(hz:xs[j]? = some z):R x z:=by
 obtain⟨h1,rfl⟩:=List.getElem?_eq_some_iff.1 hx
 obtain⟨h2,rfl⟩:=List.getElem?_eq_some_iff.1 hz
 exact List.pairwise_iff_getElem.1 h i j h1 h2 hij
structure PlOk (cs:List Cll)(th mv:Int):Prop where
 beg:∀x∈cs,x.begin_≠mv
 who:∃x∈cs,x.thread=th∧x.begin_<mv∧(x.end_<0∨mv≤x.end_)
 ends:∀x∈cs,x.end_=mv→x.thread=th
structure ClOk (c:Cfg)(n:Int)(x:Cll):Prop where
 t0:0≤x.thread
 t1:x.thread<c.T
 b0:0≤x.begin_
 bn:x.begin_<n
 e:x.end_ = -1∧x.kind=0∧x.value=0∨(x.begin_<x.end_∧x.end_<n∧1≤x.kind∧x.kind≤6∧(x.kind≠2→x.value=0))
 p:x.point = -1∨(x.begin_<x.point∧x.point<n∧(x.end_ ≠ -1→x.point≤x.end_))
theorem ClOk.mono {c:Cfg}{n n':Int}{x:Cll}(h:ClOk c n x)(hn:n≤n'):ClOk c n' x:=by
 obtain⟨q1,q2,q3,q4,q5,q6⟩:=h
 exact⟨q1,q2,q3,by omega,by omega,by omega⟩
structure Q4 (c:Cfg)(n:Int)(y:HW):Prop where
 cl:∀x∈y.m.calls,ClOk c n x
 bsort:Pw (fun x z=>x.begin_<z.begin_) y.m.calls
 ord:Pw (fun x z=>x.thread=z.thread→x.end_ ≠ -1∧x.end_<z.begin_) y.m.calls
 ends:Pw (fun x z=>x.end_ ≠ -1→x.end_≠z.end_) y.m.calls
 be:∀x∈y.m.calls,∀z∈y.m.calls,x.end_≠z.begin_
 ac:y.s.2.c=c
 slots:(y.s.2.slots.length:Int)=c.Sl
 lsort:y.m.mem.log.Pairwise (fun x y=>x.move<y.move)
 llt:∀e∈y.m.mem.log,e.move<n
 lrep:rep (Jg c 0) y.m.mem.log=some y.m.mem.words
 ssort:y.m.shifts.Pairwise (fun x y=>x.move≤y.move∧(x.move=y.move→x.thread=y.thread))
 slt:∀e∈y.m.shifts,e.move<n
 cross:∀e∈y.m.shifts,∀x∈y.m.mem.log,x.move=e.move→x.thread=e.thread
 srep:shfs (are0 c).slots y.m.shifts=some y.s.2.slots
 lpl:∀e∈y.m.mem.log,PlOk y.m.calls e.thread e.move
 spl:∀e∈y.m.shifts,PlOk y.m.calls e.thread e.move
 busy:∀(t:Nat) (k:Zz) (se:Sea),y.tasks[t]? = some (some k)→y.m.seats[t]? = some se→∃(i:Nat) (cl:Cll),se.last=(i:Int)∧y.m.calls[i]? = some cl∧cl.thread=(t:Int)∧cl.end_ = -1 ∧
  (1≤se.kind∧se.kind≤6∧(se.kind≠2→se.value=0))∧RdP cl.begin_ n k
 idle:∀x∈y.m.calls,x.end_ = -1→∃k,y.tasks[x.thread.toNat]? = some (some k)
theorem RdP.mono {b n n':Int}{k:Zz}(h:RdP b n k)(hn:n≤n'):RdP b n' k:=by
 cases k with
 | rdg r=>exact fun h3=>⟨(h h3).1,by have:=(h h3).2;omega⟩
 | _=>exact trivial
section
variable {c:Cfg}{n:Nat}{y y':HW}
theorem Q4.tick (R:Q4 c n y):Q4 c ((n+1:Nat):Int) y.tick:=by
 obtain⟨q1,q2,q3,q4,q5,q6,q7,q8,q9,q10,q11,q12,q13,q14,q15,q16,q17,q18⟩:=R
 refine⟨fun x hx=>(q1 x hx).mono (by omega),q2,q3,q4,q5,q6,q7,q8,fun e he=>by have:=q9 e he;omega,q10,q11,fun e he=>by have:=q12 e he;omega,q13,q14,q15,q16,?_,q18⟩
 intro t k se hk hse
 obtain⟨i,cl,a1,a2,a3,a4,a5,a6⟩:=q17 t k se hk hse
 exact⟨i,cl,a1,a2,a3,a4,a5,a6.mono (by omega)⟩
theorem ZZ {α:Type}{xs:List α}{k:Nat}{v x:α}(h:x∈xs.set k v):x=v∨∃j,j≠k∧xs[j]? = some x:=by
 obtain⟨j,hj⟩:=List.getElem?_of_mem h
 by_cases e:j=k
 ·subst e
  have hl:=(List.getElem?_eq_some_iff.1 hj).1
  simp only[List.length_set]at hl
  rw[Ye hl]at hj
  cases hj
  exact .inl rfl
 ·rw[Yf (Ne.symm e)]at hj
  exact .inr ⟨j,e,hj⟩
theorem PlOk.upd {cs:List Cll}{i:Nat}{cl cl':Cll}{th mv n:Int}(P:PlOk cs th mv)(hi:cs[i]? = some cl)(h1:cl'.thread=cl.thread)(h2:cl'.begin_=cl.begin_)(h3:cl.end_ = -1)(h4:cl'.end_ = -1∨cl'.end_=n)(hn:mv<n)(h0:0≤mv):PlOk (cs.set i cl') th mv:=by
 obtain⟨p1,⟨x,hx,x1,x2,x3⟩,p3⟩:=P
 have hlt:=(List.getElem?_eq_some_iff.1 hi).1
 refine⟨?_,?_,?_⟩
 ·intro z hz
  rcases ZZ hz with rfl|⟨j,_,hj⟩
  ·rw[h2];exact p1 _ (Yc hi)
  ·exact p1 _ (Yc hj)
 ·obtain⟨j,hj⟩:=List.getElem?_of_mem hx
  by_cases e:j=i
  ·subst e
   rw[hi]at hj
   cases hj
   exact⟨cl',Yc (Ye hlt),by rw[h1];exact x1,by rw[h2];exact x2,by omega⟩
  ·exact⟨x,Yc (by rw[Yf (Ne.symm e)];exact hj),x1,x2,x3⟩
 ·intro z hz hze
  rcases ZZ hz with rfl|⟨j,_,hj⟩
  ·omega
  ·exact p3 _ (Yc hj) hze
theorem Q4.move {bh ba:Nat}{CX:Zd}{K:Int→Option Value}{mv:Mv}{b:Bool}(P:PI c n y)(R:Q4 c n y)(hn:n<65536)(h:Jn (hzT bh ba CX) K ZW y mv b y'):Q4 c ((n+1:Nat):Int) y':=by
 cases h with
 | out=>exact R.tick
 | idle=>exact R.tick
 | busy=>exact R.tick
 | nokit=>exact R.tick
 | refused=>exact R.tick
 | begin_ t k v vc ht hop hk hKn hmk=>
  obtain⟨p1,p2,p3,p4,p5,p6,p7⟩:=P
  obtain⟨q1,q2,q3,q4,q5,q6,q7,q8,q9,q10,q11,q12,q13,q14,q15,q16,q17,q18⟩:=R
  have hlt:=(List.getElem?_eq_some_iff.1 hk).1
  have htT:(t:Int)<c.T:=by have:=p3.ok.T1;omega
  have hfree:∀x∈y.m.calls,x.thread=(t:Int)→x.end_ ≠ -1:=by
   intro x hx hxt he
   obtain⟨k',hk'⟩:=q18 x hx he
   rw[hxt,Yo,hk]at hk'
   cases hk'
  have hbn:∀x∈y.m.calls,x.begin_<n∧x.end_<n:=fun x hx=>⟨(q1 x hx).bn,by rcases(q1 x hx).e with e|e<;>omega⟩
  have hb0:∀x∈y.m.calls,0≤x.begin_:=fun x hx=>(q1 x hx).b0
  have hpl:∀th mv',PlOk y.m.calls th mv'→mv'<n→PlOk (y.m.calls++[⟨mv.thread,mv.op,mv.arg,mv.data,y.m.moves,-1,-1,0,0⟩]) th mv':=by
   intro th mv' Q hm
   obtain⟨g1,⟨x,hx,x1,x2,x3⟩,g3⟩:=Q
   have h0:0≤mv':=by have:=hb0 x hx;omega
   refine⟨?_,⟨x,List.mem_append_left _ hx,x1,x2,x3⟩,?_⟩
   ·intro z hz
    rcases List.mem_append.1 hz with hz|hz
    ·exact g1 z hz
    ·simp at hz;subst hz;simp only[];omega
   ·intro z hz hze
    rcases List.mem_append.1 hz with hz|hz
    ·exact g3 z hz hze
    ·simp at hz;subst hz;simp only[]at hze;omega
  refine⟨?_,?_,?_,?_,?_,q6,q7,q8,fun e he=>by have:=q9 e he;omega,q10,q11,fun e he=>by have:=q12 e he;omega,q13,q14,fun e he=>hpl _ _ (q15 e he) (q9 e he),fun e he=>hpl _ _ (q16 e he) (q12 e he),?_,?_⟩
  ·intro x hx
   rcases List.mem_append.1 hx with hx|hx
   ·exact(q1 x hx).mono (by omega)
   ·simp at hx;subst hx
    exact⟨by simp only[];omega,by simp only[];omega,by simp only[];omega,by simp only[];omega,.inl ⟨rfl,rfl,rfl⟩,.inl rfl⟩
  ·exact q2.snoc (fun x hx=>by simp only[];have:=(hbn x hx).1;omega)
  ·refine q3.snoc (fun x hx => ?_)
   simp only[]
   intro hxt
   exact⟨hfree x hx (by omega),by have:=(hbn x hx).2;omega⟩
  ·refine q4.snoc (fun x hx => ?_)
   simp only[]
   exact fun h=>h
  ·intro x hx z hz
   rcases List.mem_append.1 hx with hx|hx
   ·rcases List.mem_append.1 hz with hz|hz
    ·exact q5 x hx z hz
    ·simp at hz;subst hz;simp only[];have:=(hbn x hx).2;omega
   ·simp at hx;subst hx
    rcases List.mem_append.1 hz with hz|hz
    ·simp only[];have:=hb0 z hz;omega
    ·simp at hz;subst hz;simp only[];omega
  ·intro j kj sj hkj hsj
   simp only[ZD]at hkj hsj
   by_cases hj:j=t
   ·subst hj
    rw[Ye (by omega)]at hkj hsj
    cases hkj
    cases hsj
    refine⟨_,_,rfl,by simp only[ZD];rw[List.getElem?_append_right (Nat.le_refl _),Nat.sub_self];rfl,ht,rfl,⟨by simp,by simp,fun _=>rfl⟩,?_⟩
    unfold ZW at hmk
    repeat'(split at hmk)
    all_goals(first|(cases hmk;done)|(cases hmk;first|exact trivial|(intro hf;simp at hf)))
   ·rw[Zx hj]at hkj hsj
    obtain⟨i,cl,a1,a2,a3,a4,a5,a6⟩:=q17 j kj sj hkj hsj
    exact⟨i,cl,a1,by simp only[ZD];rw[List.getElem?_append_left (List.getElem?_eq_some_iff.1 a2).1];exact a2,a3,a4,a5,a6.mono (by omega)⟩
  ·intro x hx he
   simp only[ZD]at hx
   rcases List.mem_append.1 hx with hx|hx
   ·obtain⟨k',hk'⟩:=q18 x hx he
    have hne:x.thread.toNat≠t:=by
     intro e;rw[e,hk]at hk';cases hk'
    exact⟨k',by simp only[];rw[Zx hne];exact hk'⟩
   ·simp at hx;subst hx
    refine⟨k,?_⟩
    simp only[ht,Yo]
    exact Ye hlt
 | step t i cl se k ht hop hk hse hl hc=>
  have P0:=P
  obtain⟨p1,p2,p3,p4,p5,p6,p7⟩:=P
  obtain⟨q1,q2,q3,q4,q5,q6,q7,q8,q9,q10,q11,q12,q13,q14,q15,q16,q17,q18⟩:=R
  have hlt:=(List.getElem?_eq_some_iff.1 hse).1
  have hok:=p3.ok
  have htT:(t:Int)<c.T:=by omega
  obtain⟨_,I⟩:=p7 t k se hk hse
  obtain⟨i',cl',b1,b2,b3,b4,b5,b6⟩:=q17 t k se hk hse
  have hii:i'=i:=by omega
  subst hii
  rw[hc]at b2
  cases b2
  have hilt:=(List.getElem?_eq_some_iff.1 hc).1
  have hbn:=(q1 _ (Yc hc)).bn
  have hpt:=(q1 _ (Yc hc)).p
  have C1:Core c n (100*n) n y.s.1 y.s.2 y.tick.m:=p3.of rfl rfl rfl rfl
  have C0:Core c n (100*n) n y.s.1 y.s.2 (y.tick.m.prep t i' y.m.moves se):=p3.of rfl rfl rfl rfl
  have hci:QS (y.tick.m.prep t i' y.m.moves se) i' t cl { se with ready:=true }:=⟨rfl,hc,by simp[Mch.prep,Wst.tick,hlt]⟩
  have H0:Hist c y.s.2 (y.tick.m.prep t i' y.m.moves se):=by
   refine⟨rfl,q6,q7,q8,fun e he=>by have:=q9 e he;show e.move≤y.m.moves;omega,fun _ e he=>by have:=q9 e he;show e.move<y.m.moves;omega,fun e he hm => ?_,q10,q11,fun e he=>by have:=q12 e he;show e.move≤y.m.moves;omega,fun e he hm => ?_,q13,q14⟩
   ·have:=q9 e he;have hm:e.move=y.m.moves:=hm;omega
   ·have:=q12 e he;have hm:e.move=y.m.moves:=hm;omega
  have T0:Told i' t cl (y.tick.m.prep t i' y.m.moves se):=⟨⟨cl.point,hc,.inl rfl⟩,⟨_,hci.seat,b5.1,b5.2.1,b5.2.2⟩⟩
  obtain⟨⟨⟨r1,r2,r3⟩,r4⟩,r5⟩:=rdy_more (bh:=bh) (ba:=ba) (CX:=CX) (now:=y.m.moves) C1 (by omega) htT hc hlt I
  have E1:Evo i' t (y.s.1,y.s.2,y.tick.m.prep t i' y.m.moves se) ((Zb (hzT bh ba CX) (y.s.1,y.s.2) y.tick.m i' t cl se k y.m.moves).2.1.1,(Zb (hzT bh ba CX) (y.s.1,y.s.2) y.tick.m i' t cl se k y.m.moves).2.1.2,(Zb (hzT bh ba CX) (y.s.1,y.s.2) y.tick.m i' t cl se k y.m.moves).2.2.1)∧RdP cl.begin_ n (Zb (hzT bh ba CX) (y.s.1,y.s.2) y.tick.m i' t cl se k y.m.moves).2.2.2:=by
   unfold Zb
   split
   ·rename_i hf
    rw[hf]at I
    exact⟨evo_rdy C0 htT I hci.call hci.seat (by show cl.begin_<y.m.moves;omega),rdp_rdy (cl:=cl) b6⟩
   ·exact⟨.refl _,b6⟩
  obtain⟨⟨e1,e2,e3⟩,e4⟩:=more_core (bh:=bh) (ba:=ba) (CX:=CX) (now:=y.m.moves) C1 (by omega) htT hc hlt I
  have hsd:y.s=(y.s.1,y.s.2):=rfl
  unfold Qi
  rw[hsd]
  simp only[]
  have E2:Evo i' t (y.s.1,y.s.2,y.tick.m.prep t i' y.m.moves se) ((ZQ (hzT bh ba CX) i' t (Zb (hzT bh ba CX) (y.s.1,y.s.2) y.tick.m i' t cl se k y.m.moves)).2.1.1,(ZQ (hzT bh ba CX) i' t (Zb (hzT bh ba CX) (y.s.1,y.s.2) y.tick.m i' t cl se k y.m.moves)).2.1.2,(ZQ (hzT bh ba CX) i' t (Zb (hzT bh ba CX) (y.s.1,y.s.2) y.tick.m i' t cl se k y.m.moves)).2.2.1)∧RdP cl.begin_ n (ZQ (hzT bh ba CX) i' t (Zb (hzT bh ba CX) (y.s.1,y.s.2) y.tick.m i' t cl se k y.m.moves)).2.2.2:=by
   obtain⟨E1,E1'⟩:=E1
   obtain⟨z,kk,vv,hcc⟩:=r4.curIn hci
   have hnow:(Zb (hzT bh ba CX) (y.s.1,y.s.2) y.tick.m i' t cl se k y.m.moves).2.2.1.now=n:=by rw[r4.now];exact p2
   generalize Zb (hzT bh ba CX) (y.s.1,y.s.2) y.tick.m i' t cl se k y.m.moves=r at r1 r2 r3 r4 r5 E1 E1' hcc hnow ⊢
   unfold ZQ
   split
   ·rename_i hf
    have hb:(getC r.2.2.1 i').begin_=cl.begin_:=by rw[hcc.getC]
    have X:=evo_stp (i:=i') (t:=t) (cl:=getC r.2.2.1 i') (se:=getS r.2.2.1 t) r1 htT (r3 hf) (by rw[hcc.getC];exact hcc.call) (by rw[hcc.getS];exact hcc.seat) (by rw[hb,hnow];exact hbn) (by rw[hb,hnow];exact E1') r5
    refine⟨E1.trans X,?_⟩
    have Y:=rdp_stp (h:=r.2.1.1) (a:=r.2.1.2) (m:=r.2.2.1) (i:=i') (t:=t) (cl:=cl) (cl':=getC r.2.2.1 i') (se:=getS r.2.2.1 t) (k:=r.2.2.2) (by rw[hnow];exact hbn) (by rw[hnow];exact E1')
    rw[hnow]at Y
    exact Y
   ·exact⟨E1,E1'⟩
  generalize ZQ (hzT bh ba CX) i' t (Zb (hzT bh ba CX) (y.s.1,y.s.2) y.tick.m i' t cl se k y.m.moves)=r at e1 e2 e3 e4 E2 ⊢
  obtain⟨E2,E2'⟩:=E2
  have H1:=H0.evo E2
  obtain⟨⟨⟨z,T1,T2⟩,⟨se1,T3,T4,T5,T6⟩⟩,Tn⟩:=T0.evo E2
  simp only[]at H1 T1 T2 T3 Tn
  have hnow:r.2.2.1.now=n:=Tn.trans p2
  have hthr:r.2.2.1.thread=t:=e4.thread
  obtain⟨z1,hz1⟩:=e4.calls
  obtain⟨k1,v1,hk1⟩:=e4.seats
  have hcalls:r.2.2.1.calls=y.m.calls.set i' { cl with point:=z }:=by
   have e:r.2.2.1.calls=y.m.calls.set i' { cl with point:=z1 }:=hz1
   rw[e]at T1 ⊢
   rw[Ye hilt]at T1
   injection T1 with T1
   injection T1 with _ _ _ _ _ _ T1
   rw[T1]
  have hsS:∀j,j≠t→r.2.2.1.seats[j]? = y.m.seats[j]? := by
   intro j hj
   rw[hk1,Zx hj]
   simp only[Mch.prep,Wst.tick]
   rw[Zx hj]
  have hgC:getC r.2.2.1 i'={ cl with point:=z }:=by simp[getC,Yb,T1]
  have hgS:getS r.2.2.1 t=se1:=by simp[getS,Yb,T3]
  have hz:z = -1∨cl.begin_<z∧z≤n:=by
   rcases T2 with e|⟨e1,e2⟩
   ·rw[e];rcases hpt with e|⟨e1,e2,_⟩
    ·exact .inl e
    ·exact .inr ⟨e1,by omega⟩
   ·exact .inr ⟨e1,by rw[←hnow];exact e2⟩
  have key:∀(cl2:Cll) (ss:List Sea) (tk:Option Zz),cl2.thread=cl.thread→cl2.begin_=cl.begin_→cl2.point=z→(cl2.end_ = -1∧cl2.kind=0∧cl2.value=0∧(∃k2,tk=some k2∧RdP cl.begin_ n k2∧ss=r.2.2.1.seats)∨(cl2.end_=n∧1≤cl2.kind∧cl2.kind≤6∧(cl2.kind≠2→cl2.value=0)∧tk=none∧ss=r.2.2.1.seats.set t { se1 with task:=.nilIface })) →
    Q4 c ((n+1:Nat):Int) ⟨r.2.1,{ r.2.2.1 with cur:=none,calls:=r.2.2.1.calls.set i' cl2,seats:=ss },y.tasks.set t tk⟩:=by
   intro cl2 ss tk g1 g2 g3 g4
   have hcs:r.2.2.1.calls.set i' cl2=y.m.calls.set i' cl2:=by rw[hcalls,Yl]
   have ge:cl2.end_ = -1∨cl2.end_=n:=by rcases g4 with⟨e,_⟩|⟨e,_⟩<;>omega
   have hold:∀j x,j≠i'→y.m.calls[j]? = some x→x.begin_<n∧x.end_<n∧0≤x.begin_:=fun j x _ hx=>⟨(q1 x (Yc hx)).bn,by rcases(q1 x (Yc hx)).e with e|e<;>omega,(q1 x (Yc hx)).b0⟩
   have hcb0:=(q1 _ (Yc hc)).b0
   have hnew:∀(th mv':Int),th=(t:Int)→mv'=n→PlOk (y.m.calls.set i' cl2) th mv':=by
    rintro th mv' rfl rfl
    refine⟨?_,⟨cl2,Yc (Ye hilt),by rw[g1];exact b3,by rw[g2];exact hbn,by omega⟩,?_⟩
    ·intro x hx
     rcases ZZ hx with rfl|⟨j,hj,hx⟩
     ·rw[g2];omega
     ·have:=(hold j x hj hx).1;omega
    ·intro x hx hxe
     rcases ZZ hx with rfl|⟨j,hj,hx⟩
     ·rw[g1];exact b3
     ·have:=(hold j x hj hx).2.1;omega
   have hall:∀(th mv':Int),(mv'<n→PlOk y.m.calls th mv')→mv'≤n→(mv'=n→th=(t:Int))→PlOk (y.m.calls.set i' cl2) th mv':=by
    intro th mv' h1 h2 h3
    by_cases hm:mv'=n
    ·exact hnew th mv' (h3 hm) hm
    ·have hlt':mv'<n:=by omega
     have Q:=h1 hlt'
     have h0:0≤mv':=by
      obtain⟨x,hx,x1,x2,x3⟩:=Q.who
      have:=(q1 x hx).b0;omega
     exact Q.upd hc g1 g2 b4 ge hlt' h0
   have hLold:∀e∈r.2.2.1.mem.log,e.move<n→PlOk y.m.calls e.thread e.move:=by
    obtain⟨l2,hl2,hn2⟩:=evo_log E2
    intro e he hm
    simp only[]at hl2 hn2
    rw[hl2]at he
    rcases List.mem_append.1 he with he|he
    ·exact q15 e he
    ·have:=hn2 e he;have h':(y.tick.m.prep t i' y.m.moves se).mem.move=y.m.moves:=rfl;omega
   have hSold:∀e∈r.2.2.1.shifts,e.move<n→PlOk y.m.calls e.thread e.move:=by
    obtain⟨l2,hl2,hn2⟩:=evo_shifts E2
    intro e he hm
    simp only[]at hl2 hn2
    rw[hl2]at he
    rcases List.mem_append.1 he with he|he
    ·exact q16 e he
    ·have:=hn2 e he;have h':(y.tick.m.prep t i' y.m.moves se).now=y.m.moves:=rfl;omega
   refine⟨?_,?_,?_,?_,?_,H1.ac,H1.slots,H1.lsort,fun e he=>by have:=H1.lle e he;show e.move<_;omega,H1.lrep,H1.ssort,fun e he=>by have:=H1.sle e he;show e.move<_;omega,H1.cross,H1.srep,?_,?_,?_,?_⟩
   ·show ∀x∈r.2.2.1.calls.set i' cl2,_
    rw[hcs]
    intro x hx
    rcases ZZ hx with rfl|⟨j,hj,hx⟩
    ·refine⟨by omega,by omega,by omega,by omega,?_,?_⟩
     ·rcases g4 with⟨e1,e2,e3,_⟩|⟨e1,e2,e3,e4,_⟩
      ·exact .inl ⟨e1,e2,e3⟩
      ·exact .inr ⟨by omega,by omega,e2,e3,e4⟩
     ·rw[g3,g2]
      rcases hz with e|⟨e1,e2⟩
      ·exact .inl e
      ·exact .inr ⟨e1,by omega,fun _=>by omega⟩
    ·exact(q1 x (Yc hx)).mono (by omega)
   ·show Pw _ (r.2.2.1.calls.set i' cl2)
    rw[hcs]
    exact q2.set (fun j z hj hz=>by rw[g2];exact q2 j i' z cl hj hz hc) (fun j z hj hz=>by rw[g2];exact q2 i' j cl z hj hc hz)
   ·show Pw _ (r.2.2.1.calls.set i' cl2)
    rw[hcs]
    refine q3.set (fun j z hj hz=>by rw[g2,g1];exact q3 j i' z cl hj hz hc) (fun j z hj hz => ?_)
    rw[g1]
    intro e
    exact absurd b4 (q3 i' j cl z hj hc hz e).1
   ·show Pw _ (r.2.2.1.calls.set i' cl2)
    rw[hcs]
    refine q4.set (fun j z hj hz => ?_) (fun j z hj hz => ?_)
    ·intro e
     have:=(hold j z (by omega) hz).2.1
     rcases ge with g|g<;>omega
    ·intro e
     have:=(hold j z (by omega) hz).2.1
     omega
   ·show ∀x∈r.2.2.1.calls.set i' cl2,∀z∈r.2.2.1.calls.set i' cl2,_
    rw[hcs]
    intro x hx w hw
    rcases ZZ hx with rfl|⟨j,hj,hx2⟩
    ·rcases ZZ hw with rfl|⟨j',hj',hw2⟩
     ·omega
     ·have:=hold j' w hj' hw2;omega
    ·rcases ZZ hw with rfl|⟨j',hj',hw2⟩
     ·rw[g2];exact q5 x (Yc hx2) cl (Yc hc)
     ·exact q5 x (Yc hx2) w (Yc hw2)
   ·show ∀e∈r.2.2.1.mem.log,PlOk (r.2.2.1.calls.set i' cl2) _ _
    rw[hcs]
    exact fun e he=>hall _ _ (hLold e he) (by have:=H1.lle e he;omega) (fun hm=>by rw[←hthr];exact H1.lth e he (by omega))
   ·show ∀e∈r.2.2.1.shifts,PlOk (r.2.2.1.calls.set i' cl2) _ _
    rw[hcs]
    exact fun e he=>hall _ _ (hSold e he) (by have:=H1.sle e he;omega) (fun hm=>by rw[←hthr];exact H1.sth e he (by omega))
   ·intro j kj sj hkj hsj
    simp only[]at hkj hsj
    by_cases hj:j=t
    ·subst hj
     rw[Ye (by omega)]at hkj
     cases hkj
     rcases g4 with⟨e1,e2,e3,k2,d1,d2,d3⟩|⟨e1,e2,e3,e4,d1,d2⟩
     ·cases d1
      rw[d3,T3]at hsj
      cases hsj
      refine⟨i',cl2,?_,by show(r.2.2.1.calls.set i' cl2)[i']? = _;rw[hcs];exact Ye hilt,by omega,e1,⟨T4,T5,T6⟩,by rw[g2];exact d2.mono (by omega)⟩
      rw[hk1]at T3
      rw[Ye (by simp[Mch.prep,Wst.tick];omega)]at T3
      cases T3
      exact hl
     ·cases d1
    ·rw[Zx hj]at hkj
     have hsj2:y.m.seats[j]? = some sj:=by
      rcases g4 with⟨_,_,_,_,_,_,d3⟩|⟨_,_,_,_,_,d2⟩
      ·rw[d3,hsS j hj]at hsj;exact hsj
      ·rw[d2,Zx hj,hsS j hj]at hsj;exact hsj
     obtain⟨i2,cl3,w1,w2,w3,w4,w5,w6⟩:=q17 j kj sj hkj hsj2
     have hne:i2≠i':=by
      rintro rfl
      rw[hc]at w2;cases w2;omega
     exact⟨i2,cl3,w1,by show(r.2.2.1.calls.set i' cl2)[i2]? = _;rw[hcs,Zx hne];exact w2,w3,w4,w5,w6.mono (by omega)⟩
   ·show ∀x∈r.2.2.1.calls.set i' cl2,_
    rw[hcs]
    intro x hx he
    rcases ZZ hx with rfl|⟨j,hj,hx⟩
    ·rcases g4 with⟨_,_,_,k2,d1,d2,d3⟩|⟨e1,_⟩
     ·refine⟨k2,?_⟩
      show(y.tasks.set t tk)[x.thread.toNat]? = _
      rw[g1,b3,Yo,Ye (by omega),d1]
     ·omega
    ·obtain⟨k',hk'⟩:=q18 x (Yc hx) he
     have hne:x.thread.toNat≠t:=by
      intro e
      have hxt:x.thread=(t:Int):=by have:=(q1 x (Yc hx)).t0;omega
      rcases Nat.lt_or_gt_of_ne hj with hlt'|hgt
      ·exact(q3 j i' x cl hlt' hx hc (by omega)).1 he
      ·exact(q3 i' j cl x hgt hc hx (by omega)).1 b4
     exact⟨k',by show(y.tasks.set t tk)[x.thread.toNat]? = _;rw[Zx hne];exact hk'⟩
  rw[hgC,hgS]
  by_cases hb:r.1=true
  ·simp only[ZC,if_pos hb]
   have:=key { cl with point:=z,end_:=y.m.moves,kind:=se1.kind,value:=se1.value } (r.2.2.1.seats.set t { se1 with task:=.nilIface }) none rfl rfl rfl (.inr ⟨p2,T4,T5,T6,rfl,rfl⟩)
   exact this
  ·simp only[ZC,if_neg hb]
   have hcl:=(q1 _ (Yc hc)).e
   have hcb:=(q1 _ (Yc hc)).b0
   have:=key { cl with point:=z } r.2.2.1.seats (some r.2.2.2) rfl rfl rfl (.inl ⟨b4,by show cl.kind=0;omega,by show cl.value=0;omega,_,rfl,E2',rfl⟩)
   have hself:r.2.2.1.calls.set i' { cl with point:=z }=r.2.2.1.calls:=by rw[hcalls,Yl]
   rw[hself]at this
   exact this
end
end
section
def cnt2:List (List Int)→Int→Nat
 | [],_=>0
 | l::r,s=>l.count s+cnt2 r s
theorem cnt2_set:∀ {ls:List (List Int)} {i:Nat} {l:List Int} (x:List Int) (s:Int),ls[i]? = some l→cnt2 (ls.set i x) s+l.count s=cnt2 ls s+x.count s
 | [],_,_,_,_,h=>by simp at h
 | a::r,0,l,x,s,h=>by simp at h;subst h;simp only[Uz,cnt2];omega
 | a::r,i+1,l,x,s,h=>by
  simp only[Ue]at h
  have:=cnt2_set x s h
  simp only[Uc,cnt2];omega
theorem cnt2_get:∀ {ls:List (List Int)} {i:Nat} {l:List Int} (s:Int),ls[i]? = some l→l.count s≤cnt2 ls s
 | [],_,_,_,h=>by simp at h
 | a::r,0,l,s,h=>by simp at h;subst h;simp only[cnt2];omega
 | a::r,i+1,l,s,h=>by
  simp only[Ue]at h
  have:=cnt2_get s h
  simp only[cnt2];omega
theorem cnt2_nils (s:Int):∀n,cnt2 (List.replicate n []) s=0
 | 0=>rfl
 | n+1=>by simp only[List.replicate_succ,cnt2,cnt2_nils s n,List.count_nil]
theorem cnt2_pos:∀ {ls:List (List Int)} {s:Int},0<cnt2 ls s→∃(i:Nat) (l:List Int),ls[i]? = some l∧s∈l
 | [],_,h=>by simp[cnt2]at h
 | a::r,s,h=>by
  simp only[cnt2]at h
  by_cases h0:0<a.count s
  ·exact⟨0,a,rfl,List.count_pos_iff.1 h0⟩
  ·obtain⟨i,l,h1,h2⟩:=cnt2_pos (ls:=r) (s:=s) (by omega)
   exact⟨i+1,l,by simpa using h1,h2⟩
theorem cnt2_mem {ls:List (List Int)}{l:List Int}{s:Int}(h:l∈ls)(hs:s∈l):0<cnt2 ls s:=by
 obtain⟨i,hi⟩:=List.getElem?_of_mem h
 have:=cnt2_get s hi
 have:=List.count_pos_iff.2 hs
 omega
theorem cnt2_at {ls:List (List Int)}{i:Nat}{l:List Int}{s:Int}(h:ls[i]? = some l)(hs:s∈l):0<cnt2 ls s:=cnt2_mem (Yc h) hs
structure MV where
 hd:Int
 cell:Int
 nx:Int→Int
 act:Int→Int
 hz:Int→Int
 val:Int→Int
def upd (f:Int→Int)(k z:Int):Int→Int:=fun x=>if x=k then z else f x
theorem QT (f:Int→Int)(k z:Int):upd f k z k=z:=by simp[upd]
theorem upd_ne (f:Int→Int){k x:Int}(z:Int)(h:x≠k):upd f k z x=f x:=by simp[upd,h]
def mv (c:Cfg)(m:Mch):MV where
 hd:=m.word (adr c 1 0)
 cell:=m.word (adr c 2 0)
 nx s:=if 0≤s∧s<c.Sl then m.word (adr c 10 s) else 0
 act r:=if 0≤r∧r<c.R then m.word (adr c 8 r) else 0
 hz j:=if 0≤j∧j<c.R*c.Hz then m.word (adr c 9 j) else 0
 val s:=if 0≤s∧s<c.Sl then m.word (adr c 11 s) else 0
theorem QW {c:Cfg}{m m':Mch}(h:m'.mem.words=m.mem.words):mv c m'=mv c m:=by
 unfold mv Mch.word;rw[h]
theorem word_set {m m':Mch}{A:Nat}{z:Int}(h:m'.mem.words=m.mem.words.set A z)(hA:A<m.mem.words.length)(j:Nat):m'.word j=if j=A then z else m.word j:=by
 unfold Mch.word
 rw[h]
 simp only[Yb]
 by_cases e:j=A
 ·subst e
  rw[Ye hA,if_pos rfl];rfl
 ·rw[Yf (Ne.symm e),if_neg e]
section
variable {c:Cfg}{m m':Mch}{z:Int}
structure Adrs (c:Cfg):Prop where
 a1:((adr c 1 0:Nat):Int)=0
 a2:((adr c 2 0:Nat):Int)=1
 a8:∀i,0≤i→((adr c 8 i:Nat):Int)=base c 8+i
 a9:∀i,0≤i→((adr c 9 i:Nat):Int)=base c 9+i
 a10:∀i,0≤i→((adr c 10 i:Nat):Int)=base c 10+i
 a11:∀i,0≤i→((adr c 11 i:Nat):Int)=base c 11+i
theorem adrs {c:Cfg}(h:c.Ok):Adrs c:=by
 have b:=Qx h
 refine⟨?_,?_,fun i hi=>QP h 8 hi,fun i hi=>QP h 9 hi,fun i hi=>QP h 10 hi,fun i hi=>QP h 11 hi⟩
 ·have:=QP h 1 (Int.le_refl 0);have:=b.b1;omega
 ·have:=QP h 2 (Int.le_refl 0);have:=b.b2;omega
theorem mv_hd (hok:c.Ok)(h:m'.mem.words=m.mem.words.set (adr c 1 0) z)(hA:adr c 1 0<m.mem.words.length):mv c m'={ mv c m with hd:=z }:=by
 obtain⟨b1,b2,b8,b9,b10,b11,b12,b13,b14,rh,rh2⟩:=Qx hok
 obtain⟨a1,a2,a8,a9,a10,a11⟩:=adrs hok
 have hS:=hok.S1
 have hR:=hok.R1
 unfold mv
 simp only[word_set h hA]
 simp only[MV.mk.injEq,if_true,true_and]
 refine⟨by rw[if_neg (by omega)],?_,?_,?_,?_⟩<;>funext i<;>split<;>first|rfl|(rename_i hi;rw[if_neg])
 ·have:=a10 i hi.1;omega
 ·have:=a8 i hi.1;omega
 ·have:=a9 i hi.1;omega
 ·have:=a11 i hi.1;omega
theorem mv_cell (hok:c.Ok)(h:m'.mem.words=m.mem.words.set (adr c 2 0) z)(hA:adr c 2 0<m.mem.words.length):mv c m'={ mv c m with cell:=z }:=by
 obtain⟨b1,b2,b8,b9,b10,b11,b12,b13,b14,rh,rh2⟩:=Qx hok
 obtain⟨a1,a2,a8,a9,a10,a11⟩:=adrs hok
 have hS:=hok.S1
 have hR:=hok.R1
 unfold mv
 simp only[word_set h hA]
 simp only[MV.mk.injEq,if_true,true_and]
 refine⟨by rw[if_neg (by omega)],?_,?_,?_,?_⟩<;>funext i<;>split<;>first|rfl|(rename_i hi;rw[if_neg])
 ·have:=a10 i hi.1;omega
 ·have:=a8 i hi.1;omega
 ·have:=a9 i hi.1;omega
 ·have:=a11 i hi.1;omega
theorem mv_nx (hok:c.Ok){s:Int}(h0:0≤s)(h1:s<c.Sl)(h:m'.mem.words=m.mem.words.set (adr c 10 s) z)(hA:adr c 10 s<m.mem.words.length):mv c m'={ mv c m with nx:=upd (mv c m).nx s z }:=by
 obtain⟨b1,b2,b8,b9,b10,b11,b12,b13,b14,rh,rh2⟩:=Qx hok
 obtain⟨a1,a2,a8,a9,a10,a11⟩:=adrs hok
 have hS:=hok.S1
 have hR:=hok.R1
 have hs:=a10 s h0
 unfold mv
 simp only[word_set h hA]
 simp only[MV.mk.injEq]
 refine⟨by rw[if_neg (by omega)],by rw[if_neg (by omega)],?_,?_,?_,?_⟩<;>funext i
 ·unfold upd
  by_cases e:i=s
  ·subst e;rw[if_pos ⟨h0,h1⟩,if_pos rfl,if_pos rfl]
  ·rw[if_neg e]
   by_cases hi:0≤i∧i<c.Sl
   ·have:=a10 i hi.1
    simp only[if_pos hi];rw[if_neg (by omega)]
   ·simp only[if_neg hi]
 all_goals split<;>first|rfl|(rename_i hi;rw[if_neg])
 ·have:=a8 i hi.1;omega
 ·have:=a9 i hi.1;omega
 ·have:=a11 i hi.1;omega
theorem mv_act (hok:c.Ok){s:Int}(h0:0≤s)(h1:s<c.R)(h:m'.mem.words=m.mem.words.set (adr c 8 s) z)(hA:adr c 8 s<m.mem.words.length):mv c m'={ mv c m with act:=upd (mv c m).act s z }:=by
 obtain⟨b1,b2,b8,b9,b10,b11,b12,b13,b14,rh,rh2⟩:=Qx hok
 obtain⟨a1,a2,a8,a9,a10,a11⟩:=adrs hok
 have hS:=hok.S1
 have hR:=hok.R1
 have hs:=a8 s h0
 unfold mv
 simp only[word_set h hA]
 simp only[MV.mk.injEq]
 refine⟨by rw[if_neg (by omega)],by rw[if_neg (by omega)],?_,?_,?_,?_⟩<;>funext i
 ·split<;>first|rfl|(rename_i hi;rw[if_neg])
  have:=a10 i hi.1;omega
 ·unfold upd
  by_cases e:i=s
  ·subst e;rw[if_pos ⟨h0,h1⟩,if_pos rfl,if_pos rfl]
  ·rw[if_neg e]
   by_cases hi:0≤i∧i<c.R
   ·have:=a8 i hi.1
    simp only[if_pos hi];rw[if_neg (by omega)]
   ·simp only[if_neg hi]
 ·split<;>first|rfl|(rename_i hi;rw[if_neg])
  have:=a9 i hi.1;omega
 ·split<;>first|rfl|(rename_i hi;rw[if_neg])
  have:=a11 i hi.1;omega
theorem mv_hz (hok:c.Ok){s:Int}(h0:0≤s)(h1:s<c.R*c.Hz)(h:m'.mem.words=m.mem.words.set (adr c 9 s) z)(hA:adr c 9 s<m.mem.words.length):mv c m'={ mv c m with hz:=upd (mv c m).hz s z }:=by
 obtain⟨b1,b2,b8,b9,b10,b11,b12,b13,b14,rh,rh2⟩:=Qx hok
 obtain⟨a1,a2,a8,a9,a10,a11⟩:=adrs hok
 have hS:=hok.S1
 have hR:=hok.R1
 have hs:=a9 s h0
 unfold mv
 simp only[word_set h hA]
 simp only[MV.mk.injEq]
 refine⟨by rw[if_neg (by omega)],by rw[if_neg (by omega)],?_,?_,?_,?_⟩<;>funext i
 ·split<;>first|rfl|(rename_i hi;rw[if_neg])
  have:=a10 i hi.1;omega
 ·split<;>first|rfl|(rename_i hi;rw[if_neg])
  have:=a8 i hi.1;omega
 ·unfold upd
  by_cases e:i=s
  ·subst e;rw[if_pos ⟨h0,h1⟩,if_pos rfl,if_pos rfl]
  ·rw[if_neg e]
   by_cases hi:0≤i∧i<c.R*c.Hz
   ·have:=a9 i hi.1
    simp only[if_pos hi];rw[if_neg (by omega)]
   ·simp only[if_neg hi]
 ·split<;>first|rfl|(rename_i hi;rw[if_neg])
  have:=a11 i hi.1;omega
theorem mv_val (hok:c.Ok){s:Int}(h0:0≤s)(h1:s<c.Sl)(h:m'.mem.words=m.mem.words.set (adr c 11 s) z)(hA:adr c 11 s<m.mem.words.length):mv c m'={ mv c m with val:=upd (mv c m).val s z }:=by
 obtain⟨b1,b2,b8,b9,b10,b11,b12,b13,b14,rh,rh2⟩:=Qx hok
 obtain⟨a1,a2,a8,a9,a10,a11⟩:=adrs hok
 have hS:=hok.S1
 have hR:=hok.R1
 have hs:=a11 s h0
 unfold mv
 simp only[word_set h hA]
 simp only[MV.mk.injEq]
 refine⟨by rw[if_neg (by omega)],by rw[if_neg (by omega)],?_,?_,?_,?_⟩<;>funext i
 ·split<;>first|rfl|(rename_i hi;rw[if_neg])
  have:=a10 i hi.1;omega
 ·split<;>first|rfl|(rename_i hi;rw[if_neg])
  have:=a8 i hi.1;omega
 ·split<;>first|rfl|(rename_i hi;rw[if_neg])
  have:=a9 i hi.1;omega
 ·unfold upd
  by_cases e:i=s
  ·subst e;rw[if_pos ⟨h0,h1⟩,if_pos rfl,if_pos rfl]
  ·rw[if_neg e]
   by_cases hi:0≤i∧i<c.Sl
   ·have:=a11 i hi.1
    simp only[if_pos hi];rw[if_neg (by omega)]
   ·simp only[if_neg hi]
end
def Chain (nx:Int→Int):Int→List Int→Prop
 | x,[]=>x=0
 | x,s::F=>x=s+1∧0≤s∧Chain nx (nx s) F
theorem Chain.upd {nx:Int→Int}{k z:Int}:∀ {x:Int} {F:List Int},Chain nx x F→k∉F→Chain (upd nx k z) x F
 | _,[],h,_=>h
 | _,s::F,⟨h1,h2,h3⟩,hk=>by
  simp only[List.mem_cons,not_or]at hk
  exact⟨h1,h2,by rw[upd_ne _ _ (Ne.symm hk.1)];exact h3.upd hk.2⟩
def Are.sl (a:Are)(s:Int):Slt:=if 0≤s then a.slots.getD s.toNat ⟨0,0⟩ else ⟨0,0⟩
def updS (f:Int→Slt)(k:Int)(z:Slt):Int→Slt:=fun x=>if x=k then z else f x
theorem QV (f:Int→Slt)(k:Int)(z:Slt):updS f k z k=z:=by simp[updS]
theorem updS_ne (f:Int→Slt){k x:Int}(z:Slt)(h:x≠k):updS f k z x=f x:=by simp[updS,h]
theorem Q0 {a:Are}{s th to:Int}(h0:0≤s)(h1:s.toNat<a.slots.length):(a.shift s.toNat th to).sl=updS a.sl s ⟨to,if to=0∨to=3 then -1 else th⟩:=by
 funext i
 unfold Are.sl updS Are.shift
 simp only[Yb]
 by_cases e:i=s
 ·subst e
  rw[if_pos h0,if_pos rfl,Ye h1];rfl
 ·rw[if_neg e]
  split
  ·rw[Yf (by omega)]
  ·rfl
end
end Go.Proofs.YtegafhhdegnigaaGreat
