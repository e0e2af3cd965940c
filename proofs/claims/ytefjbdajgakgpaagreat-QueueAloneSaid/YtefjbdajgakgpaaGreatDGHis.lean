import Derived.Test.YtefjbdajgakgpaaGreatDRd
set_option linter.all false
namespace Go.Proofs.YtefjbdajgakgpaaGreat
open Go.RowKit Hp
set_option maxRecDepth 100000
set_option maxHeartbeats 1000000
attribute [local irreducible] Go.Calls
def rep1 (ws:List Int)(e:Acc):Option (List Int):=
 if 0≤e.addr∧e.addr<ws.length then
  if e.kind=1 then (if e.old=0∧e.new=0∧e.saw=ws.getD e.addr.toNat 0 then some ws else none)
  else if e.kind=2 then (if e.old=0∧e.saw=0 then some (ws.set e.addr.toNat e.new) else none)
  else if e.kind=3 then (if e.saw=ws.getD e.addr.toNat 0 then some (if e.saw=e.old then ws.set e.addr.toNat e.new else ws) else none)
  else none
 else none
def rep (ws:List Int):List Acc→Option (List Int)
 | []=>some ws
 | e::r=>(rep1 ws e).bind fun ws'=>rep ws' r
theorem rep_append (ws:List Int)(l r:List Acc):rep ws (l++r)=(rep ws l).bind fun ws'=>rep ws' r:=by
 induction l generalizing ws with
 | nil=>rfl
 | cons e l ih=>
  simp only[List.cons_append,rep]
  cases rep1 ws e with
  | none=>rfl
  | some ws'=>exact ih ws'
theorem rep_snoc (ws:List Int)(l:List Acc)(e:Acc){ws1 ws2:List Int}(h:rep ws l=some ws1)(h2:rep1 ws1 e=some ws2):rep ws (l++[e])=some ws2:=by
 rw[rep_append,h]
 simp only[Option.bind_some,rep,h2]
def shf1 (sl:List Slt)(x:Shf):Option (List Slt):=
 if (0≤x.slot∧x.slot<sl.length)∧(0≤x.to∧x.to≤5)∧x.fr=(sl.getD x.slot.toNat ⟨0,0⟩).state then some (sl.set x.slot.toNat ⟨x.to,if x.to=0∨x.to=3 then -1 else x.thread⟩) else none
def shfs (sl:List Slt):List Shf→Option (List Slt)
 | []=>some sl
 | e::r=>(shf1 sl e).bind fun sl'=>shfs sl' r
theorem shfs_append (sl:List Slt)(l r:List Shf):shfs sl (l++r)=(shfs sl l).bind fun sl'=>shfs sl' r:=by
 induction l generalizing sl with
 | nil=>rfl
 | cons e l ih=>
  simp only[List.cons_append,shfs]
  cases shf1 sl e with
  | none=>rfl
  | some sl'=>exact ih sl'
theorem shfs_snoc (sl:List Slt)(l:List Shf)(e:Shf){s1 s2:List Slt}(h:shfs sl l=some s1)(h2:shf1 s1 e=some s2):shfs sl (l++[e])=some s2:=by
 rw[shfs_append,h]
 simp only[Option.bind_some,shfs,h2]
structure Hist (W0:List Int)(S0:List Slt)(c:Cfg)(a:Are)(m:Mch):Prop where
 mv:m.mem.move=m.now
 ac:a.c=c
 slots:(a.slots.length:Int)=c.Sl
 lsort:m.mem.log.Pairwise (fun x y=>x.move<y.move)
 lle:∀e∈m.mem.log,e.move≤m.now
 llt:m.used=false→∀e∈m.mem.log,e.move<m.now
 lth:∀e∈m.mem.log,e.move=m.now→e.thread=m.thread
 lrep:rep W0 m.mem.log=some m.mem.words
 ssort:m.shifts.Pairwise (fun x y=>x.move≤y.move∧(x.move=y.move→x.thread=y.thread))
 sle:∀e∈m.shifts,e.move≤m.now
 sth:∀e∈m.shifts,e.move=m.now→e.thread=m.thread
 cross:∀e∈m.shifts,∀x∈m.mem.log,x.move=e.move→x.thread=e.thread
 srep:shfs S0 m.shifts=some a.slots
theorem pw_snoc {α:Type}{R:α→α→Prop}{l:List α}{x:α}(h:l.Pairwise R)(hx:∀y∈l,R y x):(l++[x]).Pairwise R:=by
 rw[List.pairwise_append]
 exact⟨h,by simp,fun a ha b hb=>by simp at hb;subst hb;exact hx a ha⟩
section
variable {W0:List Int}{S0:List Slt}{Q:Nat→Prop}{i t:Nat}{c:Cfg}{h:Haz}{a:Are}{m m':Mch}
theorem Hist.acc (H:Hist W0 S0 c a m)(hu:m.used=false){e:Acc}{ws:List Int}{ah:List Int}(hm:e.move=m.mem.move)(ht:e.thread=m.thread)(hr:rep1 m.mem.words e=some ws) :
  Hist W0 S0 c a { m with used:=true,mem:={ m.mem with words:=ws,log:=m.mem.log++[e],ahead:=ah } }:=by
 obtain⟨q1,q2,q3,q4,q5,q6,q7,q8,q9,q10,q11,q12,q13⟩:=H
 have hl:=q6 hu
 refine⟨q1,q2,q3,pw_snoc q4 (fun y hy=>by rw[hm,q1];exact hl y hy),?_,fun hf=>(by cases hf),?_,rep_snoc _ _ _ q8 hr,q9,q10,q11,?_,q13⟩
 ·intro x hx
  rcases List.mem_append.1 hx with hx|hx
  ·exact q5 x hx
  ·simp at hx;subst hx;show x.move≤m.now;omega
 ·intro x hx hxe
  rcases List.mem_append.1 hx with hx|hx
  ·exact q7 x hx hxe
  ·simp at hx;subst hx;exact ht
 ·intro s hs x hx hxe
  rcases List.mem_append.1 hx with hx|hx
  ·exact q12 s hs x hx hxe
  ·simp at hx;subst hx
   rw[ht,q11 s hs (by omega)]
theorem word_getD (m:Mch)(j:Nat):m.mem.words.getD j 0=m.word j:=rfl
theorem Hist.load (H:Hist W0 S0 c a m){j:Nat}(hu:m.used=false)(hj:j<m.mem.words.length):Hist W0 S0 c a (m.load j (m.word j)):=by
 refine H.acc hu rfl rfl ?_
 simp only[rep1]
 rw[if_pos ⟨by omega,by omega⟩,if_pos True.intro,Yo,if_pos ⟨True.intro,True.intro,rfl⟩]
theorem Hist.store (H:Hist W0 S0 c a m){j:Nat}{z:Int}(hu:m.used=false)(hj:j<m.mem.words.length):Hist W0 S0 c a (m.store j (m.word j) z):=by
 refine H.acc hu rfl rfl ?_
 simp only[rep1]
 rw[if_pos ⟨by omega,by omega⟩,if_neg (by omega),if_pos True.intro,Yo,if_pos ⟨True.intro,True.intro⟩]
theorem Hist.swap (H:Hist W0 S0 c a m){j:Nat}{o z:Int}(hu:m.used=false)(hj:j<m.mem.words.length):Hist W0 S0 c a (m.swap j (m.word j) o z):=by
 refine H.acc hu rfl rfl ?_
 simp only[rep1]
 rw[if_pos ⟨by omega,by omega⟩,if_neg (by omega),if_neg (by omega),if_pos True.intro,Yo,if_pos (word_getD m j).symm]
theorem Hist.shift (H:Hist W0 S0 c a m){s to:Int}(s0:0≤s)(s1:s<a.c.Sl)(t0:0≤to)(t5:to≤5) :
  Hist W0 S0 c (a.shift s.toNat m.thread to) (m.shift s (a.slots.getD s.toNat ⟨0,0⟩).state to):=by
 obtain⟨q1,q2,q3,q4,q5,q6,q7,q8,q9,q10,q11,q12,q13⟩:=H
 refine⟨q1,q2,by simp only[Are.shift,List.length_set];exact q3,q4,q5,q6,q7,q8,pw_snoc q9 (fun y hy=>⟨q10 y hy,q11 y hy⟩),?_,?_,?_,shfs_snoc _ _ _ q13 ?_⟩
 ·intro x hx
  rcases List.mem_append.1 hx with hx|hx
  ·exact q10 x hx
  ·simp at hx;subst hx;exact Int.le_refl _
 ·intro x hx hxe
  rcases List.mem_append.1 hx with hx|hx
  ·exact q11 x hx hxe
  ·simp at hx;subst hx;rfl
 ·intro x hx y hy hye
  rcases List.mem_append.1 hx with hx|hx
  ·exact q12 x hx y hy hye
  ·simp at hx;subst hx;exact q7 y hy hye
 ·simp only[shf1]
  rw[if_pos ⟨⟨s0,by rw[q3,←q2];exact s1⟩,⟨t0,t5⟩,True.intro⟩]
  rfl
theorem Hist.of (H:Hist W0 S0 c a m)(h1:m'.mem=m.mem)(h2:m'.now=m.now)(h3:m'.thread=m.thread)(h4:m'.shifts=m.shifts)(h5:m'.used=m.used):Hist W0 S0 c a m':=by
 obtain⟨q1,q2,q3,q4,q5,q6,q7,q8,q9,q10,q11,q12,q13⟩:=H
 refine⟨by rw[h1,h2];exact q1,q2,q3,by rw[h1];exact q4,by rw[h1,h2];exact q5,by rw[h1,h2,h5];exact q6,by rw[h1,h2,h3];exact q7,by rw[h1];exact q8,by rw[h4];exact q9,by rw[h4,h2];exact q10,by rw[h4,h2,h3];exact q11,by rw[h4,h1];exact q12,by rw[h4];exact q13⟩
theorem Hist.evq {x y:St3}(E:EvQ Q i t x y):Hist W0 S0 c x.2.1 x.2.2→Hist W0 S0 c y.2.1 y.2.2:=by
 induction E with
 | refl=>exact id
 | trans _ _ ih1 ih2=>exact fun H=>ih2 (ih1 H)
 | load j hu hj=>exact fun H=>H.load hu hj.1
 | store j z hu hj=>exact fun H=>H.store hu hj.1
 | swap j o z hu hj=>exact fun H=>H.swap hu hj.1
 | shift s to s0 s1 t0 t5=>exact fun H=>H.shift s0 s1 t0 t5
 | point cl z _ _ _=>exact fun H=>H.of rfl rfl rfl rfl rfl
 | answer se k v _ _ _ _=>exact fun H=>H.of rfl rfl rfl rfl rfl
 | haz=>exact id
 | cache cs=>exact fun H=>⟨H.mv,H.ac,H.slots,H.lsort,H.lle,H.llt,H.lth,H.lrep,H.ssort,H.sle,H.sth,H.cross,H.srep⟩
structure Told (i t:Nat)(cl:Cll)(m:Mch):Prop where
 call:∃z,m.calls[i]? = some { cl with point:=z }∧(z=cl.point∨cl.begin_<z∧z≤m.now)
 seat:∃se,m.seats[t]? = some se∧1≤se.kind∧se.kind≤6∧(se.kind≠2→se.value=0)
theorem Told.evq {cl:Cll}{x y:St3}(E:EvQ Q i t x y):Told i t cl x.2.2→Told i t cl y.2.2∧y.2.2.now=x.2.2.now:=by
 induction E with
 | refl=>exact fun H=>⟨H,rfl⟩
 | trans _ _ ih1 ih2=>intro H;obtain⟨a1,a2⟩:=ih1 H;obtain⟨b1,b2⟩:=ih2 a1;exact⟨b1,b2.trans a2⟩
 | load j hu hj=>exact fun H=>⟨⟨H.call,H.seat⟩,rfl⟩
 | store j z hu hj=>exact fun H=>⟨⟨H.call,H.seat⟩,rfl⟩
 | swap j o z hu hj=>exact fun H=>⟨⟨H.call,H.seat⟩,rfl⟩
 | shift s to s0 s1 t0 t5=>exact fun H=>⟨⟨H.call,H.seat⟩,rfl⟩
 | @point h a m cl' z' hc hz hn=>
  intro H
  obtain⟨⟨z,hz1,hz2⟩,hse⟩:=H
  simp only[]at hz1 hz2 hse
  rw[hz1]at hc
  cases hc
  have hlt:=(List.getElem?_eq_some_iff.1 hz1).1
  refine⟨⟨⟨z',?_,.inr ⟨hz,hn⟩⟩,hse⟩,rfl⟩
  simp only[Mch.point,Ye hlt]
 | @answer h a m se k v hs k1 k6 hv=>
  intro H
  have hlt:=(List.getElem?_eq_some_iff.1 hs).1
  refine⟨⟨H.call,⟨{ se with kind:=k,value:=v },?_,k1,k6,hv⟩⟩,rfl⟩
  simp only[Mch.answer,Ye hlt]
 | haz=>exact fun H=>⟨H,rfl⟩
 | cache cs=>exact fun H=>⟨H,rfl⟩
theorem evq_move {x y:St3}(E:EvQ Q i t x y):y.2.2.mem.move=x.2.2.mem.move∧y.2.2.now=x.2.2.now:=by
 induction E with
 | trans _ _ ih1 ih2=>exact⟨ih2.1.trans ih1.1,ih2.2.trans ih1.2⟩
 | _=>exact⟨rfl,rfl⟩
theorem evq_log {x y:St3}(E:EvQ Q i t x y):∃l,y.2.2.mem.log=x.2.2.mem.log++l∧∀e∈l,e.move=x.2.2.mem.move:=by
 induction E with
 | refl x=>exact⟨[],by simp,by simp⟩
 | trans E1 _ ih1 ih2=>
  obtain⟨l1,a1,a2⟩:=ih1
  obtain⟨l2,b1,b2⟩:=ih2
  refine⟨l1++l2,by rw[b1,a1,List.append_assoc],fun e he => ?_⟩
  rcases List.mem_append.1 he with he|he
  ·exact a2 e he
  ·rw[b2 e he,(evq_move E1).1]
 | load j _ _=>exact⟨_,rfl,fun e he=>by simp at he;subst he;rfl⟩
 | store j z _ _=>exact⟨_,rfl,fun e he=>by simp at he;subst he;rfl⟩
 | swap j o z _ _=>exact⟨_,rfl,fun e he=>by simp at he;subst he;rfl⟩
 | _=>exact⟨[],(List.append_nil _).symm,by simp⟩
theorem evq_shifts {x y:St3}(E:EvQ Q i t x y):∃l,y.2.2.shifts=x.2.2.shifts++l∧∀e∈l,e.move=x.2.2.now:=by
 induction E with
 | refl x=>exact⟨[],by simp,by simp⟩
 | trans E1 _ ih1 ih2=>
  obtain⟨l1,a1,a2⟩:=ih1
  obtain⟨l2,b1,b2⟩:=ih2
  refine⟨l1++l2,by rw[b1,a1,List.append_assoc],fun e he => ?_⟩
  rcases List.mem_append.1 he with he|he
  ·exact a2 e he
  ·rw[b2 e he,(evq_move E1).2]
 | shift s to _ _ _ _=>exact⟨_,rfl,fun e he=>by simp at he;subst he;rfl⟩
 | _=>exact⟨[],(List.append_nil _).symm,by simp⟩
end
def Pw {α:Type}(R:α→α→Prop)(xs:List α):Prop:=∀(i j:Nat) (x z:α),i<j→xs[i]? = some x→xs[j]? = some z→R x z
theorem Pw.nil {α:Type}{R:α→α→Prop}:Pw R []:=fun _ _ _ _ _ h _=>by simp at h
theorem Pw.snoc {α:Type}{R:α→α→Prop}{xs:List α}{v:α}(H:Pw R xs)(h:∀x∈xs,R x v):Pw R (xs++[v]):=by
 intro i j x z hij hx hz
 have hj:=(List.getElem?_eq_some_iff.1 hz).1
 simp only[List.length_append,List.length_cons,List.length_nil]at hj
 rw[List.getElem?_append_left (by omega)]at hx
 by_cases hjl:j<xs.length
 ·rw[List.getElem?_append_left hjl]at hz
  exact H i j x z hij hx hz
 ·have:j=xs.length:=by omega
  subst this
  rw[List.getElem?_append_right (by omega)]at hz
  simp at hz
  subst hz
  exact h x (Yc hx)
theorem Pw.set {α:Type}{R:α→α→Prop}{xs:List α}{v:α}{k:Nat}(H:Pw R xs)(h1:∀j z,j<k→xs[j]? = some z→R z v)(h2:∀j z,k<j→xs[j]? = some z→R v z):Pw R (xs.set k v):=by
 intro i j x z hij hx hz
 by_cases hi:i=k
 ·subst hi
  have hl:=(List.getElem?_eq_some_iff.1 hx).1
  simp only[List.length_set]at hl
  rw[Ye hl]at hx
  cases hx
  rw[Yf (by omega)]at hz
  exact h2 j z hij hz
 ·rw[Yf (Ne.symm hi)]at hx
  by_cases hj:j=k
  ·subst hj
   have hl:=(List.getElem?_eq_some_iff.1 hz).1
   simp only[List.length_set]at hl
   rw[Ye hl]at hz
   cases hz
   exact h1 i x hij hx
  ·rw[Yf (Ne.symm hj)]at hz
   exact H i j x z hij hx hz
structure PlOk (cs:List Cll)(th mv:Int):Prop where
 beg:∀x∈cs,x.begin_≠mv
 who:∃x∈cs,x.thread=th∧x.begin_<mv∧(x.end_<0∨mv≤x.end_)
 ends:∀x∈cs,x.end_=mv→x.thread=th
structure ClOk (c:Cfg)(n:Int)(x:Cll):Prop where
 t0:0≤x.thread
 t1:x.thread<c.T
 b0:0≤x.begin_
 bn:x.begin_<n
 e:x.end_ = -1∧x.kind=0∧x.value=0∨(x.begin_<x.end_∧x.end_<n∧1≤x.kind∧x.kind≤6∧(x.kind≠2→x.value=0))
 p:x.point = -1∨(x.begin_<x.point∧x.point<n∧(x.end_ ≠ -1→x.point≤x.end_))
theorem ClOk.mono {c:Cfg}{n n':Int}{x:Cll}(h:ClOk c n x)(hn:n≤n'):ClOk c n' x:=by
 obtain⟨q1,q2,q3,q4,q5,q6⟩:=h
 exact⟨q1,q2,q3,by omega,by omega,by omega⟩
theorem Jf {α:Type}{xs:List α}{k:Nat}{v x:α}(h:x∈xs.set k v):x=v∨∃j,j≠k∧xs[j]? = some x:=by
 obtain⟨j,hj⟩:=List.getElem?_of_mem h
 by_cases e:j=k
 ·subst e
  have hl:=(List.getElem?_eq_some_iff.1 hj).1
  simp only[List.length_set]at hl
  rw[Ye hl]at hj
  cases hj
  exact .inl rfl
 ·rw[Yf (Ne.symm e)]at hj
  exact .inr ⟨j,e,hj⟩
theorem PlOk.upd {cs:List Cll}{i:Nat}{cl cl':Cll}{th mv n:Int}(P:PlOk cs th mv)(hi:cs[i]? = some cl)(h1:cl'.thread=cl.thread)(h2:cl'.begin_=cl.begin_)(h3:cl.end_ = -1)(h4:cl'.end_ = -1∨cl'.end_=n)(hn:mv<n)(h0:0≤mv):PlOk (cs.set i cl') th mv:=by
 obtain⟨p1,⟨x,hx,x1,x2,x3⟩,p3⟩:=P
 have hlt:=(List.getElem?_eq_some_iff.1 hi).1
 refine⟨?_,?_,?_⟩
 ·intro z hz
  rcases Jf hz with rfl|⟨j,_,hj⟩
  ·rw[h2];exact p1 _ (Yc hi)
  ·exact p1 _ (Yc hj)
 ·obtain⟨j,hj⟩:=List.getElem?_of_mem hx
  by_cases e:j=i
  ·subst e
   rw[hi]at hj
   cases hj
   exact⟨cl',Yc (Ye hlt),by rw[h1];exact x1,by rw[h2];exact x2,by omega⟩
  ·exact⟨x,Yc (by rw[Yf (Ne.symm e)];exact hj),x1,x2,x3⟩
 ·intro z hz hze
  rcases Jf hz with rfl|⟨j,_,hj⟩
  ·omega
  ·exact p3 _ (Yc hj) hze
structure RunOk {τ:Type}(W0:List Int)(S0:List Slt)(c:Cfg)(n:Int)(y:GW τ):Prop where
 cl:∀x∈y.m.calls,ClOk c n x
 bsort:Pw (fun x z=>x.begin_<z.begin_) y.m.calls
 ord:Pw (fun x z=>x.thread=z.thread→x.end_ ≠ -1∧x.end_<z.begin_) y.m.calls
 ends:Pw (fun x z=>x.end_ ≠ -1→x.end_≠z.end_) y.m.calls
 be:∀x∈y.m.calls,∀z∈y.m.calls,x.end_≠z.begin_
 ac:y.s.2.c=c
 slots:(y.s.2.slots.length:Int)=c.Sl
 lsort:y.m.mem.log.Pairwise (fun x y=>x.move<y.move)
 llt:∀e∈y.m.mem.log,e.move<n
 lrep:rep W0 y.m.mem.log=some y.m.mem.words
 ssort:y.m.shifts.Pairwise (fun x y=>x.move≤y.move∧(x.move=y.move→x.thread=y.thread))
 slt:∀e∈y.m.shifts,e.move<n
 cross:∀e∈y.m.shifts,∀x∈y.m.mem.log,x.move=e.move→x.thread=e.thread
 srep:shfs S0 y.m.shifts=some y.s.2.slots
 lpl:∀e∈y.m.mem.log,PlOk y.m.calls e.thread e.move
 spl:∀e∈y.m.shifts,PlOk y.m.calls e.thread e.move
 busy:∀(t:Nat) (k:τ) (se:Sea),y.tasks[t]? = some (some k)→y.m.seats[t]? = some se→∃(i:Nat) (cl:Cll),se.last=(i:Int)∧y.m.calls[i]? = some cl∧cl.thread=(t:Int)∧cl.end_ = -1 ∧
  (1≤se.kind∧se.kind≤6∧(se.kind≠2→se.value=0))
 idle:∀x∈y.m.calls,x.end_ = -1→∃k,y.tasks[x.thread.toNat]? = some (some k)
section
variable {τ:Type}{W0:List Int}{S0:List Slt}{M:List Int→Prop}{T:JH (Haz×Are) τ}{mkr:Haz×Are→Nat→Mv→Option τ}{I:GI τ}{c:Cfg}{n:Nat}{y:GW τ}{t i:Nat}{cl:Cll}{se:Sea}{k:τ}{r1 r2:GR τ}
theorem RunOk.tick (R:RunOk W0 S0 c n y):RunOk W0 S0 c ((n+1:Nat):Int) y.tick:=by
 obtain⟨q1,q2,q3,q4,q5,q6,q7,q8,q9,q10,q11,q12,q13,q14,q15,q16,q17,q18⟩:=R
 exact⟨fun x hx=>(q1 x hx).mono (by omega),q2,q3,q4,q5,q6,q7,q8,fun e he=>by have:=q9 e he;omega,q10,q11,fun e he=>by have:=q12 e he;omega,q13,q14,q15,q16,q17,q18⟩
theorem RunOk.begin {mv:Mv}{v vc:Value}(R:RunOk W0 S0 c n y)(P:PM M I c n y)(ht:mv.thread=(t:Int))(hk:y.tasks[t]? = some none):RunOk W0 S0 c ((n+1:Nat):Int) ⟨y.s,ZB y.m t mv v vc,y.tasks.set t (some k)⟩:=by
 obtain⟨p1,p2,p3,p4,p5,p6,p7⟩:=P
 obtain⟨q1,q2,q3,q4,q5,q6,q7,q8,q9,q10,q11,q12,q13,q14,q15,q16,q17,q18⟩:=R
 have hlt:=(List.getElem?_eq_some_iff.1 hk).1
 have htT:(t:Int)<c.T:=by have:=p3.ok.T1;omega
 have hfree:∀x∈y.m.calls,x.thread=(t:Int)→x.end_ ≠ -1:=by
  intro x hx hxt he
  obtain⟨k',hk'⟩:=q18 x hx he
  rw[hxt,Yo,hk]at hk'
  cases hk'
 have hbn:∀x∈y.m.calls,x.begin_<n∧x.end_<n:=fun x hx=>⟨(q1 x hx).bn,by rcases(q1 x hx).e with e|e<;>omega⟩
 have hb0:∀x∈y.m.calls,0≤x.begin_:=fun x hx=>(q1 x hx).b0
 have hpl:∀th mv',PlOk y.m.calls th mv'→mv'<n→PlOk (y.m.calls++[⟨mv.thread,mv.op,mv.arg,mv.data,y.m.moves,-1,-1,0,0⟩]) th mv':=by
  intro th mv' Q hm
  obtain⟨g1,⟨x,hx,x1,x2,x3⟩,g3⟩:=Q
  have h0:0≤mv':=by have:=hb0 x hx;omega
  refine⟨?_,⟨x,List.mem_append_left _ hx,x1,x2,x3⟩,?_⟩
  ·intro z hz
   rcases List.mem_append.1 hz with hz|hz
   ·exact g1 z hz
   ·simp at hz;subst hz;simp only[];omega
  ·intro z hz hze
   rcases List.mem_append.1 hz with hz|hz
   ·exact g3 z hz hze
   ·simp at hz;subst hz;simp only[]at hze;omega
 refine⟨?_,?_,?_,?_,?_,q6,q7,q8,fun e he=>by have:=q9 e he;omega,q10,q11,fun e he=>by have:=q12 e he;omega,q13,q14,fun e he=>hpl _ _ (q15 e he) (q9 e he),fun e he=>hpl _ _ (q16 e he) (q12 e he),?_,?_⟩
 ·intro x hx
  rcases List.mem_append.1 hx with hx|hx
  ·exact(q1 x hx).mono (by omega)
  ·simp at hx;subst hx
   exact⟨by simp only[];omega,by simp only[];omega,by simp only[];omega,by simp only[];omega,.inl ⟨rfl,rfl,rfl⟩,.inl rfl⟩
 ·exact q2.snoc (fun x hx=>by simp only[];have:=(hbn x hx).1;omega)
 ·refine q3.snoc (fun x hx => ?_)
  simp only[]
  intro hxt
  exact⟨hfree x hx (by omega),by have:=(hbn x hx).2;omega⟩
 ·refine q4.snoc (fun x hx => ?_)
  simp only[]
  exact fun h=>h
 ·intro x hx z hz
  rcases List.mem_append.1 hx with hx|hx
  ·rcases List.mem_append.1 hz with hz|hz
   ·exact q5 x hx z hz
   ·simp at hz;subst hz;simp only[];have:=(hbn x hx).2;omega
  ·simp at hx;subst hx
   rcases List.mem_append.1 hz with hz|hz
   ·simp only[];have:=hb0 z hz;omega
   ·simp at hz;subst hz;simp only[];omega
 ·intro j kj sj hkj hsj
  simp only[ZB]at hkj hsj
  by_cases hj:j=t
  ·subst hj
   rw[Ye (by omega)]at hkj hsj
   cases hkj
   cases hsj
   exact⟨_,_,rfl,by simp only[ZB];rw[List.getElem?_append_right (Nat.le_refl _),Nat.sub_self];rfl,ht,rfl,⟨by simp,by simp,fun _=>rfl⟩⟩
  ·rw[ZT hj]at hkj hsj
   obtain⟨i,cl,a1,a2,a3,a4,a5⟩:=q17 j kj sj hkj hsj
   exact⟨i,cl,a1,by simp only[ZB];rw[List.getElem?_append_left (List.getElem?_eq_some_iff.1 a2).1];exact a2,a3,a4,a5⟩
 ·intro x hx he
  simp only[ZB]at hx
  rcases List.mem_append.1 hx with hx|hx
  ·obtain⟨k',hk'⟩:=q18 x hx he
   have hne:x.thread.toNat≠t:=by
    intro e;rw[e,hk]at hk';cases hk'
   exact⟨k',by simp only[];rw[ZT hne];exact hk'⟩
  ·simp at hx;subst hx
   refine⟨k,?_⟩
   simp only[ht,Yo]
   exact Ye hlt
theorem RunOk.step (R:RunOk W0 S0 c n y)(P:PM M I c n y)(G:GStepM M T I c n y t i cl se k r1 r2){Q:Nat→Prop}
  (E:EvQ Q i t (y.s.1,y.s.2,ZO y t i se) (r2.2.1.1,r2.2.1.2,r2.2.2.1)):RunOk W0 S0 c ((n+1:Nat):Int) (Qj y t i r2):=by
 obtain⟨z,q,v,O⟩:=G.out P
 obtain⟨p1,p2,p3,p4,p5,p6,p7⟩:=P
 obtain⟨q1,q2,q3,q4,q5,q6,q7,q8,q9,q10,q11,q12,q13,q14,q15,q16,q17,q18⟩:=R
 have hc:=G.hc
 have hl:=G.hl
 have hlt:=(List.getElem?_eq_some_iff.1 G.hse).1
 have hlk:=(List.getElem?_eq_some_iff.1 G.hk).1
 have hilt:=(List.getElem?_eq_some_iff.1 hc).1
 obtain⟨i',cl',b1,b2,b3,b4,b5⟩:=q17 t k se G.hk G.hse
 have hii:i'=i:=by omega
 subst hii
 rw[hc]at b2
 cases b2
 have hbn:=(q1 _ (Yc hc)).bn
 have hpt:=(q1 _ (Yc hc)).p
 have hmv:(ZO y t i' se).mem.move=(n:Int):=p2
 have hnw:(ZO y t i' se).now=(n:Int):=p2
 have H0:Hist W0 S0 c y.s.2 (ZO y t i' se):=by
  refine⟨hmv.trans hnw.symm,q6,q7,q8,fun e he=>by have:=q9 e he;omega,fun _ e he=>by have:=q9 e he;omega,fun e he hm => ?_,q10,q11,fun e he=>by have:=q12 e he;omega,fun e he hm => ?_,q13,q14⟩
  ·have:=q9 e he;omega
  ·have:=q12 e he;omega
 have T0:Told i' t cl (ZO y t i' se):=⟨⟨cl.point,hc,.inl rfl⟩,⟨{ se with ready:=true },Ye hlt,b5.1,b5.2.1,b5.2.2⟩⟩
 have H1:=H0.evq E
 obtain⟨⟨⟨z',T1,T2⟩,⟨se1,T3,T4,T5,T6⟩⟩,Tn⟩:=T0.evq E
 simp only[]at H1 T1 T2 T3 Tn
 have hnow:r2.2.2.1.now=n:=O.now
 have hthr:r2.2.2.1.thread=t:=O.thread
 have hz':z'=z:=by
  have:=O.cur.call
  rw[T1]at this
  injection this with this
  injection this
 subst hz'
 have hse1:se1={ se with ready:=true,kind:=q,value:=v }:=by
  have:=O.cur.seat
  rw[T3]at this
  injection this
 subst hse1
 simp only[]at T4 T5 T6
 have hz:z' = -1∨cl.begin_<z'∧z'≤n:=by
  rcases T2 with e|⟨e1,e2⟩
  ·rw[e];rcases hpt with e|⟨e1,e2,_⟩
   ·exact .inl e
   ·exact .inr ⟨e1,by omega⟩
  ·exact .inr ⟨e1,by rw[←hnow];exact e2⟩
 obtain⟨cl2,hcl2,g1,g2,g3,g4⟩:∃cl2:Cll,(Qj y t i' r2).m.calls=y.m.calls.set i' cl2∧cl2.thread=cl.thread∧cl2.begin_=cl.begin_∧cl2.point=z'∧(r2.1=false∧cl2.end_ = -1∧cl2.kind=0∧cl2.value=0∨r2.1=true∧cl2.end_=n∧1≤cl2.kind∧cl2.kind≤6∧(cl2.kind≠2→cl2.value=0)):=by
  refine⟨_,O.calls,?_⟩
  have hcl:=(q1 _ (Yc hc)).e
  have hcb:=(q1 _ (Yc hc)).b0
  by_cases hb:r2.1=true
  ·rw[if_pos hb]
   exact⟨rfl,rfl,rfl,.inr ⟨hb,rfl,T4,T5,T6⟩⟩
  ·rw[if_neg hb]
   exact⟨rfl,rfl,rfl,.inl ⟨by simpa using hb,b4,by show cl.kind=0;omega,by show cl.value=0;omega⟩⟩
 have ge:cl2.end_ = -1∨cl2.end_=n:=by rcases g4 with⟨_,e,_⟩|⟨_,e,_⟩<;>omega
 have hold:∀j x,j≠i'→y.m.calls[j]? = some x→x.begin_<n∧x.end_<n∧0≤x.begin_:=fun j x _ hx=>⟨(q1 x (Yc hx)).bn,by rcases(q1 x (Yc hx)).e with e|e<;>omega,(q1 x (Yc hx)).b0⟩
 have hcb0:=(q1 _ (Yc hc)).b0
 have hnew:∀(th mv':Int),th=(t:Int)→mv'=n→PlOk (y.m.calls.set i' cl2) th mv':=by
  rintro th mv' rfl rfl
  refine⟨?_,⟨cl2,Yc (Ye hilt),by rw[g1];exact b3,by rw[g2];exact hbn,by omega⟩,?_⟩
  ·intro x hx
   rcases Jf hx with rfl|⟨j,hj,hx⟩
   ·rw[g2];omega
   ·have:=(hold j x hj hx).1;omega
  ·intro x hx hxe
   rcases Jf hx with rfl|⟨j,hj,hx⟩
   ·rw[g1];exact b3
   ·have:=(hold j x hj hx).2.1;omega
 have hall:∀(th mv':Int),(mv'<n→PlOk y.m.calls th mv')→mv'≤n→(mv'=n→th=(t:Int))→PlOk (y.m.calls.set i' cl2) th mv':=by
  intro th mv' h1 h2 h3
  by_cases hm:mv'=n
  ·exact hnew th mv' (h3 hm) hm
  ·have hlt':mv'<n:=by omega
   have Q:=h1 hlt'
   have h0:0≤mv':=by
    obtain⟨x,hx,x1,x2,x3⟩:=Q.who
    have:=(q1 x hx).b0;omega
   exact Q.upd hc g1 g2 b4 ge hlt' h0
 have hLold:∀e∈r2.2.2.1.mem.log,e.move<n→PlOk y.m.calls e.thread e.move:=by
  obtain⟨l2,hl2,hn2⟩:=evq_log E
  intro e he hm
  simp only[]at hl2 hn2
  rw[hl2]at he
  rcases List.mem_append.1 he with he|he
  ·exact q15 e he
  ·have:=hn2 e he;omega
 have hSold:∀e∈r2.2.2.1.shifts,e.move<n→PlOk y.m.calls e.thread e.move:=by
  obtain⟨l2,hl2,hn2⟩:=evq_shifts E
  intro e he hm
  simp only[]at hl2 hn2
  rw[hl2]at he
  rcases List.mem_append.1 he with he|he
  ·exact q16 e he
  ·have:=hn2 e he;omega
 refine⟨?_,?_,?_,?_,?_,H1.ac,H1.slots,by rw[O.mem];exact H1.lsort,fun e he=>by rw[O.mem]at he;have:=H1.lle e he;omega,by rw[O.mem];exact H1.lrep,by rw[O.shifts];exact H1.ssort,fun e he=>by rw[O.shifts]at he;have:=H1.sle e he;omega,by rw[O.mem,O.shifts];exact H1.cross,by rw[O.shifts];exact H1.srep,?_,?_,?_,?_⟩
 ·rw[hcl2]
  intro x hx
  rcases Jf hx with rfl|⟨j,hj,hx⟩
  ·refine⟨by have:=G.htT;omega,by have:=G.htT;omega,by omega,by omega,?_,?_⟩
   ·rcases g4 with⟨_,e1,e2,e3⟩|⟨_,e1,e2,e3,e4⟩
    ·exact .inl ⟨e1,e2,e3⟩
    ·exact .inr ⟨by omega,by omega,e2,e3,e4⟩
   ·rw[g3,g2]
    rcases hz with e|⟨e1,e2⟩
    ·exact .inl e
    ·exact .inr ⟨e1,by omega,fun _=>by omega⟩
  ·exact(q1 x (Yc hx)).mono (by omega)
 ·rw[hcl2]
  exact q2.set (fun j z hj hz=>by rw[g2];exact q2 j i' z cl hj hz hc) (fun j z hj hz=>by rw[g2];exact q2 i' j cl z hj hc hz)
 ·rw[hcl2]
  refine q3.set (fun j z hj hz=>by rw[g2,g1];exact q3 j i' z cl hj hz hc) (fun j z hj hz => ?_)
  rw[g1]
  intro e
  exact absurd b4 (q3 i' j cl z hj hc hz e).1
 ·rw[hcl2]
  refine q4.set (fun j z hj hz => ?_) (fun j z hj hz => ?_)
  ·intro e
   have:=(hold j z (by omega) hz).2.1
   rcases ge with g|g<;>omega
  ·intro e
   have:=(hold j z (by omega) hz).2.1
   omega
 ·rw[hcl2]
  intro x hx w hw
  rcases Jf hx with rfl|⟨j,hj,hx2⟩
  ·rcases Jf hw with rfl|⟨j',hj',hw2⟩
   ·omega
   ·have:=hold j' w hj' hw2;omega
  ·rcases Jf hw with rfl|⟨j',hj',hw2⟩
   ·rw[g2];exact q5 x (Yc hx2) cl (Yc hc)
   ·exact q5 x (Yc hx2) w (Yc hw2)
 ·rw[hcl2,O.mem]
  exact fun e he=>hall _ _ (hLold e he) (by have:=H1.lle e he;omega) (fun hm=>by rw[←hthr];exact H1.lth e he (by omega))
 ·rw[hcl2,O.shifts]
  exact fun e he=>hall _ _ (hSold e he) (by have:=H1.sle e he;omega) (fun hm=>by rw[←hthr];exact H1.sth e he (by omega))
 ·intro j kj sj hkj hsj
  rw[O.seats]at hsj
  rw[hcl2]
  have hkj:(y.tasks.set t (if r2.1=true then none else some r2.2.2.2))[j]? = some (some kj):=hkj
  by_cases hj:j=t
  ·subst hj
   rw[Ye hlk]at hkj
   rw[Ye hlt]at hsj
   rcases g4 with⟨hb,e1,e2,e3⟩|⟨hb,_⟩
   ·rw[if_neg (by simp[hb])]at hkj hsj
    cases hkj
    cases hsj
    exact⟨i',cl2,hl,Ye hilt,by omega,e1,⟨T4,T5,T6⟩⟩
   ·rw[if_pos hb]at hkj
    cases hkj
  ·rw[ZT hj]at hkj hsj
   obtain⟨i2,cl3,w1,w2,w3,w4,w5⟩:=q17 j kj sj hkj hsj
   have hne:i2≠i':=by
    rintro rfl
    rw[hc]at w2;cases w2;omega
   exact⟨i2,cl3,w1,by rw[ZT hne];exact w2,w3,w4,w5⟩
 ·rw[hcl2]
  intro x hx he
  show ∃k',(y.tasks.set t (if r2.1=true then none else some r2.2.2.2))[x.thread.toNat]? = some (some k')
  rcases Jf hx with rfl|⟨j,hj,hx⟩
  ·rcases g4 with⟨hb,_⟩|⟨_,e1,_⟩
   ·refine⟨r2.2.2.2,?_⟩
    rw[g1,b3,Yo,Ye hlk,if_neg (by simp[hb])]
   ·omega
  ·obtain⟨k',hk'⟩:=q18 x (Yc hx) he
   have hne:x.thread.toNat≠t:=by
    intro e
    have hxt:x.thread=(t:Int):=by have:=(q1 x (Yc hx)).t0;omega
    rcases Nat.lt_or_gt_of_ne hj with hlt'|hgt
    ·exact(q3 j i' x cl hlt' hx hc (by omega)).1 he
    ·exact(q3 i' j cl x hgt hc hx (by omega)).1 b4
   exact⟨k',by rw[ZT hne];exact hk'⟩
end
end Go.Proofs.YtefjbdajgakgpaaGreat
