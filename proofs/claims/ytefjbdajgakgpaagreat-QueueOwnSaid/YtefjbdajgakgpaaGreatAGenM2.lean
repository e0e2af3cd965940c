/-
  Any moves of a machine whatever its tasks: what is kept, where the memory's words keep something of their own.
-/
import Derived.Test.YtefjbdajgakgpaaGreatAGen
set_option linter.all false
namespace Go.Proofs.YtefjbdajgakgpaaGreat
open Go.RowKit Hp
set_option maxRecDepth 100000
set_option maxHeartbeats 1000000
attribute [local irreducible] Go.Calls
section
structure Jd (M:List Int→Prop)(c:Cfg)(L S N:Nat)(h:Haz)(a:Are)(m:Mch):Prop extends Core c L S N h a m where
 mw:M m.mem.words
theorem Jd.mono {M:List Int→Prop}{c:Cfg}{L S N:Nat}{h:Haz}{a:Are}{m:Mch}(k:Jd M c L S N h a m){L' S' N':Nat}(hL:L≤L')(hS:S≤S')(hN:N≤N'):Jd M c L' S' N' h a m:=⟨k.toCore.mono hL hS hN,k.mw⟩
theorem Jd.of {M:List Int→Prop}{c:Cfg}{L S N:Nat}{h:Haz}{a:Are}{m m':Mch}(k:Jd M c L S N h a m)(h1:m'.mem.words=m.mem.words)(h2:m'.mem.log.length=m.mem.log.length)(h3:m'.mem.ahead.length=m.mem.ahead.length)(h4:m'.shifts.length=m.shifts.length):Jd M c L S N h a m':=⟨k.toCore.of h1 h2 h3 h4,by rw[h1];exact k.mw⟩
structure StM (M:List Int→Prop){τ:Type}(I:GI τ)(c:Cfg)(L S N:Nat)(t:Nat)(h:Haz)(a:Are)(r:GR τ):Prop where
 core:Jd M c L S N r.2.1.1 r.2.1.2 r.2.2.1
 fr:Fr t h r.2.1.1 a r.2.1.2
 fin:r.1=false→I t true (r.2.1.1.held.getD t 0) (r.2.1.2.caches.getD t []) r.2.2.2
structure TInM (M:List Int→Prop)(c:Cfg){τ:Type}(T:Tasks (Haz×Are) τ)(mkr:Haz×Are→Nat→Mv→Option τ)(I:GI τ):Prop where
 rdy:∀ {L S N:Nat} {h:Haz} {a:Are} {m:Mch} {i t:Nat} {cl:Cll} {se:Sea} {k:τ},Jd M c L S N h a m→(t:Int)<c.T→I t false (h.held.getD t 0) (a.caches.getD t []) k →
  StM M I c L (S+1) N t h a (T.rdy (h,a) m i t cl se k)∧(T.rdy (h,a) m i t cl se k).2.2.1.used=m.used
 stp:∀ {L S N:Nat} {h:Haz} {a:Are} {m:Mch} {i t:Nat} {cl:Cll} {se:Sea} {k:τ},Jd M c L S N h a m→N<1000000→(t:Int)<c.T→I t true (h.held.getD t 0) (a.caches.getD t []) k →
  StG I c (L+1) (S+66) (N+1) t h a (T.stp (h,a) m i t cl se k)
 okr:∀ {L S N:Nat} {h:Haz} {a:Are} {m:Mch} {t:Nat} {k:τ},Jd M c L S N h a m→m.used=false→L<4294967296→S<1000000000→N<1000000→(t:Int)<c.T→I t false (h.held.getD t 0) (a.caches.getD t []) k→T.okr (h,a) m t k
 oks:∀ {L S N:Nat} {h:Haz} {a:Are} {m:Mch} {t:Nat} {k:τ},Jd M c L S N h a m→m.used=false→L<4294967296→S<1000000000→N<1000000→(t:Int)<c.T→I t true (h.held.getD t 0) (a.caches.getD t []) k→T.oks (h,a) m t k
 made:∀ {L S N:Nat} {h:Haz} {a:Are} {m:Mch} {t:Nat} {mv:Mv} {k:τ},Jd M c L S N h a m→(t:Int)<c.T→mkr (h,a) t mv=some k→∀ca,I t false (h.held.getD t 0) ca k
structure GHalfM (M:List Int→Prop){τ:Type}(I:GI τ)(c:Cfg)(L S N:Nat)(i t:Nat)(cl:Cll)(se:Sea)(h:Haz)(a:Are)(m:Mch)(r:GR τ):Prop extends StM M I c L S N t h a r where
 frame:Z9 i t cl se m r.2.2.1
structure PM (M:List Int→Prop){τ:Type}(I:GI τ)(c:Cfg)(n:Nat)(y:GW τ):Prop where
 cur:y.m.cur=none
 moves:y.m.moves=(n:Int)
 core:Jd M c n (100*n) n y.s.1 y.s.2 y.m
 tasks:y.tasks.length=c.T.toNat
 seats:y.m.seats.length=c.T.toNat
 calls:y.m.calls.length≤n
 task:∀(t:Nat) (k:τ) (se:Sea),y.tasks[t]? = some (some k)→y.m.seats[t]? = some se→(∃i:Nat,se.last=(i:Int)∧i<y.m.calls.length)∧I t se.ready (y.s.1.held.getD t 0) (y.s.2.caches.getD t []) k
structure GStepM (M:List Int→Prop){τ:Type}(T:Tasks (Haz×Are) τ)(I:GI τ)(c:Cfg)(n:Nat)(y:GW τ)(t i:Nat)(cl:Cll)(se:Sea)(k:τ)(r1 r2:GR τ):Prop where
 htT:(t:Int)<c.T
 hk:y.tasks[t]? = some (some k)
 hse:y.m.seats[t]? = some se
 hl:se.last=(i:Int)
 hc:y.m.calls[i]? = some cl
 c0:Jd M c n (100*n) n y.s.1 y.s.2 (QD y t i se)
 i0:I t se.ready (y.s.1.held.getD t 0) (y.s.2.caches.getD t []) k
 h1:GHalfM M I c n (100*n+1) n i t cl { se with ready:=true } y.s.1 y.s.2 (QD y t i se) r1
 used1:r1.2.2.1.used=false
 rdy:se.ready=false∧r1=T.rdy y.s (QD y t i se) i t cl { se with ready:=true } k∨se.ready=true∧r1=(false,y.s,QD y t i se,k)
 h2:GHalf I c (n+1) (100*n+67) (n+1) i t cl { se with ready:=true } y.s.1 y.s.2 (QD y t i se) r2
 stp:r1.1=true∧r2=r1∨r1.1=false∧∃z q v,ZO r1.2.2.1 i t { cl with point:=z } { se with ready:=true,kind:=q,value:=v }∧r2=T.stp r1.2.1 r1.2.2.1 i t { cl with point:=z } { se with ready:=true,kind:=q,value:=v } r1.2.2.2
section
variable {M:List Int→Prop}{τ:Type}{T:Tasks (Haz×Are) τ}{mkr:Haz×Are→Nat→Mv→Option τ}{I:GI τ}{c:Cfg}{n:Nat}{y y':GW τ}{K:Int→Option Value}
theorem gm_rdy (hT:T.Good)(hI:TInM M c T mkr I){L S N:Nat}{h:Haz}{a:Are}{m:Mch}{i t:Nat}{cl:Cll}{se:Sea}{k:τ}{now:Int}(C:Jd M c L S N h a m)(ht:(t:Int)<c.T)(hc:m.calls[i]? = some cl)(hs:t<m.seats.length)
  (I0:I t se.ready (h.held.getD t 0) (a.caches.getD t []) k) :
  GHalfM M I c L (S+1) N i t cl { se with ready:=true } h a (m.prep t i now se) (Zn T (h,a) m i t cl se k now)∧(Zn T (h,a) m i t cl se k now).2.2.1.used=false:=by
 have C0:Jd M c L S N h a (m.prep t i now se):=C.of rfl rfl rfl rfl
 have hci:ZO (m.prep t i now se) i t cl { se with ready:=true }:=⟨rfl,hc,by simp[Mch.prep,hs]⟩
 unfold Zn
 split
 ·rename_i hf
  rw[hf]at I0
  obtain⟨e1,e4⟩:=hI.rdy (i:=i) (cl:=cl) (se:={ se with ready:=true }) C0 ht I0
  exact⟨⟨e1,hT.fr _ _ _ _ _ _ _ hci⟩,e4⟩
 ·rename_i hf
  have hf:se.ready=true:=by simpa using hf
  rw[hf]at I0
  exact⟨⟨⟨C0.mono (by omega) (by omega) (by omega),.refl ..,fun _=>I0⟩,(Same.refl _).frame hci⟩,rfl⟩
theorem PM.may {ok:Haz×Are→Prop}(hK:∀ {L S N:Nat} {h:Haz} {a:Are} {m:Mch},Jd M c L S N h a m→ok (h,a))(hT:T.Good)(hI:TInM M c T mkr I)(P:PM M I c n y)(hn:n<65536)(mv:Mv):MayMove T ok c.T.toNat y mv:=by
 obtain⟨p1,p2,p3,p4,p5,p6,p7⟩:=P
 have hok:=p3.ok
 have hT1:=hok.T1
 refine⟨p1,by omega,by omega,by omega,p4,p5,hK p3,by omega,?_⟩
 intro t k se ht hop hk hse
 obtain⟨⟨i,e1,e2⟩,I0⟩:=p7 t k se hk hse
 have hlt:=(List.getElem?_eq_some_iff.1 hse).1
 have htT:(t:Int)<c.T:=by omega
 have C0:Jd M c n (100*n) n y.s.1 y.s.2 (y.tick.m.prep t i y.m.moves se):=p3.of rfl rfl rfl rfl
 have C1:Jd M c n (100*n) n y.s.1 y.s.2 y.tick.m:=p3.of rfl rfl rfl rfl
 refine⟨i,_,e1,Yd e2,fun hf => ?_,fun hf => ?_⟩
 ·rw[hf]at I0
  exact hI.okr C0 rfl (by omega) (by omega) (by omega) htT I0
 ·obtain⟨⟨⟨r1,r2,r3⟩,_⟩,r5⟩:=gm_rdy hT hI (i:=i) (cl:=y.m.calls[i]) (now:=y.m.moves) C1 htT (Yd e2) hlt I0
  exact hI.oks r1 r5 (by omega) (by omega) (by omega) htT (r3 hf)
theorem PM.tick (P:PM M I c n y):PM M I c (n+1) y.tick:=by
 obtain⟨p1,p2,p3,p4,p5,p6,p7⟩:=P
 exact⟨p1,by simp only[Wst.tick];omega,(p3.mono (by omega) (by omega) (by omega)).of rfl rfl rfl rfl,p4,p5,by simp only[Wst.tick];omega,p7⟩
theorem gm_others {t j:Nat}{b:Bool}{h h':Haz}{a a':Are}{k:τ}(hj:j≠t)(f:Fr t h h' a a')(I0:I j b (h.held.getD j 0) (a.caches.getD j []) k):I j b (h'.held.getD j 0) (a'.caches.getD j []) k:=by
 rw[Yb,Yb]at I0 ⊢
 rw[f.held j hj,f.caches j hj]
 exact I0
theorem gm_open (hT:T.Good)(hI:TInM M c T mkr I){mv:Mv}{b:Bool}(P:PM M I c n y)(hn:n<65536)(hM:MoveTo T K mkr y mv b y') :
  (y'=y.tick) ∨
  (∃(t:Nat) (k:τ) (v vc:Value),mv.thread=(t:Int)∧(t:Int)<c.T∧mv.op≠0∧y.tasks[t]? = some none∧K mv.op≠none∧mkr y.s t mv=some k∧y'=⟨y.s,ZN y.m t mv v vc,y.tasks.set t (some k)⟩) ∨
  (∃(t i:Nat) (cl:Cll) (se:Sea) (k:τ) (r1 r2:GR τ),mv.thread=(t:Int)∧mv.op=0∧GStepM M T I c n y t i cl se k r1 r2∧y'=Q1 y t i r2):=by
 cases hM with
 | out=>exact .inl rfl
 | idle=>exact .inl rfl
 | busy=>exact .inl rfl
 | nokit=>exact .inl rfl
 | refused=>exact .inl rfl
 | begin_ t k v vc ht hop hk hKn hmk=>
  have hlt:=(List.getElem?_eq_some_iff.1 hk).1
  have htT:(t:Int)<c.T:=by have:=P.core.ok.T1;have:=P.tasks;omega
  exact .inr (.inl ⟨t,k,v,vc,ht,htT,hop,hk,hKn,hmk,rfl⟩)
 | step t i cl se k ht hop hk hse hl hc=>
  refine .inr (.inr ?_)
  obtain⟨p1,p2,p3,p4,p5,p6,p7⟩:=P
  have hlt:=(List.getElem?_eq_some_iff.1 hse).1
  have htT:(t:Int)<c.T:=by have:=p3.ok.T1;omega
  obtain⟨_,I0⟩:=p7 t k se hk hse
  have C1:Jd M c n (100*n) n y.s.1 y.s.2 y.tick.m:=p3.of rfl rfl rfl rfl
  have C0:Jd M c n (100*n) n y.s.1 y.s.2 (QD y t i se):=p3.of rfl rfl rfl rfl
  have hci:ZO (QD y t i se) i t cl { se with ready:=true }:=⟨rfl,hc,by simp[QD,Mch.prep,Wst.tick,hlt]⟩
  obtain⟨G1,u1⟩:=gm_rdy hT hI (i:=i) (cl:=cl) (now:=y.m.moves) C1 htT hc hlt I0
  have hsd:y.s=(y.s.1,y.s.2):=rfl
  have hrd:se.ready=false∧Zn T (y.s.1,y.s.2) y.tick.m i t cl se k y.m.moves=T.rdy y.s (QD y t i se) i t cl { se with ready:=true } k∨se.ready=true∧Zn T (y.s.1,y.s.2) y.tick.m i t cl se k y.m.moves=(false,y.s,QD y t i se,k):=by
   unfold Zn
   split
   ·rename_i hf;exact .inl ⟨hf,rfl⟩
   ·rename_i hf;exact .inr ⟨by simpa using hf,rfl⟩
  have G2:∃r2,r2=QR T i t (Zn T (y.s.1,y.s.2) y.tick.m i t cl se k y.m.moves)∧GHalf I c (n+1) (100*n+67) (n+1) i t cl { se with ready:=true } y.s.1 y.s.2 (QD y t i se) r2 ∧
    ((Zn T (y.s.1,y.s.2) y.tick.m i t cl se k y.m.moves).1=true∧r2=Zn T (y.s.1,y.s.2) y.tick.m i t cl se k y.m.moves∨(Zn T (y.s.1,y.s.2) y.tick.m i t cl se k y.m.moves).1=false ∧
     ∃z q v,ZO (Zn T (y.s.1,y.s.2) y.tick.m i t cl se k y.m.moves).2.2.1 i t { cl with point:=z } { se with ready:=true,kind:=q,value:=v } ∧
      r2=T.stp (Zn T (y.s.1,y.s.2) y.tick.m i t cl se k y.m.moves).2.1 (Zn T (y.s.1,y.s.2) y.tick.m i t cl se k y.m.moves).2.2.1 i t { cl with point:=z } { se with ready:=true,kind:=q,value:=v } (Zn T (y.s.1,y.s.2) y.tick.m i t cl se k y.m.moves).2.2.2):=by
   generalize Zn T (y.s.1,y.s.2) y.tick.m i t cl se k y.m.moves=r at G1 u1 ⊢
   obtain⟨⟨r1,r2,r3⟩,r4⟩:=G1
   refine⟨_,rfl,?_⟩
   unfold QR
   split
   ·rename_i hf
    obtain⟨z,kk,vv,hcc⟩:=r4.curIn hci
    rw[hcc.getC,hcc.getS]
    obtain⟨e1,e2,e3⟩:=hI.stp (i:=i) (cl:={ cl with point:=z }) (se:={ se with ready:=true,kind:=kk,value:=vv }) r1 (by omega) htT (r3 hf)
    have fs:=hT.fs r.2.1 _ i t _ _ r.2.2.2 hcc
    exact⟨⟨⟨e1,⟨fun j hj=>(e2.held j hj).trans (r2.held j hj),fun j hj=>(e2.caches j hj).trans (r2.caches j hj)⟩,e3⟩,r4.trans' fs⟩,.inr ⟨hf,z,kk,vv,hcc,rfl⟩⟩
   ·rename_i hf
    exact⟨⟨⟨r1.toCore.mono (by omega) (by omega) (by omega),r2,r3⟩,r4⟩,.inl ⟨by simpa using hf,rfl⟩⟩
  obtain⟨r2,e2,G2,G3⟩:=G2
  refine⟨t,i,cl,se,k,_,r2,ht,hop,⟨htT,hk,hse,hl,hc,C0,I0,G1,u1,hrd,G2,G3⟩,?_⟩
  subst e2
  rfl
theorem PM.move (hT:T.Good)(hI:TInM M c T mkr I){mv:Mv}{b:Bool}(P:PM M I c n y)(hn:n<65536)(hw:M y'.m.mem.words)(h:MoveTo T K mkr y mv b y'):PM M I c (n+1) y':=by
 rcases gm_open hT hI P hn h with rfl|⟨t,k,v,vc,ht,htT,hop,hk,hKn,hmk,rfl⟩|⟨t,i,cl,se,k,r1,r,ht,hop,G,rfl⟩
 ·exact P.tick
 ·obtain⟨p1,p2,p3,p4,p5,p6,p7⟩:=P
  have hlt:=(List.getElem?_eq_some_iff.1 hk).1
  refine⟨p1,by simp only[ZN];omega,(p3.mono (by omega) (by omega) (by omega)).of rfl rfl rfl rfl,by simp[p4],by simp[ZN,p5],by simp[ZN];omega,?_⟩
  intro j kj sj hkj hsj
  simp only[ZN]at hkj hsj
  by_cases hj:j=t
  ·subst hj
   rw[Ye (by omega)]at hkj hsj
   cases hkj
   cases hsj
   exact⟨⟨_,rfl,by simp[ZN]⟩,hI.made p3 htT hmk _⟩
  ·rw[set_ne hj]at hkj hsj
   obtain⟨⟨i',q1,q2⟩,q3⟩:=p7 j kj sj hkj hsj
   exact⟨⟨i',q1,by simp[ZN];omega⟩,q3⟩
 ·obtain⟨p1,p2,p3,p4,p5,p6,p7⟩:=P
  have hlt:=(List.getElem?_eq_some_iff.1 G.hse).1
  have hci:ZO (QD y t i se) i t cl { se with ready:=true }:=⟨rfl,G.hc,by simp[QD,Mch.prep,Wst.tick,hlt]⟩
  obtain⟨⟨e1,e2,e3⟩,e4⟩:=G.h2
  have hc:=G.hc
  obtain⟨z,kk,vv,hcc⟩:=e4.curIn hci
  obtain⟨z1,hz1⟩:=e4.calls
  obtain⟨k1,v1,hk1⟩:=e4.seats
  have hcl:r.2.2.1.calls.length=y.m.calls.length:=by rw[hz1];simp[QD,Mch.prep,Wst.tick]
  have hsl:r.2.2.1.seats.length=y.m.seats.length:=by rw[hk1];simp[QD,Mch.prep,Wst.tick]
  have hmv:r.2.2.1.moves=y.m.moves+1:=e4.moves
  have hsS:∀j,j≠t→r.2.2.1.seats[j]? = y.m.seats[j]? := by
   intro j hj
   rw[hk1,set_ne hj]
   simp only[QD,Mch.prep,Wst.tick]
   rw[set_ne hj]
  have hw1:M r.2.2.1.mem.words:=by
   have e:(Q1 y t i r).m.mem=r.2.2.1.mem:=by unfold Q1 Qv;split<;>rfl
   rw[e]at hw;exact hw
  unfold Q1
  rw[hcc.getC,hcc.getS]
  by_cases hb:r.1=true
  ·simp only[Qv,if_pos hb]
   refine⟨rfl,by show r.2.2.1.moves=_;omega,⟨(e1.mono (by omega) (by omega) (by omega)).of rfl rfl rfl rfl,hw1⟩,by simp[p4],by simp[hsl,p5],by simp;omega,?_⟩
   intro j kj sj hkj hsj
   simp only[]at hkj hsj
   by_cases hj:j=t
   ·subst hj
    rw[Ye (by omega)]at hkj
    simp at hkj
   ·rw[set_ne hj]at hkj hsj
    rw[hsS j hj]at hsj
    obtain⟨⟨i',q1,q2⟩,q3⟩:=p7 j kj sj hkj hsj
    exact⟨⟨i',q1,by simp;omega⟩,gm_others hj e2 q3⟩
  ·simp only[Qv,if_neg hb]
   refine⟨rfl,by show r.2.2.1.moves=_;omega,⟨(e1.mono (by omega) (by omega) (by omega)).of rfl rfl rfl rfl,hw1⟩,by simp[p4],by simp[hsl,p5],by simp;omega,?_⟩
   intro j kj sj hkj hsj
   simp only[]at hkj hsj
   by_cases hj:j=t
   ·subst hj
    rw[Ye (by omega)]at hkj
    simp at hkj
    subst hkj
    rw[hcc.seat]at hsj
    cases hsj
    exact⟨⟨i,G.hl,by have:=(List.getElem?_eq_some_iff.1 hc).1;simp only[];omega⟩,e3 (by simpa using hb)⟩
   ·rw[set_ne hj]at hkj
    rw[hsS j hj]at hsj
    obtain⟨⟨i',q1,q2⟩,q3⟩:=p7 j kj sj hkj hsj
    exact⟨⟨i',q1,by simp only[];omega⟩,gm_others hj e2 q3⟩
structure JM (M:List Int→Prop)(T:Tasks (Haz×Are) τ)(mkr:Haz×Are→Nat→Mv→Option τ)(I:GI τ)(c:Cfg)(ops:Int→Prop)(J:Nat→GW τ→Prop):Prop where
 tick:∀n y,n<65536→PM M I c n y→J n y→J (n+1) y.tick
 beg:∀n y mv t k v vc,n<65536→PM M I c n y→J n y→mv.thread=((t:Nat):Int)→(t:Int)<c.T→ops mv.op→y.tasks[t]? = some none→mkr y.s t mv=some k→J (n+1) ⟨y.s,ZN y.m t mv v vc,y.tasks.set t (some k)⟩
 mw:∀n y t i cl se k r1 r2,n<65536→PM M I c n y→GStepM M T I c n y t i cl se k r1 r2→J n y→M (Q1 y t i r2).m.mem.words
 step:∀n y t i cl se k r1 r2,n<65536→PM M I c n y→GStepM M T I c n y t i cl se k r1 r2→PM M I c (n+1) (Q1 y t i r2)→J n y→J (n+1) (Q1 y t i r2)
theorem JM.moves {ops:Int→Prop}{J:Nat→GW τ→Prop}(hJ:JM M T mkr I c ops J)(hT:T.Good)(hI:TInM M c T mkr I)(hK:∀o,K o≠none→ops o){mv:Mv}{b:Bool}(P:PM M I c n y)(j:J n y)(hn:n<65536)(h:MoveTo T K mkr y mv b y'):PM M I c (n+1) y'∧J (n+1) y':=by
 have hw:M y'.m.mem.words:=by
  rcases gm_open hT hI P hn h with rfl|⟨t,k,v,vc,ht,htT,hop,hk,hKn,hmk,rfl⟩|⟨t,i,cl,se,k,r1,r,ht,hop,G,rfl⟩
  ·exact P.core.mw
  ·exact P.core.mw
  ·exact hJ.mw n y t i cl se k r1 r hn P G j
 have P':=P.move hT hI hn hw h
 refine⟨P',?_⟩
 rcases gm_open hT hI P hn h with rfl|⟨t,k,v,vc,ht,htT,hop,hk,hKn,hmk,rfl⟩|⟨t,i,cl,se,k,r1,r,ht,hop,G,rfl⟩
 ·exact hJ.tick n y hn P j
 ·exact hJ.beg n y mv t k v vc hn P j ht htT (hK _ hKn) hk hmk
 ·exact hJ.step n y t i cl se k r1 r hn P G P' j
end
end
section
section
variable {τ:Type}{T:Tasks (Haz×Are) τ}{mkr:Haz×Are→Nat→Mv→Option τ}{I:GI τ}{c:Cfg}{n:Nat}{y:GW τ}{t i:Nat}{cl:Cll}{se:Sea}{k:τ}{r1 r2:GR τ}
structure GOut (n:Nat)(y:GW τ)(t i:Nat)(cl:Cll)(se:Sea)(r:GR τ)(z q v:Int):Prop where
 cur:ZO r.2.2.1 i t { cl with point:=z } { se with ready:=true,kind:=q,value:=v }
 calls:(Q1 y t i r).m.calls=y.m.calls.set i (if r.1=true then { cl with point:=z,end_:=n,kind:=q,value:=v } else { cl with point:=z })
 seats:(Q1 y t i r).m.seats=y.m.seats.set t (if r.1=true then { se with ready:=true,kind:=q,value:=v,task:=.nilIface } else { se with ready:=true,kind:=q,value:=v })
 mem:(Q1 y t i r).m.mem=r.2.2.1.mem
 shifts:(Q1 y t i r).m.shifts=r.2.2.1.shifts
 thread:r.2.2.1.thread=(t:Int)
 now:r.2.2.1.now=(n:Int)
structure RunG (B:Nat→Cll→Sea→τ→Prop)(E:Cll→Prop)(y:GW τ):Prop where
 busy:∀(t:Nat) (k:τ) (se:Sea),y.tasks[t]? = some (some k)→y.m.seats[t]? = some se→∃(i:Nat) (cl:Cll),se.last=(i:Int)∧y.m.calls[i]? = some cl∧cl.thread=(t:Int)∧cl.end_ = -1∧B t cl se k
 ended:∀cl∈y.m.calls,cl.end_ ≠ -1→0≤cl.end_∧E cl
theorem RunG.tick {B:Nat→Cll→Sea→τ→Prop}{E:Cll→Prop}(R:RunG B E y):RunG B E y.tick:=⟨R.busy,R.ended⟩
theorem RunG.begin {B:Nat→Cll→Sea→τ→Prop}{E:Cll→Prop}(R:RunG B E y){mv:Mv}{v vc:Value}{k':τ}(ht:mv.thread=(t:Int))(hk:y.tasks[t]? = some none)(hl:y.tasks.length=y.m.seats.length)
  (hB:B t ⟨mv.thread,mv.op,mv.arg,mv.data,y.m.moves,-1,-1,0,0⟩ ⟨v,false,(y.m.calls.length:Int),1,0⟩ k'):RunG B E ⟨y.s,ZN y.m t mv v vc,y.tasks.set t (some k')⟩:=by
 have hlt:=(List.getElem?_eq_some_iff.1 hk).1
 refine⟨?_,?_⟩
 ·intro j kj sj hkj hsj
  simp only[ZN]at hkj hsj ⊢
  by_cases hj:j=t
  ·subst hj
   rw[Ye hlt]at hkj
   rw[Ye (by omega)]at hsj
   cases hkj
   cases hsj
   exact⟨_,_,rfl,by simp,ht,rfl,hB⟩
  ·rw[set_ne hj]at hkj hsj
   obtain⟨i',cl',q1,q2,q3,q4,q5⟩:=R.busy j kj sj hkj hsj
   have:=(List.getElem?_eq_some_iff.1 q2).1
   exact⟨i',cl',q1,by rw[List.getElem?_append_left this];exact q2,q3,q4,q5⟩
 ·intro cl hcl he
  simp only[ZN]at hcl
  rcases List.mem_append.1 hcl with h|h
  ·exact R.ended cl h he
  ·simp at h
   subst h
   exact absurd rfl he
end
end
section
section
variable {M:List Int→Prop}{τ:Type}{T:Tasks (Haz×Are) τ}{mkr:Haz×Are→Nat→Mv→Option τ}{I:GI τ}{c:Cfg}{n:Nat}{y:GW τ}{t i:Nat}{cl:Cll}{se:Sea}{k:τ}{r1 r2:GR τ}
theorem GStepM.out (P:PM M I c n y)(G:GStepM M T I c n y t i cl se k r1 r2):∃z q v,GOut n y t i cl se r2 z q v:=by
 have hlt:=(List.getElem?_eq_some_iff.1 G.hse).1
 have hli:=(List.getElem?_eq_some_iff.1 G.hc).1
 have hci:ZO (QD y t i se) i t cl { se with ready:=true }:=⟨rfl,G.hc,by simp[QD,Mch.prep,Wst.tick,hlt]⟩
 have f:=G.h2.frame
 obtain⟨z,hz⟩:=f.calls
 obtain⟨q,v,hq⟩:=f.seats
 have hz:r2.2.2.1.calls=y.m.calls.set i { cl with point:=z }:=hz
 have hq:r2.2.2.1.seats=y.m.seats.set t { se with ready:=true,kind:=q,value:=v }:=by
  rw[hq]
  simp only[QD,Mch.prep,Wst.tick,Yl]
 have hcu:ZO r2.2.2.1 i t { cl with point:=z } { se with ready:=true,kind:=q,value:=v } :=
  ⟨by rw[f.cur];rfl,by rw[hz];exact Ye hli,by rw[hq];exact Ye hlt⟩
 have hn:y.m.moves=(n:Int):=P.moves
 refine⟨z,q,v,hcu,?_,?_,?_,?_,f.thread,by rw[f.now];exact hn⟩
 ·unfold Q1 Qv
  rw[hcu.getC,hcu.getS,hn]
  split
  ·simp only[hz,Yl]
  ·exact hz
 ·unfold Q1 Qv
  rw[hcu.getC,hcu.getS]
  split
  ·simp only[hq,Yl]
  ·exact hq
 ·unfold Q1 Qv
  split<;>rfl
 ·unfold Q1 Qv
  split<;>rfl
theorem RunG.stepM {B:Nat→Cll→Sea→τ→Prop}{E:Cll→Prop}(R:RunG B E y)(P:PM M I c n y)(G:GStepM M T I c n y t i cl se k r1 r2){z q v:Int}(O:GOut n y t i cl se r2 z q v)
  (hB:r2.1=false→B t { cl with point:=z } { se with ready:=true,kind:=q,value:=v } r2.2.2.2) (hE:r2.1=true→E { cl with point:=z,end_:=n,kind:=q,value:=v }):RunG B E (Q1 y t i r2):=by
 have hlt:=(List.getElem?_eq_some_iff.1 G.hse).1
 have hlk:=(List.getElem?_eq_some_iff.1 G.hk).1
 have hli:=(List.getElem?_eq_some_iff.1 G.hc).1
 obtain⟨i0,cl0,a1,a2,a3,a4,a5⟩:=R.busy t k se G.hk G.hse
 have hi0:i0=i:=by have:=G.hl;omega
 subst hi0
 have hcl:cl0=cl:=by have:=G.hc;rw[a2]at this;cases this;rfl
 subst hcl
 refine⟨?_,?_⟩
 ·intro j kj sj hkj hsj
  rw[O.seats]at hsj
  rw[O.calls]
  have hkj:(y.tasks.set t (if r2.1=true then none else some r2.2.2.2))[j]? = some (some kj):=hkj
  by_cases hj:j=t
  ·subst hj
   rw[Ye hlk]at hkj
   rw[Ye hlt]at hsj
   by_cases hb:r2.1=true
   ·rw[if_pos hb]at hkj;cases hkj
   ·rw[if_neg hb]at hkj hsj ⊢
    cases hkj
    cases hsj
    exact⟨i0,_,a1,Ye hli,a3,a4,hB (by simpa using hb)⟩
  ·rw[set_ne hj]at hkj hsj
   obtain⟨i',cl',q1,q2,q3,q4,q5⟩:=R.busy j kj sj hkj hsj
   have hne:i'≠i0:=by
    intro e
    subst e
    rw[a2]at q2
    cases q2
    omega
   exact⟨i',cl',q1,by rw[set_ne hne];exact q2,q3,q4,q5⟩
 ·intro x hx he
  rw[O.calls]at hx
  rcases List.mem_or_eq_of_mem_set hx with h|h
  ·exact R.ended x h he
  ·by_cases hb:r2.1=true
   ·rw[if_pos hb]at h
    subst h
    exact⟨by simp only[];omega,hE hb⟩
   ·rw[if_neg hb]at h
    subst h
    exact absurd a4 he
end
end
end Go.Proofs.YtefjbdajgakgpaaGreat
