import Derived.Test.YtefjbdajgakgpaaGreatDGen
set_option linter.all false
namespace Go.Proofs.YtefjbdajgakgpaaGreat
section
open Go.RowKit Hp
set_option maxRecDepth 100000
set_option maxHeartbeats 1000000
attribute [local irreducible] Go.Calls
structure Jz (M:List Int→Prop)(c:Cfg)(L S N:Nat)(h:Haz)(a:Are)(m:Mch):Prop extends Core c L S N h a m where
 mw:M m.mem.words
theorem Jz.mono {M:List Int→Prop}{c:Cfg}{L S N:Nat}{h:Haz}{a:Are}{m:Mch}(k:Jz M c L S N h a m){L' S' N':Nat}(hL:L≤L')(hS:S≤S')(hN:N≤N'):Jz M c L' S' N' h a m:=⟨k.toCore.mono hL hS hN,k.mw⟩
theorem Jz.of {M:List Int→Prop}{c:Cfg}{L S N:Nat}{h:Haz}{a:Are}{m m':Mch}(k:Jz M c L S N h a m)(h1:m'.mem.words=m.mem.words)(h2:m'.mem.log.length=m.mem.log.length)(h3:m'.mem.ahead.length=m.mem.ahead.length)(h4:m'.shifts.length=m.shifts.length):Jz M c L S N h a m':=⟨k.toCore.of h1 h2 h3 h4,by rw[h1];exact k.mw⟩
structure StM (M:List Int→Prop){τ:Type}(I:GI τ)(c:Cfg)(L S N:Nat)(t:Nat)(h:Haz)(a:Are)(r:GR τ):Prop where
 core:Jz M c L S N r.2.1.1 r.2.1.2 r.2.2.1
 fr:Fr t h r.2.1.1 a r.2.1.2
 fin:r.1=false→I t true (r.2.1.1.held.getD t 0) (r.2.1.2.caches.getD t []) r.2.2.2
structure TInM (M:List Int→Prop)(c:Cfg){τ:Type}(T:JH (Haz×Are) τ)(mkr:Haz×Are→Nat→Mv→Option τ)(I:GI τ):Prop where
 rdy:∀ {L S N:Nat} {h:Haz} {a:Are} {m:Mch} {i t:Nat} {cl:Cll} {se:Sea} {k:τ},Jz M c L S N h a m→(t:Int)<c.T→I t false (h.held.getD t 0) (a.caches.getD t []) k →
  StM M I c L (S+1) N t h a (T.rdy (h,a) m i t cl se k)∧(T.rdy (h,a) m i t cl se k).2.2.1.used=m.used
 stp:∀ {L S N:Nat} {h:Haz} {a:Are} {m:Mch} {i t:Nat} {cl:Cll} {se:Sea} {k:τ},Jz M c L S N h a m→N<1000000→(t:Int)<c.T→I t true (h.held.getD t 0) (a.caches.getD t []) k →
  StG I c (L+1) (S+66) (N+1) t h a (T.stp (h,a) m i t cl se k)
 okr:∀ {L S N:Nat} {h:Haz} {a:Are} {m:Mch} {t:Nat} {k:τ},Jz M c L S N h a m→m.used=false→L<4294967296→S<1000000000→N<1000000→(t:Int)<c.T→I t false (h.held.getD t 0) (a.caches.getD t []) k→T.okr (h,a) m t k
 oks:∀ {L S N:Nat} {h:Haz} {a:Are} {m:Mch} {t:Nat} {k:τ},Jz M c L S N h a m→m.used=false→L<4294967296→S<1000000000→N<1000000→(t:Int)<c.T→I t true (h.held.getD t 0) (a.caches.getD t []) k→T.oks (h,a) m t k
 made:∀ {L S N:Nat} {h:Haz} {a:Are} {m:Mch} {t:Nat} {mv:Mv} {k:τ},Jz M c L S N h a m→(t:Int)<c.T→mkr (h,a) t mv=some k→∀ca,I t false (h.held.getD t 0) ca k
structure GHalfM (M:List Int→Prop){τ:Type}(I:GI τ)(c:Cfg)(L S N:Nat)(i t:Nat)(cl:Cll)(se:Sea)(h:Haz)(a:Are)(m:Mch)(r:GR τ):Prop extends StM M I c L S N t h a r where
 frame:Qz i t cl se m r.2.2.1
structure PM (M:List Int→Prop){τ:Type}(I:GI τ)(c:Cfg)(n:Nat)(y:GW τ):Prop where
 cur:y.m.cur=none
 moves:y.m.moves=(n:Int)
 core:Jz M c n (100*n) n y.s.1 y.s.2 y.m
 tasks:y.tasks.length=c.T.toNat
 seats:y.m.seats.length=c.T.toNat
 calls:y.m.calls.length≤n
 task:∀(t:Nat) (k:τ) (se:Sea),y.tasks[t]? = some (some k)→y.m.seats[t]? = some se→(∃i:Nat,se.last=(i:Int)∧i<y.m.calls.length)∧I t se.ready (y.s.1.held.getD t 0) (y.s.2.caches.getD t []) k
structure GStepM (M:List Int→Prop){τ:Type}(T:JH (Haz×Are) τ)(I:GI τ)(c:Cfg)(n:Nat)(y:GW τ)(t i:Nat)(cl:Cll)(se:Sea)(k:τ)(r1 r2:GR τ):Prop where
 htT:(t:Int)<c.T
 hk:y.tasks[t]? = some (some k)
 hse:y.m.seats[t]? = some se
 hl:se.last=(i:Int)
 hc:y.m.calls[i]? = some cl
 c0:Jz M c n (100*n) n y.s.1 y.s.2 (ZO y t i se)
 i0:I t se.ready (y.s.1.held.getD t 0) (y.s.2.caches.getD t []) k
 h1:GHalfM M I c n (100*n+1) n i t cl { se with ready:=true } y.s.1 y.s.2 (ZO y t i se) r1
 used1:r1.2.2.1.used=false
 rdy:se.ready=false∧r1=T.rdy y.s (ZO y t i se) i t cl { se with ready:=true } k∨se.ready=true∧r1=(false,y.s,ZO y t i se,k)
 h2:GHalf I c (n+1) (100*n+67) (n+1) i t cl { se with ready:=true } y.s.1 y.s.2 (ZO y t i se) r2
 stp:r1.1=true∧r2=r1∨r1.1=false∧∃z q v,ZX r1.2.2.1 i t { cl with point:=z } { se with ready:=true,kind:=q,value:=v }∧r2=T.stp r1.2.1 r1.2.2.1 i t { cl with point:=z } { se with ready:=true,kind:=q,value:=v } r1.2.2.2
section
variable {M:List Int→Prop}{τ:Type}{T:JH (Haz×Are) τ}{mkr:Haz×Are→Nat→Mv→Option τ}{I:GI τ}{c:Cfg}{n:Nat}{y y':GW τ}{K:Int→Option Value}
theorem gm_rdy (hT:T.Good)(hI:TInM M c T mkr I){L S N:Nat}{h:Haz}{a:Are}{m:Mch}{i t:Nat}{cl:Cll}{se:Sea}{k:τ}{now:Int}(C:Jz M c L S N h a m)(ht:(t:Int)<c.T)(hc:m.calls[i]? = some cl)(hs:t<m.seats.length)
  (I0:I t se.ready (h.held.getD t 0) (a.caches.getD t []) k) :
  GHalfM M I c L (S+1) N i t cl { se with ready:=true } h a (m.prep t i now se) (Zp T (h,a) m i t cl se k now)∧(Zp T (h,a) m i t cl se k now).2.2.1.used=false:=by
 have C0:Jz M c L S N h a (m.prep t i now se):=C.of rfl rfl rfl rfl
 have hci:ZX (m.prep t i now se) i t cl { se with ready:=true }:=⟨rfl,hc,by simp[Mch.prep,hs]⟩
 unfold Zp
 split
 ·rename_i hf
  rw[hf]at I0
  obtain⟨e1,e4⟩:=hI.rdy (i:=i) (cl:=cl) (se:={ se with ready:=true }) C0 ht I0
  exact⟨⟨e1,hT.fr _ _ _ _ _ _ _ hci⟩,e4⟩
 ·rename_i hf
  have hf:se.ready=true:=by simpa using hf
  rw[hf]at I0
  exact⟨⟨⟨C0.mono (by omega) (by omega) (by omega),.refl ..,fun _=>I0⟩,(Same.refl _).frame hci⟩,rfl⟩
theorem PM.may {ok:Haz×Are→Prop}(hK:∀ {L S N:Nat} {h:Haz} {a:Are} {m:Mch},Jz M c L S N h a m→ok (h,a))(hT:T.Good)(hI:TInM M c T mkr I)(P:PM M I c n y)(hn:n<65536)(mv:Mv):MayMove T ok c.T.toNat y mv:=by
 obtain⟨p1,p2,p3,p4,p5,p6,p7⟩:=P
 have hok:=p3.ok
 have hT1:=hok.T1
 refine⟨p1,by omega,by omega,by omega,p4,p5,hK p3,by omega,?_⟩
 intro t k se ht hop hk hse
 obtain⟨⟨i,e1,e2⟩,I0⟩:=p7 t k se hk hse
 have hlt:=(List.getElem?_eq_some_iff.1 hse).1
 have htT:(t:Int)<c.T:=by omega
 have C0:Jz M c n (100*n) n y.s.1 y.s.2 (y.tick.m.prep t i y.m.moves se):=p3.of rfl rfl rfl rfl
 have C1:Jz M c n (100*n) n y.s.1 y.s.2 y.tick.m:=p3.of rfl rfl rfl rfl
 refine⟨i,_,e1,Yd e2,fun hf => ?_,fun hf => ?_⟩
 ·rw[hf]at I0
  exact hI.okr C0 rfl (by omega) (by omega) (by omega) htT I0
 ·obtain⟨⟨⟨r1,r2,r3⟩,_⟩,r5⟩:=gm_rdy hT hI (i:=i) (cl:=y.m.calls[i]) (now:=y.m.moves) C1 htT (Yd e2) hlt I0
  exact hI.oks r1 r5 (by omega) (by omega) (by omega) htT (r3 hf)
theorem PM.tick (P:PM M I c n y):PM M I c (n+1) y.tick:=by
 obtain⟨p1,p2,p3,p4,p5,p6,p7⟩:=P
 exact⟨p1,by simp only[Wst.tick];omega,(p3.mono (by omega) (by omega) (by omega)).of rfl rfl rfl rfl,p4,p5,by simp only[Wst.tick];omega,p7⟩
theorem gm_others {t j:Nat}{b:Bool}{h h':Haz}{a a':Are}{k:τ}(hj:j≠t)(f:Fr t h h' a a')(I0:I j b (h.held.getD j 0) (a.caches.getD j []) k):I j b (h'.held.getD j 0) (a'.caches.getD j []) k:=by
 rw[Yb,Yb]at I0 ⊢
 rw[f.held j hj,f.caches j hj]
 exact I0
theorem gm_busy (hT:T.Good)(hI:TInM M c T mkr I){mv:Mv}{b:Bool}(P:PM M I c n y)(hn:n<65536){t:Nat}{k:τ}{se:Sea}(ht:mv.thread=(t:Int))(hop:mv.op=0)(hk:y.tasks[t]? = some (some k))(hse:y.m.seats[t]? = some se)(hM:Jy T K mkr y mv b y') :
  ∃(i:Nat) (cl:Cll) (r1 r2:GR τ),GStepM M T I c n y t i cl se k r1 r2∧y'=Qj y t i r2:=by
 cases hM with
 | out h=>exact absurd h (by have:=(List.getElem?_eq_some_iff.1 hk).1;omega)
 | idle j ht' hop' hj=>
  have e:t=j:=by omega
  subst e
  rw[hk]at hj;cases hj
 | busy j kj ht' hop' hj=>exact absurd hop hop'
 | nokit j ht' hop'=>exact absurd hop hop'
 | refused j ht' hop'=>exact absurd hop hop'
 | begin_ j kj v vc ht' hop'=>exact absurd hop hop'
 | step j i cl sj kj ht' hop' hj hsj hl hc=>
  have e:t=j:=by omega
  subst e
  rw[hk]at hj;cases hj
  rw[hse]at hsj;cases hsj
  obtain⟨p1,p2,p3,p4,p5,p6,p7⟩:=P
  have hlt:=(List.getElem?_eq_some_iff.1 hse).1
  have htT:(t:Int)<c.T:=by have:=p3.ok.T1;omega
  obtain⟨_,I0⟩:=p7 t k se hk hse
  have C1:Jz M c n (100*n) n y.s.1 y.s.2 y.tick.m:=p3.of rfl rfl rfl rfl
  have C0:Jz M c n (100*n) n y.s.1 y.s.2 (ZO y t i se):=p3.of rfl rfl rfl rfl
  have hci:ZX (ZO y t i se) i t cl { se with ready:=true }:=⟨rfl,hc,by simp[ZO,Mch.prep,Wst.tick,hlt]⟩
  obtain⟨G1,u1⟩:=gm_rdy hT hI (i:=i) (cl:=cl) (now:=y.m.moves) C1 htT hc hlt I0
  have hsd:y.s=(y.s.1,y.s.2):=rfl
  have hrd:se.ready=false∧Zp T (y.s.1,y.s.2) y.tick.m i t cl se k y.m.moves=T.rdy y.s (ZO y t i se) i t cl { se with ready:=true } k∨se.ready=true∧Zp T (y.s.1,y.s.2) y.tick.m i t cl se k y.m.moves=(false,y.s,ZO y t i se,k):=by
   unfold Zp
   split
   ·rename_i hf;exact .inl ⟨hf,rfl⟩
   ·rename_i hf;exact .inr ⟨by simpa using hf,rfl⟩
  have G2:∃r2,r2=Jc T i t (Zp T (y.s.1,y.s.2) y.tick.m i t cl se k y.m.moves)∧GHalf I c (n+1) (100*n+67) (n+1) i t cl { se with ready:=true } y.s.1 y.s.2 (ZO y t i se) r2 ∧
    ((Zp T (y.s.1,y.s.2) y.tick.m i t cl se k y.m.moves).1=true∧r2=Zp T (y.s.1,y.s.2) y.tick.m i t cl se k y.m.moves∨(Zp T (y.s.1,y.s.2) y.tick.m i t cl se k y.m.moves).1=false ∧
     ∃z q v,ZX (Zp T (y.s.1,y.s.2) y.tick.m i t cl se k y.m.moves).2.2.1 i t { cl with point:=z } { se with ready:=true,kind:=q,value:=v } ∧
      r2=T.stp (Zp T (y.s.1,y.s.2) y.tick.m i t cl se k y.m.moves).2.1 (Zp T (y.s.1,y.s.2) y.tick.m i t cl se k y.m.moves).2.2.1 i t { cl with point:=z } { se with ready:=true,kind:=q,value:=v } (Zp T (y.s.1,y.s.2) y.tick.m i t cl se k y.m.moves).2.2.2):=by
   generalize Zp T (y.s.1,y.s.2) y.tick.m i t cl se k y.m.moves=r at G1 u1 ⊢
   obtain⟨⟨r1,r2,r3⟩,r4⟩:=G1
   refine⟨_,rfl,?_⟩
   unfold Jc
   split
   ·rename_i hf
    obtain⟨z,kk,vv,hcc⟩:=r4.curIn hci
    rw[hcc.getC,hcc.getS]
    obtain⟨e1,e2,e3⟩:=hI.stp (i:=i) (cl:={ cl with point:=z }) (se:={ se with ready:=true,kind:=kk,value:=vv }) r1 (by omega) htT (r3 hf)
    have fs:=hT.fs r.2.1 _ i t _ _ r.2.2.2 hcc
    exact⟨⟨⟨e1,⟨fun j hj=>(e2.held j hj).trans (r2.held j hj),fun j hj=>(e2.caches j hj).trans (r2.caches j hj)⟩,e3⟩,r4.trans' fs⟩,.inr ⟨hf,z,kk,vv,hcc,rfl⟩⟩
   ·rename_i hf
    exact⟨⟨⟨r1.toCore.mono (by omega) (by omega) (by omega),r2,r3⟩,r4⟩,.inl ⟨by simpa using hf,rfl⟩⟩
  obtain⟨r2,e2,G2,G3⟩:=G2
  refine⟨i,cl,_,r2,⟨htT,hk,hse,hl,hc,C0,I0,G1,u1,hrd,G2,G3⟩,?_⟩
  subst e2
  rfl
theorem gm_open (hT:T.Good)(hI:TInM M c T mkr I){mv:Mv}{b:Bool}(P:PM M I c n y)(hn:n<65536)(hM:Jy T K mkr y mv b y') :
  (y'=y.tick) ∨
  (∃(t:Nat) (k:τ) (v vc:Value),mv.thread=(t:Int)∧(t:Int)<c.T∧mv.op≠0∧y.tasks[t]? = some none∧K mv.op≠none∧mkr y.s t mv=some k∧y'=⟨y.s,ZB y.m t mv v vc,y.tasks.set t (some k)⟩) ∨
  (∃(t i:Nat) (cl:Cll) (se:Sea) (k:τ) (r1 r2:GR τ),mv.thread=(t:Int)∧mv.op=0∧GStepM M T I c n y t i cl se k r1 r2∧y'=Qj y t i r2):=by
 cases hM with
 | out=>exact .inl rfl
 | idle=>exact .inl rfl
 | busy=>exact .inl rfl
 | nokit=>exact .inl rfl
 | refused=>exact .inl rfl
 | begin_ t k v vc ht hop hk hKn hmk=>
  have hlt:=(List.getElem?_eq_some_iff.1 hk).1
  have htT:(t:Int)<c.T:=by have:=P.core.ok.T1;have:=P.tasks;omega
  exact .inr (.inl ⟨t,k,v,vc,ht,htT,hop,hk,hKn,hmk,rfl⟩)
 | step t i cl se k ht hop hk hse hl hc=>
  obtain⟨i',cl',r1,r2,G,e⟩:=gm_busy (K:=K) (b:=true) hT hI P hn ht hop hk hse (.step t i cl se k ht hop hk hse hl hc)
  exact .inr (.inr ⟨t,i',cl',se,k,r1,r2,ht,hop,G,e⟩)
theorem PM.move (hT:T.Good)(hI:TInM M c T mkr I){mv:Mv}{b:Bool}(P:PM M I c n y)(hn:n<65536)(hw:M y'.m.mem.words)(h:Jy T K mkr y mv b y'):PM M I c (n+1) y':=by
 rcases gm_open hT hI P hn h with rfl|⟨t,k,v,vc,ht,htT,hop,hk,hKn,hmk,rfl⟩|⟨t,i,cl,se,k,r1,r,ht,hop,G,rfl⟩
 ·exact P.tick
 ·obtain⟨p1,p2,p3,p4,p5,p6,p7⟩:=P
  have hlt:=(List.getElem?_eq_some_iff.1 hk).1
  refine⟨p1,by simp only[ZB];omega,(p3.mono (by omega) (by omega) (by omega)).of rfl rfl rfl rfl,by simp[p4],by simp[ZB,p5],by simp[ZB];omega,?_⟩
  intro j kj sj hkj hsj
  simp only[ZB]at hkj hsj
  by_cases hj:j=t
  ·subst hj
   rw[Ye (by omega)]at hkj hsj
   cases hkj
   cases hsj
   exact⟨⟨_,rfl,by simp[ZB]⟩,hI.made p3 htT hmk _⟩
  ·rw[ZT hj]at hkj hsj
   obtain⟨⟨i',q1,q2⟩,q3⟩:=p7 j kj sj hkj hsj
   exact⟨⟨i',q1,by simp[ZB];omega⟩,q3⟩
 ·obtain⟨p1,p2,p3,p4,p5,p6,p7⟩:=P
  have hlt:=(List.getElem?_eq_some_iff.1 G.hse).1
  have hci:ZX (ZO y t i se) i t cl { se with ready:=true }:=⟨rfl,G.hc,by simp[ZO,Mch.prep,Wst.tick,hlt]⟩
  obtain⟨⟨e1,e2,e3⟩,e4⟩:=G.h2
  have hc:=G.hc
  obtain⟨z,kk,vv,hcc⟩:=e4.curIn hci
  obtain⟨z1,hz1⟩:=e4.calls
  obtain⟨k1,v1,hk1⟩:=e4.seats
  have hcl:r.2.2.1.calls.length=y.m.calls.length:=by rw[hz1];simp[ZO,Mch.prep,Wst.tick]
  have hsl:r.2.2.1.seats.length=y.m.seats.length:=by rw[hk1];simp[ZO,Mch.prep,Wst.tick]
  have hmv:r.2.2.1.moves=y.m.moves+1:=e4.moves
  have hsS:∀j,j≠t→r.2.2.1.seats[j]? = y.m.seats[j]? := by
   intro j hj
   rw[hk1,ZT hj]
   simp only[ZO,Mch.prep,Wst.tick]
   rw[ZT hj]
  have hw1:M r.2.2.1.mem.words:=by
   have e:(Qj y t i r).m.mem=r.2.2.1.mem:=by unfold Qj QT;split<;>rfl
   rw[e]at hw;exact hw
  unfold Qj
  rw[hcc.getC,hcc.getS]
  by_cases hb:r.1=true
  ·simp only[QT,if_pos hb]
   refine⟨rfl,by show r.2.2.1.moves=_;omega,⟨(e1.mono (by omega) (by omega) (by omega)).of rfl rfl rfl rfl,hw1⟩,by simp[p4],by simp[hsl,p5],by simp;omega,?_⟩
   intro j kj sj hkj hsj
   simp only[]at hkj hsj
   by_cases hj:j=t
   ·subst hj
    rw[Ye (by omega)]at hkj
    simp at hkj
   ·rw[ZT hj]at hkj hsj
    rw[hsS j hj]at hsj
    obtain⟨⟨i',q1,q2⟩,q3⟩:=p7 j kj sj hkj hsj
    exact⟨⟨i',q1,by simp;omega⟩,gm_others hj e2 q3⟩
  ·simp only[QT,if_neg hb]
   refine⟨rfl,by show r.2.2.1.moves=_;omega,⟨(e1.mono (by omega) (by omega) (by omega)).of rfl rfl rfl rfl,hw1⟩,by simp[p4],by simp[hsl,p5],by simp;omega,?_⟩
   intro j kj sj hkj hsj
   simp only[]at hkj hsj
   by_cases hj:j=t
   ·subst hj
    rw[Ye (by omega)]at hkj
    simp at hkj
    subst hkj
    rw[hcc.seat]at hsj
    cases hsj
    exact⟨⟨i,G.hl,by have:=(List.getElem?_eq_some_iff.1 hc).1;simp only[];omega⟩,e3 (by simpa using hb)⟩
   ·rw[ZT hj]at hkj
    rw[hsS j hj]at hsj
    obtain⟨⟨i',q1,q2⟩,q3⟩:=p7 j kj sj hkj hsj
    exact⟨⟨i',q1,by simp only[];omega⟩,gm_others hj e2 q3⟩
structure JM (M:List Int→Prop)(T:JH (Haz×Are) τ)(mkr:Haz×Are→Nat→Mv→Option τ)(I:GI τ)(c:Cfg)(ops:Int→Prop)(J:Nat→GW τ→Prop):Prop where
 tick:∀n y,n<65536→PM M I c n y→J n y→J (n+1) y.tick
 beg:∀n y mv t k v vc,n<65536→PM M I c n y→J n y→mv.thread=((t:Nat):Int)→(t:Int)<c.T→ops mv.op→y.tasks[t]? = some none→mkr y.s t mv=some k→J (n+1) ⟨y.s,ZB y.m t mv v vc,y.tasks.set t (some k)⟩
 mw:∀n y t i cl se k r1 r2,n<65536→PM M I c n y→GStepM M T I c n y t i cl se k r1 r2→J n y→M (Qj y t i r2).m.mem.words
 step:∀n y t i cl se k r1 r2,n<65536→PM M I c n y→GStepM M T I c n y t i cl se k r1 r2→PM M I c (n+1) (Qj y t i r2)→J n y→J (n+1) (Qj y t i r2)
theorem JM.moves {ops:Int→Prop}{J:Nat→GW τ→Prop}(hJ:JM M T mkr I c ops J)(hT:T.Good)(hI:TInM M c T mkr I)(hK:∀o,K o≠none→ops o){mv:Mv}{b:Bool}(P:PM M I c n y)(j:J n y)(hn:n<65536)(h:Jy T K mkr y mv b y'):PM M I c (n+1) y'∧J (n+1) y':=by
 have hw:M y'.m.mem.words:=by
  rcases gm_open hT hI P hn h with rfl|⟨t,k,v,vc,ht,htT,hop,hk,hKn,hmk,rfl⟩|⟨t,i,cl,se,k,r1,r,ht,hop,G,rfl⟩
  ·exact P.core.mw
  ·exact P.core.mw
  ·exact hJ.mw n y t i cl se k r1 r hn P G j
 have P':=P.move hT hI hn hw h
 refine⟨P',?_⟩
 rcases gm_open hT hI P hn h with rfl|⟨t,k,v,vc,ht,htT,hop,hk,hKn,hmk,rfl⟩|⟨t,i,cl,se,k,r1,r,ht,hop,G,rfl⟩
 ·exact hJ.tick n y hn P j
 ·exact hJ.beg n y mv t k v vc hn P j ht htT (hK _ hKn) hk hmk
 ·exact hJ.step n y t i cl se k r1 r hn P G P' j
end
end
section
open Go.RowKit Hp
set_option maxRecDepth 100000
set_option maxHeartbeats 1000000
attribute [local irreducible] Go.Calls
section
variable {τ:Type}{T:JH (Haz×Are) τ}{mkr:Haz×Are→Nat→Mv→Option τ}{I:GI τ}{c:Cfg}{n:Nat}{y:GW τ}{t i:Nat}{cl:Cll}{se:Sea}{k:τ}{r1 r2:GR τ}
structure GOut (n:Nat)(y:GW τ)(t i:Nat)(cl:Cll)(se:Sea)(r:GR τ)(z q v:Int):Prop where
 cur:ZX r.2.2.1 i t { cl with point:=z } { se with ready:=true,kind:=q,value:=v }
 calls:(Qj y t i r).m.calls=y.m.calls.set i (if r.1=true then { cl with point:=z,end_:=n,kind:=q,value:=v } else { cl with point:=z })
 seats:(Qj y t i r).m.seats=y.m.seats.set t (if r.1=true then { se with ready:=true,kind:=q,value:=v,task:=.nilIface } else { se with ready:=true,kind:=q,value:=v })
 mem:(Qj y t i r).m.mem=r.2.2.1.mem
 shifts:(Qj y t i r).m.shifts=r.2.2.1.shifts
 thread:r.2.2.1.thread=(t:Int)
 now:r.2.2.1.now=(n:Int)
structure RunG (B:Nat→Cll→Sea→τ→Prop)(E:Cll→Prop)(y:GW τ):Prop where
 busy:∀(t:Nat) (k:τ) (se:Sea),y.tasks[t]? = some (some k)→y.m.seats[t]? = some se→∃(i:Nat) (cl:Cll),se.last=(i:Int)∧y.m.calls[i]? = some cl∧cl.thread=(t:Int)∧cl.end_ = -1∧B t cl se k
 ended:∀cl∈y.m.calls,cl.end_ ≠ -1→0≤cl.end_∧E cl
theorem RunG.tick {B:Nat→Cll→Sea→τ→Prop}{E:Cll→Prop}(R:RunG B E y):RunG B E y.tick:=⟨R.busy,R.ended⟩
theorem RunG.begin {B:Nat→Cll→Sea→τ→Prop}{E:Cll→Prop}(R:RunG B E y){mv:Mv}{v vc:Value}{k':τ}(ht:mv.thread=(t:Int))(hk:y.tasks[t]? = some none)(hl:y.tasks.length=y.m.seats.length)
  (hB:B t ⟨mv.thread,mv.op,mv.arg,mv.data,y.m.moves,-1,-1,0,0⟩ ⟨v,false,(y.m.calls.length:Int),1,0⟩ k'):RunG B E ⟨y.s,ZB y.m t mv v vc,y.tasks.set t (some k')⟩:=by
 have hlt:=(List.getElem?_eq_some_iff.1 hk).1
 refine⟨?_,?_⟩
 ·intro j kj sj hkj hsj
  simp only[ZB]at hkj hsj ⊢
  by_cases hj:j=t
  ·subst hj
   rw[Ye hlt]at hkj
   rw[Ye (by omega)]at hsj
   cases hkj
   cases hsj
   exact⟨_,_,rfl,by simp,ht,rfl,hB⟩
  ·rw[ZT hj]at hkj hsj
   obtain⟨i',cl',q1,q2,q3,q4,q5⟩:=R.busy j kj sj hkj hsj
   have:=(List.getElem?_eq_some_iff.1 q2).1
   exact⟨i',cl',q1,by rw[List.getElem?_append_left this];exact q2,q3,q4,q5⟩
 ·intro cl hcl he
  simp only[ZB]at hcl
  rcases List.mem_append.1 hcl with h|h
  ·exact R.ended cl h he
  ·simp at h
   subst h
   exact absurd rfl he
end
end
section
open Go.RowKit Hp
set_option maxRecDepth 100000
set_option maxHeartbeats 1000000
attribute [local irreducible] Go.Calls
section
variable {M:List Int→Prop}{τ:Type}{T:JH (Haz×Are) τ}{mkr:Haz×Are→Nat→Mv→Option τ}{I:GI τ}{c:Cfg}{n:Nat}{y:GW τ}{t i:Nat}{cl:Cll}{se:Sea}{k:τ}{r1 r2:GR τ}
theorem GStepM.out (P:PM M I c n y)(G:GStepM M T I c n y t i cl se k r1 r2):∃z q v,GOut n y t i cl se r2 z q v:=by
 have hlt:=(List.getElem?_eq_some_iff.1 G.hse).1
 have hli:=(List.getElem?_eq_some_iff.1 G.hc).1
 have hci:ZX (ZO y t i se) i t cl { se with ready:=true }:=⟨rfl,G.hc,by simp[ZO,Mch.prep,Wst.tick,hlt]⟩
 have f:=G.h2.frame
 obtain⟨z,hz⟩:=f.calls
 obtain⟨q,v,hq⟩:=f.seats
 have hz:r2.2.2.1.calls=y.m.calls.set i { cl with point:=z }:=hz
 have hq:r2.2.2.1.seats=y.m.seats.set t { se with ready:=true,kind:=q,value:=v }:=by
  rw[hq]
  simp only[ZO,Mch.prep,Wst.tick,Yl]
 have hcu:ZX r2.2.2.1 i t { cl with point:=z } { se with ready:=true,kind:=q,value:=v } :=
  ⟨by rw[f.cur];rfl,by rw[hz];exact Ye hli,by rw[hq];exact Ye hlt⟩
 have hn:y.m.moves=(n:Int):=P.moves
 refine⟨z,q,v,hcu,?_,?_,?_,?_,f.thread,by rw[f.now];exact hn⟩
 ·unfold Qj QT
  rw[hcu.getC,hcu.getS,hn]
  split
  ·simp only[hz,Yl]
  ·exact hz
 ·unfold Qj QT
  rw[hcu.getC,hcu.getS]
  split
  ·simp only[hq,Yl]
  ·exact hq
 ·unfold Qj QT
  split<;>rfl
 ·unfold Qj QT
  split<;>rfl
theorem RunG.stepM {B:Nat→Cll→Sea→τ→Prop}{E:Cll→Prop}(R:RunG B E y)(P:PM M I c n y)(G:GStepM M T I c n y t i cl se k r1 r2){z q v:Int}(O:GOut n y t i cl se r2 z q v)
  (hB:r2.1=false→B t { cl with point:=z } { se with ready:=true,kind:=q,value:=v } r2.2.2.2) (hE:r2.1=true→E { cl with point:=z,end_:=n,kind:=q,value:=v }):RunG B E (Qj y t i r2):=by
 have hlt:=(List.getElem?_eq_some_iff.1 G.hse).1
 have hlk:=(List.getElem?_eq_some_iff.1 G.hk).1
 have hli:=(List.getElem?_eq_some_iff.1 G.hc).1
 obtain⟨i0,cl0,a1,a2,a3,a4,a5⟩:=R.busy t k se G.hk G.hse
 have hi0:i0=i:=by have:=G.hl;omega
 subst hi0
 have hcl:cl0=cl:=by have:=G.hc;rw[a2]at this;cases this;rfl
 subst hcl
 refine⟨?_,?_⟩
 ·intro j kj sj hkj hsj
  rw[O.seats]at hsj
  rw[O.calls]
  have hkj:(y.tasks.set t (if r2.1=true then none else some r2.2.2.2))[j]? = some (some kj):=hkj
  by_cases hj:j=t
  ·subst hj
   rw[Ye hlk]at hkj
   rw[Ye hlt]at hsj
   by_cases hb:r2.1=true
   ·rw[if_pos hb]at hkj;cases hkj
   ·rw[if_neg hb]at hkj hsj ⊢
    cases hkj
    cases hsj
    exact⟨i0,_,a1,Ye hli,a3,a4,hB (by simpa using hb)⟩
  ·rw[ZT hj]at hkj hsj
   obtain⟨i',cl',q1,q2,q3,q4,q5⟩:=R.busy j kj sj hkj hsj
   have hne:i'≠i0:=by
    intro e
    subst e
    rw[a2]at q2
    cases q2
    omega
   exact⟨i',cl',q1,by rw[ZT hne];exact q2,q3,q4,q5⟩
 ·intro x hx he
  rw[O.calls]at hx
  rcases List.mem_or_eq_of_mem_set hx with h|h
  ·exact R.ended x h he
  ·by_cases hb:r2.1=true
   ·rw[if_pos hb]at h
    subst h
    exact⟨by simp only[];omega,hE hb⟩
   ·rw[if_neg hb]at h
    subst h
    exact absurd a4 he
end
end
section
open Go.RowKit
namespace Hp
structure Rd (A:Zc)(sz:Nat)(css:List (List Value))(v:Value):Prop where
 at_:(css=[]∧v=.slice none 0 0)∨∃a cap,css.length≤cap∧v=.slice (some a) css.length cap
 wf:∀c∈css,c.length=sz
 get:∀(O w:World) (F:Zc),Sat O w (A*F)→∀a n cap,v=.slice (some a) n cap→∀i c,css[i]? = some c→∀j x,c[j]? = some x→w.cell? ((a.add (i*sz)).add j)=some x
structure RAt (v:Value)(a:Addr):Prop where
 is:∃n cap,v=.slice (some a) n cap
section
variable {P:Program}{ops:Array Oper}{Q:Exit→Act→World→Prop}{w:World}{rest:List Oper}{O:World}{S R A:Zc}
variable {l:List Value}{ds:List Deferred}{T ty E:TypeId}{pos:String}{after:Array Edge}{gd:Option (Nat×Bool)}{d:Nat}{x y:Operand}{i sz n:Nat}{css:List (List Value)}{c:List Value}{v:Value}{a:Addr}
theorem Rd.len (h:Rd A sz css v):∃a cap,v=.slice a css.length cap:=by
 rcases h.at_ with⟨h1,h2⟩|⟨a,cap,_,h1⟩
 ·subst h1;exact⟨none,0,h2⟩
 ·exact⟨_,_,h1⟩
theorem wl_ir {kd:IntKind}{z:Int}{by_:Nat}(hr:Rd A sz css v)(h:SlcC P T E)(hE:ElC P E sz by_)(hx:ev l x=some v)(hy:ev l y=some (.int kd z))(hz:z=(i:Int))(hi:i<css.length)
  (hg:Region.wanted { dst:=some d,op:=.indexAddr T x y,type:=ty,pos,after,guard:=gd } (yielded ops l.toArray)=true)
  (kk:∀a,RAt v a→wpList P ops Q rest ⟨(l.set d (.pointer (some (a.add (i*sz))))).toArray,ds⟩ w) :
  wpList P ops Q ({ dst:=some d,op:=.indexAddr T x y,type:=ty,pos,after,guard:=gd }::rest) ⟨l.toArray,ds⟩ w:=by
 rcases hr.at_ with⟨h1,_⟩|⟨a,cap,_,e⟩
 ·subst h1;simp at hi
 refine QE (v:=.pointer (some (a.add (i*sz)))) hg ?_ (ZU▸kk a ⟨_,_,e⟩)
 have h1:(0:Int)≤z∧z<(css.length:Int):=by omega
 have h2:z.toNat=i:=by omega
 subst e
 simp only[execOp,Zm hx,Zm hy,Instr.indexAt,asIntOf,Sem.run_bind,Sem.run_pure,Result.andThen_ok,run_underlying h.is,if_pos h1,h2,Qu hE.size]
theorem wl_lr (hs:Sat O w S)(hr:Rd A sz css v)(h:AggC P T sz)(ha:RAt v a)(hx:ev l x=some (.pointer (some (a.add (i*sz)))))(hp:Pull S A R)(hi:css[i]? = some c)
  (hg:Region.wanted { dst:=some d,op:=.load T x,type:=ty,pos,after,guard:=gd } (yielded ops l.toArray)=true)
  (kk:wpList P ops Q rest ⟨(l.set d (.agg c.toArray)).toArray,ds⟩ w):wpList P ops Q ({ dst:=some d,op:=.load T x,type:=ty,pos,after,guard:=gd }::rest) ⟨l.toArray,ds⟩ w:=by
 refine QE (v:=.agg c.toArray) hg ?_ (ZU▸kk)
 obtain⟨n,cap,e⟩:=ha.is
 have hl:=hr.wf c (Yc hi)
 have:=run_loadCells_list (P:=P) (w:=w) (a.add (i*sz)) c (fun j x hj=>hr.get O w R (hs.pull hp) a n cap e i c hi j x hj)
 rw[hl]at this
 simp only[execOp,Zm hx,Instr.loadAt,Instr.sureAddr,loadVar,Sem.run_bind,Sem.run_pure,Result.andThen_ok,run_isAgg h.agg,Qu h.size,if_true,this]
theorem rd_reH {kd:IntKind}{zz:Int}{by_:Nat}(hr:Rd A sz css v)(h:SlcC P T E)(hE:ElC P E sz by_)(hx:ev l x=some v)(hy:ev l y=some (.int kd zz))(hz:zz=(i:Int))(hi:i≤css.length)
  (hg:Region.wanted { dst:=some d,op:=.slice T x none (some y) none,type:=ty,pos,after,guard:=gd } (yielded ops l.toArray)=true)
  (kk:wpList P ops Q rest ⟨(l.set d (resH v i)).toArray,ds⟩ w) :
  wpList P ops Q ({ dst:=some d,op:=.slice T x none (some y) none,type:=ty,pos,after,guard:=gd }::rest) ⟨l.toArray,ds⟩ w:=by
 refine QE (v:=resH v i) hg ?_ (ZU▸kk)
 have h2:zz.toNat=i:=by omega
 rcases hr.at_ with⟨hc,hv⟩|⟨a,cap,g2,hv⟩
 ·subst hv;subst hc
  have hi0:i=0:=by simpa using hi
  have hz0:zz=0:=by omega
  subst hi0;subst hz0
  simp[execOp,Zm hx,Zm hy,Instr.sliceAt,Instr.slice,Instr.sliceBounds,Instr.sliceBound,asIntOf,run_underlying h.is,Qu hE.size,resH]
 ·subst hv
  have h1:(0:Int)≤zz∧zz≤(cap:Int):=by omega
  simp[execOp,Zm hx,Zm hy,Instr.sliceAt,Instr.slice,Instr.sliceBounds,Instr.sliceBound,asIntOf,run_underlying h.is,Qu hE.size,resH,h1,h2,Addr.add]
theorem Rd.resH (h:Rd A sz css v)(hi:i≤css.length):Rd A sz (css.take i) (Hp.resH v i):=by
 have hl:(css.take i).length=i:=by simp;omega
 refine⟨?_,fun c hc=>h.wf c (List.mem_of_mem_take hc),?_⟩
 ·rcases h.at_ with⟨h1,h2⟩|⟨a,cap,hc,h1⟩
  ·subst h1;subst h2
   have:i=0:=by simpa using hi
   subst this
   exact .inl ⟨rfl,rfl⟩
  ·subst h1
   exact .inr ⟨a,cap,by rw[hl];omega,by rw[hl];rfl⟩
 ·intro O w F hs a n cap e j c hj
  rcases h.at_ with⟨h1,h2⟩|⟨a',cap',hc,h1⟩
  ·subst h1;simp at hj
  ·subst h1
   injection e with e _ _
   injection e with e
   subst e
   refine h.get O w F hs a' _ _ rfl j c ?_
   rw[List.getElem?_take]at hj
   split at hj
   ·exact hj
   ·cases hj
end
theorem rd_pt {b off cap:Nat}{cs:List Value}{E:TypeId}{fr:Nat×Nat}{sz:Nat}{css:List (List Value)}{pre post:List Value}(hcs:cs=pre++css.flatten++post)(hpre:pre.length=off)(hw:∀c∈css,c.length=sz)(hpos:0<sz)(hcap:css.length≤cap) :
  Rd (pt b (.cells cs.toArray E fr)) sz css (.slice (some ⟨b,off,none⟩) css.length cap):=by
 refine⟨.inr ⟨_,_,hcap,rfl⟩,hw,?_⟩
 intro O w F hs a n cap' e i c hi j x hj
 injection e with e1 e2 e3
 injection e1 with e1
 subst e1
 have hb:=hs.block
 have hflen:∀css:List (List Value),(∀c∈css,c.length=sz)→∀i c,css[i]? = some c→∃L Rr,css.flatten=L++c++Rr∧L.length=i*sz:=by
  intro css hw i c hi
  obtain⟨h1,h2⟩:=split_at hi
  refine⟨(css.take i).flatten,(css.drop (i+1)).flatten,?_,?_⟩
  ·conv=>lhs;rw[h1]
   simp
  ·have:∀l:List (List Value),(∀c∈l,c.length=sz)→l.flatten.length=l.length*sz:=by
    intro l hl
    induction l with
    | nil=>simp
    | cons c r ih=>
     simp only[List.flatten_cons,List.length_append,List.length_cons,Nat.add_mul,Nat.one_mul]
     rw[ih (fun x hx=>hl x (by simp[hx])),hl c (by simp)];omega
   rw[this _ (fun c hc=>hw c (List.mem_of_mem_take hc)),h2]
 obtain⟨L,Rr,g1,g2⟩:=hflen css hw i c hi
 have hjl:=(List.getElem?_eq_some_iff.1 hj).1
 rw[Addr.add_lit,Addr.add_mid]
 rw[cell_of_row w b (off+i*sz+j) cs.toArray E fr hb]
 have e2:cs=(pre++L)++(c++(Rr++post)):=by rw[hcs,g1];simp
 show cs.toArray[off+i*sz+j]? = some x
 rw[List.getElem?_toArray,e2,List.getElem?_append_right (by simp[hpre,g2]),List.getElem?_append_left (by simp[hpre,g2];omega)]
 have:off+i*sz+j-(pre++L).length=j:=by simp[hpre,g2]
 rw[this];exact hj
end Hp
end
end Go.Proofs.YtefjbdajgakgpaaGreat
