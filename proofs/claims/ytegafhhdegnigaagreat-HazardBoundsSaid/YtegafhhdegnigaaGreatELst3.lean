/-
  HazardLists, the plain law: each step keeps the lists as long as they may be.
-/
import Derived.Test.YtegafhhdegnigaaGreatELst
import Derived.Test.YtegafhhdegnigaaGreatERec
set_option linter.all false
namespace Go.Proofs.YtegafhhdegnigaaGreat
open Go.RowKit Hp
set_option maxRecDepth 100000
set_option maxHeartbeats 1000000
attribute [local irreducible] Go.Calls
section
def Unh (h:Haz)(q:Int):Prop:=∀t:Nat,h.held[t]? ≠ some q
def zr (c:Cfg)(m:Mch)(q k:Int):Prop:=(mv c m).hz (q*c.Hz+k)=0
def LenT (c:Cfg)(b:Bool)(l:Int)(Zr:Int→Prop):Zz→Prop
 | .scn s=>if b=true then LsS c s l else l<Bt c
 | .unr u=>(u.stage=0→l<Bt c∧∀k,0≤k→k<u.k→Zr k)∧(u.stage=1→(∀s,u.scan=some s→LsS c s l)∧∀k,0≤k→k<c.Hz→Zr k)∧(u.stage=2∨u.stage=3→l≤Am c∧∀k,0≤k→k<c.Hz→Zr k)
 | .pst p=>(p.stage≠4→l<Bt c)∧(p.stage=4→∀r s,p.retire=some r→r.scan=some s→LsS c s l)
 | _=>l<Bt c
def LqS (c:Cfg)(h:Haz)(m:Mch):Prop:=∀q,0≤q→q<c.R→Unh h q→ll h q≤Am c∧∀k,0≤k→k<c.Hz→zr c m q k
section
variable {c:Cfg}{L S N:Nat}{h h':Haz}{a:Are}{m m':Mch}{t i:Nat}{cl:Cll}{se:Sea}
variable {n:Int}{Z Y:Int→Nat}{F:List Int}{pr:Int→Prop}{K K2:List Int}
theorem evp_hz {Q:Nat→Prop}{P B:Int→Prop}{w:Prop}{x y:St3}(hok:c.Ok)(E:EvP c Q P B w t x y)(hw:¬w){j:Int}(j0:0≤j)(j1:j<c.R*c.Hz):(mv c y.2.2).hz j=(mv c x.2.2).hz j:=by
 have hb:=QP hok 9 j0
 have hz:Hzj c (adr c 9 j):=by
  have b10:base c 10=base c 9+c.R*c.Hz:=rfl
  unfold Hzj;omega
 induction E with
 | refl x=>rfl
 | trans _ _ ih1 ih2=>exact ih2.trans ih1
 | load k hq=>exact congrArg (fun v=>MV.hz v _) (QW rfl)
 | @store h a m k z hq hk=>
  rw[hz_at j0 j1,hz_at j0 j1]
  unfold Mch.word Mch.store
  simp only[]
  rw[Yb,Yf (fun e=>hw (hk (by rw[e];exact hz))),←Yb]
 | @swap h a m k o z hq hk=>
  rw[hz_at j0 j1,hz_at j0 j1]
  unfold Mch.word Mch.swap
  simp only[]
  split
  ·rw[Yb,Yf (fun e=>hk (by rw[e];exact hz)),←Yb]
  ·rfl
 | shift s to h0 ht hm hp hw hb=>exact congrArg (fun v=>MV.hz v _) (QW rfl)
 | quiet h1 h2 h3 h4=>exact congrArg (fun v=>MV.hz v _) (QW (by rw[h1]))
 | haz h'=>rfl
 | cache cs=>rfl
theorem idx_rng (hok:c.Ok){q k:Int}(q0:0≤q)(q1:q<c.R)(k0:0≤k)(k1:k<c.Hz):0≤q*c.Hz+k∧q*c.Hz+k<c.R*c.Hz:=by
 have hH:=hok.H1
 have h3:0≤q*c.Hz:=Int.mul_nonneg q0 (by omega)
 have h4:(q+1)*c.Hz≤c.R*c.Hz:=Int.mul_le_mul_of_nonneg_right (by omega) (by omega)
 rw[Int.add_mul,Int.one_mul]at h4
 omega
theorem own_q (hok:c.Ok){x:Sx}{q k:Int}(k0:0≤k)(k1:k<c.Hz)(h:Own c t x (q*c.Hz+k)):x.held[t]? = some q:=by
 obtain⟨r,e,r0,r1,h1,h2⟩:=h
 have hH:=hok.H1
 have:r=q:=by
  rcases Int.lt_trichotomy r q with h|h|h
  ·have:(r+1)*c.Hz≤q*c.Hz:=Int.mul_le_mul_of_nonneg_right (by omega) (by omega)
   rw[Int.add_mul,Int.one_mul]at this;omega
  ·exact h
  ·have:(q+1)*c.Hz≤r*c.Hz:=Int.mul_le_mul_of_nonneg_right (by omega) (by omega)
   rw[Int.add_mul,Int.one_mul]at this;omega
 rw[←this];exact e
theorem act0_unh (G:Gd c n Z Y F (sx pr c h a m) K K2){q:Int}(q0:0≤q)(q1:q<c.R)(ha:(mv c m).act q=0):Unh h q:=by
 have h1:=G.rcd q q0 q1
 have h2:(sx pr c h a m).V.act q=0:=ha
 have h3:(sx pr c h a m).held=h.held:=rfl
 rw[h2,h3]at h1
 intro t e
 have:=List.count_pos_iff.2 (Yc e)
 omega
theorem lq_keep (Lq:LqS c h m)(hh:h'.held=h.held)(hl:∀q,0≤q→Unh h q→h'.lists.getD q.toNat []=h.lists.getD q.toNat []∨h'.lists.getD q.toNat []=[])
  (hz:∀q k,0≤q→q<c.R→Unh h q→0≤k→k<c.Hz→(mv c m').hz (q*c.Hz+k)=(mv c m).hz (q*c.Hz+k)) (hok:c.Ok):LqS c h' m':=by
 intro q q0 q1 hq
 have hq:Unh h q:=fun t e=>hq t (by rw[hh];exact e)
 obtain⟨h1,h2⟩:=Lq q q0 q1 hq
 refine⟨?_,fun k k0 k1 => ?_⟩
 ·unfold ll at h1 ⊢
  rcases hl q q0 hq with e|e
  ·rw[e];exact h1
  ·rw[e];have:=am_nn hok;simpa using this
 ·unfold zr
  rw[hz q k q0 q1 hq k0 k1]
  exact h2 k k0 k1
structure LtP (c:Cfg)(t:Nat)(k:Zz)(r:RT):Prop where
 un:LqS c r.2.1.1 r.2.2.1
 go:∀rc,r.2.1.1.held[t]? = some rc→0≤rc→r.1=false→LenT c true (ll r.2.1.1 rc) (zr c r.2.2.1 rc) r.2.2.2
 fin:∀rc,r.2.1.1.held[t]? = some rc→0≤rc→r.1=true→ll r.2.1.1 rc<Bt c∧(kd k=25→ll r.2.1.1 rc≤Am c)
theorem lst_stp {k:Zz}(C:Core c L S N h a m)(ht:(t:Int)<c.T)(I:TI c t true (h.held.getD t 0) (a.caches.getD t []) k)
  (G:Gd c n Z Y F (sx pr c h a m) (hS k) (hL k)) (D:TD c t (sx pr c h a m) k) (Lq:LqS c h m) (Lt:∀rc,h.held[t]? = some rc→0≤rc→LenT c true (ll h rc) (zr c m rc) k)
  (z1:∀j,¬Own c t (sx pr c h a m) j→(mv c (Zn (h,a) m i t cl se k).2.2.1).hz j=(mv c m).hz j)
  (z2:¬WrH k→∀j,0≤j→j<c.R*c.Hz→(mv c (Zn (h,a) m i t cl se k).2.2.1).hz j=(mv c m).hz j):LtP c t k (Zn (h,a) m i t cl se k):=by
 have hok:=C.ok
 obtain rfl:=C.hc
 have hBt:=bt_le h.c
 have hlt:t<h.held.length:=by rw[C.held];omega
 have hh:h.held[t]? = some (h.held.getD t 0):=by rw[Yb,Yd hlt];rfl
 obtain⟨hr1,hr0⟩:=C.hget ht
 have zu:∀m',(∀j,¬Own h.c t (sx pr h.c h a m) j→(mv h.c m').hz j=(mv h.c m).hz j)→∀q k,0≤q→q<h.c.R→Unh h q→0≤k→k<h.c.Hz→(mv h.c m').hz (q*h.c.Hz+k)=(mv h.c m).hz (q*h.c.Hz+k):=by
  intro m' hz q k q0 q1 hq k0 k1
  exact hz _ fun ho=>hq t (own_q hok k0 k1 ho)
 have U:∀q,0≤q→q<h.c.R→(mv h.c m).act q=0→ll h q≤Am h.c:=fun q q0 q1 ha=>(Lq q q0 q1 (act0_unh G q0 q1 ha)).1
 cases k with
 | reg r=>
  obtain⟨i1,i2,i3⟩:=I
  obtain⟨u,hu1,hu2⟩:=D.reg r rfl
  have hu1:h.held[t]? = some u:=hu1
  have z2:=z2 (fun h=>h)
  by_cases hcs:r.seen=true∧m.word (adr h.c 8 r.i)=0
  ·obtain⟨c1,c2⟩:=hcs
   have e:Zn (h,a) m i t cl se (.reg r)=(true,({ h with held:=h.held.set r.thread.toNat r.i },a),(m.swap (adr h.c 8 r.i) (m.word (adr h.c 8 r.i)) 0 1).answer t se 2 r.i,.reg r):=by
    simp only[Zn,ZU]
    rw[if_neg (by simp[c1]),if_pos c2]
   rw[e]at z2 ⊢
   have hun:Unh h r.i:=act0_unh G i2 i3 (by rw[act_at i2 i3];exact c2)
   have ht':r.thread.toNat=t:=by omega
   refine⟨?_,fun rc hrc h0 hf=>(by cases hf),fun rc hrc h0 _ => ?_⟩
   ·intro q q0 q1 hq
    have hq1:q≠r.i:=fun e=>hq t (by simp only[];rw[ht',Ye hlt,e])
    have hq2:Unh h q:=by
     intro t' e'
     by_cases et:t'=t
     ·subst et;rw[hu1]at e';cases e';omega
     ·exact hq t' (by simp only[];rw[ht',Zx et];exact e')
    obtain⟨q2,q3⟩:=Lq q q0 q1 hq2
    refine⟨q2,fun k k0 k1 => ?_⟩
    obtain⟨j0,j1⟩:=idx_rng hok q0 q1 k0 k1
    unfold zr
    rw[z2 _ j0 j1]
    exact q3 k k0 k1
   ·simp only[]at hrc
    rw[ht',Ye hlt]at hrc
    cases hrc
    have:=(Lq r.i i2 i3 hun).1
    exact⟨by show ll h r.i<_;omega,fun hk=>by simp only[kd]at hk;omega⟩
  ·have e:(Zn (h,a) m i t cl se (.reg r)).2.1.1=h:=by
    simp only[Zn,ZU]
    split
    ·split
     ·unfold ZV;split<;>rfl
     ·rfl
    ·rename_i hs
     rw[if_neg (fun hw=>hcs ⟨by simpa using hs,hw⟩)]
     unfold ZV;split<;>rfl
   refine⟨lq_keep Lq (by rw[e]) (fun q _ _=>.inl (by rw[e])) (zu _ z1) hok,fun rc hrc h0 _ => ?_,fun rc hrc h0 _ => ?_⟩
   ·rw[e,hu1]at hrc;cases hrc;omega
   ·rw[e,hu1]at hrc;cases hrc;omega
 | clr ad=>
  refine⟨lq_keep Lq rfl (fun q _ _=>.inl rfl) (zu _ z1) hok,fun rc hrc h0 hf=>(by cases hf),fun rc hrc h0 _=>⟨Lt rc hrc h0,fun hk=>by simp only[kd]at hk;omega⟩⟩
 | rdg r=>
  refine⟨lq_keep Lq rfl (fun q _ _=>.inl rfl) (zu _ z1) hok,fun rc hrc h0 _=>Lt rc hrc h0,fun rc hrc h0 _=>⟨Lt rc hrc h0,fun hk=>by simp only[kd]at hk;omega⟩⟩
 | scn s=>
  have D1:=D.scan s rfl
  have hrc0:h.held[t]? = some s.record:=D1.rcd
  have I2:=I.2.2 rfl
  have H:=Lt s.record hrc0 I2.rec0
  have H:LsS h.c s (ll h s.record):=H
  have P:=scan_ls C I2 G D1 H U
  simp only[Zn]at z1 z2 ⊢
  generalize Zf h a m s=r at P z1 z2 ⊢
  refine⟨lq_keep Lq P.held (fun q q0 hq=>P.oth q q0 fun e=>hq t (by rw[e];exact hrc0)) (zu _ z1) hok,fun rc hrc h0 hf => ?_,fun rc hrc h0 hf => ?_⟩
  ·have hrc:r.2.1.held[t]? = some rc:=hrc
   rw[P.held,hrc0]at hrc
   cases hrc;exact P.ls
  ·have hrc:r.2.1.held[t]? = some rc:=hrc
   rw[P.held,hrc0]at hrc
   cases hrc
   have h3:=P.fin hf
   exact⟨by show ll r.2.1 s.record<_;omega,fun _=>h3⟩
 | unr u=>
  obtain⟨i1,i2,i3⟩:=I
  have e:u.thread.toNat=t:=by omega
  have LT:=Lt _ hh i2
  obtain⟨l0,l1,l2⟩:=LT
  obtain⟨j1,j2,j3,j4⟩:=i3
  have empt:∀(a':Are) (u':Unr) (l:Int) (Zr:Int→Prop),l≤Am h.c→(∀k,0≤k→k<h.c.Hz→Zr k)→LenT h.c true l Zr (.unr (Qc a' u')):=by
   intro a' u' l Zr h1 h2
   unfold Qc
   refine⟨fun hf => ?_,fun hf => ?_,fun _=>⟨h1,h2⟩⟩
   ·simp only[]at hf;split at hf<;>omega
   ·simp only[]at hf;split at hf<;>omega
  by_cases s0:u.stage=0
  ·obtain⟨k0,k1⟩:=j2 s0
   obtain⟨b1,b2⟩:=l0 s0
   have hj:=idx_rng hok i2 hr1 k0 k1
   have hb9:=(ZS hok 9).1
   have hbs:=Qx hok
   have eA:(base h.c 9+h.held.getD t 0*h.c.Hz+u.k).toNat=adr h.c 9 (h.held.getD t 0*h.c.Hz+u.k):=by unfold adr;congr 1;omega
   have hA:adr h.c 9 (h.held.getD t 0*h.c.Hz+u.k)<m.mem.words.length:=C.lt (by have:=QP hok 9 hj.1;have:=hbs.b10;have:=hbs.b11;have:=hbs.b12;have:=hbs.b13;have:=hbs.b14;have:=hok.S1;omega)
   have hmv:mv h.c (m.store (adr h.c 9 (h.held.getD t 0*h.c.Hz+u.k)) (m.word (adr h.c 9 (h.held.getD t 0*h.c.Hz+u.k))) 0)={ mv h.c m with hz:=upd (mv h.c m).hz (h.held.getD t 0*h.c.Hz+u.k) 0 }:=mv_hz hok hj.1 hj.2 rfl hA
   have hzero:∀k,0≤k→k<u.k+1→zr h.c (m.store (adr h.c 9 (h.held.getD t 0*h.c.Hz+u.k)) (m.word (adr h.c 9 (h.held.getD t 0*h.c.Hz+u.k))) 0) (h.held.getD t 0) k:=by
    intro k k0' k1'
    unfold zr
    rw[hmv]
    simp only[upd]
    split
    ·rfl
    ·rename_i hne
     exact b2 k k0' (by omega)
   have R1:=ready_ls (h:=h) hok rfl (s:=⟨u.thread,h.held.getD t 0,6,0,false,fun _=>0,[],none⟩) i2 hr1 (by simp only[];omega)
   have hst:Zn (h,a) m i t cl se (.unr u)=(if u.k+1<h.c.Hz then (false,(h,a),m.store (adr h.c 9 (h.held.getD t 0*h.c.Hz+u.k)) (m.word (adr h.c 9 (h.held.getD t 0*h.c.Hz+u.k))) 0,.unr { u with k:=u.k+1 })
     else if (ZK h ⟨u.thread,h.held.getD t 0,6,0,false,fun _=>0,[],none⟩).1=true then (false,(h,a),m.store (adr h.c 9 (h.held.getD t 0*h.c.Hz+u.k)) (m.word (adr h.c 9 (h.held.getD t 0*h.c.Hz+u.k))) 0,.unr (Qc a { u with k:=u.k+1,scan:=some (ZK h ⟨u.thread,h.held.getD t 0,6,0,false,fun _=>0,[],none⟩).2,stage:=1 }))
     else (false,(h,a),m.store (adr h.c 9 (h.held.getD t 0*h.c.Hz+u.k)) (m.word (adr h.c 9 (h.held.getD t 0*h.c.Hz+u.k))) 0,.unr { u with k:=u.k+1,scan:=some (ZK h ⟨u.thread,h.held.getD t 0,6,0,false,fun _=>0,[],none⟩).2,stage:=1 })):=by
    simp only[Zn]
    unfold Zg
    simp only[e,eA]
    rw[if_pos s0]
    split
    ·rfl
    ·split<;>rfl
   have hm':(Zn (h,a) m i t cl se (.unr u)).2.2.1=m.store (adr h.c 9 (h.held.getD t 0*h.c.Hz+u.k)) (m.word (adr h.c 9 (h.held.getD t 0*h.c.Hz+u.k))) 0:=by
    rw[hst]
    split
    ·rfl
    ·split<;>rfl
   rw[hm']at z1
   have hq:=lq_keep Lq (h':=h) rfl (fun q _ _=>.inl rfl) (zu _ z1) hok
   rw[hst]
   split
   ·refine⟨hq,fun rc hrc h0 _ => ?_,fun rc hrc h0 hf=>(by cases hf)⟩
    have hrc:h.held[t]? = some rc:=hrc
    rw[hh]at hrc
    cases hrc
    exact⟨fun _=>⟨b1,hzero⟩,fun hf=>by simp only[s0]at hf;omega,fun hf=>by simp only[s0]at hf;omega⟩
   ·rename_i hk
    have hall:∀k,0≤k→k<h.c.Hz→zr h.c (m.store (adr h.c 9 (h.held.getD t 0*h.c.Hz+u.k)) (m.word (adr h.c 9 (h.held.getD t 0*h.c.Hz+u.k))) 0) (h.held.getD t 0) k:=fun k k0' k1'=>hzero k k0' (by omega)
    split
    ·rename_i hb
     refine⟨hq,fun rc hrc h0 _ => ?_,fun rc hrc h0 hf=>(by cases hf)⟩
     have hrc:h.held[t]? = some rc:=hrc
     rw[hh]at hrc
     cases hrc
     exact empt _ _ _ _ (R1.2 hb) hall
    ·refine⟨hq,fun rc hrc h0 _ => ?_,fun rc hrc h0 hf=>(by cases hf)⟩
     have hrc:h.held[t]? = some rc:=hrc
     rw[hh]at hrc
     cases hrc
     refine⟨fun hf=>by simp at hf,fun _=>⟨fun s hs => ?_,hall⟩,fun hf=>by simp at hf⟩
     simp only[Option.some.injEq]at hs
     subst hs
     exact R1.1
  ·have z2:=z2 (fun h=>s0 h)
   have zk:∀m',(∀j,0≤j→j<h.c.R*h.c.Hz→(mv h.c m').hz j=(mv h.c m).hz j)→(∀k,0≤k→k<h.c.Hz→zr h.c m (h.held.getD t 0) k)→∀k,0≤k→k<h.c.Hz→zr h.c m' (h.held.getD t 0) k:=by
    intro m' hz hzr k k0 k1
    obtain⟨q0,q1⟩:=idx_rng hok i2 hr1 k0 k1
    unfold zr
    rw[hz _ q0 q1]
    exact hzr k k0 k1
   by_cases s1:u.stage=1
   ·obtain⟨s,e1,e2,e3⟩:=j3 s1
    obtain⟨b1,b2⟩:=l1 s1
    have D1:=D.scan s (by simp only[scOf];rw[if_pos s1,e1])
    have hrc0:h.held[t]? = some s.record:=D1.rcd
    have hrr:h.held.getD t 0=s.record:=by rw[hh]at hrc0;injection hrc0
    have P:=scan_ls C e2 G D1 (by rw[←hrr];exact b1 s e1) U
    have hst:Zn (h,a) m i t cl se (.unr u)=(false,((Zf h a m s).2.1,(Zf h a m s).2.2.1),(Zf h a m s).2.2.2.1,.unr (if (Zf h a m s).1=true then Qc (Zf h a m s).2.2.1 { u with scan:=some (Zf h a m s).2.2.2.2 } else { u with scan:=some (Zf h a m s).2.2.2.2 })):=by
     simp only[Zn]
     unfold Zg
     rw[if_neg s0,if_pos s1,e1]
     simp only[]
     split<;>rfl
    rw[hst]at z1 z2 ⊢
    generalize Zf h a m s=r at P z1 z2 ⊢
    refine⟨lq_keep Lq P.held (fun q q0 hq=>P.oth q q0 fun e=>hq t (by rw[e];exact hrc0)) (zu _ z1) hok,fun rc hrc h0 hf => ?_,fun rc hrc h0 hf=>(by cases hf)⟩
    have hrc:r.2.1.held[t]? = some rc:=hrc
    rw[P.held,hrc0]at hrc
    cases hrc
    have hall:=zk _ z2 b2
    rw[hrr]at hall
    by_cases hb:r.1=true
    ·simp only[hb,if_true]
     exact empt _ _ _ _ (P.fin hb) hall
    ·simp only[hb,if_false,Yn]
     refine⟨fun hf=>by simp only[s1]at hf;omega,fun _=>⟨fun s' hs' => ?_,hall⟩,fun hf=>by simp only[s1]at hf;omega⟩
     simp only[Option.some.injEq]at hs'
     subst hs'
     exact P.ls
   ·obtain⟨b1,b2⟩:=l2 (by rcases j1 with h|h|h|h;exact absurd h s0;exact absurd h s1;exact .inl h;exact .inr h)
    have hall:=zk _ z2 b2
    by_cases s2:u.stage=2
    ·obtain⟨p,e1,_⟩:=j4 s2
     have hst:(Zn (h,a) m i t cl se (.unr u)).1=false∧(Zn (h,a) m i t cl se (.unr u)).2.1.1=h∧∃u',(Zn (h,a) m i t cl se (.unr u)).2.2.2=.unr u'∧(u'.stage=2∨u'.stage=3):=by
      simp only[Zn]
      unfold Zg
      rw[if_neg s0,if_neg s1,if_pos s2,e1]
      simp only[]
      refine⟨trivial,trivial,_,rfl,?_⟩
      simp only[]
      split
      ·exact .inr rfl
      ·exact .inl rfl
     obtain⟨k1,k2,u',k3,k4⟩:=hst
     refine⟨lq_keep Lq (by rw[k2]) (fun q _ _=>.inl (by rw[k2])) (zu _ z1) hok,fun rc hrc h0 hf => ?_,fun rc hrc h0 hf=>by rw[k1]at hf;cases hf⟩
     rw[k2,hh]at hrc
     cases hrc
     rw[k3,k2]
     exact⟨fun hf=>by omega,fun hf=>by omega,fun _=>⟨b1,hall⟩⟩
    ·have hst:Zn (h,a) m i t cl se (.unr u)=(true,({ h with held:=h.held.set t (-1) },a),m.store (adr h.c 8 (h.held.getD t 0)) (m.word (adr h.c 8 (h.held.getD t 0))) 0,.unr u):=by
      simp only[Zn]
      unfold Zg
      rw[if_neg s0,if_neg s1,if_neg s2]
      simp only[e]
     rw[hst]at z1 z2 hall ⊢
     refine⟨?_,fun rc hrc h0 hf=>(by cases hf),fun rc hrc h0 hf => ?_⟩
     ·intro q q0 q1 hq
      by_cases hqr:q=h.held.getD t 0
      ·rw[hqr]
       exact⟨b1,hall⟩
      ·have hq2:Unh h q:=by
        intro t' e'
        by_cases et:t'=t
        ·subst et;rw[hh]at e';cases e';exact hqr rfl
        ·exact hq t' (by simp only[];rw[Zx et];exact e')
       obtain⟨q2,q3⟩:=Lq q q0 q1 hq2
       refine⟨q2,fun k k0 k1 => ?_⟩
       obtain⟨j0,j1⟩:=idx_rng hok q0 q1 k0 k1
       unfold zr
       rw[z2 _ j0 j1]
       exact q3 k k0 k1
     ·simp only[]at hrc
      rw[Ye hlt]at hrc
      cases hrc;omega
 | pst p=>
  obtain⟨i1,i2,i3,_⟩:=I
  obtain⟨⟨kk,hkk,k0,k1⟩,j2,j3,j4⟩:=i3 rfl
  have LT:=Lt _ hh i2
  obtain⟨l0,l1⟩:=LT
  have plain:∀(h1:(Zn (h,a) m i t cl se (.pst p)).2.1.1=h) (h2:∃p',(Zn (h,a) m i t cl se (.pst p)).2.2.2=.pst p'∧p'.stage≠4) (h3:ll h (h.held.getD t 0)<Bt h.c),LtP h.c t (.pst p) (Zn (h,a) m i t cl se (.pst p)):=by
   intro h1 h2 h3
   obtain⟨p',e1,e2⟩:=h2
   refine⟨lq_keep Lq (by rw[h1]) (fun q _ _=>.inl (by rw[h1])) (zu _ z1) hok,fun rc hrc h0 hf => ?_,fun rc hrc h0 hf => ?_⟩
   ·rw[h1,hh]at hrc
    cases hrc
    rw[e1,h1]
    exact⟨fun _=>h3,fun hf=>absurd hf e2⟩
   ·rw[h1,hh]at hrc
    cases hrc
    rw[h1]
    exact⟨h3,fun hk=>by simp only[kd]at hk;omega⟩
  by_cases s0:p.stage=0
  ·have h3:=l0 (by omega)
   have hst:(Zn (h,a) m i t cl se (.pst p)).2.1.1=h∧∃p',(Zn (h,a) m i t cl se (.pst p)).2.2.2=.pst p'∧p'.stage≠4:=by
    simp only[Zn]
    unfold Zj
    rw[hkk]
    simp only[]
    rw[if_pos s0]
    split
    ·refine⟨rfl,_,rfl,?_⟩
     unfold ZE
     split
     ·simp only[s0];omega
     ·simp
    ·refine⟨rfl,_,rfl,?_⟩
     simp only[s0];omega
   exact plain hst.1 hst.2 h3
  by_cases s1:p.stage=1
  ·have h3:=l0 (by omega)
   refine plain ?_ ?_ h3
   ·simp only[Zn];unfold Zj;rw[hkk];simp only[];rw[if_neg s0,if_pos s1]
   ·simp only[Zn];unfold Zj;rw[hkk];simp only[];rw[if_neg s0,if_pos s1]
    exact⟨_,rfl,by simp⟩
  by_cases s2:p.stage=2
  ·have h3:=l0 (by omega)
   refine plain ?_ ?_ h3
   ·simp only[Zn];unfold Zj;rw[hkk];simp only[];rw[if_neg s0,if_neg s1,if_pos s2]
   ·simp only[Zn];unfold Zj;rw[hkk];simp only[];rw[if_neg s0,if_neg s1,if_pos s2]
    exact⟨_,rfl,by simp⟩
  by_cases s3:p.stage=3
  ·have h3:=l0 (by omega)
   have s4':p.stage≠4:=by omega
   by_cases hw:m.word (adr h.c 2 0)=p.saw∧¬p.saw-1<0
   ·obtain⟨hw1,hw2⟩:=hw
    have hpt:p.thread.toNat=t:=by omega
    obtain⟨h1,hh1⟩:∃h1,h1=({ h with lists:=h.lists.set (h.held.getD t 0).toNat (h.lists.getD (h.held.getD t 0).toNat []++[p.saw-1]) }:Haz):=⟨_,rfl⟩
    have hl1:(h.held.getD t 0).toNat<h.lists.length:=by rw[C.lists];omega
    have hc1:h1.c=h.c:=by rw[hh1]
    have hll:ll h1 (h.held.getD t 0)=ll h (h.held.getD t 0)+1:=by
     unfold ll
     rw[hh1]
     simp only[]
     rw[getD_set i2 i2,if_pos ⟨rfl,hl1⟩,List.length_append]
     simp
    have R1:=ready_ls (h:=h1) hok hc1 (s:=⟨p.thread,h.held.getD t 0,6,0,false,fun _=>0,[],none⟩) i2 hr1 (by simp only[];omega)
    have hst:(Zn (h,a) m i t cl se (.pst p)).2.1.1=h1 ∧
      (((ll h (h.held.getD t 0))+1<h.c.Rt∧(Zn (h,a) m i t cl se (.pst p)).1=true)∨((Zn (h,a) m i t cl se (.pst p)).1=(ZK h1 ⟨p.thread,h.held.getD t 0,6,0,false,fun _=>0,[],none⟩).1∧∃p',(Zn (h,a) m i t cl se (.pst p)).2.2.2=.pst p'∧p'.stage=4∧p'.retire=some ⟨p.thread,p.saw-1,some (ZK h1 ⟨p.thread,h.held.getD t 0,6,0,false,fun _=>0,[],none⟩).2⟩)):=by
     simp only[Zn]
     unfold Zj
     rw[hkk]
     simp only[]
     rw[if_neg s0,if_neg s1,if_neg s2,if_pos s3,if_pos hw1]
     unfold ZY
     simp only[]
     rw[if_neg hw2]
     unfold ZA
     simp only[hpt]
     by_cases hr:((h.lists.getD (h.held.getD t 0).toNat []).length:Int)+1<h.c.Rt
     ·rw[if_pos hr]
      exact⟨hh1.symm,.inl ⟨hr,rfl⟩⟩
     ·rw[if_neg hr,←hh1]
      exact⟨rfl,.inr ⟨rfl,_,rfl,rfl,rfl⟩⟩
    obtain⟨k1,k2⟩:=hst
    refine⟨lq_keep Lq (by rw[k1,hh1]) (fun q q0 hq=>.inl ?_) (zu _ z1) hok,fun rc hrc h0 hf => ?_,fun rc hrc h0 hf => ?_⟩
    ·rw[k1,hh1]
     simp only[]
     rw[getD_set q0 i2,if_neg (fun h=>hq t (by rw[h.1];exact hh))]
    ·rw[k1]at hrc ⊢
     rw[hh1]at hrc
     have hrc:h.held[t]? = some rc:=hrc
     rw[hh]at hrc
     cases hrc
     rcases k2 with⟨_,k3⟩|⟨_,p',k3,k4,k5⟩
     ·rw[k3]at hf;cases hf
     ·rw[k3]
      refine⟨fun hf=>absurd k4 hf,fun _ r s hr hs => ?_⟩
      rw[k5]at hr
      cases hr
      simp only[Option.some.injEq]at hs
      subst hs
      exact R1.1
    ·rw[k1]at hrc ⊢
     rw[hh1]at hrc
     have hrc:h.held[t]? = some rc:=hrc
     rw[hh]at hrc
     cases hrc
     refine⟨?_,fun hk=>by simp only[kd]at hk;omega⟩
     rcases k2 with⟨k3,_⟩|⟨k3,_⟩
     ·rw[hll];omega
     ·rw[k3]at hf
      have:=R1.2 hf
      simp only[]at this
      omega
   ·refine plain ?_ ?_ h3
    ·simp only[Zn];unfold Zj;rw[hkk];simp only[];rw[if_neg s0,if_neg s1,if_neg s2,if_pos s3]
     split
     ·rename_i hw1
      unfold ZY
      simp only[]
      rw[if_pos (by omega)]
     ·rfl
    ·simp only[Zn];unfold Zj;rw[hkk];simp only[];rw[if_neg s0,if_neg s1,if_neg s2,if_pos s3]
     split
     ·rename_i hw1
      unfold ZY
      simp only[]
      rw[if_pos (by omega)]
      exact⟨_,rfl,fun hf=>s4' hf⟩
     ·exact⟨_,rfl,by simp⟩
  have s4:p.stage=4:=by rcases j2 with h|h|h|h|h<;>first|exact absurd h s0|exact absurd h s1|exact absurd h s2|exact absurd h s3|exact h
  obtain⟨r,sc,e1,e2,e3,e4⟩:=j4 s4
  have D1:=D.scan sc (by simp only[scOf];rw[if_pos s4,e1];exact e2)
  have hrc0:h.held[t]? = some sc.record:=D1.rcd
  have hrr:h.held.getD t 0=sc.record:=by rw[hh]at hrc0;injection hrc0
  have P:=scan_ls C e3 G D1 (by rw[←hrr];exact l1 s4 r sc e1 e2) U
  have hst:Zn (h,a) m i t cl se (.pst p)=((Zf h a m sc).1,((Zf h a m sc).2.1,(Zf h a m sc).2.2.1),(Zf h a m sc).2.2.2.1,.pst { p with take:=some kk,retire:=some { r with scan:=some (Zf h a m sc).2.2.2.2 } }):=by
   simp only[Zn]
   unfold Zj
   rw[hkk]
   simp only[]
   rw[if_neg s0,if_neg s1,if_neg s2,if_neg s3,e1]
   simp only[e2]
  rw[hst]at z1 z2 ⊢
  generalize Zf h a m sc=q at P z1 z2 ⊢
  refine⟨lq_keep Lq P.held (fun q' q0 hq=>P.oth q' q0 fun e=>hq t (by rw[e];exact hrc0)) (zu _ z1) hok,fun rc hrc h0 hf => ?_,fun rc hrc h0 hf => ?_⟩
  ·have hrc:q.2.1.held[t]? = some rc:=hrc
   rw[P.held,hrc0]at hrc
   cases hrc
   refine⟨fun hf=>absurd s4 hf,fun _ r' s' hr' hs' => ?_⟩
   simp only[Option.some.injEq]at hr'
   subst hr'
   simp only[Option.some.injEq]at hs'
   subst hs'
   exact P.ls
  ·have hrc:q.2.1.held[t]? = some rc:=hrc
   rw[P.held,hrc0]at hrc
   cases hrc
   have h3:=P.fin hf
   exact⟨by show ll q.2.1 sc.record<_;omega,fun _=>h3⟩
end
end
section
structure LenJ (c:Cfg)(n:Nat)(y:HW):Prop where
 un:LqS c y.s.1 y.m
 th:∀(t:Nat) (r:Int),y.s.1.held[t]? = some r→0≤r→(y.tasks[t]? = some none→ll y.s.1 r<Bt c)∧∀k se,y.tasks[t]? = some (some k)→y.m.seats[t]? = some se→LenT c se.ready (ll y.s.1 r) (zr c y.m r) k
 sc:∀x∈y.m.calls,x.op=25→x.end_+1=n→∀(t:Nat) (r:Int),x.thread=(t:Int)→y.s.1.held[t]? = some r→0≤r→ll y.s.1 r≤Am c
 se:∀(t:Nat) (s:Sea),y.m.seats[t]? = some s→s.last<0∨∃(i:Nat) (x:Cll),s.last=(i:Int)∧y.m.calls[i]? = some x∧x.thread=(t:Int)
section
variable {c:Cfg}{n:Nat}{y y':HW}
theorem LenT.mono {b:Bool}{l:Int}{Z Z':Int→Prop}{k:Zz}(h:LenT c b l Z k)(hz:∀q,0≤q→q<c.Hz→Z q→Z' q)(hu:∀u,k=.unr u→u.stage=0→u.k≤c.Hz):LenT c b l Z' k:=by
 cases k with
 | unr u=>
  obtain⟨h1,h2,h3⟩:=h
  refine⟨fun hs=>⟨(h1 hs).1,fun q q0 q1=>hz q q0 (by have:=hu u rfl hs;omega) ((h1 hs).2 q q0 q1)⟩,fun hs=>⟨(h2 hs).1,fun q q0 q1=>hz q q0 q1 ((h2 hs).2 q q0 q1)⟩,fun hs=>⟨(h3 hs).1,fun q q0 q1=>hz q q0 q1 ((h3 hs).2 q q0 q1)⟩⟩
 | reg r=>exact h
 | pst p=>exact h
 | rdg r=>exact h
 | clr ad=>exact h
 | scn s=>exact h
theorem LenT.mono2 {b:Bool}{l:Int}{Z Z':Int→Prop}{k:Zz}(h:LenT c b l Z k)(hz:∀q,Z q→Z' q):LenT c b l Z' k:=by
 cases k with
 | unr u=>
  obtain⟨h1,h2,h3⟩:=h
  exact⟨fun hs=>⟨(h1 hs).1,fun q q0 q1=>hz q ((h1 hs).2 q q0 q1)⟩,fun hs=>⟨(h2 hs).1,fun q q0 q1=>hz q ((h2 hs).2 q q0 q1)⟩,fun hs=>⟨(h3 hs).1,fun q q0 q1=>hz q ((h3 hs).2 q q0 q1)⟩⟩
 | reg r=>exact h
 | pst p=>exact h
 | rdg r=>exact h
 | clr ad=>exact h
 | scn s=>exact h
theorem lst_rdy {h:Haz}{a:Are}{m:Mch}{L S N t i:Nat}{cl:Cll}{se:Sea}{k:Zz}(C:Core c L S N h a m)(I:TI c t false (h.held.getD t 0) (a.caches.getD t []) k)(ht:(t:Int)<c.T)(hrec:∀s,k=.scn s→h.held[t]? = some s.record)
  (Lq:LqS c h m) (Lt:∀rc,h.held[t]? = some rc→0≤rc→LenT c false (ll h rc) (zr c m rc) k):LtP c t k (Qj (h,a) m i t cl se k):=by
 have hok:=C.ok
 have hBt:=bt_le c
 have base:∀m' b k',m'.mem.words=m.mem.words→(∀rc,h.held[t]? = some rc→0≤rc→LenT c true (ll h rc) (zr c m rc) k'∧ll h rc<Bt c∧(b=true→kd k≠25))→LtP c t k (b,(h,a),m',k'):=by
  intro m' b k' hm hk
  have hmv:=QW (c:=c) hm
  refine⟨fun q q0 q1 hq => ?_,fun rc hrc h0 _ => ?_,fun rc hrc h0 hb => ?_⟩
  ·obtain⟨h1,h2⟩:=Lq q q0 q1 hq
   refine⟨h1,fun k k0 k1 => ?_⟩
   unfold zr
   rw[hmv];exact h2 k k0 k1
  ·exact(hk rc hrc h0).1.mono2 fun q hz=>by unfold zr at hz ⊢;rw[hmv];exact hz
  ·obtain⟨_,h2,h3⟩:=hk rc hrc h0
   exact⟨h2,fun hf=>absurd hf (h3 hb)⟩
 cases k with
 | reg r=>exact base m false _ rfl fun rc hrc h0=>⟨Lt rc hrc h0,Lt rc hrc h0,fun h=>(by cases h)⟩
 | rdg r=>exact base m false _ rfl fun rc hrc h0=>⟨Lt rc hrc h0,Lt rc hrc h0,fun h=>(by cases h)⟩
 | clr ad=>exact base m false _ rfl fun rc hrc h0=>⟨Lt rc hrc h0,Lt rc hrc h0,fun h=>(by cases h)⟩
 | unr u=>
  refine⟨fun q q0 q1 hq=>Lq q q0 q1 hq,fun rc hrc h0 _=>Lt rc hrc h0,fun rc hrc h0 hb=>(by cases hb)⟩
 | pst p=>
  obtain⟨_,_,_,i4⟩:=I
  obtain⟨_,p2,_⟩:=i4 rfl
  simp only[Qj]
  have hw:(Zq a m i t cl se p).2.2.1.mem.words=m.mem.words∧(Zq a m i t cl se p).2.2.2.stage≠4:=by
   have e1:(Zk a m ⟨p.thread,1,0,0,0,false⟩).2.2.1.mem.words=m.mem.words:=by
    unfold Zk
    simp only[]
    split<;>rfl
   unfold Zq
   simp only[]
   split
   ·unfold ZE
    split
    ·exact⟨e1,by simp only[p2];omega⟩
    ·exact⟨e1,by simp⟩
   ·exact⟨e1,by simp only[p2];omega⟩
  generalize Zq a m i t cl se p=r at hw ⊢
  have hmv:=QW (c:=c) hw.1
  have hl:∀rc,h.held[t]? = some rc→0≤rc→ll h rc<Bt c:=fun rc hrc h0=>(Lt rc hrc h0).1 (by omega)
  refine⟨fun q q0 q1 hq => ?_,fun rc hrc h0 _=>⟨fun _=>hl rc hrc h0,fun hf=>absurd hf hw.2⟩,fun rc hrc h0 hb=>⟨hl rc hrc h0,fun hf=>by simp only[kd]at hf;omega⟩⟩
  obtain⟨h1,h2⟩:=Lq q q0 q1 hq
  refine⟨h1,fun k k0 k1 => ?_⟩
  unfold zr
  simp only[]
  rw[hmv];exact h2 k k0 k1
 | scn s=>
  obtain⟨_,i2,_⟩:=I
  obtain⟨r0,r1,_⟩:=i2 rfl
  have hrc0:=hrec s rfl
  have hb:ll h s.record<Bt c:=by simpa[LenT] using Lt s.record hrc0 r0
  obtain⟨R1,R2⟩:=ready_ls (h:=h) hok C.hc (s:=s) r0 r1 (by omega)
  refine⟨fun q q0 q1 hq=>Lq q q0 q1 hq,fun rc hrc h0 hf => ?_,fun rc hrc h0 hb' => ?_⟩
  ·have hrc:h.held[t]? = some rc:=hrc
   rw[hrc0]at hrc
   injection hrc with hrc
   subst hrc
   exact R1
  ·have hrc:h.held[t]? = some rc:=hrc
   rw[hrc0]at hrc
   injection hrc with hrc
   subst hrc
   exact⟨hb,fun _=>R2 hb'⟩
theorem lenJ_ok (c:Cfg)(hok:c.Ok):JOk c (fun n _ y=>RcJ c n y∧LenJ c n y):=by
 have hR:=hok.R1
 have RK:=rcJ_ok c hok
 have hBt:=bt_le c
 have hA:=am_nn hok
 refine⟨?_,?_,?_,?_⟩
 ·intro km vs
  refine⟨RK.start km vs,?_,?_,?_,fun t s h=>Or.inl ?_⟩
  ·intro q q0 q1 _
   obtain⟨_,_,_,_,_,w6⟩:=mv0 hok (m:=(wst0 c km vs).m) rfl
   refine⟨?_,fun k _ _=>w6 _⟩
   have e:(List.replicate c.R.toNat ([]:List Int)).getD q.toNat []=[]:=by
    rw[Yb,List.getElem?_replicate];split<;>rfl
   show(((List.replicate c.R.toNat ([]:List Int)).getD q.toNat []).length:Int)≤_
   rw[e];exact hA
  ·intro t r h h0
   have:r = -1:=(List.mem_replicate.1 (Yc h)).2
   omega
  ·intro x hx
   exact absurd hx (List.not_mem_nil)
  ·have:s=sea0:=(List.mem_replicate.1 (Yc h)).2
   subst this
   show(-1:Int)<0
   omega
 ·intro n pr y hn P R D J
  refine⟨RK.tick n pr y hn P R D J.1,J.2.un,J.2.th,fun x hx _ he => ?_,J.2.se⟩
  have:=clok_end (R.cl x hx)
  omega
 ·intro n pr y mv t k v vc hn P R D J ht htT hop hk hK hmk
  refine⟨RK.beg n pr y mv t k v vc hn P R D J.1 ht htT hop hk hK hmk,J.2.un,?_,?_,?_⟩
  ·have hlt:=(List.getElem?_eq_some_iff.1 hk).1
   have hs:t<y.m.seats.length:=by rw[P.seats,←P.tasks];exact hlt
   intro t' r hr h0
   by_cases et:t'=t
   ·subst et
    have hl:=(J.2.th t' r hr h0).1 hk
    refine⟨fun hf => ?_,fun k' se hk' hse => ?_⟩
    ·simp only[]at hf
     rw[Ye hlt]at hf
     cases hf
    ·simp only[ZD]at hk' hse
     rw[Ye hlt]at hk'
     rw[Ye hs]at hse
     cases hk';cases hse
     have hmk':ZW (y.s.1,y.s.2) t' mv=some k:=hmk
     unfold ZW at hmk'
     simp only[]at hmk'
     repeat'(split at hmk')
     all_goals first
      | (cases hmk';done)
      | (cases hmk';exact hl)
      | (cases hmk';exact⟨fun _=>⟨hl,fun q q0 q1=>by simp only[]at q1;omega⟩,fun hf=>by simp at hf,fun hf=>by simp at hf⟩)
      | (cases hmk';exact⟨fun _=>hl,fun hf=>by simp at hf⟩)
   ·obtain⟨h1,h2⟩:=J.2.th t' r hr h0
    refine⟨fun hf => ?_,fun k' se hk' hse => ?_⟩
    ·simp only[]at hf
     rw[Zx et]at hf
     exact h1 hf
    ·simp only[ZD]at hk' hse
     rw[Zx et]at hk' hse
     exact h2 k' se hk' hse
  ·intro x hx hop' he
   simp only[ZD]at hx
   rcases List.mem_append.1 hx with hx|hx
   ·have:=clok_end (R.cl x hx)
    omega
   ·simp at hx;subst hx
    simp only[]at he
    omega
  ·intro t' s hse
   have hs:t<y.m.seats.length:=by rw[P.seats,←P.tasks];exact(List.getElem?_eq_some_iff.1 hk).1
   simp only[ZD]at hse ⊢
   by_cases et:t'=t
   ·subst et
    rw[Ye hs]at hse
    cases hse
    exact Or.inr ⟨_,_,rfl,by rw[List.getElem?_append_right (Nat.le_refl _),Nat.sub_self];rfl,ht⟩
   ·rw[Zx et]at hse
    rcases J.2.se t' s hse with h|⟨i,x,h1,h2,h3⟩
    ·exact Or.inl h
    ·exact Or.inr ⟨i,x,h1,by rw[List.getElem?_append_left (List.getElem?_eq_some_iff.1 h2).1];exact h2,h3⟩
 ·intro n pr F y t i cl se k Z Y r1 pr1 F1 r2 pr2 F2 hn P R SO R' J
  obtain⟨Jr,J⟩:=J
  refine⟨RK.step n pr F y t i cl se k Z Y r1 pr1 F1 r2 pr2 F2 hn P R SO R' Jr,?_⟩
  have hlt:t<y.s.1.held.length:=by rw[P.core.held];have:=SO.htT;omega
  have e0:(QG y t i se).mem.words=y.m.mem.words:=rfl
  have hmv0:=QW (c:=c) e0
  have Lq0:LqS c y.s.1 (QG y t i se):=by
   intro q q0 q1 hq
   obtain⟨h1,h2⟩:=J.un q q0 q1 hq
   refine⟨h1,fun k k0 k1 => ?_⟩
   unfold zr
   rw[hmv0];exact h2 k k0 k1
  have Lt0:∀rc,y.s.1.held[t]? = some rc→0≤rc→LenT c se.ready (ll y.s.1 rc) (zr c (QG y t i se) rc) k:=by
   intro rc hrc h0
   refine((J.th t rc hrc h0).2 k se SO.hk SO.hse).mono2 fun q hz => ?_
   unfold zr at hz ⊢
   rw[hmv0];exact hz
  have hkd1:kd r1.2.2.2=kd k:=SO.h1.kd
  have L1:LtP c t k r1:=by
   rcases SO.rdy with⟨hf,e1⟩|⟨hf,e1,_,_⟩
   ·have hI:=SO.i0
    rw[hf]at hI Lt0
    rw[e1]
    refine lst_rdy SO.c0 hI SO.htT (fun s hs => ?_) Lq0 Lt0
    exact(SO.d0.scan s (by rw[hs];rfl)).rcd
   ·rw[e1]
    rw[hf]at Lt0
    exact⟨Lq0,fun rc hrc h0 _=>Lt0 rc hrc h0,fun rc hrc h0 hb=>(by cases hb)⟩
  have L2:LtP c t k r2:=by
   rcases SO.stp with⟨_,e1,_,_⟩|⟨hf,e1⟩
   ·rw[e1];exact L1
   ·have G:=SO.h1.gd
    have hI:=SO.h1.ti hf
    have D:=SO.h1.td hf
    have hrS:rS r1=hS r1.2.2.2:=by unfold rS;rw[if_neg (by simp[hf])]
    have hrL:rL r1=hL r1.2.2.2:=by unfold rL;rw[if_neg (by simp[hf])]
    rw[hrS,hrL]at G
    have X:=lst_stp (i:=i) (cl:=getC r1.2.2.1 i) (se:=getS r1.2.2.1 t) (k:=r1.2.2.2) SO.h1.core SO.htT hI G D L1.un (fun rc hrc h0=>L1.go rc hrc h0 hf) (fun j hj => ?_) (fun hw j j0 j1 => ?_)
    ·have e2:Zn (r1.2.1.1,r1.2.1.2) r1.2.2.1 i t (getC r1.2.2.1 i) (getS r1.2.2.1 t) r1.2.2.2=r2:=e1.symm
     rw[e2]at X
     exact⟨X.un,X.go,fun rc hrc h0 hb=>by have:=X.fin rc hrc h0 hb;rw[hkd1]at this;exact this⟩
    ·have e2:Zn (r1.2.1.1,r1.2.1.2) r1.2.2.1 i t (getC r1.2.2.1 i) (getS r1.2.2.1 t) r1.2.2.2=r2:=e1.symm
     rw[e2]
     exact(SO.rl2.hz j fun h=>hj h.1).1
    ·have E:=evp_stp (i:=i) (cl:=getC r1.2.2.1 i) (se:=getS r1.2.2.1 t) (k:=r1.2.2.2) (Q:=fun _=>True) (P:=fun s0=>∀j,pr1 j→(mv c r1.2.2.1).hz j≠s0+1) (B:=fun _=>True) SO.h1.core SO.htT SO.h1.thread hI G D (fun _ _=>trivial) (fun _ _ _=>trivial) (fun _ _ _=>trivial) (fun _ h=>h) (fun _ _=>trivial)
     exact evp_hz hok E hw j0 j1
  have hb0:(Qg y t i r2).s=r2.2.1:=rfl
  have hwd:(Qg y t i r2).m.mem.words=r2.2.2.1.mem.words:=by
   show(ZC _ _ _ _ _ _ _).mem.words=_
   unfold ZC;split<;>rfl
  have hmv2:=QW (c:=c) hwd
  obtain⟨z,g1,g2,g3,g4⟩:=SO.h2.getC SO.hc
  obtain⟨q,v,s1,s2,s3,s4⟩:=SO.h2.getS SO.hse
  have htlt:=(List.getElem?_eq_some_iff.1 SO.hse).1
  have htk:=(List.getElem?_eq_some_iff.1 SO.hk).1
  have hcs:(Qg y t i r2).m.calls=y.m.calls.set i (if r2.1=true then { cl with point:=z,end_:=y.m.moves,kind:=q,value:=v } else { cl with point:=z }):=by
   show(ZC _ _ _ _ _ _ _).calls=_
   unfold ZC
   by_cases hb:r2.1=true
   ·rw[if_pos hb,if_pos hb]
    simp only[g1,s1,g2,Yl]
   ·rw[if_neg hb,if_neg hb]
    exact g2
  refine⟨?_,?_,?_,?_⟩
  ·intro q q0 q1 hq
   obtain⟨h1,h2⟩:=L2.un q q0 q1 hq
   refine⟨h1,fun k k0 k1 => ?_⟩
   unfold zr
   rw[hmv2];exact h2 k k0 k1
  ·intro t' r hr h0
   have hr:r2.2.1.1.held[t']? = some r:=hr
   by_cases et:t'=t
   ·subst et
    refine⟨fun hf => ?_,fun k' se' hk' hse' => ?_⟩
    ·have hf:(y.tasks.set t' (if r2.1=true then none else some r2.2.2.2))[t']? = some none:=hf
     rw[Ye htk]at hf
     by_cases hb:r2.1=true
     ·exact(L2.fin r hr h0 hb).1
     ·rw[if_neg hb]at hf;cases hf
    ·have hk':(y.tasks.set t' (if r2.1=true then none else some r2.2.2.2))[t']? = some (some k'):=hk'
     rw[Ye htk]at hk'
     by_cases hb:r2.1=true
     ·rw[if_pos hb]at hk';cases hk'
     ·rw[if_neg hb]at hk'
      injection hk' with hk'
      injection hk' with hk'
      subst hk'
      have hse2:(ZC r2.2.2.1 t' i y.m.moves (getC r2.2.2.1 i) (getS r2.2.2.1 t') r2.1).seats[t']? = some se':=hse'
      unfold ZC at hse2
      rw[if_neg hb]at hse2
      have hse2:r2.2.2.1.seats[t']? = some se':=hse2
      rw[s3]at hse2
      injection hse2 with hse2
      subst hse2
      refine(L2.go r hr h0 (by simpa using hb)).mono2 fun q hz => ?_
      unfold zr at hz ⊢
      rw[hmv2];exact hz
   ·have hr1:r1.2.1.1.held[t']? = some r:=by
     have:=SO.rl2.he t' et
     have this:r2.2.1.1.held[t']? = r1.2.1.1.held[t']? := this
     rw[←this];exact hr
    have hr0:y.s.1.held[t']? = some r:=by rw[←SO.he1];exact hr1
    have hl1:r1.2.1.1.lists.getD r.toNat []=y.s.1.lists.getD r.toNat []:=SO.rl1.li t' r et hr0 h0
    have hl2:r2.2.1.1.lists.getD r.toNat []=r1.2.1.1.lists.getD r.toNat []:=SO.rl2.li t' r et hr1 h0
    have hll:ll r2.2.1.1 r=ll y.s.1 r:=by unfold ll;rw[hl2,hl1]
    have hrR:r<c.R:=by
     have:=P.core.hin r (Yc hr0)
     omega
    have hzz:∀q,0≤q→q<c.Hz→(mv c r2.2.2.1).hz (r*c.Hz+q)=(mv c y.m).hz (r*c.Hz+q):=by
     intro q q0 q1
     have a1:(mv c r2.2.2.1).hz (r*c.Hz+q)=(mv c r1.2.2.1).hz (r*c.Hz+q):=by
      refine(SO.rl2.hz _ fun h => ?_).1
      have ho:Own c t' (rsx pr1 c r1) (r*c.Hz+q):=⟨r,hr1,h0,hrR,by omega,by omega⟩
      exact et (own_two SO.h1.gd hok h.1 ho)
     have a2:(mv c r1.2.2.1).hz (r*c.Hz+q)=(mv c (QG y t i se)).hz (r*c.Hz+q):=by
      refine(SO.rl1.hz _ fun h => ?_).1
      have ho:Own c t' (sx pr c y.s.1 y.s.2 (QG y t i se)) (r*c.Hz+q):=⟨r,hr0,h0,hrR,by omega,by omega⟩
      exact et (own_two SO.g0 hok h.1 ho)
     rw[a1,a2,hmv0]
    obtain⟨h1,h2⟩:=J.th t' r hr0 h0
    have htk':(y.tasks.set t (if r2.1=true then none else some r2.2.2.2))[t']? = y.tasks[t']? := Zx et
    have hst':(Qg y t i r2).m.seats[t']? = y.m.seats[t']? := by
     show(ZC r2.2.2.1 t i y.m.moves (getC r2.2.2.1 i) (getS r2.2.2.1 t) r2.1).seats[t']? = _
     unfold ZC
     split
     ·simp only[]
      rw[Zx et,s2,Zx et]
     ·rw[s2,Zx et]
    refine⟨fun hf => ?_,fun k' se' hk' hse' => ?_⟩
    ·have hf:(y.tasks.set t (if r2.1=true then none else some r2.2.2.2))[t']? = some none:=hf
     rw[htk']at hf
     show ll r2.2.1.1 r<_
     rw[hll];exact h1 hf
    ·have hk':(y.tasks.set t (if r2.1=true then none else some r2.2.2.2))[t']? = some (some k'):=hk'
     rw[htk']at hk'
     rw[hst']at hse'
     have hT:=h2 k' se' hk' hse'
     show LenT c se'.ready (ll r2.2.1.1 r) _ k'
     rw[hll]
     refine hT.mono (fun q q0 q1 hz => ?_) (fun u hu h0 => ?_)
     ·unfold zr at hz ⊢
      rw[hmv2,hzz q q0 q1];exact hz
     ·subst hu
      obtain⟨_,I⟩:=P.task t' (.unr u) se' hk' hse'
      obtain⟨_,_,I⟩:=I
      have:=(I.k h0).2;omega
  ·intro x hx hop he t' r hxt hr h0
   rw[hcs]at hx
   rcases ZZ hx with rfl|⟨j,hj,hx⟩
   ·by_cases hb:r2.1=true
    ·rw[if_pos hb]at hop hxt
     have hop:cl.op=25:=hop
     have hxt:cl.thread=(t':Int):=hxt
     have hopk:=Jr.op t i k se cl SO.hk SO.hse SO.hl SO.hc
     have ett:t'=t:=by have:=SO.thr;omega
     subst ett
     exact(L2.fin r hr h0 hb).2 (by omega)
    ·rw[if_neg hb]at he
     have he:cl.end_+1=((n+1:Nat):Int):=he
     have:=SO.end_
     omega
   ·have:=clok_end (R.cl x (Yc hx))
    omega
  ·intro t' s' hse'
   rw[hcs]
   have hil:=(List.getElem?_eq_some_iff.1 SO.hc).1
   have key:∀s0:Sea,y.m.seats[t']? = some s0→s0.last<0∨∃(i':Nat) (x:Cll),s0.last=(i':Int)∧(y.m.calls.set i (if r2.1=true then { cl with point:=z,end_:=y.m.moves,kind:=q,value:=v } else { cl with point:=z }))[i']? = some x∧x.thread=(t':Int):=by
    intro s0 h0
    rcases J.se t' s0 h0 with h|⟨i',x,h1,h2,h3⟩
    ·exact Or.inl h
    ·refine Or.inr ⟨i',?_⟩
     by_cases ei:i'=i
     ·subst ei
      rw[SO.hc]at h2
      cases h2
      refine⟨_,h1,Ye hil,?_⟩
      split<;>exact h3
     ·exact⟨x,h1,by rw[Zx ei];exact h2,h3⟩
   by_cases et:t'=t
   ·subst et
    have hl:s'.last=se.last:=by
     have hse2:(ZC r2.2.2.1 t' i y.m.moves (getC r2.2.2.1 i) (getS r2.2.2.1 t') r2.1).seats[t']? = some s':=hse'
     unfold ZC at hse2
     split at hse2
     ·simp only[]at hse2
      rw[s2,Yl,Ye htlt,s1]at hse2
      cases hse2;rfl
     ·have hse2:r2.2.2.1.seats[t']? = some s':=hse2
      rw[s3]at hse2
      cases hse2;rfl
    rw[hl]
    exact key se SO.hse
   ·have hst':(Qg y t i r2).m.seats[t']? = y.m.seats[t']? := by
     show(ZC r2.2.2.1 t i y.m.moves (getC r2.2.2.1 i) (getS r2.2.2.1 t) r2.1).seats[t']? = _
     unfold ZC
     split
     ·simp only[]
      rw[Zx et,s2,Zx et]
     ·rw[s2,Zx et]
    rw[hst']at hse'
    exact key s' hse'
end
end
end Go.Proofs.YtegafhhdegnigaaGreat
