import Derived.Test.YtefjbdajgakgpaaGreatDRo3
set_option linter.all false
namespace Go.Proofs.YtefjbdajgakgpaaGreat
open Go.RowKit Hp
set_option maxRecDepth 100000
set_option maxHeartbeats 1000000
attribute [local irreducible] Go.Calls
section
variable [TopR]
section
variable {c:Cfg}{Lg S N:Nat}{h:Haz}{a:Are}{m:Mch}
variable {n:Int}{Z Y:Int→Nat}{F stk:List Int}{pr:Int→Prop}{K L:List Int}{t:Nat}{W:Int→Prop}
theorem last_of {x:List Int}(h:x.length≠0):x=x.take (x.length-1)++[x.getD (x.length-1) 0]:=by
 have hlt:x.length-1<x.length:=by omega
 have h1:x.drop (x.length-1)=[x.getD (x.length-1) 0]:=by
  rw[List.drop_eq_getElem_cons hlt]
  have:x.length-1+1=x.length:=by omega
  rw[this,List.drop_length,Yb,Yd hlt];rfl
 conv=>lhs;rw[←List.take_append_drop (x.length-1) x,h1]
theorem takeReady_gd {k:Tak}(C:Core c Lg S N h a m)(hk:k.thread=(t:Int))(ht:(t:Int)<c.T)(hm:m.thread=(t:Int))(G:Gd c n Z Y F (sx stk pr c h a m) [] L) :
  (Zf a m k=(false,a,m,k))∨((Zf a m k).1=true∧Gd c n Z Y F (sx stk pr c h (Zf a m k).2.1 (Zf a m k).2.2.1) [Zd (Zf a m k).2.2.2] L∧Rl Z t W (sx stk pr c h a m) (sx stk pr c h (Zf a m k).2.1 (Zf a m k).2.2.1) ∧
   (Zf a m k).2.1.sl (Zd (Zf a m k).2.2.2)=⟨2,(t:Int)⟩):=by
 have e:k.thread.toNat=t:=by omega
 have htc:t<a.caches.length:=by rw[C.caches];omega
 have hy:a.caches[t]? = some (a.caches.getD t []):=by rw[Yb,Yd htc];rfl
 unfold Zf
 simp only[e]
 by_cases h0:(a.caches.getD t []).length=0
 ·rw[if_pos h0];exact .inl rfl
 ·rw[if_neg h0]
  generalize a.caches.getD t []=x at hy h0 ⊢
  have hx:=last_of h0
  generalize x.take (x.length-1)=y at hx ⊢
  generalize x.getD (x.length-1) 0=s at hx ⊢
  subst hx
  have G2:=G.uncache (t:=t) (W:=W) hy
  have hR:=G2.1.range (s:=s) (by simp only[List.count_cons_self];omega)
  have hsl:s.toNat<a.slots.length:=by rw[C.slots];omega
  have hst:a.sl s=⟨1,(t:Int)⟩:=G.stC t _ hy s (by simp)
  have hpr:∀j,pr j→(mv c m).hz j≠s+1:=by
   intro j hj hz
   obtain⟨_,_,p3⟩:=G.pr1 j hj
   have p3:(a.sl ((mv c m).hz j-1)).state=3∨(a.sl ((mv c m).hz j-1)).state=4∨(a.sl ((mv c m).hz j-1)).state=5:=p3
   rw[hz,show s+1-1=s by omega,hst]at p3
   simp at p3
  have G3:=G2.1.state (t:=t) (W:=W) (s:=s) (List.mem_cons_self ..) ⟨2,(t:Int)⟩ (by simp) (.inr (.inr hpr))
  refine .inr ⟨rfl,?_⟩
  simp only[Jo,Zd,if_true]
  have e2:({ a with caches:=a.caches.set t y }:Are).shift s.toNat m.thread 2={ a.shift s.toNat m.thread 2 with caches:=a.caches.set t y }:=rfl
  have e3:=Jn (a:={ a with caches:=a.caches.set t y }) (th:=m.thread) (to:=2) hR.1 hsl
  have e4:sx stk pr c h (({ a with caches:=a.caches.set t y }:Are).shift s.toNat m.thread 2) (m.shift s (({ a with caches:=a.caches.set t y }:Are).slots.getD s.toNat ⟨0,0⟩).state 2) =
    { sx stk pr c h a m with caches:=a.caches.set t y,sl:=updS a.sl s ⟨2,(t:Int)⟩ }:=by
   unfold sx
   rw[mv_same (m:=m) rfl,e3,hm]
   rfl
  rw[e4,e3]
  refine⟨G3.1,G2.2.trans G3.2,?_⟩
  rw[Qo,hm];rfl
theorem take_gd {k:Tak}(C:Core c Lg S N h a m)(T:TkI c k)(hm:m.thread=(t:Int))(hn:n<4294967295)(G:Gd c n Z Y F (sx stk pr c h a m) [] L)(D:TkD (sx stk pr c h a m) k) :
  (∃F',Gd c (n+1) Z Y F' (sx stk pr c h (Zh a m k).2.1 (Zh a m k).2.2.1) (if 0≤Zd (Zh a m k).2.2.2 then [Zd (Zh a m k).2.2.2] else []) L)∧Rl Z t W (sx stk pr c h a m) (sx stk pr c h (Zh a m k).2.1 (Zh a m k).2.2.1) ∧
   ((Zh a m k).1=false→TkD (sx stk pr c h (Zh a m k).2.1 (Zh a m k).2.2.1) (Zh a m k).2.2.2∧Zd (Zh a m k).2.2.2 = -1) ∧
   (0≤Zd (Zh a m k).2.2.2→(Zh a m k).2.1.sl (Zd (Zh a m k).2.2.2)=⟨2,(t:Int)⟩):=by
 have hok:=C.ok
 have hac:=C.ac
 have hS2:=hok.S2
 obtain⟨t1,t2,t3,t4⟩:=T
 obtain⟨d1,d2⟩:=D
 have hA1:=C.lt (adr_lt14 hok).1
 have hno:∀z:Tak,z.taken=k.taken→Zd z = -1:=fun z hz=>took_no (hz.trans t2)
 unfold Zh
 rw[hac]
 split
 ·have e:sx stk pr c h a (m.load (adr c 1 0) (m.word (adr c 1 0)))=sx stk pr c h a m:=ZL rfl
  have hn1:=hno { k with head:=m.word (adr c 1 0),at_:=if m.word (adr c 1 0)%4294967296=0 then 0 else 2 } rfl
  simp only[hn1,e]
  refine⟨⟨F,by rw[if_neg (by omega)];exact G.mono (by omega)⟩,Rl.refl ..,fun _=>⟨⟨fun _ => ?_,fun h3 => ?_⟩,trivial⟩,fun hf=>by omega⟩
  ·show m.word (adr c 1 0) / 4294967296≤m.word (adr c 1 0) / 4294967296;omega
  ·simp only[]at h3;split at h3<;>omega
 ·rename_i h1
  obtain⟨q1,q2,q3⟩:=t3 h1
  split
  ·have e:sx stk pr c h a (m.load (adr c 10 (k.head%4294967296-1)) (m.word (adr c 10 (k.head%4294967296-1))))=sx stk pr c h a m:=ZL rfl
   have hn1:=hno { k with next:=m.word (adr c 10 (k.head%4294967296-1)),at_:=3 } rfl
   simp only[hn1,e]
   refine⟨⟨F,by rw[if_neg (by omega)];exact G.mono (by omega)⟩,Rl.refl ..,fun _=>⟨⟨fun _=>d1 h1,fun _ _ => ?_⟩,trivial⟩,fun hf=>by omega⟩
   show(mv c m).nx (k.head%4294967296-1)=_
   rw[nx_at (by omega) (by omega)]
  ·rename_i h2
   have h3:k.at_=3:=by omega
   simp only[]
   split
   ·rename_i hw
    have hw2:(mv c m).hd=k.head:=hw
    have hnx:=d2 h3 hw2
    have hnx':(mv c m).nx (k.head%4294967296-1)=k.next:=hnx
    obtain⟨t40,t41⟩:=t4 h3
    obtain⟨F',rfl,G2,R2⟩:=G.pop (t:=t) (W:=W) hn (by omega) (s:=k.head%4294967296-1) (by omega) (by show(mv c m).hd%_=_;rw[hw2];omega) (by rw[hnx];omega) (by rw[hnx];omega)
    have hR:=G2.range (s:=k.head%4294967296-1) (by simp only[List.count_cons_self];omega)
    have hsl:(k.head%4294967296-1).toNat<a.slots.length:=by rw[C.slots];omega
    have hst:(a.sl (k.head%4294967296-1)).state=0:=G.stF _ (List.mem_cons_self ..)
    have hpr:∀j,pr j→(mv c m).hz j≠(k.head%4294967296-1)+1:=by
     intro j hj hz
     obtain⟨_,_,p3⟩:=G.pr1 j hj
     have p3:(a.sl ((mv c m).hz j-1)).state=3∨(a.sl ((mv c m).hz j-1)).state=4∨(a.sl ((mv c m).hz j-1)).state=5:=p3
     rw[hz,show k.head%4294967296-1+1-1=k.head%4294967296-1 by omega,hst]at p3
     simp at p3
    have G3:=G2.state (t:=t) (W:=W) (s:=k.head%4294967296-1) (List.mem_cons_self ..) ⟨2,(t:Int)⟩ (by simp) (.inr (.inr hpr))
    simp only[Jo,Zd,if_true]
    have e3:=Jn (a:=a) (th:=m.thread) (to:=2) hR.1 hsl
    have e4:sx stk pr c h (a.shift (k.head%4294967296-1).toNat m.thread 2) ((m.swap (adr c 1 0) (m.word (adr c 1 0)) k.head ((k.head / 4294967296+1)%4294967296*4294967296+k.next)).shift (k.head%4294967296-1) (a.slots.getD (k.head%4294967296-1).toNat ⟨0,0⟩).state 2) =
      { sx stk pr c h a m with V:={ (mv c m) with hd:=((mv c m).hd / 4294967296+1)%4294967296*4294967296+(mv c m).nx (k.head%4294967296-1) },sl:=updS a.sl (k.head%4294967296-1) ⟨2,(t:Int)⟩ }:=by
     unfold sx
     rw[mv_hd hok (z:=(k.head / 4294967296+1)%4294967296*4294967296+k.next) (by simp only[Mch.shift,Mch.swap];rw[if_pos hw]) hA1,e3,hm,hw2,hnx']
     rfl
    have e5:(m.swap (adr c 1 0) (m.word (adr c 1 0)) k.head ((k.head / 4294967296+1)%4294967296*4294967296+k.next)).thread=m.thread:=rfl
    rw[if_pos (by omega),e5,e4,e3]
    refine⟨⟨F',G3.1⟩,R2.trans G3.2,fun hf=>(by cases hf),fun _ => ?_⟩
    rw[Qo,hm];rfl
   ·rename_i hw
    have e:sx stk pr c h a (m.swap (adr c 1 0) (m.word (adr c 1 0)) k.head ((k.head / 4294967296+1)%4294967296*4294967296+k.next))=sx stk pr c h a m:=ZL (by simp only[Mch.swap];rw[if_neg hw])
    have hn1:=hno { k with at_:=1 } rfl
    simp only[hn1,e]
    exact⟨⟨F,by rw[if_neg (by omega)];exact G.mono (by omega)⟩,Rl.refl ..,fun _=>⟨⟨fun hf=>absurd rfl hf,fun h3=>by simp at h3⟩,trivial⟩,fun hf=>by omega⟩
def OwW (c:Cfg)(t:Nat)(x:Sx)(l l':List Acc)(j:Int):Prop:=Own c t x j∧∃e:Acc,l'=l++[e]∧e.kind=2∧e.addr=base c 9+j
structure StP (stk:List Int)(c:Cfg)(n:Int)(Z Y:Int→Nat)(pr:Int→Prop)(h:Haz)(a:Are)(m:Mch)(t:Nat)(r:Bool×(Haz×Are)×Mch×Z8):Prop where
 ex:∃(pr':Int→Prop) (F':List Int),Gd c (n+1) Z Y F' (sx stk pr' c r.2.1.1 r.2.1.2 r.2.2.1) (if r.1=true then [] else hS r.2.2.2) (if r.1=true then [] else hL r.2.2.2)∧Rl Z t (OwW c t (sx stk pr c h a m) m.mem.log r.2.2.1.mem.log) (sx stk pr c h a m) (sx stk pr' c r.2.1.1 r.2.1.2 r.2.2.1)∧(r.1=false→TD c t (sx stk pr' c r.2.1.1 r.2.1.2 r.2.2.1) r.2.2.2)
theorem td_scn {x:Sx}{s:Scn}(D:ScD t x s):TD c t x (.scn s):=
 ⟨fun s' hs'=>by simp only[scOf,Option.some.injEq]at hs';subst hs';exact D,fun s hs=>by simp[hO]at hs,fun u hu=>(by cases hu),fun p hp=>(by cases hp),fun p hp=>(by cases hp),fun r hr=>(by cases hr),fun ad hr=>(by cases hr),fun r hr=>(by cases hr)⟩
theorem td_reg {x:Sx}{r:Reg}{u:Int}(D:x.held[t]? = some u)(hu:u<0):TD c t x (.reg r):=
 ⟨fun s' hs'=>(by cases hs'),fun s hs=>by simp[hO]at hs,fun u hu=>(by cases hu),fun p hp=>(by cases hp),fun p hp=>(by cases hp),fun r hr=>(by cases hr),fun ad hr=>(by cases hr),fun r hr=>⟨u,D,hu⟩⟩
theorem td_clr {x:Sx}{ad:Nat}(D:Own c t x (ad-base c 9)):TD c t x (.clr ad):=
 ⟨fun s' hs'=>(by cases hs'),fun s hs=>by simp[hO]at hs,fun u hu=>(by cases hu),fun p hp=>(by cases hp),fun p hp=>(by cases hp),fun r hr=>(by cases hr),fun ad' hr=>(by cases hr;exact D),fun r hr=>(by cases hr)⟩
theorem td_rdg {x:Sx}{r:Rdg}(D:Own c t x (r.addr-base c 9))(h2:r.stage=2→x.V.hz (r.addr-base c 9)=r.w)(h3:r.stage=3→x.pr (r.addr-base c 9)∧x.V.hz (r.addr-base c 9)=r.w):TD c t x (.rdg r):=
 ⟨fun s' hs'=>(by cases hs'),fun s hs=>by simp[hO]at hs,fun u hu=>(by cases hu),fun p hp=>(by cases hp),fun p hp=>(by cases hp),fun r' hr=>(by cases hr;exact⟨D,h2,h3⟩),fun ad' hr=>(by cases hr),fun r hr=>(by cases hr)⟩
theorem td_unr {x:Sx}{u:Unr}(D:u.stage=1→∀s,u.scan=some s→ScD t x s)(h2:u.stage=2→∀p,u.flush=some p→PD x p∧∃y,x.caches[t]? = some (y++[p.slot])):TD c t x (.unr u):=by
 refine⟨fun s' hs' => ?_,fun s hs=>by simp[hO]at hs,fun u' hu=>(by cases hu;exact h2),fun p hp=>(by cases hp),fun p hp=>(by cases hp),fun r' hr=>(by cases hr),fun ad' hr=>(by cases hr),fun r hr=>(by cases hr)⟩
 simp only[scOf]at hs'
 split at hs'
 ·rename_i h1;exact D h1 s' hs'
 ·cases hs'
theorem td_pst {x:Sx}{p:Pst}(D:p.stage=4→∀r s,p.retire=some r→r.scan=some s→ScD t x s)(h0:p.stage=0→∀k',p.take=some k'→TkD x k')(h1:p.stage=1∨p.stage=2∨p.stage=3→x.sl (p.link-1)=⟨2,(t:Int)⟩)(h2:p.stage=2∨p.stage=3→x.V.val (p.link-1)=p.value%18446744073709551616):TD c t x (.pst p):=by
 refine⟨fun s' hs' => ?_,fun s hs => ?_,fun u' hu=>(by cases hu),fun p' hp=>(by cases hp;exact h0),fun p' hp=>(by cases hp;exact h2),fun r' hr=>(by cases hr),fun ad' hr=>(by cases hr),fun r hr=>(by cases hr)⟩
 ·simp only[scOf]at hs'
  split at hs'
  ·rename_i h4
   cases hr:p.retire with
   | none=>rw[hr]at hs';cases hs'
   | some r=>rw[hr]at hs';exact D h4 r s' hr hs'
  ·cases hs'
 ·simp only[hO]at hs
  split at hs
  ·rename_i hst
   simp only[List.mem_singleton]at hs
   subst hs;exact h1 hst
  ·simp at hs
theorem JD (hok:c.Ok){x:Sx}{j:Int}(h:Own c t x j):0≤j∧j<c.R*c.Hz:=by
 obtain⟨r,_,r0,r1,h1,h2⟩:=h
 have hH:=hok.H1
 have h3:0≤r*c.Hz:=Int.mul_nonneg r0 (by omega)
 have h4:(r+1)*c.Hz≤c.R*c.Hz:=Int.mul_le_mul_of_nonneg_right (by omega) (by omega)
 rw[Int.add_mul,Int.one_mul]at h4
 omega
theorem hzd_gd (C:Core c Lg S N h a m){jw:Int}(ho:Own c t (sx stk pr c h a m) jw)(z:Int)(G:Gd c n Z Y F (sx stk pr c h a m) K L) :
  ∃pr',Gd c n Z Y F (sx stk pr' c h a (m.store (adr c 9 jw) (m.word (adr c 9 jw)) z)) K L∧Rl Z t (OwW c t (sx stk pr c h a m) m.mem.log (m.store (adr c 9 jw) (m.word (adr c 9 jw)) z).mem.log) (sx stk pr c h a m) (sx stk pr' c h a (m.store (adr c 9 jw) (m.word (adr c 9 jw)) z))∧(mv c (m.store (adr c 9 jw) (m.word (adr c 9 jw)) z)).hz jw=z:=by
 have hok:=C.ok
 have hb:=Qg hok
 have hb9:=(ZD hok 9).1
 obtain⟨j0,j1⟩:=JD hok ho
 have hA:adr c 9 jw<m.mem.words.length:=C.lt (by have:=ZY hok 9 j0;have:=hb.b10;have:=hb.b11;have:=hb.b12;have:=hb.b13;have:=hb.b14;have:=hok.S1;omega)
 obtain⟨g1,g2⟩:=G.hzd (t:=t) jw z j0 j1
 have e:mv c (m.store (adr c 9 jw) (m.word (adr c 9 jw)) z)={ mv c m with hz:=upd (mv c m).hz jw z }:=mv_hz hok j0 j1 rfl hA
 refine⟨fun j=>if j=jw then 1≤z∧(a.sl (z-1)).state=3 else pr j,?_,?_,by rw[e];exact Qm ..⟩
 ·unfold sx;rw[e];exact g1
 ·refine Rl.weaken (W:=fun j=>j=jw) ?_ (fun j hj=>by subst hj;exact⟨ho,_,rfl,rfl,ZY hok 9 j0⟩)
  unfold sx;rw[e];exact g2
theorem reg_gd {r:Reg}{se:Sea}(C:Core c Lg S N h a m)(hr:r.thread=(t:Int))(i0:0≤r.i)(i1:r.i<c.R){i:Nat}{cl:Cll}(G:Gd c n Z Y F (sx stk pr c h a m) [] [])(D:TD c t (sx stk pr c h a m) (.reg r)) :
  StP stk c n Z Y pr h a m t (ZQ (h,a) m i t cl se (.reg r)):=by
 have hok:=C.ok
 obtain rfl:=C.hc
 have hA:=C.lt (adr_lt' hok (.inl ⟨rfl,rfl⟩) i0 i1)
 obtain⟨u,hu1,hu2⟩:=D.reg r rfl
 have hN:∀m',m'.mem.words=m.mem.words→StP stk h.c n Z Y pr h a m t ((Qv h m' t se r).1,((Qv h m' t se r).2.1,a),(Qv h m' t se r).2.2.1,.reg (Qv h m' t se r).2.2.2):=by
  intro m' hm'
  unfold Qv
  split
  ·have e:sx stk pr h.c h a m'=sx stk pr h.c h a m:=ZL hm'
   refine⟨pr,F,?_,?_,fun _ => ?_⟩
   ·simp only[e];exact G.mono (by omega)
   ·simp only[e];exact Rl.refl ..
   ·simp only[e];exact td_reg hu1 hu2
  ·have e:sx stk pr h.c h a (m'.answer t se 4 0)=sx stk pr h.c h a m:=ZL hm'
   refine⟨pr,F,?_,?_,fun hf=>(by cases hf)⟩
   ·simp only[e];exact G.mono (by omega)
   ·simp only[e];exact Rl.refl ..
 have hld:sx stk pr h.c h a (m.load (adr h.c 8 r.i) (m.word (adr h.c 8 r.i)))=sx stk pr h.c h a m:=ZL rfl
 simp only[ZQ]
 unfold Z4
 simp only[]
 split
 ·split
  ·exact hN _ rfl
  ·refine⟨pr,F,?_,?_,fun _ => ?_⟩
   ·simp only[hld];exact G.mono (by omega)
   ·simp only[hld];exact Rl.refl ..
   ·simp only[hld];exact td_reg hu1 hu2
 ·split
  ·rename_i hw
   have e:sx stk pr h.c { h with held:=h.held.set r.thread.toNat r.i } a ((m.swap (adr h.c 8 r.i) (m.word (adr h.c 8 r.i)) 0 1).answer t se 2 r.i)={ sx stk pr h.c h a m with V:={ (sx stk pr h.c h a m).V with act:=upd (sx stk pr h.c h a m).V.act r.i 1 },held:=(sx stk pr h.c h a m).held.set t r.i }:=by
    unfold sx
    rw[mv_act hok i0 i1 (z:=1) (by simp only[Mch.answer,Mch.swap];rw[if_pos hw]) hA,hr,Yo]
   have G2:=G.register (t:=t) (W:=fun _=>False) i0 i1 hu1 hu2 (by show(mv h.c m).act r.i=0;rw[act_at i0 i1];exact hw)
   refine⟨pr,F,?_,?_,fun hf=>(by cases hf)⟩
   ·simp only[if_true];rw[e];exact G2.1.mono (by omega)
   ·simp only[];rw[e];exact G2.2.weaken (fun _ h=>h.elim)
  ·rename_i hw
   exact hN _ (by simp only[Mch.swap];rw[if_neg hw])
theorem clr_gd {ad:Nat}{i:Nat}{cl:Cll}{se:Sea}(C:Core c Lg S N h a m)(b0:base c 9≤ad)(G:Gd c n Z Y F (sx stk pr c h a m) [] [])(D:TD c t (sx stk pr c h a m) (.clr ad)) :
  StP stk c n Z Y pr h a m t (ZQ (h,a) m i t cl se (.clr ad)):=by
 have ho:=D.cl ad rfl
 have e:adr c 9 ((ad:Int)-base c 9)=ad:=by unfold adr;omega
 obtain⟨pr',g1,g2,_⟩:=hzd_gd (n:=n) (Z:=Z) (Y:=Y) (F:=F) C ho 0 G
 rw[e]at g1 g2
 exact⟨pr',F,g1.mono (by omega),g2,fun hf=>(by cases hf)⟩
theorem read_gd {r:Rdg}{i:Nat}{cl:Cll}{se:Sea}(C:Core c Lg S N h a m)(I:RdI c r)(G:Gd c n Z Y F (sx stk pr c h a m) [] [])(D:TD c t (sx stk pr c h a m) (.rdg r)) :
  StP stk c n Z Y pr h a m t (ZQ (h,a) m i t cl se (.rdg r)):=by
 have hok:=C.ok
 have hc:=C.hc
 obtain⟨i1,i2,i3,i4⟩:=I
 obtain⟨d1,d2,d3⟩:=D.rd r rfl
 have e9:adr c 9 (r.addr-base c 9)=r.addr.toNat:=by unfold adr;congr 1;omega
 have hS:∀m' u,m'.mem.words=m.mem.words→StP stk c n Z Y pr h a m t ((Qf m' i t cl se r u).1,(h,a),(Qf m' i t cl se r u).2.1,.rdg (Qf m' i t cl se r u).2.2):=by
  intro m' u hm'
  unfold Qf
  split
  ·have e:sx stk pr c h a ((m'.point i cl m'.now).answer t se 3 0)=sx stk pr c h a m:=ZL hm'
   refine⟨pr,F,?_,?_,fun hf=>(by cases hf)⟩
   ·simp only[e];exact G.mono (by omega)
   ·simp only[e];exact Rl.refl ..
  ·have e:sx stk pr c h a m'=sx stk pr c h a m:=ZL hm'
   refine⟨pr,F,?_,?_,fun _ => ?_⟩
   ·simp only[e];exact G.mono (by omega)
   ·simp only[e];exact Rl.refl ..
   ·simp only[e];exact td_rdg d1 (fun hf=>by simp at hf) (fun hf=>by simp at hf)
 simp only[ZQ]
 unfold ZZ
 rw[hc]
 simp only[]
 split
 ·exact hS _ _ rfl
 ·rename_i s0
  have hw2:=i4 s0
  split
  ·obtain⟨pr',g1,g2,g3⟩:=hzd_gd (n:=n) (Z:=Z) (Y:=Y) (F:=F) C d1 r.w G
   rw[e9]at g1 g2 g3
   exact⟨pr',F,g1.mono (by omega),g2,fun _=>td_rdg (d1.he rfl) (fun _=>g3) (fun hf=>by simp at hf)⟩
  ·rename_i s1
   split
   ·rename_i s2
    split
    ·rename_i hw
     have e:sx stk pr c h a (m.load (adr c 2 0) (m.word (adr c 2 0)))=sx stk pr c h a m:=ZL rfl
     refine⟨pr,F,?_,?_,fun _ => ?_⟩
     ·simp only[e];exact G.mono (by omega)
     ·simp only[e];exact Rl.refl ..
     ·simp only[e]
      refine td_rdg d1 (fun hf=>by simp at hf) (fun _=>⟨?_,d2 s2⟩)
      obtain⟨j0,j1⟩:=JD hok d1
      have d2:=d2 s2
      refine G.pr2 _ j0 j1 (by rw[d2];omega) ?_
      rw[d2]
      exact G.stX (r.w-1) (by omega) (by show(mv c m).cell=_;have:(mv c m).cell=r.w:=hw;omega)
    ·exact hS _ _ rfl
   ·have e:sx stk pr c h a (((m.load (adr c 11 (r.w-1)) (m.word (adr c 11 (r.w-1)))).point i cl r.point).answer t se 2 (wrap64 (m.word (adr c 11 (r.w-1)))))=sx stk pr c h a m:=ZL rfl
    refine⟨pr,F,?_,?_,fun hf=>(by cases hf)⟩
    ·simp only[e];exact G.mono (by omega)
    ·simp only[e];exact Rl.refl ..
theorem scn_gd {s:Scn}{i:Nat}{cl:Cll}{se:Sea}(C:Core c Lg S N h a m)(I:ScI c s)(hs:s.thread=(t:Int))(hm:m.thread=(t:Int))(ht:(t:Int)<c.T)(hn:n<4294967295)(G:Gd c n Z Y F (sx stk pr c h a m) (hS (.scn s)) (hL (.scn s)))(D:TD c t (sx stk pr c h a m) (.scn s)) :
  StP stk c n Z Y pr h a m t (ZQ (h,a) m i t cl se (.scn s)):=by
 obtain⟨⟨F',g1⟩,g2,g3,g4⟩:=scan_gd (W:=fun _=>False) C I hs hm ht hn G (D.scan s rfl)
 simp only[ZQ]
 generalize Zl h a m s=r at g1 g2 g3 g4 ⊢
 refine⟨pr,F',?_,g2.weaken (fun _ h=>h.elim),fun _=>td_scn g3⟩
 by_cases hb:r.1=true
 ·have h6:=g4 hb
  rw[if_pos hb,if_pos hb]
  have k1:scnP r.2.2.2.2=[]:=by unfold scnP;rw[if_neg (by omega)]
  have k2:lkS r.2.2.2.2=[]:=by unfold lkS;rw[if_neg (by omega)]
  rw[k1,k2]at g1;exact g1
 ·rw[if_neg hb,if_neg hb];exact g1
end
end
section
variable [TopR]
section
variable {c:Cfg}{Lg S N:Nat}{h:Haz}{a:Are}{m:Mch}
variable {n:Int}{Z Y:Int→Nat}{F stk:List Int}{pr:Int→Prop}{K L:List Int}{t:Nat}{W:Int→Prop}
theorem push_caches (cs:List (List Int))(p:Psh):Za { a with caches:=cs } m p=((Za a m p).1,{ (Za a m p).2.1 with caches:=cs },(Za a m p).2.2.1,(Za a m p).2.2.2):=by
 unfold Za
 split
 ·rfl
 ·split
  ·rfl
  ·simp only[]
   split<;>rfl
theorem hS_unr {u:Unr}(h:u.stage≠1):hS (.unr u)=[]∧hL (.unr u)=[]:=by
 unfold hS hP hL hO scOf
 simp only[]
 rw[if_neg h]
 exact⟨rfl,rfl⟩
theorem hS_unr1 {u:Unr}{s:Scn}(h:u.stage=1)(hs:u.scan=some s):hS (.unr u)=scnP s∧hL (.unr u)=lkS s:=by
 unfold hS hP hL hO scOf
 simp only[]
 rw[if_pos h,hs]
 exact⟨rfl,rfl⟩
theorem empty_td {u:Unr}{x:Sx}(C:Core c Lg S N h a m)(hu:u.thread=(t:Int))(hx:x.caches=a.caches):(QA a u).stage≠1∧TD c t x (.unr (QA a u)):=by
 have e:u.thread.toNat=t:=by omega
 unfold QA QH
 simp only[e]
 by_cases h0:(a.caches.getD t []).length=0
 ·rw[if_pos h0]
  simp only[if_true]
  exact⟨by simp,td_unr (fun hf=>by simp at hf) (fun hf=>by simp at hf)⟩
 ·rw[if_neg h0]
  simp only[Yn,if_false]
  refine⟨by simp,td_unr (fun hf=>by simp at hf) (fun _ p hp => ?_)⟩
  simp only[Option.some.injEq]at hp
  subst hp
  refine⟨fun hf=>by simp at hf,(a.caches.getD t []).take ((a.caches.getD t []).length-1),?_⟩
  rw[hx,←last_of h0]
  cases hc:a.caches[t]? with
  | none=>rw[Yb,hc]at h0;simp at h0
  | some y=>rw[Yb,hc];rfl
theorem unr_gd {u:Unr}{i:Nat}{cl:Cll}{se:Sea}(C:Core c Lg S N h a m)(hN:N<1000000)(ht:(t:Int)<c.T)(hm:m.thread=(t:Int))(hu:u.thread=(t:Int))(hd:0≤h.held.getD t 0)(I:UnI c (a.caches.getD t []) u)(hn:n<4294967295)
  (G:Gd c n Z Y F (sx stk pr c h a m) (hS (.unr u)) (hL (.unr u))) (D:TD c t (sx stk pr c h a m) (.unr u)) :
  StP stk c n Z Y pr h a m t (ZQ (h,a) m i t cl se (.unr u)):=by
 have hok:=C.ok
 obtain rfl:=C.hc
 obtain⟨r1,_⟩:=C.hget ht
 have hlt:t<h.held.length:=by rw[C.held];omega
 have hh:h.held[t]? = some (h.held.getD t 0):=by rw[Yb,Yd hlt];rfl
 have htc:t<a.caches.length:=by rw[C.caches];omega
 obtain⟨i1,i2,i3,i4⟩:=I
 simp only[ZQ]
 unfold Zs
 have e:u.thread.toNat=t:=by omega
 simp only[e]
 generalize hrc:h.held.getD t 0=rc at hd r1 hh ⊢
 by_cases s0:u.stage=0
 ·rw[if_pos s0]
  obtain⟨k0,k1⟩:=i2 s0
  obtain⟨z1,z2⟩:=hS_unr (u:=u) (by omega)
  rw[z1,z2]at G
  have ho:Own h.c t (sx stk pr h.c h a m) (rc*h.c.Hz+u.k):=⟨rc,hh,hd,r1,by omega,by omega⟩
  obtain⟨pr',g1,g2,g3⟩:=hzd_gd (n:=n) (Z:=Z) (Y:=Y) (F:=F) C ho 0 G
  have eA:adr h.c 9 (rc*h.c.Hz+u.k)=(base h.c 9+rc*h.c.Hz+u.k).toNat:=by unfold adr;congr 1;omega
  rw[eA]at g1 g2 g3
  have hmono:=g1.mono (n':=n+1) (by omega)
  split
  ·refine⟨pr',F,?_,g2,fun _=>td_unr (fun hf=>by simp only[s0]at hf;omega) (fun hf=>by simp only[s0]at hf;omega)⟩
   obtain⟨y1,y2⟩:=hS_unr (u:={ u with k:=u.k+1 }) (by simp only[s0];omega)
   simp only[Yn,if_false,y1,y2];exact hmono
  ·obtain⟨n1,n2,n3,n4⟩:=next_sd (h:=h) (s:={ (⟨u.thread,rc,6,0,false,fun _=>0,[],none⟩:Scn) with at_ := -1 }) (t:=t) (sx stk pr' h.c h a (m.store (base h.c 9+rc*h.c.Hz+u.k).toNat (m.word (base h.c 9+rc*h.c.Hz+u.k).toNat) 0)) hh
   split
   ·obtain⟨q1,q2⟩:=empty_td (c:=h.c) (t:=t) (u:={ u with k:=u.k+1,scan:=some (ZF h ⟨u.thread,rc,6,0,false,fun _=>0,[],none⟩).2,stage:=1 }) (x:=sx stk pr' h.c h a (m.store (base h.c 9+rc*h.c.Hz+u.k).toNat (m.word (base h.c 9+rc*h.c.Hz+u.k).toNat) 0)) C hu rfl
    obtain⟨y1,y2⟩:=hS_unr q1
    refine⟨pr',F,?_,g2,fun _=>q2⟩
    simp only[Yn,if_false,y1,y2];exact hmono
   ·obtain⟨y1,y2⟩:=hS_unr1 (u:={ u with k:=u.k+1,scan:=some (ZF h ⟨u.thread,rc,6,0,false,fun _=>0,[],none⟩).2,stage:=1 }) rfl rfl
    refine⟨pr',F,?_,g2,fun _=>td_unr (fun _ s hs => ?_) (fun hf=>by simp at hf)⟩
    ·simp only[Yn,if_false,y1,y2]
     have n2:scnP (ZF h ⟨u.thread,rc,6,0,false,fun _=>0,[],none⟩).2=[]:=n2
     have n3:lkS (ZF h ⟨u.thread,rc,6,0,false,fun _=>0,[],none⟩).2=[]:=n3
     rw[n2,n3];exact hmono
    ·simp only[Option.some.injEq]at hs
     subst hs;exact n1
 rw[if_neg s0]
 by_cases s1:u.stage=1
 ·rw[if_pos s1]
  obtain⟨s,e1,e2,e3⟩:=i3 s1
  obtain⟨z1,z2⟩:=hS_unr1 s1 e1
  rw[z1,z2]at G
  rw[e1]
  simp only[]
  obtain⟨⟨F',g1⟩,g2,g3,g4⟩:=scan_gd (W:=fun _=>False) C e2 (e3.trans hu) hm ht hn G (D.scan s (by simp only[scOf];rw[if_pos s1,e1]))
  obtain⟨f1,f2,f3,f4,f5⟩:=scan_core C e2 hN
  generalize Zl h a m s=r at g1 g2 g3 g4 f1 f2 f3 f4 f5 ⊢
  split
  ·rename_i hb
   have h6:=g4 hb
   obtain⟨q1,q2⟩:=empty_td (c:=h.c) (t:=t) (u:={ u with scan:=some r.2.2.2.2 }) (x:=sx stk pr h.c r.2.1 r.2.2.1 r.2.2.2.1) f1 hu rfl
   obtain⟨y1,y2⟩:=hS_unr q1
   refine⟨pr,F',?_,g2.weaken (fun _ h=>h.elim),fun _=>q2⟩
   have k1:scnP r.2.2.2.2=[]:=by unfold scnP;rw[if_neg (by omega)]
   have k2:lkS r.2.2.2.2=[]:=by unfold lkS;rw[if_neg (by omega)]
   rw[k1,k2]at g1
   simp only[Yn,if_false,y1,y2];exact g1
  ·obtain⟨y1,y2⟩:=hS_unr1 (u:={ u with scan:=some r.2.2.2.2 }) s1 rfl
   refine⟨pr,F',?_,g2.weaken (fun _ h=>h.elim),fun _=>td_unr (fun _ s hs => ?_) (fun hf=>by simp only[s1]at hf;omega)⟩
   ·simp only[Yn,if_false,y1,y2];exact g1
   ·simp only[Option.some.injEq]at hs
    subst hs;exact g3
 rw[if_neg s1]
 obtain⟨z1,z2⟩:=hS_unr (u:=u) s1
 rw[z1,z2]at G
 by_cases s2:u.stage=2
 ·rw[if_pos s2]
  obtain⟨p,e1,e2,e3,e4⟩:=i4 s2
  obtain⟨hPD,y,hy⟩:=D.flush u rfl s2 p e1
  rw[e1]
  simp only[]
  have hy:a.caches[t]? = some (y++[p.slot]):=hy
  have hyd:a.caches.getD t []=y++[p.slot]:=getD_some hy
  have hpt:p.thread.toNat=t:=by omega
  obtain⟨g1,g2⟩:=G.uncache (t:=t) (W:=fun _=>False) hy
  have hins:=(C.cget (t:=(t:Int)) (by omega) ht)
  rw[Yo,hyd]at hins
  have C0:Core h.c Lg S N h { a with caches:=a.caches.set t y } m:=C.cache t y (by have:=hins.2.1;simp at this;omega) (fun z hz=>hins.2.2 z (by simp[hz]))
  have hst:a.sl p.slot=⟨1,(t:Int)⟩:=G.stC t _ hy p.slot (by simp)
  have hpr:∀j,pr j→(mv h.c m).hz j≠p.slot+1:=by
   intro j hj hz
   obtain⟨_,_,p3⟩:=G.pr1 j hj
   have p3:(a.sl ((mv h.c m).hz j-1)).state=3∨(a.sl ((mv h.c m).hz j-1)).state=4∨(a.sl ((mv h.c m).hz j-1)).state=5:=p3
   rw[hz,show p.slot+1-1=p.slot by omega,hst]at p3
   simp at p3
  obtain⟨F',k1,k2,k3,k4,k5⟩:=push_gd (t:=t) (W:=fun _=>False) (a:={ a with caches:=a.caches.set t y }) C0 e2 g1 hPD hn hpr
  rw[push_caches]at k1 k2 k3 k4 k5
  simp only[]at k1 k2 k3 k4 k5
  have hpc:=(pushStep_caches a m p)
  unfold ZC
  simp only[hpt,hyd]
  by_cases hb:(Za a m p).1=false
  ·rw[if_pos hb]
   rw[if_neg (by simp[hb])]at k1
   obtain⟨k3,k6⟩:=k3 hb
   have hsl':(Za a m p).2.1.sl=a.sl:=by
    have hss:(Za a m p).2.1.slots=a.slots:=by have:=congrArg Are.slots k6;exact this
    funext s;unfold Are.sl;rw[hss]
   have B:=k1.cache (t:=t) (W:=fun _=>False) (y:=y) (by show(a.caches.set t y)[t]? = _;rw[Ye htc]) (by show(Za a m p).2.1.sl p.slot=_;rw[hsl'];exact hst)
   have e5:{ sx stk pr h.c h { (Za a m p).2.1 with caches:=a.caches.set t y } (Za a m p).2.2.1 with caches:=(a.caches.set t y).set t (y++[p.slot]) }=sx stk pr h.c h (Za a m p).2.1 (Za a m p).2.2.1:=by
    unfold sx
    have:(a.caches.set t y).set t (y++[p.slot])=(Za a m p).2.1.caches:=by
     rw[hpc,Yl]
     apply List.ext_getElem?
     intro j
     by_cases ej:j=t
     ·subst ej;rw[Ye htc,hy]
     ·rw[ZT ej]
    rw[this];rfl
   rw[hb]
   simp only[Yn,if_false]
   obtain⟨y1,y2⟩:=hS_unr (u:={ u with flush:=some (Za a m p).2.2.2,stage:=2 }) (by simp)
   refine⟨pr,F',?_,?_,fun _=>td_unr (fun hf=>by simp at hf) (fun _ p' hp' => ?_)⟩
   ·simp only[Yn,if_false,y1,y2];rw[←e5];exact B.1
   ·simp only[];rw[←e5];exact((g2.trans k2).trans B.2).weaken (fun _ h=>h.elim)
   ·simp only[Option.some.injEq]at hp'
    subst hp'
    refine⟨k3,y,?_⟩
    show(Za a m p).2.1.caches[t]? = _
    rw[hpc,k4];exact hy
  ·rw[if_neg hb]
   have hb:(Za a m p).1=true:=by simpa using hb
   rw[if_pos hb]at k1
   have hyl:(y++[p.slot]).take ((y++[p.slot]).length-1)=y:=by simp
   rw[hyl]
   split
   ·simp only[if_true]
    obtain⟨y1,y2⟩:=hS_unr (u:={ u with flush:=some (Za a m p).2.2.2,stage:=3 }) (by simp)
    refine⟨pr,F',?_,(g2.trans k2).weaken (fun _ h=>h.elim),fun _=>td_unr (fun hf=>by simp at hf) (fun hf=>by simp at hf)⟩
    simp only[Yn,if_false,y1,y2];exact k1
   ·rename_i hl
    simp only[Yn,if_false]
    obtain⟨y1,y2⟩:=hS_unr (u:={ u with flush:=some { (Za a m p).2.2.2 with slot:=y.getD (y.length-1) 0,at_:=1 },stage:=2 }) (by simp)
    refine⟨pr,F',?_,(g2.trans k2).weaken (fun _ h=>h.elim),fun _=>td_unr (fun hf=>by simp at hf) (fun _ p' hp' => ?_)⟩
    ·simp only[Yn,if_false,y1,y2];exact k1
    ·simp only[Option.some.injEq]at hp'
     subst hp'
     refine⟨fun hf=>by simp at hf,y.take (y.length-1),?_⟩
     show(a.caches.set t y)[t]? = _
     rw[Ye htc,←last_of (by simp at hl;intro e;exact hl (List.eq_nil_of_length_eq_zero e))]
 rw[if_neg s2]
 have hA:=C.lt (adr_lt' hok (.inl ⟨rfl,rfl⟩) hd r1)
 have G2:=G.unregister (t:=t) (W:=fun _=>False) hd r1 hh
 have e5:sx stk pr h.c { h with held:=h.held.set t (-1) } a (m.store (adr h.c 8 rc) (m.word (adr h.c 8 rc)) 0)={ sx stk pr h.c h a m with V:={ (sx stk pr h.c h a m).V with act:=upd (sx stk pr h.c h a m).V.act rc 0 },held:=(sx stk pr h.c h a m).held.set t (-1) }:=by
  unfold sx
  rw[mv_act hok hd r1 (z:=0) rfl hA]
 refine⟨pr,F,?_,?_,fun hf=>(by cases hf)⟩
 ·simp only[if_true];rw[e5];exact G2.1.mono (by omega)
 ·simp only[];rw[e5];exact G2.2.weaken (fun _ h=>h.elim)
theorem hS_pst0 {p:Pst}(h:p.stage=0):hS (.pst p)=[]∧hL (.pst p)=[]:=by
 unfold hS hP hL hO scOf
 simp only[]
 rw[if_neg (by omega),if_neg (by omega)]
 exact⟨rfl,rfl⟩
theorem hS_pst1 {p:Pst}(h:p.stage=1∨p.stage=2∨p.stage=3):hS (.pst p)=[p.link-1]∧hL (.pst p)=[]:=by
 unfold hS hP hL hO scOf
 simp only[]
 rw[if_pos h,if_neg (by omega)]
 exact⟨rfl,rfl⟩
theorem hS_pst4 {p:Pst}{r:Ret}{s:Scn}(h:p.stage=4)(hr:p.retire=some r)(hs:r.scan=some s):hS (.pst p)=scnP s∧hL (.pst p)=lkS s:=by
 unfold hS hP hL hO scOf
 simp only[]
 rw[if_neg (by omega),if_pos h,hr]
 simp only[hs]
 exact⟨rfl,rfl⟩
theorem took_gd {p:Pst}{k:Tak}{i:Nat}{cl:Cll}{se:Sea}{a':Are}{m':Mch}(hk:Zd k = -1∨0≤Zd k)
  (G:Gd c n Z Y F (sx stk pr c h a' m') (if 0≤Zd k then [Zd k] else []) []) (R:Rl Z t (fun _=>False) (sx stk pr c h a m) (sx stk pr c h a' m')) (hsl:0≤Zd k→a'.sl (Zd k)=⟨2,(t:Int)⟩) :
  StP stk c n Z Y pr h a m t ((ZH m' i t cl se p k).1,(h,a'),(ZH m' i t cl se p k).2.1,.pst (ZH m' i t cl se p k).2.2):=by
 unfold ZH
 split
 ·rename_i hlt
  rw[if_neg (by omega)]at G
  have e:sx stk pr c h a' ((m'.point i cl m'.now).answer t se 4 0)=sx stk pr c h a' m':=ZL rfl
  refine⟨pr,F,?_,?_,fun hf=>(by cases hf)⟩
  ·simp only[e];exact G.mono (by omega)
  ·simp only[e];exact R.weaken (fun _ h=>h.elim)
 ·rename_i hge
  rw[if_pos (by omega)]at G
  obtain⟨y1,y2⟩:=hS_pst1 (p:={ p with link:=Zd k+1,stage:=1 }) (.inl rfl)
  have e1:Zd k+1-1=Zd k:=by omega
  refine⟨pr,F,?_,R.weaken (fun _ h=>h.elim),fun _=>td_pst (fun hf=>by simp at hf) (fun hf=>by simp at hf) (fun _ => ?_) (fun hf=>by simp at hf)⟩
  ·simp only[Yn,if_false,y1,y2,e1];exact G.mono (by omega)
  ·show a'.sl (Zd k+1-1)=_
   rw[e1];exact hsl (by omega)
theorem post_gd {p:Pst}{i:Nat}{cl:Cll}{se:Sea}(C:Core c Lg S N h a m)(hN:N<1000000)(ht:(t:Int)<c.T)(hm:m.thread=(t:Int))(hu:p.thread=(t:Int))(hd:0≤h.held.getD t 0)(I:PoI c p)(hn:n<4294967295)
  (G:Gd c n Z Y F (sx stk pr c h a m) (hS (.pst p)) (hL (.pst p))) (D:TD c t (sx stk pr c h a m) (.pst p)) :
  StP stk c n Z Y pr h a m t (ZQ (h,a) m i t cl se (.pst p)):=by
 have hok:=C.ok
 obtain rfl:=C.hc
 obtain⟨r1,_⟩:=C.hget ht
 have hlt:t<h.held.length:=by rw[C.held];omega
 have hh:h.held[t]? = some (h.held.getD t 0):=by rw[Yb,Yd hlt];rfl
 obtain⟨⟨k,hk,k0,k1⟩,i2,i3,i4⟩:=I
 simp only[ZQ]
 unfold ZP
 rw[hk]
 simp only[]
 by_cases s0:p.stage=0
 ·rw[if_pos s0]
  obtain⟨z1,z2⟩:=hS_pst0 s0
  rw[z1,z2]at G
  obtain⟨⟨F',g1⟩,g2,g3,g4⟩:=take_gd (t:=t) (W:=fun _=>False) C (k0 s0) hm hn G (D.take p rfl s0 k hk)
  obtain⟨e1,e2,e3,e4⟩:=take_core C (k0 s0)
  generalize Zh a m k=r at g1 g2 g3 g4 e1 e2 e3 e4 ⊢
  split
  ·have Q:=took_gd (i:=i) (cl:=cl) (se:=se) (h:=h) (a:=a) (m:=m) (p:={ p with take:=some r.2.2.2 }) (e3.imp id (·.1)) g1 g2 g4
   obtain⟨pr',F2,q1,q2,q3⟩:=Q
   have hin:∀ {K L:List Int},Gd h.c (n+1+1) Z Y F2 (sx stk pr' h.c h r.2.1 (ZH r.2.2.1 i t cl se { p with take:=some r.2.2.2 } r.2.2.2).2.1) K L→n+1+1=n+1+1:=fun _=>rfl
   refine⟨pr',F2,?_,q2,q3⟩
   have tg:(mv h.c (ZH r.2.2.1 i t cl se { p with take:=some r.2.2.2 } r.2.2.2).2.1).hd / 4294967296≤n+1:=by
    have:=g1.tag
    have ew:(ZH r.2.2.1 i t cl se { p with take:=some r.2.2.2 } r.2.2.2).2.1.mem.words=r.2.2.1.mem.words:=by unfold ZH;split<;>rfl
    rw[mv_same ew];exact this
   exact⟨q1.tot,q1.stF,q1.stC,q1.stX,q1.stL,q1.stZ,q1.chain,q1.hd0,tg,q1.rcd,q1.act1,q1.pr1,q1.pr2,q1.stK,q1.lk⟩
  ·rename_i hb
   obtain⟨q1,q2⟩:=g3 (by simpa using hb)
   rw[q2,if_neg (by omega)]at g1
   obtain⟨y1,y2⟩:=hS_pst0 (p:={ p with take:=some r.2.2.2 }) s0
   refine⟨pr,F',?_,g2.weaken (fun _ h=>h.elim),fun _=>td_pst (fun hf=>by simp only[s0]at hf;omega) (fun _ k' hk' => ?_) (fun hf=>by simp only[s0]at hf;omega) (fun hf=>by simp only[s0]at hf;omega)⟩
   ·simp only[Yn,if_false,y1,y2];exact g1
   ·simp only[Option.some.injEq]at hk'
    subst hk';exact q1
 rw[if_neg s0]
 have hown:=D.own
 by_cases s1:p.stage=1
 ·rw[if_pos s1]
  obtain⟨g1,g2,g3⟩:=k1 (.inl s1)
  obtain⟨z1,z2⟩:=hS_pst1 (p:=p) (.inl s1)
  rw[z1,z2]at G
  have hA:=C.lt (adr_lt' hok (r:=11) (.inr ⟨.inr (.inl rfl),rfl⟩) g1 g2)
  have el:p.link-1=Zd k:=by omega
  have G2:=G.value (t:=t) (W:=fun _=>False) (s:=p.link-1) (List.mem_cons_self ..) (p.value%18446744073709551616)
  have e:sx stk pr h.c h a (m.store (adr h.c 11 (Zd k)) (m.word (adr h.c 11 (Zd k))) (p.value%18446744073709551616))={ sx stk pr h.c h a m with V:={ (sx stk pr h.c h a m).V with val:=upd (sx stk pr h.c h a m).V.val (p.link-1) (p.value%18446744073709551616) } }:=by
   unfold sx
   rw[mv_val hok g1 g2 (z:=p.value%18446744073709551616) rfl hA,el]
  obtain⟨y1,y2⟩:=hS_pst1 (p:={ p with stage:=2 }) (.inr (.inl rfl))
  refine⟨pr,F,?_,?_,fun _=>td_pst (fun hf=>by simp at hf) (fun hf=>by simp at hf) (fun _ => ?_) (fun _ => ?_)⟩
  ·simp only[Yn,if_false,y1,y2];rw[e];exact G2.1.mono (by omega)
  ·simp only[];rw[e];exact G2.2.weaken (fun _ h=>h.elim)
  ·exact hown _ (by simp only[hO];rw[if_pos (.inl s1)];exact List.mem_cons_self ..)
  ·simp only[];rw[e];exact Qm ..
 rw[if_neg s1]
 by_cases s2:p.stage=2
 ·rw[if_pos s2]
  obtain⟨z1,z2⟩:=hS_pst1 (p:=p) (.inr (.inl s2))
  rw[z1,z2]at G
  have e:sx stk pr h.c h a (m.load (adr h.c 2 0) (m.word (adr h.c 2 0)))=sx stk pr h.c h a m:=ZL rfl
  obtain⟨y1,y2⟩:=hS_pst1 (p:={ p with saw:=m.word (adr h.c 2 0),stage:=3 }) (.inr (.inr rfl))
  refine⟨pr,F,?_,?_,fun _=>td_pst (fun hf=>by simp at hf) (fun hf=>by simp at hf) (fun _ => ?_) (fun _ => ?_)⟩
  ·simp only[Yn,if_false,y1,y2,e];exact G.mono (by omega)
  ·simp only[e];exact Rl.refl ..
  ·exact hown _ (by simp only[hO];rw[if_pos (.inr (.inl s2))];exact List.mem_cons_self ..)
  ·simp only[e];exact D.val p rfl (.inl s2)
 rw[if_neg s2]
 by_cases s3:p.stage=3
 ·rw[if_pos s3]
  obtain⟨g1,g2,g3⟩:=k1 (.inr (.inr s3))
  obtain⟨z1,z2⟩:=hS_pst1 (p:=p) (.inr (.inr s3))
  rw[z1,z2]at G
  obtain⟨w0,w1⟩:=i3 s3
  have el:p.link-1=Zd k:=by omega
  have hsl:a.sl (p.link-1)=⟨2,(t:Int)⟩:=hown _ (by simp only[hO];rw[if_pos (.inr (.inr s3))];exact List.mem_cons_self ..)
  have hA2:=C.lt (adr_lt14 hok).2
  split
  ·rename_i hw
   have Qx:(mv h.c m).cell=p.saw:=hw
   have hpr:∀j,pr j→(mv h.c m).hz j≠(p.link-1)+1:=by
    intro j hj hz
    obtain⟨_,_,p3⟩:=G.pr1 j hj
    have p3:(a.sl ((mv h.c m).hz j-1)).state=3∨(a.sl ((mv h.c m).hz j-1)).state=4∨(a.sl ((mv h.c m).hz j-1)).state=5:=p3
    rw[hz,show p.link-1+1-1=p.link-1 by omega,hsl]at p3
    simp at p3
   have hslt:(p.link-1).toNat<a.slots.length:=by rw[C.slots];omega
   unfold Je
   simp only[]
   have em:∀w:Mch,w.mem.words=(m.swap (adr h.c 2 0) (m.word (adr h.c 2 0)) p.saw p.link).mem.words→mv h.c w={ mv h.c m with cell:=(p.link-1)+1 }:=by
    intro w ew
    rw[mv_cell hok (z:=p.link) (by rw[ew];simp only[Mch.swap];rw[if_pos hw]) hA2]
    have:p.link-1+1=p.link:=by omega
    rw[this]
   have hth:(m.swap (adr h.c 2 0) (m.word (adr h.c 2 0)) p.saw p.link).thread=(t:Int):=hm
   generalize hmw:m.swap (adr h.c 2 0) (m.word (adr h.c 2 0)) p.saw p.link=mw at em hth ⊢
   rw[←el]
   have e3:=Jn (a:=a) (th:=mw.thread) (to:=3) (s:=p.link-1) (by omega) hslt
   simp only[or_true,if_true]at e3
   split
   ·rename_i hz
    have G2:=G.link (t:=t) (W:=fun _=>False) ⟨3,-1⟩ rfl hpr (K':=[]) (fun s'=>by
     rw[ind_neg (by show ¬(0≤s'∧(mv h.c m).cell=s'+1);omega)];rfl)
    have e:∀pr',sx stk pr' h.c h (a.shift (p.link-1).toNat mw.thread 3) (((mw.point i cl mw.now).answer t se 1 0).shift (p.link-1) (a.slots.getD (p.link-1).toNat ⟨0,0⟩).state 3) =
      { sx stk pr h.c h a m with pr:=pr',V:={ (mv h.c m) with cell:=p.link-1+1 },sl:=updS a.sl (p.link-1) ⟨3,-1⟩ }:=by
     intro pr'
     unfold sx
     rw[em (((mw.point i cl mw.now).answer t se 1 0).shift (p.link-1) (a.slots.getD (p.link-1).toNat ⟨0,0⟩).state 3) rfl,e3];rfl
    refine⟨fun j=>pr j∨(0≤j∧j<h.c.R*h.c.Hz∧(mv h.c m).hz j=p.link-1+1),F,?_,?_,fun hf=>(by cases hf)⟩
    ·simp only[if_true];rw[e];exact G2.1.mono (by omega)
    ·simp only[];rw[e];exact G2.2.weaken (fun _ h=>h.elim)
   ·rename_i hz
    have G2:=G.link (t:=t) (W:=fun _=>False) ⟨3,-1⟩ rfl hpr (K':=[p.saw-1]) (fun s'=>by
     have hcell':(sx stk pr h.c h a m).V.cell=p.saw:=Qx
     by_cases es:s'=p.saw-1
     ·subst es;rw[ind_pos ⟨by omega,by rw[hcell'];omega⟩];simp
     ·rw[ind_neg (by rw[hcell'];omega)]
      have:[p.saw-1].count s'=0:=List.count_eq_zero.2 (by simp only[List.mem_singleton];exact es)
      rw[this];rfl)
    obtain⟨G3,R3⟩:=G2
    have hne:p.saw-1≠p.link-1:=by
     intro es
     have hx:=G.stX (p.saw-1) (by omega) (by show(mv h.c m).cell=_;omega)
     have hx:(a.sl (p.saw-1)).state=3:=hx
     rw[es,hsl]at hx
     simp at hx
    have G4:=G3.state (t:=t) (W:=fun _=>False) (s:=p.saw-1) (List.mem_cons_self ..) ⟨5,(t:Int)⟩ (by simp) (.inl rfl)
    obtain⟨f1,f2,f3⟩:=C.lget hd r1
    have hslt2:(p.saw-1).toNat<a.slots.length:=by rw[C.slots];omega
    have G5:=G4.1.list (t:=t) (W:=fun _=>False) hd r1 (by exact hh) (l:=h.lists.getD (h.held.getD t 0).toNat []) (l':=h.lists.getD (h.held.getD t 0).toNat []++[p.saw-1]) (K':=[]) f1 (fun s'=>by
     simp only[List.count_append,List.count_nil];omega) (fun s0 h0=>by
     show(updS (updS a.sl (p.link-1) ⟨3,-1⟩) (p.saw-1) ⟨5,(t:Int)⟩ s0).state=5
     rcases List.mem_append.1 h0 with h0|h0
     ·by_cases es:s0=p.saw-1
      ·rw[es,Qo]
      ·rw[updS_ne _ _ es]
       exact G3.stL _ (Yc f1) s0 h0
     ·simp at h0;rw[h0,Qo])
    have hpt:p.thread.toNat=t:=by omega
    unfold Zr
    simp only[hpt]
    have e6:=Jn (a:=a.shift (p.link-1).toNat mw.thread 3) (th:=mw.thread) (to:=4) (s:=p.saw-1) (by omega) (by simp only[Are.shift,List.length_set];exact hslt2)
    have e7:=Jn (a:=(a.shift (p.link-1).toNat mw.thread 3).shift (p.saw-1).toNat mw.thread 4) (th:=mw.thread) (to:=5) (s:=p.saw-1) (by omega) (by simp only[Are.shift,List.length_set];exact hslt2)
    rw[e6,e3]at e7
    have e8:∀f:Int→Slt,∀z w:Slt,updS (updS f (p.saw-1) z) (p.saw-1) w=updS f (p.saw-1) w:=by
     intro f z w;funext q;unfold updS;split<;>rfl
    rw[e8,hth]at e7
    have e:∀pr' x1 y1 z1 x2 y2 z2,sx stk pr' h.c { h with lists:=h.lists.set (h.held.getD t 0).toNat (h.lists.getD (h.held.getD t 0).toNat []++[p.saw-1]) } (((a.shift (p.link-1).toNat mw.thread 3).shift (p.saw-1).toNat mw.thread 4).shift (p.saw-1).toNat mw.thread 5) (((((mw.point i cl mw.now).answer t se 1 0).shift (p.link-1) (a.slots.getD (p.link-1).toNat ⟨0,0⟩).state 3).shift x1 y1 z1).shift x2 y2 z2) =
      { sx stk pr h.c h a m with pr:=pr',V:={ (mv h.c m) with cell:=p.link-1+1 },sl:=updS (updS a.sl (p.link-1) ⟨3,-1⟩) (p.saw-1) ⟨5,(t:Int)⟩,lists:=h.lists.set (h.held.getD t 0).toNat (h.lists.getD (h.held.getD t 0).toNat []++[p.saw-1]) }:=by
     intro pr' x1 y1 z1 x2 y2 z2
     unfold sx
     rw[em (((((mw.point i cl mw.now).answer t se 1 0).shift (p.link-1) (a.slots.getD (p.link-1).toNat ⟨0,0⟩).state 3).shift x1 y1 z1).shift x2 y2 z2) rfl,hth,e7];rfl
    have hthr:(((mw.point i cl mw.now).answer t se 1 0).shift (p.link-1) (a.slots.getD (p.link-1).toNat ⟨0,0⟩).state 3).thread=mw.thread:=rfl
    have hthr2:∀x y z,((((mw.point i cl mw.now).answer t se 1 0).shift (p.link-1) (a.slots.getD (p.link-1).toNat ⟨0,0⟩).state 3).shift x y z).thread=mw.thread:=fun _ _ _=>rfl
    simp only[hthr2]
    split
    ·refine⟨fun j=>pr j∨(0≤j∧j<h.c.R*h.c.Hz∧(mv h.c m).hz j=p.link-1+1),F,?_,?_,fun hf=>(by cases hf)⟩
     ·simp only[if_true];rw[e];exact G5.1.mono (by omega)
     ·simp only[];rw[e];exact((R3.trans G4.2).trans G5.2).weaken (fun _ h=>h.elim)
    ·refine⟨fun j=>pr j∨(0≤j∧j<h.c.R*h.c.Hz∧(mv h.c m).hz j=p.link-1+1),F,?_,?_,?_⟩
     ·simp only[]
      generalize hh1:({ h with lists:=h.lists.set (h.held.getD t 0).toNat (h.lists.getD (h.held.getD t 0).toNat []++[p.saw-1]) }:Haz)=h1
      obtain⟨n1,n2,n3,n4⟩:=next_sd (h:=h1) (s:={ (⟨p.thread,h.held.getD t 0,6,0,false,fun _=>0,[],none⟩:Scn) with at_ := -1 }) (t:=t) (sx stk pr h.c h a m) hh
      obtain⟨y1,y2⟩:=hS_pst4 (p:={ p with retire:=some { thread:=p.thread,slot:=p.saw-1,scan:=some (ZF h1 ⟨p.thread,h.held.getD t 0,6,0,false,fun _=>0,[],none⟩).2 },stage:=4 }) rfl rfl rfl
      have n2:scnP (ZF h1 ⟨p.thread,h.held.getD t 0,6,0,false,fun _=>0,[],none⟩).2=[]:=n2
      have n3:lkS (ZF h1 ⟨p.thread,h.held.getD t 0,6,0,false,fun _=>0,[],none⟩).2=[]:=n3
      rw[y1,y2,n2,n3,ite_self,←hh1,e]
      exact G5.1.mono (by omega)
     ·simp only[];rw[e];exact((R3.trans G4.2).trans G5.2).weaken (fun _ h=>h.elim)
     ·intro _
      refine td_pst (fun _ r s hr hs => ?_) (fun hf=>by simp at hf) (fun hf=>by simp at hf) (fun hf=>by simp at hf)
      simp only[Option.some.injEq]at hr
      subst hr
      simp only[Option.some.injEq]at hs
      subst hs
      exact(next_sd (s:={ (⟨p.thread,h.held.getD t 0,6,0,false,fun _=>0,[],none⟩:Scn) with at_ := -1 }) (t:=t) _ hh).1
  ·rename_i hw
   have e:sx stk pr h.c h a (m.swap (adr h.c 2 0) (m.word (adr h.c 2 0)) p.saw p.link)=sx stk pr h.c h a m:=ZL (by simp only[Mch.swap];rw[if_neg hw])
   obtain⟨y1,y2⟩:=hS_pst1 (p:={ p with stage:=2 }) (.inr (.inl rfl))
   refine⟨pr,F,?_,?_,fun _=>td_pst (fun hf=>by simp at hf) (fun hf=>by simp at hf) (fun _=>hsl) (fun _ => ?_)⟩
   ·simp only[Yn,if_false,y1,y2,e];exact G.mono (by omega)
   ·simp only[e];exact Rl.refl ..
   ·simp only[e];exact D.val p rfl (.inr s3)
 rw[if_neg s3]
 have s4:p.stage=4:=by rcases i2 with h|h|h|h|h<;>first|exact absurd h s0|exact absurd h s1|exact absurd h s2|exact absurd h s3|exact h
 obtain⟨r,sc,e1,e2,e3,e4⟩:=i4 s4
 obtain⟨z1,z2⟩:=hS_pst4 s4 e1 e2
 rw[z1,z2]at G
 rw[e1]
 simp only[e2]
 obtain⟨⟨F',g1⟩,g2,g3,g4⟩:=scan_gd (W:=fun _=>False) C e3 (e4.trans hu) hm ht hn G (D.scan sc (by simp only[scOf];rw[if_pos s4,e1];exact e2))
 generalize Zl h a m sc=q at g1 g2 g3 g4 ⊢
 obtain⟨y1,y2⟩:=hS_pst4 (p:={ p with take:=some k,retire:=some { r with scan:=some q.2.2.2.2 } }) s4 rfl rfl
 refine⟨pr,F',?_,g2.weaken (fun _ h=>h.elim),fun _=>td_pst (fun _ r' s' hr' hs' => ?_) (fun hf=>by simp only[s4]at hf;omega) (fun hf=>by simp only[s4]at hf;omega) (fun hf=>by simp only[s4]at hf;omega)⟩
 ·simp only[y1,y2]
  by_cases hb:q.1=true
  ·have h6:=g4 hb
   have k1:scnP q.2.2.2.2=[]:=by unfold scnP;rw[if_neg (by omega)]
   have k2:lkS q.2.2.2.2=[]:=by unfold lkS;rw[if_neg (by omega)]
   rw[if_pos hb,if_pos hb]
   rw[k1,k2]at g1;exact g1
  ·rw[if_neg hb,if_neg hb];exact g1
 ·simp only[Option.some.injEq]at hr'
  subst hr'
  simp only[Option.some.injEq]at hs'
  subst hs'
  exact g3
end
end
end Go.Proofs.YtefjbdajgakgpaaGreat
