/-
  Any call's step keeps each slot in one place.
-/
import Derived.Test.YtjagadldibbbbaaGreatDQo3
set_option linter.all false
namespace Go.Proofs.YtjagadldibbbbaaGreat
open Go.RowKit Hp
set_option maxRecDepth 100000
set_option maxHeartbeats 1000000
attribute [local irreducible] Go.Calls
section
variable {c:Cfg}{Lg S N:Nat}{h:Haz}{a:Are}{m:Mch}
variable {n:Int}{Z Y:Int→Nat}{F stk:List Int}{pr:Int→Prop}{K L:List Int}{t:Nat}{W:Int→Prop}
theorem last_of {x:List Int}(h:x.length≠0):x=x.take (x.length-1)++[x.getD (x.length-1) 0]:=by
 have hlt:x.length-1<x.length:=by omega
 have h1:x.drop (x.length-1)=[x.getD (x.length-1) 0]:=by
  rw[List.drop_eq_getElem_cons hlt]
  have:x.length-1+1=x.length:=by omega
  rw[this,List.drop_length,Yb,Yd hlt];rfl
 conv=>lhs;rw[←List.take_append_drop (x.length-1) x,h1]
theorem takeReady_gd {k:Tak}(C:Core c Lg S N h a m)(hk:k.thread=(t:Int))(ht:(t:Int)<c.T)(hm:m.thread=(t:Int))(G:Gd c n Z Y F (sx stk pr c h a m) [] L) :
  (Zg a m k=(false,a,m,k))∨((Zg a m k).1=true∧Gd c n Z Y F (sx stk pr c h (Zg a m k).2.1 (Zg a m k).2.2.1) [Ze (Zg a m k).2.2.2] L∧Rl Z t W (sx stk pr c h a m) (sx stk pr c h (Zg a m k).2.1 (Zg a m k).2.2.1) ∧
   (Zg a m k).2.1.sl (Ze (Zg a m k).2.2.2)=⟨2,(t:Int)⟩):=by
 have e:k.thread.toNat=t:=by omega
 have htc:t<a.caches.length:=by rw[C.caches];omega
 have hy:a.caches[t]? = some (a.caches.getD t []):=by rw[Yb,Yd htc];rfl
 unfold Zg
 simp only[e]
 by_cases h0:(a.caches.getD t []).length=0
 ·rw[if_pos h0];exact .inl rfl
 ·rw[if_neg h0]
  generalize a.caches.getD t []=x at hy h0 ⊢
  have hx:=last_of h0
  generalize x.take (x.length-1)=y at hx ⊢
  generalize x.getD (x.length-1) 0=s at hx ⊢
  subst hx
  have G2:=G.uncache (t:=t) (W:=W) hy
  have hR:=G2.1.range (s:=s) (by simp only[List.count_cons_self];omega)
  have hsl:s.toNat<a.slots.length:=by rw[C.slots];omega
  have hst:a.sl s=⟨1,(t:Int)⟩:=G.stC t _ hy s (by simp)
  have hpr:∀j,pr j→(mv c m).hz j≠s+1:=by
   intro j hj hz
   obtain⟨_,_,p3⟩:=G.pr1 j hj
   have p3:(a.sl ((mv c m).hz j-1)).state=3∨(a.sl ((mv c m).hz j-1)).state=4∨(a.sl ((mv c m).hz j-1)).state=5:=p3
   rw[hz,show s+1-1=s by omega,hst]at p3
   simp at p3
  have G3:=G2.1.state (t:=t) (W:=W) (s:=s) (List.mem_cons_self ..) ⟨2,(t:Int)⟩ (by simp) (.inr (.inr hpr))
  refine .inr ⟨rfl,?_⟩
  simp only[Jd,Ze,if_true]
  have e2:({ a with caches:=a.caches.set t y }:Are).shift s.toNat m.thread 2={ a.shift s.toNat m.thread 2 with caches:=a.caches.set t y }:=rfl
  have e3:=Jb (a:={ a with caches:=a.caches.set t y }) (th:=m.thread) (to:=2) hR.1 hsl
  have e4:sx stk pr c h (({ a with caches:=a.caches.set t y }:Are).shift s.toNat m.thread 2) (m.shift s (({ a with caches:=a.caches.set t y }:Are).slots.getD s.toNat ⟨0,0⟩).state 2) =
    { sx stk pr c h a m with caches:=a.caches.set t y,sl:=updS a.sl s ⟨2,(t:Int)⟩ }:=by
   unfold sx
   rw[mv_same (m:=m) rfl,e3,hm]
   rfl
  rw[e4,e3]
  refine⟨G3.1,G2.2.trans G3.2,?_⟩
  rw[Qe,hm];rfl
theorem take_gd {k:Tak}(C:Core c Lg S N h a m)(T:TkI c k)(hm:m.thread=(t:Int))(hn:n<4294967295)(G:Gd c n Z Y F (sx stk pr c h a m) [] L)(D:TkD (sx stk pr c h a m) k) :
  (∃F',Gd c (n+1) Z Y F' (sx stk pr c h (Zj a m k).2.1 (Zj a m k).2.2.1) (if 0≤Ze (Zj a m k).2.2.2 then [Ze (Zj a m k).2.2.2] else []) L)∧Rl Z t W (sx stk pr c h a m) (sx stk pr c h (Zj a m k).2.1 (Zj a m k).2.2.1) ∧
   ((Zj a m k).1=false→TkD (sx stk pr c h (Zj a m k).2.1 (Zj a m k).2.2.1) (Zj a m k).2.2.2∧Ze (Zj a m k).2.2.2 = -1) ∧
   (0≤Ze (Zj a m k).2.2.2→(Zj a m k).2.1.sl (Ze (Zj a m k).2.2.2)=⟨2,(t:Int)⟩):=by
 have hok:=C.ok
 have hac:=C.ac
 have hS2:=hok.S2
 obtain⟨t1,t2,t3,t4⟩:=T
 obtain⟨d1,d2⟩:=D
 have hA1:=C.lt (adr_lt14 hok).1
 have hno:∀z:Tak,z.taken=k.taken→Ze z = -1:=fun z hz=>took_no (hz.trans t2)
 unfold Zj
 rw[hac]
 split
 ·have e:sx stk pr c h a (m.load (adr c 1 0) (m.word (adr c 1 0)))=sx stk pr c h a m:=ZO rfl
  have hn1:=hno { k with head:=m.word (adr c 1 0),at_:=if m.word (adr c 1 0)%4294967296=0 then 0 else 2 } rfl
  simp only[hn1,e]
  refine⟨⟨F,by rw[if_neg (by omega)];exact G.mono (by omega)⟩,Rl.refl ..,fun _=>⟨⟨fun _ => ?_,fun h3 => ?_⟩,trivial⟩,fun hf=>by omega⟩
  ·show m.word (adr c 1 0) / 4294967296≤m.word (adr c 1 0) / 4294967296;omega
  ·simp only[]at h3;split at h3<;>omega
 ·rename_i h1
  obtain⟨q1,q2,q3⟩:=t3 h1
  split
  ·have e:sx stk pr c h a (m.load (adr c 10 (k.head%4294967296-1)) (m.word (adr c 10 (k.head%4294967296-1))))=sx stk pr c h a m:=ZO rfl
   have hn1:=hno { k with next:=m.word (adr c 10 (k.head%4294967296-1)),at_:=3 } rfl
   simp only[hn1,e]
   refine⟨⟨F,by rw[if_neg (by omega)];exact G.mono (by omega)⟩,Rl.refl ..,fun _=>⟨⟨fun _=>d1 h1,fun _ _ => ?_⟩,trivial⟩,fun hf=>by omega⟩
   show(mv c m).nx (k.head%4294967296-1)=_
   rw[nx_at (by omega) (by omega)]
  ·rename_i h2
   have h3:k.at_=3:=by omega
   simp only[]
   split
   ·rename_i hw
    have hw2:(mv c m).hd=k.head:=hw
    have hnx:=d2 h3 hw2
    have hnx':(mv c m).nx (k.head%4294967296-1)=k.next:=hnx
    obtain⟨t40,t41⟩:=t4 h3
    obtain⟨F',rfl,G2,R2⟩:=G.pop (t:=t) (W:=W) hn (by omega) (s:=k.head%4294967296-1) (by omega) (by show(mv c m).hd%_=_;rw[hw2];omega) (by rw[hnx];omega) (by rw[hnx];omega)
    have hR:=G2.range (s:=k.head%4294967296-1) (by simp only[List.count_cons_self];omega)
    have hsl:(k.head%4294967296-1).toNat<a.slots.length:=by rw[C.slots];omega
    have hst:(a.sl (k.head%4294967296-1)).state=0:=G.stF _ (List.mem_cons_self ..)
    have hpr:∀j,pr j→(mv c m).hz j≠(k.head%4294967296-1)+1:=by
     intro j hj hz
     obtain⟨_,_,p3⟩:=G.pr1 j hj
     have p3:(a.sl ((mv c m).hz j-1)).state=3∨(a.sl ((mv c m).hz j-1)).state=4∨(a.sl ((mv c m).hz j-1)).state=5:=p3
     rw[hz,show k.head%4294967296-1+1-1=k.head%4294967296-1 by omega,hst]at p3
     simp at p3
    have G3:=G2.state (t:=t) (W:=W) (s:=k.head%4294967296-1) (List.mem_cons_self ..) ⟨2,(t:Int)⟩ (by simp) (.inr (.inr hpr))
    simp only[Jd,Ze,if_true]
    have e3:=Jb (a:=a) (th:=m.thread) (to:=2) hR.1 hsl
    have e4:sx stk pr c h (a.shift (k.head%4294967296-1).toNat m.thread 2) ((m.swap (adr c 1 0) (m.word (adr c 1 0)) k.head ((k.head / 4294967296+1)%4294967296*4294967296+k.next)).shift (k.head%4294967296-1) (a.slots.getD (k.head%4294967296-1).toNat ⟨0,0⟩).state 2) =
      { sx stk pr c h a m with V:={ (mv c m) with hd:=((mv c m).hd / 4294967296+1)%4294967296*4294967296+(mv c m).nx (k.head%4294967296-1) },sl:=updS a.sl (k.head%4294967296-1) ⟨2,(t:Int)⟩ }:=by
     unfold sx
     rw[mv_hd hok (z:=(k.head / 4294967296+1)%4294967296*4294967296+k.next) (by simp only[Mch.shift,Mch.swap];rw[if_pos hw]) hA1,e3,hm,hw2,hnx']
     rfl
    have e5:(m.swap (adr c 1 0) (m.word (adr c 1 0)) k.head ((k.head / 4294967296+1)%4294967296*4294967296+k.next)).thread=m.thread:=rfl
    rw[if_pos (by omega),e5,e4,e3]
    refine⟨⟨F',G3.1⟩,R2.trans G3.2,fun hf=>(by cases hf),fun _ => ?_⟩
    rw[Qe,hm];rfl
   ·rename_i hw
    have e:sx stk pr c h a (m.swap (adr c 1 0) (m.word (adr c 1 0)) k.head ((k.head / 4294967296+1)%4294967296*4294967296+k.next))=sx stk pr c h a m:=ZO (by simp only[Mch.swap];rw[if_neg hw])
    have hn1:=hno { k with at_:=1 } rfl
    simp only[hn1,e]
    exact⟨⟨F,by rw[if_neg (by omega)];exact G.mono (by omega)⟩,Rl.refl ..,fun _=>⟨⟨fun hf=>absurd rfl hf,fun h3=>by simp at h3⟩,trivial⟩,fun hf=>by omega⟩
def OwW (c:Cfg)(t:Nat)(x:Sx)(l l':List Acc)(j:Int):Prop:=Own c t x j∧∃e:Acc,l'=l++[e]∧e.kind=2∧e.addr=base c 9+j
structure StP (stk:List Int)(c:Cfg)(n:Int)(Z Y:Int→Nat)(pr:Int→Prop)(h:Haz)(a:Are)(m:Mch)(t:Nat)(r:Bool×(Haz×Are)×Mch×Qd):Prop where
 ex:∃(pr':Int→Prop) (F':List Int),Gd c (n+1) Z Y F' (sx stk pr' c r.2.1.1 r.2.1.2 r.2.2.1) (if r.1=true then [] else hS r.2.2.2) (if r.1=true then [] else hL r.2.2.2)∧Rl Z t (OwW c t (sx stk pr c h a m) m.mem.log r.2.2.1.mem.log) (sx stk pr c h a m) (sx stk pr' c r.2.1.1 r.2.1.2 r.2.2.1)∧(r.1=false→TD c t (sx stk pr' c r.2.1.1 r.2.1.2 r.2.2.1) r.2.2.2)
theorem td_scn {x:Sx}{s:Scn}(D:ScD t x s):TD c t x (.scn s):=
 ⟨fun s' hs'=>by simp only[scOf,Option.some.injEq]at hs';subst hs';exact D,fun s hs=>by simp[hO]at hs,fun u hu=>(by cases hu),fun p hp=>(by cases hp),fun p hp=>(by cases hp),fun r hr=>(by cases hr),fun ad hr=>(by cases hr),fun r hr=>(by cases hr)⟩
theorem td_reg {x:Sx}{r:Reg}{u:Int}(D:x.held[t]? = some u)(hu:u<0):TD c t x (.reg r):=
 ⟨fun s' hs'=>(by cases hs'),fun s hs=>by simp[hO]at hs,fun u hu=>(by cases hu),fun p hp=>(by cases hp),fun p hp=>(by cases hp),fun r hr=>(by cases hr),fun ad hr=>(by cases hr),fun r hr=>⟨u,D,hu⟩⟩
theorem td_clr {x:Sx}{ad:Nat}(D:Own c t x (ad-base c 9)):TD c t x (.clr ad):=
 ⟨fun s' hs'=>(by cases hs'),fun s hs=>by simp[hO]at hs,fun u hu=>(by cases hu),fun p hp=>(by cases hp),fun p hp=>(by cases hp),fun r hr=>(by cases hr),fun ad' hr=>(by cases hr;exact D),fun r hr=>(by cases hr)⟩
theorem td_rdg {x:Sx}{r:Rdg}(D:Own c t x (r.addr-base c 9))(h2:r.stage=2→x.V.hz (r.addr-base c 9)=r.w)(h3:r.stage=3→x.pr (r.addr-base c 9)∧x.V.hz (r.addr-base c 9)=r.w):TD c t x (.rdg r):=
 ⟨fun s' hs'=>(by cases hs'),fun s hs=>by simp[hO]at hs,fun u hu=>(by cases hu),fun p hp=>(by cases hp),fun p hp=>(by cases hp),fun r' hr=>(by cases hr;exact⟨D,h2,h3⟩),fun ad' hr=>(by cases hr),fun r hr=>(by cases hr)⟩
theorem td_unr {x:Sx}{u:Unr}(D:u.stage=1→∀s,u.scan=some s→ScD t x s)(h2:u.stage=2→∀p,u.flush=some p→PD x p∧∃y,x.caches[t]? = some (y++[p.slot])):TD c t x (.unr u):=by
 refine⟨fun s' hs' => ?_,fun s hs=>by simp[hO]at hs,fun u' hu=>(by cases hu;exact h2),fun p hp=>(by cases hp),fun p hp=>(by cases hp),fun r' hr=>(by cases hr),fun ad' hr=>(by cases hr),fun r hr=>(by cases hr)⟩
 simp only[scOf]at hs'
 split at hs'
 ·rename_i h1;exact D h1 s' hs'
 ·cases hs'
theorem td_pst {x:Sx}{p:Pst}(D:p.stage=4→∀r s,p.retire=some r→r.scan=some s→ScD t x s)(h0:p.stage=0→∀k',p.take=some k'→TkD x k')(h1:p.stage=1∨p.stage=2∨p.stage=3→x.sl (p.link-1)=⟨2,(t:Int)⟩)(h2:p.stage=2∨p.stage=3→x.V.val (p.link-1)=p.value%18446744073709551616):TD c t x (.pst p):=by
 refine⟨fun s' hs' => ?_,fun s hs => ?_,fun u' hu=>(by cases hu),fun p' hp=>(by cases hp;exact h0),fun p' hp=>(by cases hp;exact h2),fun r' hr=>(by cases hr),fun ad' hr=>(by cases hr),fun r hr=>(by cases hr)⟩
 ·simp only[scOf]at hs'
  split at hs'
  ·rename_i h4
   cases hr:p.retire with
   | none=>rw[hr]at hs';cases hs'
   | some r=>rw[hr]at hs';exact D h4 r s' hr hs'
  ·cases hs'
 ·simp only[hO]at hs
  split at hs
  ·rename_i hst
   simp only[List.mem_singleton]at hs
   subst hs;exact h1 hst
  ·simp at hs
theorem own_range (hok:c.Ok){x:Sx}{j:Int}(h:Own c t x j):0≤j∧j<c.R*c.Hz:=by
 obtain⟨r,_,r0,r1,h1,h2⟩:=h
 have hH:=hok.H1
 have h3:0≤r*c.Hz:=Int.mul_nonneg r0 (by omega)
 have h4:(r+1)*c.Hz≤c.R*c.Hz:=Int.mul_le_mul_of_nonneg_right (by omega) (by omega)
 rw[Int.add_mul,Int.one_mul]at h4
 omega
theorem hzd_gd (C:Core c Lg S N h a m){jw:Int}(ho:Own c t (sx stk pr c h a m) jw)(z:Int)(G:Gd c n Z Y F (sx stk pr c h a m) K L) :
  ∃pr',Gd c n Z Y F (sx stk pr' c h a (m.store (adr c 9 jw) (m.word (adr c 9 jw)) z)) K L∧Rl Z t (OwW c t (sx stk pr c h a m) m.mem.log (m.store (adr c 9 jw) (m.word (adr c 9 jw)) z).mem.log) (sx stk pr c h a m) (sx stk pr' c h a (m.store (adr c 9 jw) (m.word (adr c 9 jw)) z))∧(mv c (m.store (adr c 9 jw) (m.word (adr c 9 jw)) z)).hz jw=z:=by
 have hok:=C.ok
 have hb:=QI hok
 have hb9:=(ZD hok 9).1
 obtain⟨j0,j1⟩:=own_range hok ho
 have hA:adr c 9 jw<m.mem.words.length:=C.lt (by have:=QQ hok 9 j0;have:=hb.b10;have:=hb.b11;have:=hb.b12;have:=hb.b13;have:=hb.b14;have:=hok.S1;omega)
 obtain⟨g1,g2⟩:=G.hzd (t:=t) jw z j0 j1
 have e:mv c (m.store (adr c 9 jw) (m.word (adr c 9 jw)) z)={ mv c m with hz:=upd (mv c m).hz jw z }:=mv_hz hok j0 j1 rfl hA
 refine⟨fun j=>if j=jw then 1≤z∧(a.sl (z-1)).state=3 else pr j,?_,?_,by rw[e];exact QJ ..⟩
 ·unfold sx;rw[e];exact g1
 ·refine Rl.weaken (W:=fun j=>j=jw) ?_ (fun j hj=>by subst hj;exact⟨ho,_,rfl,rfl,QQ hok 9 j0⟩)
  unfold sx;rw[e];exact g2
theorem reg_gd {r:Reg}{se:Sea}(C:Core c Lg S N h a m)(hr:r.thread=(t:Int))(i0:0≤r.i)(i1:r.i<c.R){i:Nat}{cl:Cll}(G:Gd c n Z Y F (sx stk pr c h a m) [] [])(D:TD c t (sx stk pr c h a m) (.reg r)) :
  StP stk c n Z Y pr h a m t (Z8 (h,a) m i t cl se (.reg r)):=by
 have hok:=C.ok
 obtain rfl:=C.hc
 have hA:=C.lt (adr_lt' hok (.inl ⟨rfl,rfl⟩) i0 i1)
 obtain⟨u,hu1,hu2⟩:=D.reg r rfl
 have hN:∀m',m'.mem.words=m.mem.words→StP stk h.c n Z Y pr h a m t ((Qv h m' t se r).1,((Qv h m' t se r).2.1,a),(Qv h m' t se r).2.2.1,.reg (Qv h m' t se r).2.2.2):=by
  intro m' hm'
  unfold Qv
  split
  ·have e:sx stk pr h.c h a m'=sx stk pr h.c h a m:=ZO hm'
   refine⟨pr,F,?_,?_,fun _ => ?_⟩
   ·simp only[e];exact G.mono (by omega)
   ·simp only[e];exact Rl.refl ..
   ·simp only[e];exact td_reg hu1 hu2
  ·have e:sx stk pr h.c h a (m'.answer t se 4 0)=sx stk pr h.c h a m:=ZO hm'
   refine⟨pr,F,?_,?_,fun hf=>(by cases hf)⟩
   ·simp only[e];exact G.mono (by omega)
   ·simp only[e];exact Rl.refl ..
 have hld:sx stk pr h.c h a (m.load (adr h.c 8 r.i) (m.word (adr h.c 8 r.i)))=sx stk pr h.c h a m:=ZO rfl
 simp only[Z8]
 unfold Qg
 simp only[]
 split
 ·split
  ·exact hN _ rfl
  ·refine⟨pr,F,?_,?_,fun _ => ?_⟩
   ·simp only[hld];exact G.mono (by omega)
   ·simp only[hld];exact Rl.refl ..
   ·simp only[hld];exact td_reg hu1 hu2
 ·split
  ·rename_i hw
   have e:sx stk pr h.c { h with held:=h.held.set r.thread.toNat r.i } a ((m.swap (adr h.c 8 r.i) (m.word (adr h.c 8 r.i)) 0 1).answer t se 2 r.i)={ sx stk pr h.c h a m with V:={ (sx stk pr h.c h a m).V with act:=upd (sx stk pr h.c h a m).V.act r.i 1 },held:=(sx stk pr h.c h a m).held.set t r.i }:=by
    unfold sx
    rw[mv_act hok i0 i1 (z:=1) (by simp only[Mch.answer,Mch.swap];rw[if_pos hw]) hA,hr,Yo]
   have G2:=G.register (t:=t) (W:=fun _=>False) i0 i1 hu1 hu2 (by show(mv h.c m).act r.i=0;rw[act_at i0 i1];exact hw)
   refine⟨pr,F,?_,?_,fun hf=>(by cases hf)⟩
   ·simp only[if_true];rw[e];exact G2.1.mono (by omega)
   ·simp only[];rw[e];exact G2.2.weaken (fun _ h=>h.elim)
  ·rename_i hw
   exact hN _ (by simp only[Mch.swap];rw[if_neg hw])
theorem clr_gd {ad:Nat}{i:Nat}{cl:Cll}{se:Sea}(C:Core c Lg S N h a m)(b0:base c 9≤ad)(G:Gd c n Z Y F (sx stk pr c h a m) [] [])(D:TD c t (sx stk pr c h a m) (.clr ad)) :
  StP stk c n Z Y pr h a m t (Z8 (h,a) m i t cl se (.clr ad)):=by
 have ho:=D.cl ad rfl
 have e:adr c 9 ((ad:Int)-base c 9)=ad:=by unfold adr;omega
 obtain⟨pr',g1,g2,_⟩:=hzd_gd (n:=n) (Z:=Z) (Y:=Y) (F:=F) C ho 0 G
 rw[e]at g1 g2
 exact⟨pr',F,g1.mono (by omega),g2,fun hf=>(by cases hf)⟩
theorem read_gd {r:Rdg}{i:Nat}{cl:Cll}{se:Sea}(C:Core c Lg S N h a m)(I:RdI c r)(G:Gd c n Z Y F (sx stk pr c h a m) [] [])(D:TD c t (sx stk pr c h a m) (.rdg r)) :
  StP stk c n Z Y pr h a m t (Z8 (h,a) m i t cl se (.rdg r)):=by
 have hok:=C.ok
 have hc:=C.hc
 obtain⟨i1,i2,i3,i4⟩:=I
 obtain⟨d1,d2,d3⟩:=D.rd r rfl
 have e9:adr c 9 (r.addr-base c 9)=r.addr.toNat:=by unfold adr;congr 1;omega
 have hS:∀m' u,m'.mem.words=m.mem.words→StP stk c n Z Y pr h a m t ((Qq m' i t cl se r u).1,(h,a),(Qq m' i t cl se r u).2.1,.rdg (Qq m' i t cl se r u).2.2):=by
  intro m' u hm'
  unfold Qq
  split
  ·have e:sx stk pr c h a ((m'.point i cl m'.now).answer t se 3 0)=sx stk pr c h a m:=ZO hm'
   refine⟨pr,F,?_,?_,fun hf=>(by cases hf)⟩
   ·simp only[e];exact G.mono (by omega)
   ·simp only[e];exact Rl.refl ..
  ·have e:sx stk pr c h a m'=sx stk pr c h a m:=ZO hm'
   refine⟨pr,F,?_,?_,fun _ => ?_⟩
   ·simp only[e];exact G.mono (by omega)
   ·simp only[e];exact Rl.refl ..
   ·simp only[e];exact td_rdg d1 (fun hf=>by simp at hf) (fun hf=>by simp at hf)
 simp only[Z8]
 unfold Qo
 rw[hc]
 simp only[]
 split
 ·exact hS _ _ rfl
 ·rename_i s0
  have hw2:=i4 s0
  split
  ·obtain⟨pr',g1,g2,g3⟩:=hzd_gd (n:=n) (Z:=Z) (Y:=Y) (F:=F) C d1 r.w G
   rw[e9]at g1 g2 g3
   exact⟨pr',F,g1.mono (by omega),g2,fun _=>td_rdg (d1.he rfl) (fun _=>g3) (fun hf=>by simp at hf)⟩
  ·rename_i s1
   split
   ·rename_i s2
    split
    ·rename_i hw
     have e:sx stk pr c h a (m.load (adr c 2 0) (m.word (adr c 2 0)))=sx stk pr c h a m:=ZO rfl
     refine⟨pr,F,?_,?_,fun _ => ?_⟩
     ·simp only[e];exact G.mono (by omega)
     ·simp only[e];exact Rl.refl ..
     ·simp only[e]
      refine td_rdg d1 (fun hf=>by simp at hf) (fun _=>⟨?_,d2 s2⟩)
      obtain⟨j0,j1⟩:=own_range hok d1
      have d2:=d2 s2
      refine G.pr2 _ j0 j1 (by rw[d2];omega) ?_
      rw[d2]
      exact G.stX (r.w-1) (by omega) (by show(mv c m).cell=_;have:(mv c m).cell=r.w:=hw;omega)
    ·exact hS _ _ rfl
   ·have e:sx stk pr c h a (((m.load (adr c 11 (r.w-1)) (m.word (adr c 11 (r.w-1)))).point i cl r.point).answer t se 2 (wrap64 (m.word (adr c 11 (r.w-1)))))=sx stk pr c h a m:=ZO rfl
    refine⟨pr,F,?_,?_,fun hf=>(by cases hf)⟩
    ·simp only[e];exact G.mono (by omega)
    ·simp only[e];exact Rl.refl ..
theorem scn_gd {s:Scn}{i:Nat}{cl:Cll}{se:Sea}(C:Core c Lg S N h a m)(I:ScI c s)(hs:s.thread=(t:Int))(hm:m.thread=(t:Int))(ht:(t:Int)<c.T)(hn:n<4294967295)(G:Gd c n Z Y F (sx stk pr c h a m) (hS (.scn s)) (hL (.scn s)))(D:TD c t (sx stk pr c h a m) (.scn s)) :
  StP stk c n Z Y pr h a m t (Z8 (h,a) m i t cl se (.scn s)):=by
 obtain⟨⟨F',g1⟩,g2,g3,g4⟩:=scan_gd (W:=fun _=>False) C I hs hm ht hn G (D.scan s rfl)
 simp only[Z8]
 generalize Zt h a m s=r at g1 g2 g3 g4 ⊢
 refine⟨pr,F',?_,g2.weaken (fun _ h=>h.elim),fun _=>td_scn g3⟩
 by_cases hb:r.1=true
 ·have h6:=g4 hb
  rw[if_pos hb,if_pos hb]
  have k1:scnP r.2.2.2.2=[]:=by unfold scnP;rw[if_neg (by omega)]
  have k2:lkS r.2.2.2.2=[]:=by unfold lkS;rw[if_neg (by omega)]
  rw[k1,k2]at g1;exact g1
 ·rw[if_neg hb,if_neg hb];exact g1
end
end Go.Proofs.YtjagadldibbbbaaGreat
