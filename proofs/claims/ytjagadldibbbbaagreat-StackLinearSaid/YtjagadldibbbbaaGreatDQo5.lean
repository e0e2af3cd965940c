/-
  The same: unregistering, posting, beginnings.
-/
import Derived.Test.YtjagadldibbbbaaGreatDQo4
set_option linter.all false
namespace Go.Proofs.YtjagadldibbbbaaGreat
open Go.RowKit Hp
set_option maxRecDepth 100000
set_option maxHeartbeats 1000000
attribute [local irreducible] Go.Calls
section
variable {c:Cfg}{Lg S N:Nat}{h:Haz}{a:Are}{m:Mch}
variable {n:Int}{Z Y:Int→Nat}{F stk:List Int}{pr:Int→Prop}{K L:List Int}{t:Nat}{W:Int→Prop}
theorem push_caches (cs:List (List Int))(p:Psh):Za { a with caches:=cs } m p=((Za a m p).1,{ (Za a m p).2.1 with caches:=cs },(Za a m p).2.2.1,(Za a m p).2.2.2):=by
 unfold Za
 split
 ·rfl
 ·split
  ·rfl
  ·simp only[]
   split<;>rfl
theorem hS_unr {u:Unr}(h:u.stage≠1):hS (.unr u)=[]∧hL (.unr u)=[]:=by
 unfold hS hP hL hO scOf
 simp only[]
 rw[if_neg h]
 exact⟨rfl,rfl⟩
theorem hS_unr1 {u:Unr}{s:Scn}(h:u.stage=1)(hs:u.scan=some s):hS (.unr u)=scnP s∧hL (.unr u)=lkS s:=by
 unfold hS hP hL hO scOf
 simp only[]
 rw[if_pos h,hs]
 exact⟨rfl,rfl⟩
theorem empty_td {u:Unr}{x:Sx}(C:Core c Lg S N h a m)(hu:u.thread=(t:Int))(hx:x.caches=a.caches):(QN a u).stage≠1∧TD c t x (.unr (QN a u)):=by
 have e:u.thread.toNat=t:=by omega
 unfold QN QP
 simp only[e]
 by_cases h0:(a.caches.getD t []).length=0
 ·rw[if_pos h0]
  simp only[if_true]
  exact⟨by simp,td_unr (fun hf=>by simp at hf) (fun hf=>by simp at hf)⟩
 ·rw[if_neg h0]
  simp only[Yn,if_false]
  refine⟨by simp,td_unr (fun hf=>by simp at hf) (fun _ p hp => ?_)⟩
  simp only[Option.some.injEq]at hp
  subst hp
  refine⟨fun hf=>by simp at hf,(a.caches.getD t []).take ((a.caches.getD t []).length-1),?_⟩
  rw[hx,←last_of h0]
  cases hc:a.caches[t]? with
  | none=>rw[Yb,hc]at h0;simp at h0
  | some y=>rw[Yb,hc];rfl
theorem unr_gd {u:Unr}{i:Nat}{cl:Cll}{se:Sea}(C:Core c Lg S N h a m)(hN:N<1000000)(ht:(t:Int)<c.T)(hm:m.thread=(t:Int))(hu:u.thread=(t:Int))(hd:0≤h.held.getD t 0)(I:UnI c (a.caches.getD t []) u)(hn:n<4294967295)
  (G:Gd c n Z Y F (sx stk pr c h a m) (hS (.unr u)) (hL (.unr u))) (D:TD c t (sx stk pr c h a m) (.unr u)) :
  StP stk c n Z Y pr h a m t (Z8 (h,a) m i t cl se (.unr u)):=by
 have hok:=C.ok
 obtain rfl:=C.hc
 obtain⟨r1,_⟩:=C.hget ht
 have hlt:t<h.held.length:=by rw[C.held];omega
 have hh:h.held[t]? = some (h.held.getD t 0):=by rw[Yb,Yd hlt];rfl
 have htc:t<a.caches.length:=by rw[C.caches];omega
 obtain⟨i1,i2,i3,i4⟩:=I
 simp only[Z8]
 unfold Zy
 have e:u.thread.toNat=t:=by omega
 simp only[e]
 generalize hrc:h.held.getD t 0=rc at hd r1 hh ⊢
 by_cases s0:u.stage=0
 ·rw[if_pos s0]
  obtain⟨k0,k1⟩:=i2 s0
  obtain⟨z1,z2⟩:=hS_unr (u:=u) (by omega)
  rw[z1,z2]at G
  have ho:Own h.c t (sx stk pr h.c h a m) (rc*h.c.Hz+u.k):=⟨rc,hh,hd,r1,by omega,by omega⟩
  obtain⟨pr',g1,g2,g3⟩:=hzd_gd (n:=n) (Z:=Z) (Y:=Y) (F:=F) C ho 0 G
  have eA:adr h.c 9 (rc*h.c.Hz+u.k)=(base h.c 9+rc*h.c.Hz+u.k).toNat:=by unfold adr;congr 1;omega
  rw[eA]at g1 g2 g3
  have hmono:=g1.mono (n':=n+1) (by omega)
  split
  ·refine⟨pr',F,?_,g2,fun _=>td_unr (fun hf=>by simp only[s0]at hf;omega) (fun hf=>by simp only[s0]at hf;omega)⟩
   obtain⟨y1,y2⟩:=hS_unr (u:={ u with k:=u.k+1 }) (by simp only[s0];omega)
   simp only[Yn,if_false,y1,y2];exact hmono
  ·obtain⟨n1,n2,n3,n4⟩:=next_sd (h:=h) (s:={ (⟨u.thread,rc,6,0,false,fun _=>0,[],none⟩:Scn) with at_ := -1 }) (t:=t) (sx stk pr' h.c h a (m.store (base h.c 9+rc*h.c.Hz+u.k).toNat (m.word (base h.c 9+rc*h.c.Hz+u.k).toNat) 0)) hh
   split
   ·obtain⟨q1,q2⟩:=empty_td (c:=h.c) (t:=t) (u:={ u with k:=u.k+1,scan:=some (ZL h ⟨u.thread,rc,6,0,false,fun _=>0,[],none⟩).2,stage:=1 }) (x:=sx stk pr' h.c h a (m.store (base h.c 9+rc*h.c.Hz+u.k).toNat (m.word (base h.c 9+rc*h.c.Hz+u.k).toNat) 0)) C hu rfl
    obtain⟨y1,y2⟩:=hS_unr q1
    refine⟨pr',F,?_,g2,fun _=>q2⟩
    simp only[Yn,if_false,y1,y2];exact hmono
   ·obtain⟨y1,y2⟩:=hS_unr1 (u:={ u with k:=u.k+1,scan:=some (ZL h ⟨u.thread,rc,6,0,false,fun _=>0,[],none⟩).2,stage:=1 }) rfl rfl
    refine⟨pr',F,?_,g2,fun _=>td_unr (fun _ s hs => ?_) (fun hf=>by simp at hf)⟩
    ·simp only[Yn,if_false,y1,y2]
     have n2:scnP (ZL h ⟨u.thread,rc,6,0,false,fun _=>0,[],none⟩).2=[]:=n2
     have n3:lkS (ZL h ⟨u.thread,rc,6,0,false,fun _=>0,[],none⟩).2=[]:=n3
     rw[n2,n3];exact hmono
    ·simp only[Option.some.injEq]at hs
     subst hs;exact n1
 rw[if_neg s0]
 by_cases s1:u.stage=1
 ·rw[if_pos s1]
  obtain⟨s,e1,e2,e3⟩:=i3 s1
  obtain⟨z1,z2⟩:=hS_unr1 s1 e1
  rw[z1,z2]at G
  rw[e1]
  simp only[]
  obtain⟨⟨F',g1⟩,g2,g3,g4⟩:=scan_gd (W:=fun _=>False) C e2 (e3.trans hu) hm ht hn G (D.scan s (by simp only[scOf];rw[if_pos s1,e1]))
  obtain⟨f1,f2,f3,f4,f5⟩:=scan_core C e2 hN
  generalize Zt h a m s=r at g1 g2 g3 g4 f1 f2 f3 f4 f5 ⊢
  split
  ·rename_i hb
   have h6:=g4 hb
   obtain⟨q1,q2⟩:=empty_td (c:=h.c) (t:=t) (u:={ u with scan:=some r.2.2.2.2 }) (x:=sx stk pr h.c r.2.1 r.2.2.1 r.2.2.2.1) f1 hu rfl
   obtain⟨y1,y2⟩:=hS_unr q1
   refine⟨pr,F',?_,g2.weaken (fun _ h=>h.elim),fun _=>q2⟩
   have k1:scnP r.2.2.2.2=[]:=by unfold scnP;rw[if_neg (by omega)]
   have k2:lkS r.2.2.2.2=[]:=by unfold lkS;rw[if_neg (by omega)]
   rw[k1,k2]at g1
   simp only[Yn,if_false,y1,y2];exact g1
  ·obtain⟨y1,y2⟩:=hS_unr1 (u:={ u with scan:=some r.2.2.2.2 }) s1 rfl
   refine⟨pr,F',?_,g2.weaken (fun _ h=>h.elim),fun _=>td_unr (fun _ s hs => ?_) (fun hf=>by simp only[s1]at hf;omega)⟩
   ·simp only[Yn,if_false,y1,y2];exact g1
   ·simp only[Option.some.injEq]at hs
    subst hs;exact g3
 rw[if_neg s1]
 obtain⟨z1,z2⟩:=hS_unr (u:=u) s1
 rw[z1,z2]at G
 by_cases s2:u.stage=2
 ·rw[if_pos s2]
  obtain⟨p,e1,e2,e3,e4⟩:=i4 s2
  obtain⟨hPD,y,hy⟩:=D.flush u rfl s2 p e1
  rw[e1]
  simp only[]
  have hy:a.caches[t]? = some (y++[p.slot]):=hy
  have hyd:a.caches.getD t []=y++[p.slot]:=getD_some hy
  have hpt:p.thread.toNat=t:=by omega
  obtain⟨g1,g2⟩:=G.uncache (t:=t) (W:=fun _=>False) hy
  have hins:=(C.cget (t:=(t:Int)) (by omega) ht)
  rw[Yo,hyd]at hins
  have C0:Core h.c Lg S N h { a with caches:=a.caches.set t y } m:=C.cache t y (by have:=hins.2.1;simp at this;omega) (fun z hz=>hins.2.2 z (by simp[hz]))
  have hst:a.sl p.slot=⟨1,(t:Int)⟩:=G.stC t _ hy p.slot (by simp)
  have hpr:∀j,pr j→(mv h.c m).hz j≠p.slot+1:=by
   intro j hj hz
   obtain⟨_,_,p3⟩:=G.pr1 j hj
   have p3:(a.sl ((mv h.c m).hz j-1)).state=3∨(a.sl ((mv h.c m).hz j-1)).state=4∨(a.sl ((mv h.c m).hz j-1)).state=5:=p3
   rw[hz,show p.slot+1-1=p.slot by omega,hst]at p3
   simp at p3
  obtain⟨F',k1,k2,k3,k4,k5⟩:=push_gd (t:=t) (W:=fun _=>False) (a:={ a with caches:=a.caches.set t y }) C0 e2 g1 hPD hn hpr
  rw[push_caches]at k1 k2 k3 k4 k5
  simp only[]at k1 k2 k3 k4 k5
  have hpc:=(pushStep_caches a m p)
  unfold ZM
  simp only[hpt,hyd]
  by_cases hb:(Za a m p).1=false
  ·rw[if_pos hb]
   rw[if_neg (by simp[hb])]at k1
   obtain⟨k3,k6⟩:=k3 hb
   have hsl':(Za a m p).2.1.sl=a.sl:=by
    have hss:(Za a m p).2.1.slots=a.slots:=by have:=congrArg Are.slots k6;exact this
    funext s;unfold Are.sl;rw[hss]
   have B:=k1.cache (t:=t) (W:=fun _=>False) (y:=y) (by show(a.caches.set t y)[t]? = _;rw[Ye htc]) (by show(Za a m p).2.1.sl p.slot=_;rw[hsl'];exact hst)
   have e5:{ sx stk pr h.c h { (Za a m p).2.1 with caches:=a.caches.set t y } (Za a m p).2.2.1 with caches:=(a.caches.set t y).set t (y++[p.slot]) }=sx stk pr h.c h (Za a m p).2.1 (Za a m p).2.2.1:=by
    unfold sx
    have:(a.caches.set t y).set t (y++[p.slot])=(Za a m p).2.1.caches:=by
     rw[hpc,Yl]
     apply List.ext_getElem?
     intro j
     by_cases ej:j=t
     ·subst ej;rw[Ye htc,hy]
     ·rw[ZX ej]
    rw[this];rfl
   rw[hb]
   simp only[Yn,if_false]
   obtain⟨y1,y2⟩:=hS_unr (u:={ u with flush:=some (Za a m p).2.2.2,stage:=2 }) (by simp)
   refine⟨pr,F',?_,?_,fun _=>td_unr (fun hf=>by simp at hf) (fun _ p' hp' => ?_)⟩
   ·simp only[Yn,if_false,y1,y2];rw[←e5];exact B.1
   ·simp only[];rw[←e5];exact((g2.trans k2).trans B.2).weaken (fun _ h=>h.elim)
   ·simp only[Option.some.injEq]at hp'
    subst hp'
    refine⟨k3,y,?_⟩
    show(Za a m p).2.1.caches[t]? = _
    rw[hpc,k4];exact hy
  ·rw[if_neg hb]
   have hb:(Za a m p).1=true:=by simpa using hb
   rw[if_pos hb]at k1
   have hyl:(y++[p.slot]).take ((y++[p.slot]).length-1)=y:=by simp
   rw[hyl]
   split
   ·simp only[if_true]
    obtain⟨y1,y2⟩:=hS_unr (u:={ u with flush:=some (Za a m p).2.2.2,stage:=3 }) (by simp)
    refine⟨pr,F',?_,(g2.trans k2).weaken (fun _ h=>h.elim),fun _=>td_unr (fun hf=>by simp at hf) (fun hf=>by simp at hf)⟩
    simp only[Yn,if_false,y1,y2];exact k1
   ·rename_i hl
    simp only[Yn,if_false]
    obtain⟨y1,y2⟩:=hS_unr (u:={ u with flush:=some { (Za a m p).2.2.2 with slot:=y.getD (y.length-1) 0,at_:=1 },stage:=2 }) (by simp)
    refine⟨pr,F',?_,(g2.trans k2).weaken (fun _ h=>h.elim),fun _=>td_unr (fun hf=>by simp at hf) (fun _ p' hp' => ?_)⟩
    ·simp only[Yn,if_false,y1,y2];exact k1
    ·simp only[Option.some.injEq]at hp'
     subst hp'
     refine⟨fun hf=>by simp at hf,y.take (y.length-1),?_⟩
     show(a.caches.set t y)[t]? = _
     rw[Ye htc,←last_of (by simp at hl;intro e;exact hl (List.eq_nil_of_length_eq_zero e))]
 rw[if_neg s2]
 have hA:=C.lt (adr_lt' hok (.inl ⟨rfl,rfl⟩) hd r1)
 have G2:=G.unregister (t:=t) (W:=fun _=>False) hd r1 hh
 have e5:sx stk pr h.c { h with held:=h.held.set t (-1) } a (m.store (adr h.c 8 rc) (m.word (adr h.c 8 rc)) 0)={ sx stk pr h.c h a m with V:={ (sx stk pr h.c h a m).V with act:=upd (sx stk pr h.c h a m).V.act rc 0 },held:=(sx stk pr h.c h a m).held.set t (-1) }:=by
  unfold sx
  rw[mv_act hok hd r1 (z:=0) rfl hA]
 refine⟨pr,F,?_,?_,fun hf=>(by cases hf)⟩
 ·simp only[if_true];rw[e5];exact G2.1.mono (by omega)
 ·simp only[];rw[e5];exact G2.2.weaken (fun _ h=>h.elim)
theorem hS_pst0 {p:Pst}(h:p.stage=0):hS (.pst p)=[]∧hL (.pst p)=[]:=by
 unfold hS hP hL hO scOf
 simp only[]
 rw[if_neg (by omega),if_neg (by omega)]
 exact⟨rfl,rfl⟩
theorem hS_pst1 {p:Pst}(h:p.stage=1∨p.stage=2∨p.stage=3):hS (.pst p)=[p.link-1]∧hL (.pst p)=[]:=by
 unfold hS hP hL hO scOf
 simp only[]
 rw[if_pos h,if_neg (by omega)]
 exact⟨rfl,rfl⟩
theorem hS_pst4 {p:Pst}{r:Ret}{s:Scn}(h:p.stage=4)(hr:p.retire=some r)(hs:r.scan=some s):hS (.pst p)=scnP s∧hL (.pst p)=lkS s:=by
 unfold hS hP hL hO scOf
 simp only[]
 rw[if_neg (by omega),if_pos h,hr]
 simp only[hs]
 exact⟨rfl,rfl⟩
theorem took_gd {p:Pst}{k:Tak}{i:Nat}{cl:Cll}{se:Sea}{a':Are}{m':Mch}(hk:Ze k = -1∨0≤Ze k)
  (G:Gd c n Z Y F (sx stk pr c h a' m') (if 0≤Ze k then [Ze k] else []) []) (R:Rl Z t (fun _=>False) (sx stk pr c h a m) (sx stk pr c h a' m')) (hsl:0≤Ze k→a'.sl (Ze k)=⟨2,(t:Int)⟩) :
  StP stk c n Z Y pr h a m t ((ZJ m' i t cl se p k).1,(h,a'),(ZJ m' i t cl se p k).2.1,.pst (ZJ m' i t cl se p k).2.2):=by
 unfold ZJ
 split
 ·rename_i hlt
  rw[if_neg (by omega)]at G
  have e:sx stk pr c h a' ((m'.point i cl m'.now).answer t se 4 0)=sx stk pr c h a' m':=ZO rfl
  refine⟨pr,F,?_,?_,fun hf=>(by cases hf)⟩
  ·simp only[e];exact G.mono (by omega)
  ·simp only[e];exact R.weaken (fun _ h=>h.elim)
 ·rename_i hge
  rw[if_pos (by omega)]at G
  obtain⟨y1,y2⟩:=hS_pst1 (p:={ p with link:=Ze k+1,stage:=1 }) (.inl rfl)
  have e1:Ze k+1-1=Ze k:=by omega
  refine⟨pr,F,?_,R.weaken (fun _ h=>h.elim),fun _=>td_pst (fun hf=>by simp at hf) (fun hf=>by simp at hf) (fun _ => ?_) (fun hf=>by simp at hf)⟩
  ·simp only[Yn,if_false,y1,y2,e1];exact G.mono (by omega)
  ·show a'.sl (Ze k+1-1)=_
   rw[e1];exact hsl (by omega)
theorem post_gd {p:Pst}{i:Nat}{cl:Cll}{se:Sea}(C:Core c Lg S N h a m)(hN:N<1000000)(ht:(t:Int)<c.T)(hm:m.thread=(t:Int))(hu:p.thread=(t:Int))(hd:0≤h.held.getD t 0)(I:PoI c p)(hn:n<4294967295)
  (G:Gd c n Z Y F (sx stk pr c h a m) (hS (.pst p)) (hL (.pst p))) (D:TD c t (sx stk pr c h a m) (.pst p)) :
  StP stk c n Z Y pr h a m t (Z8 (h,a) m i t cl se (.pst p)):=by
 have hok:=C.ok
 obtain rfl:=C.hc
 obtain⟨r1,_⟩:=C.hget ht
 have hlt:t<h.held.length:=by rw[C.held];omega
 have hh:h.held[t]? = some (h.held.getD t 0):=by rw[Yb,Yd hlt];rfl
 obtain⟨⟨k,hk,k0,k1⟩,i2,i3,i4⟩:=I
 simp only[Z8]
 unfold Z0
 rw[hk]
 simp only[]
 by_cases s0:p.stage=0
 ·rw[if_pos s0]
  obtain⟨z1,z2⟩:=hS_pst0 s0
  rw[z1,z2]at G
  obtain⟨⟨F',g1⟩,g2,g3,g4⟩:=take_gd (t:=t) (W:=fun _=>False) C (k0 s0) hm hn G (D.take p rfl s0 k hk)
  obtain⟨e1,e2,e3,e4⟩:=take_core C (k0 s0)
  generalize Zj a m k=r at g1 g2 g3 g4 e1 e2 e3 e4 ⊢
  split
  ·have Q:=took_gd (i:=i) (cl:=cl) (se:=se) (h:=h) (a:=a) (m:=m) (p:={ p with take:=some r.2.2.2 }) (e3.imp id (·.1)) g1 g2 g4
   obtain⟨pr',F2,q1,q2,q3⟩:=Q
   have hin:∀ {K L:List Int},Gd h.c (n+1+1) Z Y F2 (sx stk pr' h.c h r.2.1 (ZJ r.2.2.1 i t cl se { p with take:=some r.2.2.2 } r.2.2.2).2.1) K L→n+1+1=n+1+1:=fun _=>rfl
   refine⟨pr',F2,?_,q2,q3⟩
   have tg:(mv h.c (ZJ r.2.2.1 i t cl se { p with take:=some r.2.2.2 } r.2.2.2).2.1).hd / 4294967296≤n+1:=by
    have:=g1.tag
    have ew:(ZJ r.2.2.1 i t cl se { p with take:=some r.2.2.2 } r.2.2.2).2.1.mem.words=r.2.2.1.mem.words:=by unfold ZJ;split<;>rfl
    rw[mv_same ew];exact this
   exact⟨q1.tot,q1.stF,q1.stC,q1.stX,q1.stL,q1.stZ,q1.chain,q1.hd0,tg,q1.rcd,q1.act1,q1.pr1,q1.pr2,q1.stK,q1.lk⟩
  ·rename_i hb
   obtain⟨q1,q2⟩:=g3 (by simpa using hb)
   rw[q2,if_neg (by omega)]at g1
   obtain⟨y1,y2⟩:=hS_pst0 (p:={ p with take:=some r.2.2.2 }) s0
   refine⟨pr,F',?_,g2.weaken (fun _ h=>h.elim),fun _=>td_pst (fun hf=>by simp only[s0]at hf;omega) (fun _ k' hk' => ?_) (fun hf=>by simp only[s0]at hf;omega) (fun hf=>by simp only[s0]at hf;omega)⟩
   ·simp only[Yn,if_false,y1,y2];exact g1
   ·simp only[Option.some.injEq]at hk'
    subst hk';exact q1
 rw[if_neg s0]
 have hown:=D.own
 by_cases s1:p.stage=1
 ·rw[if_pos s1]
  obtain⟨g1,g2,g3⟩:=k1 (.inl s1)
  obtain⟨z1,z2⟩:=hS_pst1 (p:=p) (.inl s1)
  rw[z1,z2]at G
  have hA:=C.lt (adr_lt' hok (r:=11) (.inr ⟨.inr (.inl rfl),rfl⟩) g1 g2)
  have el:p.link-1=Ze k:=by omega
  have G2:=G.value (t:=t) (W:=fun _=>False) (s:=p.link-1) (List.mem_cons_self ..) (p.value%18446744073709551616)
  have e:sx stk pr h.c h a (m.store (adr h.c 11 (Ze k)) (m.word (adr h.c 11 (Ze k))) (p.value%18446744073709551616))={ sx stk pr h.c h a m with V:={ (sx stk pr h.c h a m).V with val:=upd (sx stk pr h.c h a m).V.val (p.link-1) (p.value%18446744073709551616) } }:=by
   unfold sx
   rw[mv_val hok g1 g2 (z:=p.value%18446744073709551616) rfl hA,el]
  obtain⟨y1,y2⟩:=hS_pst1 (p:={ p with stage:=2 }) (.inr (.inl rfl))
  refine⟨pr,F,?_,?_,fun _=>td_pst (fun hf=>by simp at hf) (fun hf=>by simp at hf) (fun _ => ?_) (fun _ => ?_)⟩
  ·simp only[Yn,if_false,y1,y2];rw[e];exact G2.1.mono (by omega)
  ·simp only[];rw[e];exact G2.2.weaken (fun _ h=>h.elim)
  ·exact hown _ (by simp only[hO];rw[if_pos (.inl s1)];exact List.mem_cons_self ..)
  ·simp only[];rw[e];exact QJ ..
 rw[if_neg s1]
 by_cases s2:p.stage=2
 ·rw[if_pos s2]
  obtain⟨z1,z2⟩:=hS_pst1 (p:=p) (.inr (.inl s2))
  rw[z1,z2]at G
  have e:sx stk pr h.c h a (m.load (adr h.c 2 0) (m.word (adr h.c 2 0)))=sx stk pr h.c h a m:=ZO rfl
  obtain⟨y1,y2⟩:=hS_pst1 (p:={ p with saw:=m.word (adr h.c 2 0),stage:=3 }) (.inr (.inr rfl))
  refine⟨pr,F,?_,?_,fun _=>td_pst (fun hf=>by simp at hf) (fun hf=>by simp at hf) (fun _ => ?_) (fun _ => ?_)⟩
  ·simp only[Yn,if_false,y1,y2,e];exact G.mono (by omega)
  ·simp only[e];exact Rl.refl ..
  ·exact hown _ (by simp only[hO];rw[if_pos (.inr (.inl s2))];exact List.mem_cons_self ..)
  ·simp only[e];exact D.val p rfl (.inl s2)
 rw[if_neg s2]
 by_cases s3:p.stage=3
 ·rw[if_pos s3]
  obtain⟨g1,g2,g3⟩:=k1 (.inr (.inr s3))
  obtain⟨z1,z2⟩:=hS_pst1 (p:=p) (.inr (.inr s3))
  rw[z1,z2]at G
  obtain⟨w0,w1⟩:=i3 s3
  have el:p.link-1=Ze k:=by omega
  have hsl:a.sl (p.link-1)=⟨2,(t:Int)⟩:=hown _ (by simp only[hO];rw[if_pos (.inr (.inr s3))];exact List.mem_cons_self ..)
  have hA2:=C.lt (adr_lt14 hok).2
  split
  ·rename_i hw
   have Z2:(mv h.c m).cell=p.saw:=hw
   have hpr:∀j,pr j→(mv h.c m).hz j≠(p.link-1)+1:=by
    intro j hj hz
    obtain⟨_,_,p3⟩:=G.pr1 j hj
    have p3:(a.sl ((mv h.c m).hz j-1)).state=3∨(a.sl ((mv h.c m).hz j-1)).state=4∨(a.sl ((mv h.c m).hz j-1)).state=5:=p3
    rw[hz,show p.link-1+1-1=p.link-1 by omega,hsl]at p3
    simp at p3
   have hslt:(p.link-1).toNat<a.slots.length:=by rw[C.slots];omega
   unfold Jc
   simp only[]
   have em:∀w:Mch,w.mem.words=(m.swap (adr h.c 2 0) (m.word (adr h.c 2 0)) p.saw p.link).mem.words→mv h.c w={ mv h.c m with cell:=(p.link-1)+1 }:=by
    intro w ew
    rw[mv_cell hok (z:=p.link) (by rw[ew];simp only[Mch.swap];rw[if_pos hw]) hA2]
    have:p.link-1+1=p.link:=by omega
    rw[this]
   have hth:(m.swap (adr h.c 2 0) (m.word (adr h.c 2 0)) p.saw p.link).thread=(t:Int):=hm
   generalize hmw:m.swap (adr h.c 2 0) (m.word (adr h.c 2 0)) p.saw p.link=mw at em hth ⊢
   rw[←el]
   have e3:=Jb (a:=a) (th:=mw.thread) (to:=3) (s:=p.link-1) (by omega) hslt
   simp only[or_true,if_true]at e3
   split
   ·rename_i hz
    have G2:=G.link (t:=t) (W:=fun _=>False) ⟨3,-1⟩ rfl hpr (K':=[]) (fun s'=>by
     rw[ind_neg (by show ¬(0≤s'∧(mv h.c m).cell=s'+1);omega)];rfl)
    have e:∀pr',sx stk pr' h.c h (a.shift (p.link-1).toNat mw.thread 3) (((mw.point i cl mw.now).answer t se 1 0).shift (p.link-1) (a.slots.getD (p.link-1).toNat ⟨0,0⟩).state 3) =
      { sx stk pr h.c h a m with pr:=pr',V:={ (mv h.c m) with cell:=p.link-1+1 },sl:=updS a.sl (p.link-1) ⟨3,-1⟩ }:=by
     intro pr'
     unfold sx
     rw[em (((mw.point i cl mw.now).answer t se 1 0).shift (p.link-1) (a.slots.getD (p.link-1).toNat ⟨0,0⟩).state 3) rfl,e3];rfl
    refine⟨fun j=>pr j∨(0≤j∧j<h.c.R*h.c.Hz∧(mv h.c m).hz j=p.link-1+1),F,?_,?_,fun hf=>(by cases hf)⟩
    ·simp only[if_true];rw[e];exact G2.1.mono (by omega)
    ·simp only[];rw[e];exact G2.2.weaken (fun _ h=>h.elim)
   ·rename_i hz
    have G2:=G.link (t:=t) (W:=fun _=>False) ⟨3,-1⟩ rfl hpr (K':=[p.saw-1]) (fun s'=>by
     have hcell':(sx stk pr h.c h a m).V.cell=p.saw:=Z2
     by_cases es:s'=p.saw-1
     ·subst es;rw[ind_pos ⟨by omega,by rw[hcell'];omega⟩];simp
     ·rw[ind_neg (by rw[hcell'];omega)]
      have:[p.saw-1].count s'=0:=List.count_eq_zero.2 (by simp only[List.mem_singleton];exact es)
      rw[this];rfl)
    obtain⟨G3,R3⟩:=G2
    have hne:p.saw-1≠p.link-1:=by
     intro es
     have hx:=G.stX (p.saw-1) (by omega) (by show(mv h.c m).cell=_;omega)
     have hx:(a.sl (p.saw-1)).state=3:=hx
     rw[es,hsl]at hx
     simp at hx
    have G4:=G3.state (t:=t) (W:=fun _=>False) (s:=p.saw-1) (List.mem_cons_self ..) ⟨5,(t:Int)⟩ (by simp) (.inl rfl)
    obtain⟨f1,f2,f3⟩:=C.lget hd r1
    have hslt2:(p.saw-1).toNat<a.slots.length:=by rw[C.slots];omega
    have G5:=G4.1.list (t:=t) (W:=fun _=>False) hd r1 (by exact hh) (l:=h.lists.getD (h.held.getD t 0).toNat []) (l':=h.lists.getD (h.held.getD t 0).toNat []++[p.saw-1]) (K':=[]) f1 (fun s'=>by
     simp only[List.count_append,List.count_nil];omega) (fun s0 h0=>by
     show(updS (updS a.sl (p.link-1) ⟨3,-1⟩) (p.saw-1) ⟨5,(t:Int)⟩ s0).state=5
     rcases List.mem_append.1 h0 with h0|h0
     ·by_cases es:s0=p.saw-1
      ·rw[es,Qe]
      ·rw[updS_ne _ _ es]
       exact G3.stL _ (Yc f1) s0 h0
     ·simp at h0;rw[h0,Qe])
    have hpt:p.thread.toNat=t:=by omega
    unfold Zv
    simp only[hpt]
    have e6:=Jb (a:=a.shift (p.link-1).toNat mw.thread 3) (th:=mw.thread) (to:=4) (s:=p.saw-1) (by omega) (by simp only[Are.shift,List.length_set];exact hslt2)
    have e7:=Jb (a:=(a.shift (p.link-1).toNat mw.thread 3).shift (p.saw-1).toNat mw.thread 4) (th:=mw.thread) (to:=5) (s:=p.saw-1) (by omega) (by simp only[Are.shift,List.length_set];exact hslt2)
    rw[e6,e3]at e7
    have e8:∀f:Int→Slt,∀z w:Slt,updS (updS f (p.saw-1) z) (p.saw-1) w=updS f (p.saw-1) w:=by
     intro f z w;funext q;unfold updS;split<;>rfl
    rw[e8,hth]at e7
    have e:∀pr' x1 y1 z1 x2 y2 z2,sx stk pr' h.c { h with lists:=h.lists.set (h.held.getD t 0).toNat (h.lists.getD (h.held.getD t 0).toNat []++[p.saw-1]) } (((a.shift (p.link-1).toNat mw.thread 3).shift (p.saw-1).toNat mw.thread 4).shift (p.saw-1).toNat mw.thread 5) (((((mw.point i cl mw.now).answer t se 1 0).shift (p.link-1) (a.slots.getD (p.link-1).toNat ⟨0,0⟩).state 3).shift x1 y1 z1).shift x2 y2 z2) =
      { sx stk pr h.c h a m with pr:=pr',V:={ (mv h.c m) with cell:=p.link-1+1 },sl:=updS (updS a.sl (p.link-1) ⟨3,-1⟩) (p.saw-1) ⟨5,(t:Int)⟩,lists:=h.lists.set (h.held.getD t 0).toNat (h.lists.getD (h.held.getD t 0).toNat []++[p.saw-1]) }:=by
     intro pr' x1 y1 z1 x2 y2 z2
     unfold sx
     rw[em (((((mw.point i cl mw.now).answer t se 1 0).shift (p.link-1) (a.slots.getD (p.link-1).toNat ⟨0,0⟩).state 3).shift x1 y1 z1).shift x2 y2 z2) rfl,hth,e7];rfl
    have hthr:(((mw.point i cl mw.now).answer t se 1 0).shift (p.link-1) (a.slots.getD (p.link-1).toNat ⟨0,0⟩).state 3).thread=mw.thread:=rfl
    have hthr2:∀x y z,((((mw.point i cl mw.now).answer t se 1 0).shift (p.link-1) (a.slots.getD (p.link-1).toNat ⟨0,0⟩).state 3).shift x y z).thread=mw.thread:=fun _ _ _=>rfl
    simp only[hthr2]
    split
    ·refine⟨fun j=>pr j∨(0≤j∧j<h.c.R*h.c.Hz∧(mv h.c m).hz j=p.link-1+1),F,?_,?_,fun hf=>(by cases hf)⟩
     ·simp only[if_true];rw[e];exact G5.1.mono (by omega)
     ·simp only[];rw[e];exact((R3.trans G4.2).trans G5.2).weaken (fun _ h=>h.elim)
    ·refine⟨fun j=>pr j∨(0≤j∧j<h.c.R*h.c.Hz∧(mv h.c m).hz j=p.link-1+1),F,?_,?_,?_⟩
     ·simp only[]
      generalize hh1:({ h with lists:=h.lists.set (h.held.getD t 0).toNat (h.lists.getD (h.held.getD t 0).toNat []++[p.saw-1]) }:Haz)=h1
      obtain⟨n1,n2,n3,n4⟩:=next_sd (h:=h1) (s:={ (⟨p.thread,h.held.getD t 0,6,0,false,fun _=>0,[],none⟩:Scn) with at_ := -1 }) (t:=t) (sx stk pr h.c h a m) hh
      obtain⟨y1,y2⟩:=hS_pst4 (p:={ p with retire:=some { thread:=p.thread,slot:=p.saw-1,scan:=some (ZL h1 ⟨p.thread,h.held.getD t 0,6,0,false,fun _=>0,[],none⟩).2 },stage:=4 }) rfl rfl rfl
      have n2:scnP (ZL h1 ⟨p.thread,h.held.getD t 0,6,0,false,fun _=>0,[],none⟩).2=[]:=n2
      have n3:lkS (ZL h1 ⟨p.thread,h.held.getD t 0,6,0,false,fun _=>0,[],none⟩).2=[]:=n3
      rw[y1,y2,n2,n3,ite_self,←hh1,e]
      exact G5.1.mono (by omega)
     ·simp only[];rw[e];exact((R3.trans G4.2).trans G5.2).weaken (fun _ h=>h.elim)
     ·intro _
      refine td_pst (fun _ r s hr hs => ?_) (fun hf=>by simp at hf) (fun hf=>by simp at hf) (fun hf=>by simp at hf)
      simp only[Option.some.injEq]at hr
      subst hr
      simp only[Option.some.injEq]at hs
      subst hs
      exact(next_sd (s:={ (⟨p.thread,h.held.getD t 0,6,0,false,fun _=>0,[],none⟩:Scn) with at_ := -1 }) (t:=t) _ hh).1
  ·rename_i hw
   have e:sx stk pr h.c h a (m.swap (adr h.c 2 0) (m.word (adr h.c 2 0)) p.saw p.link)=sx stk pr h.c h a m:=ZO (by simp only[Mch.swap];rw[if_neg hw])
   obtain⟨y1,y2⟩:=hS_pst1 (p:={ p with stage:=2 }) (.inr (.inl rfl))
   refine⟨pr,F,?_,?_,fun _=>td_pst (fun hf=>by simp at hf) (fun hf=>by simp at hf) (fun _=>hsl) (fun _ => ?_)⟩
   ·simp only[Yn,if_false,y1,y2,e];exact G.mono (by omega)
   ·simp only[e];exact Rl.refl ..
   ·simp only[e];exact D.val p rfl (.inr s3)
 rw[if_neg s3]
 have s4:p.stage=4:=by rcases i2 with h|h|h|h|h<;>first|exact absurd h s0|exact absurd h s1|exact absurd h s2|exact absurd h s3|exact h
 obtain⟨r,sc,e1,e2,e3,e4⟩:=i4 s4
 obtain⟨z1,z2⟩:=hS_pst4 s4 e1 e2
 rw[z1,z2]at G
 rw[e1]
 simp only[e2]
 obtain⟨⟨F',g1⟩,g2,g3,g4⟩:=scan_gd (W:=fun _=>False) C e3 (e4.trans hu) hm ht hn G (D.scan sc (by simp only[scOf];rw[if_pos s4,e1];exact e2))
 generalize Zt h a m sc=q at g1 g2 g3 g4 ⊢
 obtain⟨y1,y2⟩:=hS_pst4 (p:={ p with take:=some k,retire:=some { r with scan:=some q.2.2.2.2 } }) s4 rfl rfl
 refine⟨pr,F',?_,g2.weaken (fun _ h=>h.elim),fun _=>td_pst (fun _ r' s' hr' hs' => ?_) (fun hf=>by simp only[s4]at hf;omega) (fun hf=>by simp only[s4]at hf;omega) (fun hf=>by simp only[s4]at hf;omega)⟩
 ·simp only[y1,y2]
  by_cases hb:q.1=true
  ·have h6:=g4 hb
   have k1:scnP q.2.2.2.2=[]:=by unfold scnP;rw[if_neg (by omega)]
   have k2:lkS q.2.2.2.2=[]:=by unfold lkS;rw[if_neg (by omega)]
   rw[if_pos hb,if_pos hb]
   rw[k1,k2]at g1;exact g1
  ·rw[if_neg hb,if_neg hb];exact g1
 ·simp only[Option.some.injEq]at hr'
  subst hr'
  simp only[Option.some.injEq]at hs'
  subst hs'
  exact g3
end
end Go.Proofs.YtjagadldibbbbaaGreat
