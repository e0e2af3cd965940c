import Derived.Test.YtefjbdajgakgpaaGreatBQueS
set_option linter.all false
namespace Go.Proofs.YtefjbdajgakgpaaGreat
open Go.RowKit Hp
set_option maxRecDepth 100000
set_option maxHeartbeats 1000000
attribute [local irreducible] Go.Calls
section
def K0:Zz→Prop
 | .hz k=>hS k=[]∧hL k=[]
 | .put p=>p.stage=0
 | .get p=>p.stage=0∧p.got=false
theorem K0.nil {k:Zz}(h:K0 k):kS k=[]∧kL k=[]:=by
 cases k with
 | hz k=>exact h
 | put p=>have h:p.stage=0:=h;exact⟨kS_put0 (by unfold pS;omega),rfl⟩
 | get p=>have h:p.stage=0∧p.got=false:=h;exact⟨(Ja (p:=p) (Jp (by omega)) (by omega)).1,(Ja (p:=p) (Jp (by omega)) (by omega)).2.1⟩
structure DK (c:Cfg)(stk:List Int)(pr:Int→Prop)(F:List Int)(n:Int)(y:GW Zz):Prop where
 gd:Gd c n (cnt2 (y.tasks.map kSo)) (cnt2 (y.tasks.map kLo)) F (sx stk pr c y.s.1 y.s.2 y.m) [] []
 td:∀(j:Nat) (k:Zz),y.tasks[j]? = some (some k)→KD c j (sx stk pr c y.s.1 y.s.2 y.m) (tlw c y.m) k
 fresh:∀(j:Nat) (k:Zz) (se:Sea),y.tasks[j]? = some (some k)→y.m.seats[j]? = some se→se.ready=false→K0 k
 tli:TlI stk (tlw c y.m)
section
variable {c:Cfg}{Lg S N:Nat}{h:Haz}{a:Are}{m:Mch}
variable {n:Int}{Z Y:Int→Nat}{F stk:List Int}{pr:Int→Prop}{K L:List Int}{t:Nat}{W:Int→Prop}
theorem kcount {tasks:List (Option Zz)}(f:Option Zz→List Int)(f0:f none=[]){t:Nat}{o:Option Zz}(h:tasks[t]? = some o)(s:Int) :
  cnt2 (tasks.map f) s=cnt2 ((tasks.set t none).map f) s+(f o).count s:=by
 have h1:(tasks.map f)[t]? = some (f o):=by rw[Ym,h];rfl
 have:=cnt2_set [] s h1
 rw[Yk,f0]
 simp only[List.count_nil]at this
 omega
theorem Gd.kfocus {x:Sx}{tasks:List (Option Zz)}{t:Nat}{o:Option Zz}(G:Gd c n (cnt2 (tasks.map kSo)) (cnt2 (tasks.map kLo)) F x [] [])(h:tasks[t]? = some o) :
  Gd c n (cnt2 ((tasks.set t none).map kSo)) (cnt2 ((tasks.set t none).map kLo)) F x (kSo o) (kLo o):=by
 refine⟨fun s => ?_,G.stF,G.stC,G.stX,G.stL,fun s hs=>G.stZ s ?_,G.chain,G.hd0,G.tag,fun r r0 r1 => ?_,G.act1,G.pr1,G.pr2,G.stK,G.lk⟩
 ·have:=G.tot s
  rw[kcount kSo rfl h s]at this
  simp only[List.count_nil]at this
  omega
 ·rw[kcount kSo rfl h s];omega
 ·have:=G.rcd r r0 r1
  rw[kcount kLo rfl h r]at this
  simp only[List.count_nil]at this
  omega
theorem Gd.kunfocus {x:Sx}{tasks:List (Option Zz)}{t:Nat}{o:Option Zz}(h:t<tasks.length)(G:Gd c n (cnt2 ((tasks.set t none).map kSo)) (cnt2 ((tasks.set t none).map kLo)) F x (kSo o) (kLo o))
  (hst:∀s∈kSo o,(x.sl s).state=2∨(x.sl s).state=4∨(x.sl s).state=5):Gd c n (cnt2 ((tasks.set t o).map kSo)) (cnt2 ((tasks.set t o).map kLo)) F x [] []:=by
 have ht:(tasks.set t o)[t]? = some o:=Ye h
 have e1:=kcount kSo rfl ht
 have e2:=kcount kLo rfl ht
 rw[Yl]at e1 e2
 refine⟨fun s => ?_,G.stF,G.stC,G.stX,G.stL,fun s hs => ?_,G.chain,G.hd0,G.tag,fun r r0 r1 => ?_,G.act1,G.pr1,G.pr2,G.stK,G.lk⟩
 ·have:=G.tot s
  rw[e1 s]
  simp only[List.count_nil]
  omega
 ·rw[e1 s]at hs
  by_cases h0:0<cnt2 ((tasks.set t none).map kSo) s
  ·exact G.stZ s h0
  ·exact hst s (List.count_pos_iff.1 (by omega))
 ·have:=G.rcd r r0 r1
  rw[e2 r]
  simp only[List.count_nil]
  omega
theorem kd_made {mv:Mv}{k:Zz}{tl:Int}(C:Core c Lg S N h a m)(ht:(t:Int)<c.T)(hk:qTask (h,a) t mv=some k):K0 k∧KD c t (sx stk pr c h a m) tl k:=by
 rcases qTask_made hk with⟨_,e⟩|⟨_,e⟩|⟨_,_,q,e,hq⟩
 ·subst e;exact⟨rfl,ptd_vac (.inl rfl)⟩
 ·subst e;exact⟨⟨rfl,rfl⟩,gtd_vac (.inl rfl) rfl⟩
 ·subst e
  obtain⟨m1,m2,m3⟩:=made_td (stk:=stk) (pr:=pr) C ht hq
  exact⟨⟨m1,m2⟩,m3⟩
theorem kds_of {k:Zz}{rdy:Bool}(C:Core c Lg S N h a m)(ht:(t:Int)<c.T)(I:QI c t rdy (h.held.getD t 0) (a.caches.getD t []) k)(hf:rdy=false→K0 k):KDs c t (sx stk pr c h a m) k:=by
 obtain⟨r1,_⟩:=C.hget ht
 have hlt:t<h.held.length:=by rw[C.held];omega
 have hh:h.held[t]? = some (h.held.getD t 0):=by rw[Yb,Yd hlt];rfl
 cases k with
 | hz k=>exact(TkS.of I hf).2
 | put p=>
  obtain⟨_,i2,i3,i4⟩:=I
  refine⟨fun h1 h3 => ?_,⟨h.held.getD t 0,hh,i2,r1⟩,fun h1 => ?_,fun h1 => ?_⟩
  ·cases rdy with
   | false=>rw[(i3 rfl).1]at h3;simp at h3
   | true=>exact(((i4 rfl).1.tk h1).head (by omega)).2.1
  ·cases rdy with
   | false=>have:=(i3 rfl).2;omega
   | true=>exact((i4 rfl).1.n h1).1
  ·cases rdy with
   | false=>have:=(i3 rfl).2;omega
   | true=>exact((i4 rfl).1.slot (by omega)).1
 | get p=>
  obtain⟨i1,i2,i3,i4⟩:=I
  refine⟨⟨h.held.getD t 0,hh,i2,r1⟩,fun s hs => ?_,fun h1 h2 => ?_⟩
  ·have h9:p.stage=12:=by
    unfold gtSc at hs
    split at hs
    ·assumption
    ·cases hs
   cases rdy with
   | false=>have:=(i3 rfl).2;omega
   | true=>
    obtain⟨r,sc,e1,e2,e3,e4⟩:=(i4 rfl).1.ret h9
    rw[(kS_get12 h9 e1 e2).2.2]at hs
    cases hs
    exact e3.rec0
  ·cases rdy with
   | false=>have:=(i3 rfl).2;omega
   | true=>exact((i4 rfl).1.n h1 h2).1
theorem qk_rdy_kd {i:Nat}{cl:Cll}{se:Sea}{k:Zz}(C:Core c Lg S N h a m)(ht:(t:Int)<c.T)(hm:m.thread=(t:Int))(I:QI c t false (h.held.getD t 0) (a.caches.getD t []) k)(h0:K0 k)(hci:Z5 m i t cl se)(hb:cl.begin_<m.now)(T:TlI stk (tlw c m))
  (G:Gd c n Z Y F (sx stk pr c h a m) (kS k) (kL k)) (D:KD c t (sx stk pr c h a m) (tlw c m) k):KP stk stk c n Z Y pr h a m t (Q9 (h,a) m i t cl se k):=by
 cases k with
 | hz k=>
  haveI:=q_qok C.ok
  obtain⟨pr',F',q1,q2,q3⟩:=ready_gd (i:=i) (cl:=cl) (se:=se) C ht hm I h0 G D
  have htl:=tl_nt (evq_nt (evq_rdy (Q:=qQ c) (i:=i) C ht I hci.call hci.seat hb))
  have htl:tlw c (Q9 (h,a) m i t cl se (.hz k)).2.2.1=tlw c m:=htl
  exact⟨pr',F',q1.mono (by omega),q2.weaken (fun _ h=>h.1),q3,.same rfl htl,by rw[htl];exact T⟩
 | put p=>
  obtain⟨i1,i2,i3,i4⟩:=I
  exact put_rdy C ht hm (i3 rfl).1 T (K0.nil (k:=.put p) h0).1 G
 | get p=>
  obtain⟨h0,hg⟩:=h0
  obtain⟨y1,y2,_⟩:=Ja (p:=p) (Jp (by omega)) (by omega)
  rw[y1,y2]at G
  obtain⟨z1,z2,_⟩:=Ja (p:={ p with stage:=1,hz0:=(qHz h p.thread 0:Int),hz1:=(qHz h p.thread 1:Int) }) (Jp (by simp)) (by simp)
  refine⟨pr,F,?_,Rl.refl ..,fun _=>gtd_vac (.inr (.inl rfl)) hg,.same rfl rfl,T⟩
  simp only[Q9,Yn,if_false]
  rw[z1,z2]
  exact G
theorem qk_stp_kd {i:Nat}{cl:Cll}{se:Sea}{k:Zz}(C:Core c Lg S N h a m)(hN:N<1000000)(ht:(t:Int)<c.T)(hm:m.thread=(t:Int))(hus:m.used=false)(I:QI c t true (h.held.getD t 0) (a.caches.getD t []) k)(hn:n<4294967295)(hci:Z5 m i t cl se)(hb:cl.begin_<m.now)(hp:hzQ cl.begin_ m.now k)(T:TlI stk (tlw c m))
  (G:Gd c n Z Y F (sx stk pr c h a m) (kS k) (kL k)) (D:KD c t (sx stk pr c h a m) (tlw c m) k):KP stk (quStk c m stk k) c (n+1) Z Y pr h a m t (Ji (h,a) m i t cl se k):=by
 have hok:=C.ok
 haveI:=q_qok hok
 cases k with
 | hz k=>
  obtain⟨pr',F',q1,q2,q3⟩:=step_gd (i:=i) (cl:=cl) (se:=se) C hN ht hm I hn G D
  have htl:=tl_nt (evq_nt (evq_stp (Q:=qQ c) (i:=i) C ht I hci.call hci.seat hb hp hus (fun r hr h3=>by
   subst hr
   have I:RdI c r:=I
   have:=I.w (by omega)
   exact val_q hok (.inl rfl) (by omega)) (fun p hp' h1=>by
   subst hp'
   have I:=I.2.2.1 rfl
   obtain⟨kk,hkk,_,k1⟩:=I.take
   obtain⟨g1,g2,g3⟩:=k1 (.inl h1)
   exact val_q hok (.inl rfl) (by omega))))
  have htl:tlw c (Ji (h,a) m i t cl se (.hz k)).2.2.1=tlw c m:=htl
  exact⟨pr',F',q1,q2.weaken (fun _ h=>h.1),q3,.same rfl htl,by rw[htl];exact T⟩
 | put p=>
  obtain⟨i1,i2,i3,i4⟩:=I
  exact put_kd C ht hm i1 hus i2 (i4 rfl).1 hn T G D
 | get p=>
  obtain⟨i1,i2,i3,i4⟩:=I
  exact get_kd C ht hm i1 hus i2 (i4 rfl).1 hn T G D
end
section
variable {c:Cfg}{n:Nat}{y:GW Zz}{F stk:List Int}{pr:Int→Prop}{bh ba:Nat}{CX:Zb}{t i:Nat}{cl:Cll}{se:Sea}{k:Zz}{r1 r2:GR Zz}
def stkOf (c:Cfg)(stk:List Int)(r1:GR Zz):List Int:=if r1.1=true then stk else quStk c r1.2.2.1 stk r1.2.2.2
theorem DK.tick (D:DK c stk pr F n y):DK c stk pr F ((n+1:Nat):Int) y.tick:=⟨D.gd.mono (by omega),D.td,D.fresh,D.tli⟩
theorem DK.begin {mv:Mv}{v vc:Value}(D:DK c stk pr F n y)(P:PM (QM c) (QI c) c n y)(htT:(t:Int)<c.T)(hk:y.tasks[t]? = some none)(hm:qTask y.s t mv=some k) :
  DK c stk pr F ((n+1:Nat):Int) ⟨y.s,ZG y.m t mv v vc,y.tasks.set t (some k)⟩:=by
 have hlt:=(List.getElem?_eq_some_iff.1 hk).1
 have hx:sx stk pr c y.s.1 y.s.2 (ZG y.m t mv v vc)=sx stk pr c y.s.1 y.s.2 y.m:=ZS rfl
 obtain⟨m0,m3⟩:=kd_made (stk:=stk) (pr:=pr) (tl:=tlw c y.m) P.core.toCore htT hm
 have hxt:tlw c (ZG y.m t mv v vc)=tlw c y.m:=QP rfl
 obtain⟨m1,m2⟩:=m0.nil
 refine⟨?_,?_,?_,by show TlI stk (tlw c (ZG y.m t mv v vc));rw[hxt];exact D.tli⟩
 ·refine Gd.mono (n:=n) ?_ (by omega)
  refine Gd.kunfocus (o:=some k) hlt ?_ (fun s hs=>by rw[show kSo (some k)=kS k from rfl,m1]at hs;simp at hs)
  have:=D.gd.kfocus hk
  rw[show kSo (some k)=kS k from rfl,show kLo (some k)=kL k from rfl,m1,m2,hx]
  exact this
 ·intro j kj hkj
  simp only[]at hkj
  rw[show(⟨y.s,ZG y.m t mv v vc,y.tasks.set t (some k)⟩:GW Zz).m=ZG y.m t mv v vc from rfl,hx,hxt]
  by_cases hj:j=t
  ·subst hj
   rw[Ye hlt]at hkj
   cases hkj;exact m3
  ·rw[ZZ hj]at hkj
   exact D.td j kj hkj
 ·intro j kj se hkj hse hf
  simp only[ZG]at hkj hse
  by_cases hj:j=t
  ·subst hj
   rw[Ye hlt]at hkj
   cases hkj;exact m0
  ·rw[ZZ hj]at hkj hse
   exact D.fresh j kj se hkj hse hf
structure DStep (c:Cfg)(n:Nat)(stk:List Int)(pr:Int→Prop)(y:GW Zz)(t i:Nat)(k:Zz)(r1 r2:GR Zz):Prop where
 ex:∃(Z Y:Int→Nat) (F0:List Int) (pr1:Int→Prop) (F1:List Int) (pr2:Int→Prop) (F2:List Int),
  Z=cnt2 ((y.tasks.set t none).map kSo) ∧
  Gd c n Z Y F0 (sx stk pr c y.s.1 y.s.2 y.m) (kS k) (kL k)∧KD c t (sx stk pr c y.s.1 y.s.2 y.m) (tlw c y.m) k ∧
  Gd c n Z Y F1 (sx stk pr1 c r1.2.1.1 r1.2.1.2 r1.2.2.1) (if r1.1=true then [] else kS r1.2.2.2) (if r1.1=true then [] else kL r1.2.2.2)∧(r1.1=false→KD c t (sx stk pr1 c r1.2.1.1 r1.2.1.2 r1.2.2.1) (tlw c r1.2.2.1) r1.2.2.2) ∧
  Rl Z t (Own c t (sx stk pr c y.s.1 y.s.2 y.m)) (sx stk pr c y.s.1 y.s.2 y.m) (sx stk pr1 c r1.2.1.1 r1.2.1.2 r1.2.2.1) ∧
  Rl Z t (Own c t (sx stk pr c y.s.1 y.s.2 y.m)) (sx stk pr1 c r1.2.1.1 r1.2.1.2 r1.2.2.1) (sx (stkOf c stk r1) pr2 c r2.2.1.1 r2.2.1.2 r2.2.2.1) ∧
  TlI stk (tlw c r1.2.2.1) ∧
  QRl (sx stk pr c y.s.1 y.s.2 y.m) (tlw c y.m) (sx stk pr1 c r1.2.1.1 r1.2.1.2 r1.2.2.1) (tlw c r1.2.2.1) ∧
  QRl (sx stk pr1 c r1.2.1.1 r1.2.1.2 r1.2.2.1) (tlw c r1.2.2.1) (sx (stkOf c stk r1) pr2 c r2.2.1.1 r2.2.1.2 r2.2.2.1) (tlw c r2.2.2.1) ∧
  DK c (stkOf c stk r1) pr2 F2 ((n+1:Nat):Int) (Z6 y t i r2)
theorem KDs.he {c:Cfg}{t:Nat}{x x':Sx}{k:Zz}(hT:KDs c t x k)(e:x'.held[t]? = x.held[t]?):KDs c t x' k:=by
 cases k with
 | hz k=>exact hT
 | put p=>exact⟨hT.1,by rw[e];exact hT.2.1,hT.2.2⟩
 | get p=>exact⟨by rw[e];exact hT.1,hT.2⟩
theorem DK.step (D:DK c stk pr F n y)(hn:n<65536)(B:QB n y)(P:PM (QM c) (QI c) c n y)(G:GStepM (QM c) (qkT bh ba c CX) (QI c) c n y t i cl se k r1 r2):DStep c n stk pr y t i k r1 r2:=by
 have hlt:=(List.getElem?_eq_some_iff.1 G.hse).1
 have hltk:=(List.getElem?_eq_some_iff.1 G.hk).1
 have hok:=P.core.ok
 have S:=B.stp P G
 have hx0:sx stk pr c y.s.1 y.s.2 (Qe y t i se)=sx stk pr c y.s.1 y.s.2 y.m:=ZS rfl
 have ht0:tlw c (Qe y t i se)=tlw c y.m:=QP rfl
 have T0:=D.tli
 rw[←ht0]at T0
 have G0:=D.gd.kfocus G.hk
 have D0:=D.td t k G.hk
 have G0':=G0
 have D0':=D0
 rw[←hx0]at G0 D0
 rw[←ht0]at D0
 generalize hZ:cnt2 ((y.tasks.set t none).map kSo)=Z at G0 G0'
 generalize hY:cnt2 ((y.tasks.set t none).map kLo)=Y at G0 G0'
 have E1:KP stk stk c n Z Y pr y.s.1 y.s.2 (Qe y t i se) t r1:=by
  rcases G.rdy with⟨hf,e⟩|⟨_,e⟩
  ·have hI:=G.i0
   rw[hf]at hI
   rw[e]
   exact qk_rdy_kd G.c0.toCore G.htT rfl hI (D.fresh t k se G.hk G.hse hf) S.ci (by rw[S.now0];exact S.beg) T0 G0 D0
  ·rw[e]
   exact⟨pr,F,by simp only[Yn,if_false];exact G0,Rl.refl ..,fun _=>D0,.same rfl rfl,T0⟩
 obtain⟨pr1,F1,q1,q2,q3,Q1,T1⟩:=E1
 have hth1:r1.2.2.1.thread=(t:Int):=G.h1.frame.thread
 have hhe:r1.2.1.1.held=y.s.1.held:=by
  rcases G.rdy with⟨hf,e⟩|⟨_,e⟩
  ·rw[e]
   cases k with
   | hz k=>cases k<;>rfl
   | put p=>rfl
   | get p=>rfl
  ·rw[e]
 have hOw:∀j,Own c t (sx stk pr1 c r1.2.1.1 r1.2.1.2 r1.2.2.1) j→Own c t (sx stk pr c y.s.1 y.s.2 y.m) j:=fun j hj=>hj.he (by show y.s.1.held[t]? = r1.2.1.1.held[t]?;rw[hhe])
 have E2:∃(pr2:Int→Prop) (F2:List Int),Gd c (n+1) Z Y F2 (sx (stkOf c stk r1) pr2 c r2.2.1.1 r2.2.1.2 r2.2.2.1) (if r2.1=true then [] else kS r2.2.2.2) (if r2.1=true then [] else kL r2.2.2.2) ∧
   Rl Z t (Own c t (sx stk pr c y.s.1 y.s.2 y.m)) (sx stk pr1 c r1.2.1.1 r1.2.1.2 r1.2.2.1) (sx (stkOf c stk r1) pr2 c r2.2.1.1 r2.2.1.2 r2.2.2.1)∧(r2.1=false→KD c t (sx (stkOf c stk r1) pr2 c r2.2.1.1 r2.2.1.2 r2.2.2.1) (tlw c r2.2.2.1) r2.2.2.2)∧QRl (sx stk pr1 c r1.2.1.1 r1.2.1.2 r1.2.2.1) (tlw c r1.2.2.1) (sx (stkOf c stk r1) pr2 c r2.2.1.1 r2.2.1.2 r2.2.2.1) (tlw c r2.2.2.1)∧TlI (stkOf c stk r1) (tlw c r2.2.2.1):=by
  rcases G.stp with⟨hb,e⟩|⟨hb,z1,q1',v1,hcu,e⟩
  ·have hs:stkOf c stk r1=stk:=by unfold stkOf;rw[if_pos hb]
   rw[hs,e]
   exact⟨pr1,F1,q1.mono (by omega),Rl.refl ..,q3,.same rfl rfl,T1⟩
  ·have hs:stkOf c stk r1=quStk c r1.2.2.1 stk r1.2.2.2:=by unfold stkOf;rw[if_neg (by simp[hb])]
   rw[hs]
   rw[if_neg (by simp[hb]),if_neg (by simp[hb])]at q1
   have X:=qk_stp_kd (i:=i) (cl:={ cl with point:=z1 }) (se:={ se with ready:=true,kind:=q1',value:=v1 }) G.h1.core.toCore (by omega) G.htT hth1 G.used1 (G.h1.fin hb) (by omega) hcu (by rw[S.now1];exact S.beg) (by rw[S.now1];exact S.hp1) T1 q1 (q3 hb)
   have e':r2=Ji (r1.2.1.1,r1.2.1.2) r1.2.2.1 i t { cl with point:=z1 } { se with ready:=true,kind:=q1',value:=v1 } r1.2.2.2:=e
   rw[←e']at X
   obtain⟨pr2,F2,x1,x2,x3,x4,x5⟩:=X
   exact⟨pr2,F2,x1,x2.weaken hOw,x3,x4,x5⟩
 obtain⟨pr2,F2,x1,x2,x3,x4,x5⟩:=E2
 rw[hx0]at q2 Q1
 rw[ht0]at Q1
 refine⟨Z,Y,F,pr1,F1,pr2,F2,hZ.symm,G0',D0',q1,q3,q2,x2,T1,Q1,x4,?_⟩
 obtain⟨z,q,v,O⟩:=G.out P
 have hx1:sx (stkOf c stk r1) pr2 c r2.2.1.1 r2.2.1.2 (Z6 y t i r2).m=sx (stkOf c stk r1) pr2 c r2.2.1.1 r2.2.1.2 r2.2.2.1:=ZS (by rw[O.mem])
 have ht1:tlw c (Z6 y t i r2).m=tlw c r2.2.2.1:=QP (by rw[O.mem])
 refine⟨?_,?_,?_,by rw[ht1];exact x5⟩
 ·rw[show(Z6 y t i r2).s=r2.2.1 from rfl,hx1,show(Z6 y t i r2).tasks=y.tasks.set t (if r2.1=true then none else some r2.2.2.2) from rfl]
  refine Gd.kunfocus hltk ?_ ?_
  ·rw[hZ,hY]
   by_cases hb:r2.1=true
   ·rw[if_pos hb,if_pos hb]at x1
    rw[if_pos hb];exact x1.mono (by omega)
   ·rw[if_neg hb,if_neg hb]at x1
    rw[if_neg hb];exact x1.mono (by omega)
  ·intro s hs
   by_cases hb:r2.1=true
   ·rw[if_pos hb]at hs;simp[kSo]at hs
   ·rw[if_neg hb]at hs
    exact(x3 (by simpa using hb)).st s hs
 ·intro j kj hkj
  rw[show(Z6 y t i r2).s=r2.2.1 from rfl,hx1,ht1]
  have hkj:(y.tasks.set t (if r2.1=true then none else some r2.2.2.2))[j]? = some (some kj):=hkj
  by_cases hj:j=t
  ·subst hj
   rw[Ye hltk]at hkj
   by_cases hb:r2.1=true
   ·rw[if_pos hb]at hkj;cases hkj
   ·rw[if_neg hb]at hkj
    cases hkj
    exact x3 (by simpa using hb)
  ·rw[ZZ hj]at hkj
   have hp5:=P.seats
   have hp4:=P.tasks
   have hjl:=(List.getElem?_eq_some_iff.1 hkj).1
   have hjT:j<y.m.seats.length:=by omega
   have hjT2:(j:Int)<c.T:=by have:=hok.T1;omega
   obtain⟨_,I2⟩:=P.task j kj _ hkj (Yd hjT)
   have T2:=kds_of (stk:=stk) (pr:=pr) P.core.toCore hjT2 I2 (fun hf=>D.fresh j kj _ hkj (Yd hjT) hf)
   have hZs:∀s∈kS kj,0<Z s:=fun s hs=>by
    rw[←hZ]
    refine cnt2_at (i:=j) (l:=kS kj) ?_ hs
    rw[Ym,ZZ hj,hkj];rfl
   have A1:=(D.td j kj hkj).rely hok G0' q2 Q1 hj T2 hZs (fun w h1 h2=>hj (own_two G0' hok h1 h2))
   exact A1.rely hok q1 x2 x4 hj (T2.he (q2.he j hj)) hZs (fun w h1 h2=>hj (own_two G0' hok h1 (h2.he (q2.he j hj).symm)))
 ·intro j kj sj hkj hsj hf
  have hkj:(y.tasks.set t (if r2.1=true then none else some r2.2.2.2))[j]? = some (some kj):=hkj
  rw[O.seats]at hsj
  by_cases hj:j=t
  ·subst hj
   rw[Ye hltk]at hkj
   rw[Ye hlt]at hsj
   by_cases hb:r2.1=true
   ·rw[if_pos hb]at hkj;cases hkj
   ·rw[if_neg hb]at hsj
    cases hsj
    cases hf
  ·rw[ZZ hj]at hkj hsj
   exact D.fresh j kj sj hkj hsj hf
end
end
section
theorem fillu_ge {ws:List Int}{b:Int}{u0:Nat}(hb:0≤b):∀(n:Nat) (i:Nat),(∀k:Nat,k<n→(i:Int)≠b+u0+k)→(Z3 ws b u0 n).getD i 0=ws.getD i 0
 | 0,i,_=>rfl
 | n+1,i,h=>by
  simp only[Z3,Yb]
  have h1:=h n (by omega)
  rw[ZZ (by omega),←Yb,←Yb]
  exact fillu_ge hb n i fun k hk=>h k (by omega)
theorem fillu_lt {ws:List Int}{b:Int}{u0:Nat}(hb:0≤b):∀(n:Nat) (k:Nat),k<n→(b+u0+k).toNat<ws.length→(Z3 ws b u0 n).getD (b+u0+k).toNat 0=(u0:Int)+k+2
 | 0,k,h,_=>by omega
 | n+1,k,h,hl=>by
  simp only[Z3,Yb]
  by_cases e:k=n
  ·subst e
   have e1:(b+((u0+k:Nat):Int)).toNat=(b+u0+k).toNat:=by omega
   rw[e1,Ye (by rw[fillW_len];exact hl)]
   simp
  ·rw[ZZ (by omega),←Yb]
   exact fillu_lt hb n k (by omega) hl
def seqF (k:Int):Nat→List Int
 | 0=>[]
 | n+1=>k::seqF (k+1) n
theorem seqF_count (s:Int):∀(n:Nat) (k:Int),(seqF k n).count s=ind (k≤s∧s<k+n)
 | 0,k=>by rw[ind_neg (by omega)];rfl
 | n+1,k=>by
  simp only[seqF,List.count_cons,seqF_count s n (k+1)]
  by_cases e:k=s
  ·subst e
   rw[ind_neg (by omega),ind_pos (by omega)];simp
  ·have:(k==s)=false:=by simpa using e
   rw[this]
   by_cases h:k+1≤s∧s<k+1+n
   ·rw[ind_pos h,ind_pos (by omega)];rfl
   ·rw[ind_neg h,ind_neg (by omega)];rfl
theorem seqF_mem {s:Int}:∀ {n:Nat} {k:Int},s∈seqF k n→k≤s∧s<k+n
 | 0,k,h=>by simp[seqF]at h
 | n+1,k,h=>by
  rcases List.mem_cons.1 h with rfl|h
  ·omega
  ·have:=seqF_mem h;omega
theorem seqF_chain {nx:Int→Int}{E:Int}(h1:∀s,1≤s→s+1<E→nx s=s+2)(h2:nx (E-1)=0):∀(n:Nat) (k:Int),1≤k→k+n=E→0<n→JB nx (k+1) (seqF k n)
 | 0,k,_,_,h=>by omega
 | n+1,k,k0,he,_=>by
  refine⟨rfl,by omega,?_⟩
  cases n with
  | zero=>
   have:k=E-1:=by omega
   show JB nx (nx k) []
   rw[this,h2];rfl
  | succ n=>
   rw[h1 k k0 (by omega),show k+2=(k+1)+1 by omega]
   exact seqF_chain h1 h2 (n+1) (k+1) (by omega) (by omega) (by omega)
theorem mv0 {c:Cfg}(hok:c.Ok){m:Mch}(hw:m.mem.words=Z7 c 1) :
  (mv c m).hd=(if 1<c.Sl then 2 else 0)∧(mv c m).cell=0∧(mv c m).top=1∧(∀s,1≤s→s+1<c.Sl→(mv c m).nx s=s+2)∧(mv c m).nx (c.Sl-1)=0∧(∀r,(mv c m).act r=0)∧(∀j,(mv c m).hz j=0)∧(mv c m).ln 0=0∧m.word (adr c 5 0)=1:=by
 have hS:=hok.S1
 have hR:=hok.R1
 have e4:=Qm hok 4 (Int.le_refl 0)
 have e5:=Qm hok 5 (Int.le_refl 0)
 obtain⟨q4,q5⟩:=base45 c
 obtain⟨b1,b2,b8,b9,b10,b11,b12,b13,b14,rh,rh2,b3⟩:=QN hok
 obtain⟨a1,a2,a3,a8,a9,a10,a11,a13⟩:=adrs hok
 have hl:20<(base c 14).toNat∨10<(base c 14).toNat:=by omega
 have hl:10<(base c 14).toNat:=by omega
 generalize hW0:(if ((1:Nat):Int)<c.Sl then (List.replicate (base c 14).toNat (0:Int)).set 0 ((1+1:Nat):Int) else List.replicate (base c 14).toNat (0:Int))=W0
 have hW0l:W0.length=(base c 14).toNat:=by rw[←hW0];split<;>simp
 have hwd:∀i:Nat,m.word i=(((Z3 W0 (base c 10) 1 (c.Sl.toNat-1-1)).set 3 1).set 4 1).getD i 0:=by
  intro i
  unfold Mch.word
  rw[hw]
  simp only[Z7]
  rw[if_pos (by omega),hW0]
 have hz0:W0.getD 0 0=if 1<c.Sl then 2 else 0:=by
  rw[←hW0]
  by_cases h1:1<c.Sl
  ·rw[if_pos (by omega),if_pos h1,Yb,Ye (by simp;omega)];rfl
  ·rw[if_neg (by omega),if_neg h1,Yb,List.getElem?_replicate]
   split<;>rfl
 have hz:∀i:Nat,i≠0→W0.getD i 0=0:=by
  intro i hi
  rw[←hW0]
  split
  ·rw[Yb,ZZ hi,List.getElem?_replicate]
   split<;>rfl
  ·rw[Yb,List.getElem?_replicate]
   split<;>rfl
 have hfl:(Z3 W0 (base c 10) 1 (c.Sl.toNat-1-1)).length=(base c 14).toNat:=by rw[fillW_len,hW0l]
 have hn34:∀i:Nat,i≠3→i≠4→m.word i=(Z3 W0 (base c 10) 1 (c.Sl.toNat-1-1)).getD i 0:=by
  intro i h3 h4
  rw[hwd i,Yb,ZZ h4,ZZ h3,←Yb]
 have h0:∀i:Nat,i≠0→i≠3→i≠4→((i:Int)<base c 10+1∨base c 10+c.Sl≤i+1)→m.word i=0:=by
  intro i hi h3 h4 hi2
  rw[hn34 i h3 h4,fillu_ge (by omega) _ _ (fun k hk=>by omega)]
  exact hz i hi
 refine⟨?_,?_,?_,?_,?_,?_,?_,?_,?_⟩
 ·show m.word (adr c 1 0)=_
  have:adr c 1 0=0:=by omega
  rw[this,hn34 0 (by omega) (by omega),fillu_ge (by omega) _ _ (fun k hk=>by omega)]
  exact hz0
 ·show m.word (adr c 2 0)=0
  exact h0 _ (by omega) (by omega) (by omega) (.inl (by omega))
 ·show m.word (adr c 4 0)=1
  have:adr c 4 0=3:=by omega
  rw[this,hwd 3,Yb,ZZ (by omega),Ye (by omega)];rfl
 ·intro s s0 s1
  rw[nx_at (by omega) (by omega)]
  have e:adr c 10 s=(base c 10+((1:Nat):Int)+((s-1).toNat:Int)).toNat:=by unfold adr;congr 1;omega
  have hb10:7≤base c 10:=by omega
  rw[hn34 _ (by omega) (by omega),e,fillu_lt (by omega) _ _ (by omega) (by omega)]
  omega
 ·rw[nx_at (by omega) (by omega)]
  have:=a10 (c.Sl-1) (by omega)
  exact h0 _ (by omega) (by omega) (by omega) (.inr (by omega))
 ·intro r
  show(if 0≤r∧r<c.R then m.word (adr c 8 r) else 0)=0
  split
  ·rename_i h
   have:=a8 r h.1
   exact h0 _ (by omega) (by omega) (by omega) (.inl (by omega))
  ·rfl
 ·intro r
  show(if 0≤r∧r<c.R*c.Hz then m.word (adr c 9 r) else 0)=0
  split
  ·rename_i h
   have:=a9 r h.1
   exact h0 _ (by omega) (by omega) (by omega) (.inl (by omega))
  ·rfl
 ·show(if 0≤(0:Int)∧0<c.Sl then m.word (adr c 13 0) else 0)=0
  split
  ·have:=a13 0 (by omega)
   exact h0 _ (by omega) (by omega) (by omega) (.inr (by omega))
  ·rfl
 ·have:adr c 5 0=4:=by omega
  rw[this,hwd 4,Yb,Ye (by simp;omega)];rfl
theorem kcnt2_none (f:Option Zz→List Int)(f0:f none=[])(n:Nat)(s:Int):cnt2 ((List.replicate n (none:Option Zz)).map f) s=0:=by
 rw[List.map_replicate,f0];exact cnt2_nils s n
theorem DK.start {c:Cfg}(hok:c.Ok)(km:Nat)(vs:Value):DK c [0] (fun _=>False) (seqF 1 (c.Sl.toNat-1)) (0:Nat) (gsq0 c km vs):=by
 have hS:=hok.S1
 obtain⟨w1,w2,w2',w3,w4,w5,w6,w7,w8⟩:=mv0 hok (m:=(gsq0 c km vs).m) rfl
 have hsl:∀s,1≤s→s<c.Sl→(are1 c).sl s=⟨0,-1⟩:=by
  intro s s0 s1
  unfold Are.sl are1
  rw[if_pos (by omega)]
  simp only[Yb]
  rw[ZZ (by omega),List.getElem?_replicate,if_pos (by omega)];rfl
 have hsl0:(are1 c).sl 0=⟨3,-1⟩:=by
  unfold Are.sl are1
  rw[if_pos (by omega)]
  simp only[Yb,Int.toNat_zero]
  rw[Ye (by simp;omega)];rfl
 have hTS:∀s,cnt2 ((gsq0 c km vs).tasks.map kSo) s=0:=fun s=>kcnt2_none kSo rfl _ s
 have hTL:∀s,cnt2 ((gsq0 c km vs).tasks.map kLo) s=0:=fun s=>kcnt2_none kLo rfl _ s
 have hno:∀(t:Nat) (k:Zz),(gsq0 c km vs).tasks[t]? = some (some k)→False:=by
  intro t k hk
  simp only[gsq0,List.getElem?_replicate]at hk
  split at hk<;>simp at hk
 refine⟨⟨?_,?_,?_,?_,?_,?_,?_,?_,?_,?_,?_,fun j hf=>hf.elim,?_,?_,?_⟩,fun t k hk=>(hno t k hk).elim,fun t k se hk=>(hno t k hk).elim,⟨[],0,[],rfl,by simp,w8⟩⟩
 ·intro s
  rw[hTS,seqF_count]
  show _+cnt2 (List.replicate c.T.toNat []) s+0+0+ind (0≤s∧(mv c (gsq0 c km vs).m).cell=s+1)+cnt2 (List.replicate c.R.toNat []) s+([0]:List Int).count s=_
  rw[cnt2_nils,cnt2_nils,w2,ind_neg (p:=0≤s∧(0:Int)=s+1) (by omega)]
  by_cases h0:s=0
  ·subst h0
   rw[ind_neg (p:=1≤(0:Int)∧(0:Int)<1+((c.Sl.toNat-1:Nat):Int)) (by omega),ind_pos (by omega)];rfl
  ·have hc:([0]:List Int).count s=0:=List.count_eq_zero.2 (by simp;omega)
   rw[hc]
   by_cases h:0≤s∧s<c.Sl
   ·rw[ind_pos h,ind_pos (p:=1≤s∧s<1+((c.Sl.toNat-1:Nat):Int)) (by omega)]
   ·rw[ind_neg h,ind_neg (p:=1≤s∧s<1+((c.Sl.toNat-1:Nat):Int)) (by omega)]
 ·intro s hs
  have:=seqF_mem hs
  show((are1 c).sl s).state=0
  rw[hsl s (by omega) (by omega)]
 ·intro t y hy s hs
  have:y=[]:=(List.mem_replicate.1 (Yc hy)).2
  subst this;simp at hs
 ·intro s s0 h
  have h:(mv c (gsq0 c km vs).m).cell=s+1:=h
  omega
 ·intro l hl s hs
  have:l=[]:=(List.mem_replicate.1 hl).2
  subst this;simp at hs
 ·intro s hs
  rw[hTS]at hs;omega
 ·show JB (mv c (gsq0 c km vs).m).nx ((mv c (gsq0 c km vs).m).hd%4294967296) _
  rw[w1]
  by_cases h1:1<c.Sl
  ·rw[if_pos h1]
   exact seqF_chain w3 w4 (c.Sl.toNat-1) 1 (by omega) (by omega) (by omega)
  ·rw[if_neg h1,show c.Sl.toNat-1=0 by omega]
   rfl
 ·show 0≤(mv c (gsq0 c km vs).m).hd
  rw[w1];split<;>omega
 ·show(mv c (gsq0 c km vs).m).hd / 4294967296≤_
  rw[w1];split<;>omega
 ·intro r r0 r1
  rw[hTL]
  show(((List.replicate c.T.toNat (-1:Int)).count r+0+0:Nat):Int)=(mv c (gsq0 c km vs).m).act r
  rw[w5]
  have:(List.replicate c.T.toNat (-1:Int)).count r=0:=List.count_eq_zero.2 (fun h=>by have:=(List.mem_replicate.1 h).2;omega)
  omega
 ·intro r r0 r1
  exact .inl (w5 r)
 ·intro j j0 j1 h
  have h:1≤(mv c (gsq0 c km vs).m).hz j:=h
  rw[w6]at h;omega
 ·intro s hs
  have hs:s∈([0]:List Int):=hs
  rw[List.mem_singleton.1 hs]
  show((are1 c).sl 0).state=3
  rw[hsl0]
 ·show JB (mv c (gsq0 c km vs).m).ln (mv c (gsq0 c km vs).m).top [0]
  rw[w2']
  exact⟨rfl,by omega,w7⟩
end
end Go.Proofs.YtefjbdajgakgpaaGreat
