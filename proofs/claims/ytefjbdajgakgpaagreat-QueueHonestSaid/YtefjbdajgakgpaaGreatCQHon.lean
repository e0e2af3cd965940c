import Derived.Test.YtefjbdajgakgpaaGreatCRs3
set_option linter.all false
namespace Go.Proofs.YtefjbdajgakgpaaGreat
open Go.RowKit Hp
set_option maxRecDepth 100000
set_option maxHeartbeats 1000000
attribute [local irreducible] Go.Calls
section
def K0:Zu→Prop
 | .hz k=>hS k=[]∧hL k=[]
 | .put p=>p.stage=0
 | .get p=>p.stage=0∧p.got=false
theorem K0.nil {k:Zu}(h:K0 k):kS k=[]∧kL k=[]:=by
 cases k with
 | hz k=>exact h
 | put p=>have h:p.stage=0:=h;exact⟨kS_put0 (by unfold pS;omega),rfl⟩
 | get p=>have h:p.stage=0∧p.got=false:=h;exact⟨(Jd (p:=p) (Jv (by omega)) (by omega)).1,(Jd (p:=p) (Jv (by omega)) (by omega)).2.1⟩
structure DK (c:Cfg)(stk:List Int)(pr:Int→Prop)(F:List Int)(n:Int)(y:GW Zu):Prop where
 gd:Gd c n (cnt2 (y.tasks.map kSo)) (cnt2 (y.tasks.map kLo)) F (sx stk pr c y.s.1 y.s.2 y.m) [] []
 td:∀(j:Nat) (k:Zu),y.tasks[j]? = some (some k)→KD c j (sx stk pr c y.s.1 y.s.2 y.m) (tlw c y.m) k
 fresh:∀(j:Nat) (k:Zu) (se:Sea),y.tasks[j]? = some (some k)→y.m.seats[j]? = some se→se.ready=false→K0 k
 tli:TlI stk (tlw c y.m)
section
variable {c:Cfg}{Lg S N:Nat}{h:Haz}{a:Are}{m:Mch}
variable {n:Int}{Z Y:Int→Nat}{F stk:List Int}{pr:Int→Prop}{K L:List Int}{t:Nat}{W:Int→Prop}
theorem kcount {tasks:List (Option Zu)}(f:Option Zu→List Int)(f0:f none=[]){t:Nat}{o:Option Zu}(h:tasks[t]? = some o)(s:Int) :
  cnt2 (tasks.map f) s=cnt2 ((tasks.set t none).map f) s+(f o).count s:=by
 have h1:(tasks.map f)[t]? = some (f o):=by rw[Ym,h];rfl
 have:=cnt2_set [] s h1
 rw[Yk,f0]
 simp only[List.count_nil]at this
 omega
theorem Gd.kfocus {x:Sx}{tasks:List (Option Zu)}{t:Nat}{o:Option Zu}(G:Gd c n (cnt2 (tasks.map kSo)) (cnt2 (tasks.map kLo)) F x [] [])(h:tasks[t]? = some o) :
  Gd c n (cnt2 ((tasks.set t none).map kSo)) (cnt2 ((tasks.set t none).map kLo)) F x (kSo o) (kLo o):=by
 refine⟨fun s => ?_,G.stF,G.stC,G.stX,G.stL,fun s hs=>G.stZ s ?_,G.chain,G.hd0,G.tag,fun r r0 r1 => ?_,G.act1,G.pr1,G.pr2,G.stK,G.lk⟩
 ·have:=G.tot s
  rw[kcount kSo rfl h s]at this
  simp only[List.count_nil]at this
  omega
 ·rw[kcount kSo rfl h s];omega
 ·have:=G.rcd r r0 r1
  rw[kcount kLo rfl h r]at this
  simp only[List.count_nil]at this
  omega
theorem Gd.kunfocus {x:Sx}{tasks:List (Option Zu)}{t:Nat}{o:Option Zu}(h:t<tasks.length)(G:Gd c n (cnt2 ((tasks.set t none).map kSo)) (cnt2 ((tasks.set t none).map kLo)) F x (kSo o) (kLo o))
  (hst:∀s∈kSo o,(x.sl s).state=2∨(x.sl s).state=4∨(x.sl s).state=5):Gd c n (cnt2 ((tasks.set t o).map kSo)) (cnt2 ((tasks.set t o).map kLo)) F x [] []:=by
 have ht:(tasks.set t o)[t]? = some o:=Ye h
 have e1:=kcount kSo rfl ht
 have e2:=kcount kLo rfl ht
 rw[Yl]at e1 e2
 refine⟨fun s => ?_,G.stF,G.stC,G.stX,G.stL,fun s hs => ?_,G.chain,G.hd0,G.tag,fun r r0 r1 => ?_,G.act1,G.pr1,G.pr2,G.stK,G.lk⟩
 ·have:=G.tot s
  rw[e1 s]
  simp only[List.count_nil]
  omega
 ·rw[e1 s]at hs
  by_cases h0:0<cnt2 ((tasks.set t none).map kSo) s
  ·exact G.stZ s h0
  ·exact hst s (List.count_pos_iff.1 (by omega))
 ·have:=G.rcd r r0 r1
  rw[e2 r]
  simp only[List.count_nil]
  omega
theorem kd_made {mv:Mv}{k:Zu}{tl:Int}(C:Core c Lg S N h a m)(ht:(t:Int)<c.T)(hk:qTask (h,a) t mv=some k):K0 k∧KD c t (sx stk pr c h a m) tl k:=by
 rcases qTask_made hk with⟨_,e⟩|⟨_,e⟩|⟨_,_,q,e,hq⟩
 ·subst e;exact⟨rfl,ptd_vac (.inl rfl)⟩
 ·subst e;exact⟨⟨rfl,rfl⟩,gtd_vac (.inl rfl) rfl⟩
 ·subst e
  obtain⟨m1,m2,m3⟩:=made_td (stk:=stk) (pr:=pr) C ht hq
  exact⟨⟨m1,m2⟩,m3⟩
theorem kds_of {k:Zu}{rdy:Bool}(C:Core c Lg S N h a m)(ht:(t:Int)<c.T)(I:QI c t rdy (h.held.getD t 0) (a.caches.getD t []) k)(hf:rdy=false→K0 k):KDs c t (sx stk pr c h a m) k:=by
 obtain⟨r1,_⟩:=C.hget ht
 have hlt:t<h.held.length:=by rw[C.held];omega
 have hh:h.held[t]? = some (h.held.getD t 0):=by rw[Yb,Yd hlt];rfl
 cases k with
 | hz k=>exact(TkS.of I hf).2
 | put p=>
  obtain⟨_,i2,i3,i4⟩:=I
  refine⟨fun h1 h3 => ?_,⟨h.held.getD t 0,hh,i2,r1⟩,fun h1 => ?_,fun h1 => ?_⟩
  ·cases rdy with
   | false=>rw[(i3 rfl).1]at h3;simp at h3
   | true=>exact(((i4 rfl).1.tk h1).head (by omega)).2.1
  ·cases rdy with
   | false=>have:=(i3 rfl).2;omega
   | true=>exact((i4 rfl).1.n h1).1
  ·cases rdy with
   | false=>have:=(i3 rfl).2;omega
   | true=>exact((i4 rfl).1.slot (by omega)).1
 | get p=>
  obtain⟨i1,i2,i3,i4⟩:=I
  refine⟨⟨h.held.getD t 0,hh,i2,r1⟩,fun s hs => ?_,fun h1 h2 => ?_⟩
  ·have h9:p.stage=12:=by
    unfold gtSc at hs
    split at hs
    ·assumption
    ·cases hs
   cases rdy with
   | false=>have:=(i3 rfl).2;omega
   | true=>
    obtain⟨r,sc,e1,e2,e3,e4⟩:=(i4 rfl).1.ret h9
    rw[(kS_get12 h9 e1 e2).2.2]at hs
    cases hs
    exact e3.rec0
  ·cases rdy with
   | false=>have:=(i3 rfl).2;omega
   | true=>exact((i4 rfl).1.n h1 h2).1
theorem qk_rdy_kd {i:Nat}{cl:Cll}{se:Sea}{k:Zu}(C:Core c Lg S N h a m)(ht:(t:Int)<c.T)(hm:m.thread=(t:Int))(I:QI c t false (h.held.getD t 0) (a.caches.getD t []) k)(h0:K0 k)(hci:Z6 m i t cl se)(hb:cl.begin_<m.now)(T:TlI stk (tlw c m))
  (G:Gd c n Z Y F (sx stk pr c h a m) (kS k) (kL k)) (D:KD c t (sx stk pr c h a m) (tlw c m) k):KP stk stk c n Z Y pr h a m t (QR (h,a) m i t cl se k):=by
 cases k with
 | hz k=>
  haveI:=q_qok C.ok
  obtain⟨pr',F',q1,q2,q3⟩:=ready_gd (i:=i) (cl:=cl) (se:=se) C ht hm I h0 G D
  have htl:=tl_nt (evq_nt (evq_rdy (Q:=qQ c) (i:=i) C ht I hci.call hci.seat hb))
  have htl:tlw c (QR (h,a) m i t cl se (.hz k)).2.2.1=tlw c m:=htl
  exact⟨pr',F',q1.mono (by omega),q2,q3,.same rfl htl,by rw[htl];exact T⟩
 | put p=>
  obtain⟨i1,i2,i3,i4⟩:=I
  exact put_rdy C ht hm (i3 rfl).1 T (K0.nil (k:=.put p) h0).1 G
 | get p=>
  obtain⟨h0,hg⟩:=h0
  obtain⟨y1,y2,_⟩:=Jd (p:=p) (Jv (by omega)) (by omega)
  rw[y1,y2]at G
  obtain⟨z1,z2,_⟩:=Jd (p:={ p with stage:=1,hz0:=(qHz h p.thread 0:Int),hz1:=(qHz h p.thread 1:Int) }) (Jv (by simp)) (by simp)
  refine⟨pr,F,?_,Rl.refl ..,fun _=>gtd_vac (.inr (.inl rfl)) hg,.same rfl rfl,T⟩
  simp only[QR,Yn,if_false]
  rw[z1,z2]
  exact G
theorem qk_stp_kd {i:Nat}{cl:Cll}{se:Sea}{k:Zu}(C:Core c Lg S N h a m)(hN:N<1000000)(ht:(t:Int)<c.T)(hm:m.thread=(t:Int))(hus:m.used=false)(I:QI c t true (h.held.getD t 0) (a.caches.getD t []) k)(hn:n<4294967295)(hci:Z6 m i t cl se)(hb:cl.begin_<m.now)(hp:hzQ cl.begin_ m.now k)(T:TlI stk (tlw c m))
  (G:Gd c n Z Y F (sx stk pr c h a m) (kS k) (kL k)) (D:KD c t (sx stk pr c h a m) (tlw c m) k):KP stk (quStk c m stk k) c (n+1) Z Y pr h a m t (Jb (h,a) m i t cl se k):=by
 have hok:=C.ok
 haveI:=q_qok hok
 cases k with
 | hz k=>
  obtain⟨pr',F',q1,q2,q3⟩:=step_gd (i:=i) (cl:=cl) (se:=se) C hN ht hm I hn G D
  have htl:=tl_nt (evq_nt (evq_stp (Q:=qQ c) (i:=i) C ht I hci.call hci.seat hb hp hus (fun r hr h3=>by
   subst hr
   have I:RdI c r:=I
   have:=I.w (by omega)
   exact val_q hok (.inl rfl) (by omega)) (fun p hp' h1=>by
   subst hp'
   have I:=I.2.2.1 rfl
   obtain⟨kk,hkk,_,k1⟩:=I.take
   obtain⟨g1,g2,g3⟩:=k1 (.inl h1)
   exact val_q hok (.inl rfl) (by omega))))
  have htl:tlw c (Jb (h,a) m i t cl se (.hz k)).2.2.1=tlw c m:=htl
  exact⟨pr',F',q1,q2,q3,.same rfl htl,by rw[htl];exact T⟩
 | put p=>
  obtain⟨i1,i2,i3,i4⟩:=I
  exact put_kd C ht hm i1 hus i2 (i4 rfl).1 hn T G D
 | get p=>
  obtain⟨i1,i2,i3,i4⟩:=I
  exact get_kd C ht hm i1 hus i2 (i4 rfl).1 hn T G D
end
section
variable {c:Cfg}{n:Nat}{y:GW Zu}{F stk:List Int}{pr:Int→Prop}{bh ba:Nat}{CX:Zb}{t i:Nat}{cl:Cll}{se:Sea}{k:Zu}{r1 r2:GR Zu}
def stkOf (c:Cfg)(stk:List Int)(r1:GR Zu):List Int:=if r1.1=true then stk else quStk c r1.2.2.1 stk r1.2.2.2
theorem DK.tick (D:DK c stk pr F n y):DK c stk pr F ((n+1:Nat):Int) y.tick:=⟨D.gd.mono (by omega),D.td,D.fresh,D.tli⟩
theorem DK.begin {mv:Mv}{v vc:Value}(D:DK c stk pr F n y)(P:PM (QM c) (QI c) c n y)(htT:(t:Int)<c.T)(hk:y.tasks[t]? = some none)(hm:qTask y.s t mv=some k) :
  DK c stk pr F ((n+1:Nat):Int) ⟨y.s,Zz y.m t mv v vc,y.tasks.set t (some k)⟩:=by
 have hlt:=(List.getElem?_eq_some_iff.1 hk).1
 have hx:sx stk pr c y.s.1 y.s.2 (Zz y.m t mv v vc)=sx stk pr c y.s.1 y.s.2 y.m:=ZR rfl
 obtain⟨m0,m3⟩:=kd_made (stk:=stk) (pr:=pr) (tl:=tlw c y.m) P.core.toCore htT hm
 have hxt:tlw c (Zz y.m t mv v vc)=tlw c y.m:=QQ rfl
 obtain⟨m1,m2⟩:=m0.nil
 refine⟨?_,?_,?_,by show TlI stk (tlw c (Zz y.m t mv v vc));rw[hxt];exact D.tli⟩
 ·refine Gd.mono (n:=n) ?_ (by omega)
  refine Gd.kunfocus (o:=some k) hlt ?_ (fun s hs=>by rw[show kSo (some k)=kS k from rfl,m1]at hs;simp at hs)
  have:=D.gd.kfocus hk
  rw[show kSo (some k)=kS k from rfl,show kLo (some k)=kL k from rfl,m1,m2,hx]
  exact this
 ·intro j kj hkj
  simp only[]at hkj
  rw[show(⟨y.s,Zz y.m t mv v vc,y.tasks.set t (some k)⟩:GW Zu).m=Zz y.m t mv v vc from rfl,hx,hxt]
  by_cases hj:j=t
  ·subst hj
   rw[Ye hlt]at hkj
   cases hkj;exact m3
  ·rw[Z2 hj]at hkj
   exact D.td j kj hkj
 ·intro j kj se hkj hse hf
  simp only[Zz]at hkj hse
  by_cases hj:j=t
  ·subst hj
   rw[Ye hlt]at hkj
   cases hkj;exact m0
  ·rw[Z2 hj]at hkj hse
   exact D.fresh j kj se hkj hse hf
structure DStep (c:Cfg)(n:Nat)(stk:List Int)(pr:Int→Prop)(y:GW Zu)(t i:Nat)(k:Zu)(r1 r2:GR Zu):Prop where
 ex:∃(Z Y:Int→Nat) (F0:List Int) (pr1:Int→Prop) (F1:List Int) (pr2:Int→Prop) (F2:List Int),
  Z=cnt2 ((y.tasks.set t none).map kSo) ∧
  Gd c n Z Y F0 (sx stk pr c y.s.1 y.s.2 y.m) (kS k) (kL k)∧KD c t (sx stk pr c y.s.1 y.s.2 y.m) (tlw c y.m) k ∧
  Gd c n Z Y F1 (sx stk pr1 c r1.2.1.1 r1.2.1.2 r1.2.2.1) (if r1.1=true then [] else kS r1.2.2.2) (if r1.1=true then [] else kL r1.2.2.2)∧(r1.1=false→KD c t (sx stk pr1 c r1.2.1.1 r1.2.1.2 r1.2.2.1) (tlw c r1.2.2.1) r1.2.2.2) ∧
  Rl Z t (OwW c t (sx stk pr c y.s.1 y.s.2 y.m) y.m.mem.log r1.2.2.1.mem.log) (sx stk pr c y.s.1 y.s.2 y.m) (sx stk pr1 c r1.2.1.1 r1.2.1.2 r1.2.2.1) ∧
  Rl Z t (OwW c t (sx stk pr c y.s.1 y.s.2 y.m) r1.2.2.1.mem.log r2.2.2.1.mem.log) (sx stk pr1 c r1.2.1.1 r1.2.1.2 r1.2.2.1) (sx (stkOf c stk r1) pr2 c r2.2.1.1 r2.2.1.2 r2.2.2.1) ∧
  TlI stk (tlw c r1.2.2.1) ∧
  QRl (sx stk pr c y.s.1 y.s.2 y.m) (tlw c y.m) (sx stk pr1 c r1.2.1.1 r1.2.1.2 r1.2.2.1) (tlw c r1.2.2.1) ∧
  QRl (sx stk pr1 c r1.2.1.1 r1.2.1.2 r1.2.2.1) (tlw c r1.2.2.1) (sx (stkOf c stk r1) pr2 c r2.2.1.1 r2.2.1.2 r2.2.2.1) (tlw c r2.2.2.1) ∧
  DK c (stkOf c stk r1) pr2 F2 ((n+1:Nat):Int) (Qc y t i r2)
theorem KDs.he {c:Cfg}{t:Nat}{x x':Sx}{k:Zu}(hT:KDs c t x k)(e:x'.held[t]? = x.held[t]?):KDs c t x' k:=by
 cases k with
 | hz k=>exact hT
 | put p=>exact⟨hT.1,by rw[e];exact hT.2.1,hT.2.2⟩
 | get p=>exact⟨by rw[e];exact hT.1,hT.2⟩
theorem DK.step (D:DK c stk pr F n y)(hn:n<65536)(B:QB n y)(P:PM (QM c) (QI c) c n y)(G:GStepM (QM c) (qkT bh ba c CX) (QI c) c n y t i cl se k r1 r2):DStep c n stk pr y t i k r1 r2:=by
 have hlt:=(List.getElem?_eq_some_iff.1 G.hse).1
 have hltk:=(List.getElem?_eq_some_iff.1 G.hk).1
 have hok:=P.core.ok
 have S:=B.stp P G
 have hx0:sx stk pr c y.s.1 y.s.2 (Qd y t i se)=sx stk pr c y.s.1 y.s.2 y.m:=ZR rfl
 have ht0:tlw c (Qd y t i se)=tlw c y.m:=QQ rfl
 have T0:=D.tli
 rw[←ht0]at T0
 have G0:=D.gd.kfocus G.hk
 have D0:=D.td t k G.hk
 have G0':=G0
 have D0':=D0
 rw[←hx0]at G0 D0
 rw[←ht0]at D0
 generalize hZ:cnt2 ((y.tasks.set t none).map kSo)=Z at G0 G0'
 generalize hY:cnt2 ((y.tasks.set t none).map kLo)=Y at G0 G0'
 have E1:KP stk stk c n Z Y pr y.s.1 y.s.2 (Qd y t i se) t r1:=by
  rcases G.rdy with⟨hf,e⟩|⟨_,e⟩
  ·have hI:=G.i0
   rw[hf]at hI
   rw[e]
   exact qk_rdy_kd G.c0.toCore G.htT rfl hI (D.fresh t k se G.hk G.hse hf) S.ci (by rw[S.now0];exact S.beg) T0 G0 D0
  ·rw[e]
   exact⟨pr,F,by simp only[Yn,if_false];exact G0,Rl.refl ..,fun _=>D0,.same rfl rfl,T0⟩
 obtain⟨pr1,F1,q1,q2,q3,Q1,T1⟩:=E1
 have hth1:r1.2.2.1.thread=(t:Int):=G.h1.frame.thread
 have hhe:r1.2.1.1.held=y.s.1.held:=by
  rcases G.rdy with⟨hf,e⟩|⟨_,e⟩
  ·rw[e]
   cases k with
   | hz k=>cases k<;>rfl
   | put p=>rfl
   | get p=>rfl
  ·rw[e]
 have hOw:∀j,Own c t (sx stk pr1 c r1.2.1.1 r1.2.1.2 r1.2.2.1) j→Own c t (sx stk pr c y.s.1 y.s.2 y.m) j:=fun j hj=>hj.he (by show y.s.1.held[t]? = r1.2.1.1.held[t]?;rw[hhe])
 have E2:∃(pr2:Int→Prop) (F2:List Int),Gd c (n+1) Z Y F2 (sx (stkOf c stk r1) pr2 c r2.2.1.1 r2.2.1.2 r2.2.2.1) (if r2.1=true then [] else kS r2.2.2.2) (if r2.1=true then [] else kL r2.2.2.2) ∧
   Rl Z t (OwW c t (sx stk pr c y.s.1 y.s.2 y.m) r1.2.2.1.mem.log r2.2.2.1.mem.log) (sx stk pr1 c r1.2.1.1 r1.2.1.2 r1.2.2.1) (sx (stkOf c stk r1) pr2 c r2.2.1.1 r2.2.1.2 r2.2.2.1)∧(r2.1=false→KD c t (sx (stkOf c stk r1) pr2 c r2.2.1.1 r2.2.1.2 r2.2.2.1) (tlw c r2.2.2.1) r2.2.2.2)∧QRl (sx stk pr1 c r1.2.1.1 r1.2.1.2 r1.2.2.1) (tlw c r1.2.2.1) (sx (stkOf c stk r1) pr2 c r2.2.1.1 r2.2.1.2 r2.2.2.1) (tlw c r2.2.2.1)∧TlI (stkOf c stk r1) (tlw c r2.2.2.1):=by
  rcases G.stp with⟨hb,e⟩|⟨hb,z1,q1',v1,hcu,e⟩
  ·have hs:stkOf c stk r1=stk:=by unfold stkOf;rw[if_pos hb]
   rw[hs,e]
   exact⟨pr1,F1,q1.mono (by omega),Rl.refl ..,q3,.same rfl rfl,T1⟩
  ·have hs:stkOf c stk r1=quStk c r1.2.2.1 stk r1.2.2.2:=by unfold stkOf;rw[if_neg (by simp[hb])]
   rw[hs]
   rw[if_neg (by simp[hb]),if_neg (by simp[hb])]at q1
   have X:=qk_stp_kd (i:=i) (cl:={ cl with point:=z1 }) (se:={ se with ready:=true,kind:=q1',value:=v1 }) G.h1.core.toCore (by omega) G.htT hth1 G.used1 (G.h1.fin hb) (by omega) hcu (by rw[S.now1];exact S.beg) (by rw[S.now1];exact S.hp1) T1 q1 (q3 hb)
   have e':r2=Jb (r1.2.1.1,r1.2.1.2) r1.2.2.1 i t { cl with point:=z1 } { se with ready:=true,kind:=q1',value:=v1 } r1.2.2.2:=e
   rw[←e']at X
   obtain⟨pr2,F2,x1,x2,x3,x4,x5⟩:=X
   exact⟨pr2,F2,x1,x2.weaken (fun j h=>⟨hOw j h.1,h.2⟩),x3,x4,x5⟩
 obtain⟨pr2,F2,x1,x2,x3,x4,x5⟩:=E2
 rw[hx0]at q2 Q1
 rw[ht0]at Q1
 refine⟨Z,Y,F,pr1,F1,pr2,F2,hZ.symm,G0',D0',q1,q3,q2,x2,T1,Q1,x4,?_⟩
 obtain⟨z,q,v,O⟩:=G.out P
 have hx1:sx (stkOf c stk r1) pr2 c r2.2.1.1 r2.2.1.2 (Qc y t i r2).m=sx (stkOf c stk r1) pr2 c r2.2.1.1 r2.2.1.2 r2.2.2.1:=ZR (by rw[O.mem])
 have ht1:tlw c (Qc y t i r2).m=tlw c r2.2.2.1:=QQ (by rw[O.mem])
 refine⟨?_,?_,?_,by rw[ht1];exact x5⟩
 ·rw[show(Qc y t i r2).s=r2.2.1 from rfl,hx1,show(Qc y t i r2).tasks=y.tasks.set t (if r2.1=true then none else some r2.2.2.2) from rfl]
  refine Gd.kunfocus hltk ?_ ?_
  ·rw[hZ,hY]
   by_cases hb:r2.1=true
   ·rw[if_pos hb,if_pos hb]at x1
    rw[if_pos hb];exact x1.mono (by omega)
   ·rw[if_neg hb,if_neg hb]at x1
    rw[if_neg hb];exact x1.mono (by omega)
  ·intro s hs
   by_cases hb:r2.1=true
   ·rw[if_pos hb]at hs;simp[kSo]at hs
   ·rw[if_neg hb]at hs
    exact(x3 (by simpa using hb)).st s hs
 ·intro j kj hkj
  rw[show(Qc y t i r2).s=r2.2.1 from rfl,hx1,ht1]
  have hkj:(y.tasks.set t (if r2.1=true then none else some r2.2.2.2))[j]? = some (some kj):=hkj
  by_cases hj:j=t
  ·subst hj
   rw[Ye hltk]at hkj
   by_cases hb:r2.1=true
   ·rw[if_pos hb]at hkj;cases hkj
   ·rw[if_neg hb]at hkj
    cases hkj
    exact x3 (by simpa using hb)
  ·rw[Z2 hj]at hkj
   have hp5:=P.seats
   have hp4:=P.tasks
   have hjl:=(List.getElem?_eq_some_iff.1 hkj).1
   have hjT:j<y.m.seats.length:=by omega
   have hjT2:(j:Int)<c.T:=by have:=hok.T1;omega
   obtain⟨_,I2⟩:=P.task j kj _ hkj (Yd hjT)
   have T2:=kds_of (stk:=stk) (pr:=pr) P.core.toCore hjT2 I2 (fun hf=>D.fresh j kj _ hkj (Yd hjT) hf)
   have hZs:∀s∈kS kj,0<Z s:=fun s hs=>by
    rw[←hZ]
    refine cnt2_at (i:=j) (l:=kS kj) ?_ hs
    rw[Ym,Z2 hj,hkj];rfl
   have A1:=(D.td j kj hkj).rely hok G0' q2 Q1 hj T2 hZs (fun w h1 h2=>hj (own_two G0' hok h1.1 h2))
   exact A1.rely hok q1 x2 x4 hj (T2.he (q2.he j hj)) hZs (fun w h1 h2=>hj (own_two G0' hok h1.1 (h2.he (q2.he j hj).symm)))
 ·intro j kj sj hkj hsj hf
  have hkj:(y.tasks.set t (if r2.1=true then none else some r2.2.2.2))[j]? = some (some kj):=hkj
  rw[O.seats]at hsj
  by_cases hj:j=t
  ·subst hj
   rw[Ye hltk]at hkj
   rw[Ye hlt]at hsj
   by_cases hb:r2.1=true
   ·rw[if_pos hb]at hkj;cases hkj
   ·rw[if_neg hb]at hsj
    cases hsj
    cases hf
  ·rw[Z2 hj]at hkj hsj
   exact D.fresh j kj sj hkj hsj hf
end
end
section
theorem fillu_ge {ws:List Int}{b:Int}{u0:Nat}(hb:0≤b):∀(n:Nat) (i:Nat),(∀k:Nat,k<n→(i:Int)≠b+u0+k)→(Z4 ws b u0 n).getD i 0=ws.getD i 0
 | 0,i,_=>rfl
 | n+1,i,h=>by
  simp only[Z4,Yb]
  have h1:=h n (by omega)
  rw[Z2 (by omega),←Yb,←Yb]
  exact fillu_ge hb n i fun k hk=>h k (by omega)
theorem fillu_lt {ws:List Int}{b:Int}{u0:Nat}(hb:0≤b):∀(n:Nat) (k:Nat),k<n→(b+u0+k).toNat<ws.length→(Z4 ws b u0 n).getD (b+u0+k).toNat 0=(u0:Int)+k+2
 | 0,k,h,_=>by omega
 | n+1,k,h,hl=>by
  simp only[Z4,Yb]
  by_cases e:k=n
  ·subst e
   have e1:(b+((u0+k:Nat):Int)).toNat=(b+u0+k).toNat:=by omega
   rw[e1,Ye (by rw[fillW_len];exact hl)]
   simp
  ·rw[Z2 (by omega),←Yb]
   exact fillu_lt hb n k (by omega) hl
def seqF (k:Int):Nat→List Int
 | 0=>[]
 | n+1=>k::seqF (k+1) n
theorem seqF_count (s:Int):∀(n:Nat) (k:Int),(seqF k n).count s=ind (k≤s∧s<k+n)
 | 0,k=>by rw[ind_neg (by omega)];rfl
 | n+1,k=>by
  simp only[seqF,List.count_cons,seqF_count s n (k+1)]
  by_cases e:k=s
  ·subst e
   rw[ind_neg (by omega),ind_pos (by omega)];simp
  ·have:(k==s)=false:=by simpa using e
   rw[this]
   by_cases h:k+1≤s∧s<k+1+n
   ·rw[ind_pos h,ind_pos (by omega)];rfl
   ·rw[ind_neg h,ind_neg (by omega)];rfl
theorem seqF_mem {s:Int}:∀ {n:Nat} {k:Int},s∈seqF k n→k≤s∧s<k+n
 | 0,k,h=>by simp[seqF]at h
 | n+1,k,h=>by
  rcases List.mem_cons.1 h with rfl|h
  ·omega
  ·have:=seqF_mem h;omega
theorem seqF_chain {nx:Int→Int}{E:Int}(h1:∀s,1≤s→s+1<E→nx s=s+2)(h2:nx (E-1)=0):∀(n:Nat) (k:Int),1≤k→k+n=E→0<n→Chain nx (k+1) (seqF k n)
 | 0,k,_,_,h=>by omega
 | n+1,k,k0,he,_=>by
  refine⟨rfl,by omega,?_⟩
  cases n with
  | zero=>
   have:k=E-1:=by omega
   show Chain nx (nx k) []
   rw[this,h2];rfl
  | succ n=>
   rw[h1 k k0 (by omega),show k+2=(k+1)+1 by omega]
   exact seqF_chain h1 h2 (n+1) (k+1) (by omega) (by omega) (by omega)
theorem mv0 {c:Cfg}(hok:c.Ok){m:Mch}(hw:m.mem.words=QJ c 1) :
  (mv c m).hd=(if 1<c.Sl then 2 else 0)∧(mv c m).cell=0∧(mv c m).top=1∧(∀s,1≤s→s+1<c.Sl→(mv c m).nx s=s+2)∧(mv c m).nx (c.Sl-1)=0∧(∀r,(mv c m).act r=0)∧(∀j,(mv c m).hz j=0)∧(mv c m).ln 0=0∧m.word (adr c 5 0)=1:=by
 have hS:=hok.S1
 have hR:=hok.R1
 have e4:=Qm hok 4 (Int.le_refl 0)
 have e5:=Qm hok 5 (Int.le_refl 0)
 obtain⟨q4,q5⟩:=base45 c
 obtain⟨b1,b2,b8,b9,b10,b11,b12,b13,b14,rh,rh2,b3⟩:=QP hok
 obtain⟨a1,a2,a3,a8,a9,a10,a11,a13⟩:=adrs hok
 have hl:20<(base c 14).toNat∨10<(base c 14).toNat:=by omega
 have hl:10<(base c 14).toNat:=by omega
 generalize hW0:(if ((1:Nat):Int)<c.Sl then (List.replicate (base c 14).toNat (0:Int)).set 0 ((1+1:Nat):Int) else List.replicate (base c 14).toNat (0:Int))=W0
 have hW0l:W0.length=(base c 14).toNat:=by rw[←hW0];split<;>simp
 have hwd:∀i:Nat,m.word i=(((Z4 W0 (base c 10) 1 (c.Sl.toNat-1-1)).set 3 1).set 4 1).getD i 0:=by
  intro i
  unfold Mch.word
  rw[hw]
  simp only[QJ]
  rw[if_pos (by omega),hW0]
 have hz0:W0.getD 0 0=if 1<c.Sl then 2 else 0:=by
  rw[←hW0]
  by_cases h1:1<c.Sl
  ·rw[if_pos (by omega),if_pos h1,Yb,Ye (by simp;omega)];rfl
  ·rw[if_neg (by omega),if_neg h1,Yb,List.getElem?_replicate]
   split<;>rfl
 have hz:∀i:Nat,i≠0→W0.getD i 0=0:=by
  intro i hi
  rw[←hW0]
  split
  ·rw[Yb,Z2 hi,List.getElem?_replicate]
   split<;>rfl
  ·rw[Yb,List.getElem?_replicate]
   split<;>rfl
 have hfl:(Z4 W0 (base c 10) 1 (c.Sl.toNat-1-1)).length=(base c 14).toNat:=by rw[fillW_len,hW0l]
 have hn34:∀i:Nat,i≠3→i≠4→m.word i=(Z4 W0 (base c 10) 1 (c.Sl.toNat-1-1)).getD i 0:=by
  intro i h3 h4
  rw[hwd i,Yb,Z2 h4,Z2 h3,←Yb]
 have h0:∀i:Nat,i≠0→i≠3→i≠4→((i:Int)<base c 10+1∨base c 10+c.Sl≤i+1)→m.word i=0:=by
  intro i hi h3 h4 hi2
  rw[hn34 i h3 h4,fillu_ge (by omega) _ _ (fun k hk=>by omega)]
  exact hz i hi
 refine⟨?_,?_,?_,?_,?_,?_,?_,?_,?_⟩
 ·show m.word (adr c 1 0)=_
  have:adr c 1 0=0:=by omega
  rw[this,hn34 0 (by omega) (by omega),fillu_ge (by omega) _ _ (fun k hk=>by omega)]
  exact hz0
 ·show m.word (adr c 2 0)=0
  exact h0 _ (by omega) (by omega) (by omega) (.inl (by omega))
 ·show m.word (adr c 4 0)=1
  have:adr c 4 0=3:=by omega
  rw[this,hwd 3,Yb,Z2 (by omega),Ye (by omega)];rfl
 ·intro s s0 s1
  rw[nx_at (by omega) (by omega)]
  have e:adr c 10 s=(base c 10+((1:Nat):Int)+((s-1).toNat:Int)).toNat:=by unfold adr;congr 1;omega
  have hb10:7≤base c 10:=by omega
  rw[hn34 _ (by omega) (by omega),e,fillu_lt (by omega) _ _ (by omega) (by omega)]
  omega
 ·rw[nx_at (by omega) (by omega)]
  have:=a10 (c.Sl-1) (by omega)
  exact h0 _ (by omega) (by omega) (by omega) (.inr (by omega))
 ·intro r
  show(if 0≤r∧r<c.R then m.word (adr c 8 r) else 0)=0
  split
  ·rename_i h
   have:=a8 r h.1
   exact h0 _ (by omega) (by omega) (by omega) (.inl (by omega))
  ·rfl
 ·intro r
  show(if 0≤r∧r<c.R*c.Hz then m.word (adr c 9 r) else 0)=0
  split
  ·rename_i h
   have:=a9 r h.1
   exact h0 _ (by omega) (by omega) (by omega) (.inl (by omega))
  ·rfl
 ·show(if 0≤(0:Int)∧0<c.Sl then m.word (adr c 13 0) else 0)=0
  split
  ·have:=a13 0 (by omega)
   exact h0 _ (by omega) (by omega) (by omega) (.inr (by omega))
  ·rfl
 ·have:adr c 5 0=4:=by omega
  rw[this,hwd 4,Yb,Ye (by simp;omega)];rfl
theorem kcnt2_none (f:Option Zu→List Int)(f0:f none=[])(n:Nat)(s:Int):cnt2 ((List.replicate n (none:Option Zu)).map f) s=0:=by
 rw[List.map_replicate,f0];exact cnt2_nils s n
theorem DK.start {c:Cfg}(hok:c.Ok)(km:Nat)(vs:Value):DK c [0] (fun _=>False) (seqF 1 (c.Sl.toNat-1)) (0:Nat) (gsq0 c km vs):=by
 have hS:=hok.S1
 obtain⟨w1,w2,w2',w3,w4,w5,w6,w7,w8⟩:=mv0 hok (m:=(gsq0 c km vs).m) rfl
 have hsl:∀s,1≤s→s<c.Sl→(are1 c).sl s=⟨0,-1⟩:=by
  intro s s0 s1
  unfold Are.sl are1
  rw[if_pos (by omega)]
  simp only[Yb]
  rw[Z2 (by omega),List.getElem?_replicate,if_pos (by omega)];rfl
 have hsl0:(are1 c).sl 0=⟨3,-1⟩:=by
  unfold Are.sl are1
  rw[if_pos (by omega)]
  simp only[Yb,Int.toNat_zero]
  rw[Ye (by simp;omega)];rfl
 have hTS:∀s,cnt2 ((gsq0 c km vs).tasks.map kSo) s=0:=fun s=>kcnt2_none kSo rfl _ s
 have hTL:∀s,cnt2 ((gsq0 c km vs).tasks.map kLo) s=0:=fun s=>kcnt2_none kLo rfl _ s
 have hno:∀(t:Nat) (k:Zu),(gsq0 c km vs).tasks[t]? = some (some k)→False:=by
  intro t k hk
  simp only[gsq0,List.getElem?_replicate]at hk
  split at hk<;>simp at hk
 refine⟨⟨?_,?_,?_,?_,?_,?_,?_,?_,?_,?_,?_,fun j hf=>hf.elim,?_,?_,?_⟩,fun t k hk=>(hno t k hk).elim,fun t k se hk=>(hno t k hk).elim,⟨[],0,[],rfl,by simp,w8⟩⟩
 ·intro s
  rw[hTS,seqF_count]
  show _+cnt2 (List.replicate c.T.toNat []) s+0+0+ind (0≤s∧(mv c (gsq0 c km vs).m).cell=s+1)+cnt2 (List.replicate c.R.toNat []) s+([0]:List Int).count s=_
  rw[cnt2_nils,cnt2_nils,w2,ind_neg (p:=0≤s∧(0:Int)=s+1) (by omega)]
  by_cases h0:s=0
  ·subst h0
   rw[ind_neg (p:=1≤(0:Int)∧(0:Int)<1+((c.Sl.toNat-1:Nat):Int)) (by omega),ind_pos (by omega)];rfl
  ·have hc:([0]:List Int).count s=0:=List.count_eq_zero.2 (by simp;omega)
   rw[hc]
   by_cases h:0≤s∧s<c.Sl
   ·rw[ind_pos h,ind_pos (p:=1≤s∧s<1+((c.Sl.toNat-1:Nat):Int)) (by omega)]
   ·rw[ind_neg h,ind_neg (p:=1≤s∧s<1+((c.Sl.toNat-1:Nat):Int)) (by omega)]
 ·intro s hs
  have:=seqF_mem hs
  show((are1 c).sl s).state=0
  rw[hsl s (by omega) (by omega)]
 ·intro t y hy s hs
  have:y=[]:=(List.mem_replicate.1 (Yc hy)).2
  subst this;simp at hs
 ·intro s s0 h
  have h:(mv c (gsq0 c km vs).m).cell=s+1:=h
  omega
 ·intro l hl s hs
  have:l=[]:=(List.mem_replicate.1 hl).2
  subst this;simp at hs
 ·intro s hs
  rw[hTS]at hs;omega
 ·show Chain (mv c (gsq0 c km vs).m).nx ((mv c (gsq0 c km vs).m).hd%4294967296) _
  rw[w1]
  by_cases h1:1<c.Sl
  ·rw[if_pos h1]
   exact seqF_chain w3 w4 (c.Sl.toNat-1) 1 (by omega) (by omega) (by omega)
  ·rw[if_neg h1,show c.Sl.toNat-1=0 by omega]
   rfl
 ·show 0≤(mv c (gsq0 c km vs).m).hd
  rw[w1];split<;>omega
 ·show(mv c (gsq0 c km vs).m).hd / 4294967296≤_
  rw[w1];split<;>omega
 ·intro r r0 r1
  rw[hTL]
  show(((List.replicate c.T.toNat (-1:Int)).count r+0+0:Nat):Int)=(mv c (gsq0 c km vs).m).act r
  rw[w5]
  have:(List.replicate c.T.toNat (-1:Int)).count r=0:=List.count_eq_zero.2 (fun h=>by have:=(List.mem_replicate.1 h).2;omega)
  omega
 ·intro r r0 r1
  exact .inl (w5 r)
 ·intro j j0 j1 h
  have h:1≤(mv c (gsq0 c km vs).m).hz j:=h
  rw[w6]at h;omega
 ·intro s hs
  have hs:s∈([0]:List Int):=hs
  rw[List.mem_singleton.1 hs]
  show((are1 c).sl 0).state=3
  rw[hsl0]
 ·show Chain (mv c (gsq0 c km vs).m).ln (mv c (gsq0 c km vs).m).top [0]
  rw[w2']
  exact⟨rfl,by omega,w7⟩
end
section
def FullAt (c:Cfg)(sl:List Slt)(t:Int):Prop:=∀s:Nat,(s:Int)<c.Sl→(sl.getD s ⟨0,0⟩).state≠0∧¬((sl.getD s ⟨0,0⟩).state=1∧(sl.getD s ⟨0,0⟩).holder=t)
def bef (sh:List Shf)(p:Int):List Shf:=sh.filter (fun x=>decide (x.move<p))
theorem bef_add {sh ds:List Shf}{p:Int}(h:∀d∈ds,p≤d.move):bef (sh++ds) p=bef sh p:=by
 unfold bef
 rw[List.filter_append]
 have:ds.filter (fun x=>decide (x.move<p))=[]:=List.filter_eq_nil_iff.2 fun d hd=>by have:=h d hd;simp;omega
 rw[this,List.append_nil]
theorem bef_all {sh:List Shf}{p:Int}(h:∀d∈sh,d.move<p):bef sh p=sh:=List.filter_eq_self.2 fun d hd=>by simpa using h d hd
def tkg:Zu→Prop
 | .put p=>p.stage=1
 | .hz (.pst p)=>p.stage=0
 | _=>False
def isR:Zu→Prop
 | .hz (.reg _)=>True
 | _=>False
def NoF (t:Nat)(m m':Mch):Prop:=∀se',m'.seats[t]? = some se'→se'.kind=4→∃se,m.seats[t]? = some se∧se.kind=4
section
variable {t i:Nat}{m m' m'':Mch}{cl:Cll}{se:Sea}{h:Haz}{a:Are}
theorem NoF.of (e:m'.seats=m.seats):NoF t m m':=fun se' h1 h2=>⟨se',by rw[←e];exact h1,h2⟩
theorem NoF.same (e:Same m m'):NoF t m m':=.of e.seats
theorem NoF.trans (A:NoF t m m')(B:NoF t m' m''):NoF t m m'':=fun se' h1 h2=>by
 obtain⟨s1,h3,h4⟩:=B se' h1 h2
 exact A s1 h3 h4
theorem NoF.ans {q v:Int}(hq:q≠4):NoF t m (m.answer t se q v):=fun se' h1 h2=>by
 have h1:(m.seats.set t { se with kind:=q,value:=v })[t]? = some se':=h1
 rw[List.getElem?_set]at h1
 simp only[if_true]at h1
 split at h1
 ·injection h1 with h1
  subst h1
  exact absurd h2 hq
 ·cases h1
theorem reg_seats (r:Reg):(Z5 h m t se r).1=true∨NoF t m (Z5 h m t se r).2.2.1:=by
 have hN:∀m',m'.seats=m.seats→(Qp h m' t se r).1=true∨NoF t m (Qp h m' t se r).2.2.1:=by
  intro m' e
  unfold Qp
  split
  ·exact .inr (.of e)
  ·exact .inl rfl
 unfold Z5
 simp only[]
 split
 ·split
  ·exact hN _ rfl
  ·exact .inr (.of rfl)
 ·split
  ·exact .inl rfl
  ·exact hN _ rfl
theorem reg_calls (r:Reg):(Z5 h m t se r).2.2.1.calls=m.calls:=by
 have hN:∀m',(Qp h m' t se r).2.2.1.calls=m'.calls:=by
  intro m'
  unfold Qp
  split<;>rfl
 unfold Z5
 simp only[]
 split
 ·split
  ·rw[hN];rfl
  ·rfl
 ·split
  ·rfl
  ·rw[hN];rfl
theorem unr_same (u:Unr):NoF t m (ZB h a m u).2.2.2.1:=by
 unfold ZB
 simp only[]
 split
 ·split
  ·exact .of rfl
  ·split<;>exact .of rfl
 ·split
  ·split
   ·exact .of rfl
   ·split<;>exact .same (same_scan ..)
  ·split
   ·split
    ·exact .of rfl
    ·exact .same (same_flush ..)
   ·exact .of rfl
theorem read_nof (r:Rdg):NoF t m (Qe h m i t cl se r).2.1:=by
 have hS:∀m' u,m'.seats=m.seats→NoF t m (QF m' i t cl se r u).2.1:=by
  intro m' u e
  unfold QF
  split
  ·exact(NoF.of (m':=m'.point i cl m'.now) e).trans (.ans (by omega))
  ·exact .of e
 unfold Qe
 simp only[]
 split
 ·exact hS _ _ rfl
 ·split
  ·exact .of rfl
  ·split
   ·split
    ·exact .of rfl
    ·exact hS _ _ rfl
   ·exact(NoF.of (m':=(m.load (adr h.c 11 (r.w-1)) (m.word (adr h.c 11 (r.w-1)))).point i cl r.point) rfl).trans (.ans (by omega))
theorem post_nof (p:Pst)(h0:p.stage≠0):NoF t m (ZJ h a m i t cl se p).2.2.2.1:=by
 unfold ZJ
 cases p.take with
 | none=>exact .of rfl
 | some k=>
  simp only[]
  rw[if_neg h0]
  split
  ·exact .of rfl
  ·split
   ·exact .of rfl
   ·split
    ·split
     ·unfold Jc
      simp only[]
      have e1:NoF t m (((m.swap (adr h.c 2 0) (m.word (adr h.c 2 0)) p.saw p.link).point i cl (m.swap (adr h.c 2 0) (m.word (adr h.c 2 0)) p.saw p.link).now).answer t se 1 0):=(NoF.of (m':=(m.swap (adr h.c 2 0) (m.word (adr h.c 2 0)) p.saw p.link).point i cl (m.swap (adr h.c 2 0) (m.word (adr h.c 2 0)) p.saw p.link).now) rfl).trans (.ans (by omega))
      split
      ·exact e1.trans (.of rfl)
      ·refine e1.trans ((NoF.same ?_))
       exact((QN ..).trans (QN ..)).trans (same_retire ..)
     ·exact .of rfl
    ·cases hr:p.retire with
     | none=>exact .of rfl
     | some r=>
      simp only[]
      cases hs:r.scan with
      | none=>exact .of rfl
      | some sc=>exact .same (same_scan ..)
theorem put_nof (p:Pt)(h1:p.stage≠1):NoF t m (Z7 h a m i t cl se p).2.2.1:=by
 unfold Z7
 simp only[]
 rw[if_neg h1]
 split
 ·exact .of rfl
 split
 ·exact .of rfl
 split
 ·exact .of rfl
 split
 ·exact .of rfl
 split
 ·exact .of rfl
 split
 ·exact .of rfl
 split
 ·split<;>exact .of rfl
 split
 ·exact .of rfl
 split
 ·exact(NoF.of (m':=m.store (qHz h p.thread 0) (m.word (qHz h p.thread 0)) 0) rfl).trans (.ans (by omega))
 ·exact .of rfl
theorem get_nof (g:Gt):NoF t m (QD h a m i t cl se g).2.2.2.1:=by
 unfold QD
 simp only[]
 by_cases s1:g.stage=1
 ·rw[if_pos s1]
  exact .of rfl
 rw[if_neg s1]
 by_cases s2:g.stage=2
 ·rw[if_pos s2]
  exact .of rfl
 rw[if_neg s2]
 by_cases s3:g.stage=3
 ·rw[if_pos s3]
  exact .of rfl
 rw[if_neg s3]
 by_cases s4:g.stage=4
 ·rw[if_pos s4]
  exact .of rfl
 rw[if_neg s4]
 by_cases s5:g.stage=5
 ·rw[if_pos s5]
  by_cases hb:0≤m.word (adr h.c 13 (g.h0-1))-1
  ·rw[if_pos hb];exact .of rfl
  ·rw[if_neg hb];exact(NoF.of (m':=(m.load (adr h.c 13 (g.h0-1)) (m.word (adr h.c 13 (g.h0-1)))).point i cl m.now) rfl).trans (.ans (by omega))
 rw[if_neg s5]
 by_cases s6:g.stage=6
 ·rw[if_pos s6]
  exact .of rfl
 rw[if_neg s6]
 by_cases s7:g.stage=7
 ·rw[if_pos s7]
  exact .of rfl
 rw[if_neg s7]
 by_cases s8:g.stage=8
 ·rw[if_pos s8]
  exact .of rfl
 rw[if_neg s8]
 by_cases s9:g.stage=9
 ·rw[if_pos s9]
  exact .of rfl
 rw[if_neg s9]
 by_cases s10:g.stage=10
 ·rw[if_pos s10]
  by_cases hb:m.word (adr h.c 4 0)=g.h0
  ·rw[if_pos hb];exact .of rfl
  ·rw[if_neg hb];exact .of rfl
 rw[if_neg s10]
 by_cases s11:g.stage=11
 ·rw[if_pos s11]
  unfold gtEnd
  simp only[]
  by_cases hb:g.cleared+1<2
  ·rw[if_pos hb];exact .of rfl
  ·rw[if_neg hb]
   by_cases hg:g.got=false
   ·rw[if_pos hg];exact .of rfl
   ·rw[if_neg hg]
    exact((NoF.of (m':=m.store (qHz h g.thread g.cleared) (m.word (qHz h g.thread g.cleared)) 0) rfl).trans (.ans (q:=2) (by omega))).trans (.same (same_retire ..))
 rw[if_neg s11]
 cases hr:g.retire with
 | none=>exact .of rfl
 | some r=>
  cases hs:r.scan with
  | none=>simp only[hs];exact .of rfl
  | some sc=>simp only[hs];exact .same (same_scan ..)
end
section
variable {t i:Nat}{c:Cfg}{L S N:Nat}{h:Haz}{a:Are}{m:Mch}{cl:Cll}{se:Sea}
theorem take_full {k:Tak}(hac:a.c=c)(T:TkI c k)(h1:(Zj a m k).1=true)(h2:Zd (Zj a m k).2.2.2<0):m.word (adr c 1 0)%4294967296=0∧(Zj a m k).2.1=a:=by
 unfold Zj at h1 h2 ⊢
 rw[hac]at h1 h2 ⊢
 split at h1
 ·rename_i ha
  rw[if_pos ha]at h2 ⊢
  exact⟨by simpa using h1,rfl⟩
 ·rename_i ha
  rw[if_neg ha]at h2
  split at h1
  ·cases h1
  ·rename_i hb
   rw[if_neg hb]at h2
   simp only[]at h1 h2
   split at h1
   ·rename_i hw
    rw[if_pos hw]at h2
    unfold Jj Zd at h2
    simp only[if_true]at h2
    have:=(T.head ha).2.1
    omega
   ·cases h1
theorem take_caches {k:Tak}:(Zj a m k).2.1.caches=a.caches:=by
 unfold Zj
 split
 ·rfl
 ·split
  ·rfl
  ·simp only[]
   split<;>rfl
structure TkE (c:Cfg)(i:Nat)(cl:Cll)(t:Nat)(a:Are)(m:Mch)(b:Bool)(a':Are)(m':Mch)(tk:Prop):Prop where
 on:b=false→NoF t m m'
 ca:b=false→tk→a'.caches=a.caches
 full:b=true→m.word (adr c 1 0)%4294967296=0∧a'=a∧m'.calls=m.calls.set i { cl with point:=m.now }
theorem put_take {p:Pt}(hac:a.c=c)(I:PtI c p)(h1:p.stage=1):TkE c i cl t a m (Z7 h a m i t cl se p).1 (Z7 h a m i t cl se p).2.1 (Z7 h a m i t cl se p).2.2.1 True:=by
 have T:=I.tk h1
 have hs:=Ju a m p.take
 unfold Z7
 simp only[]
 rw[if_pos h1]
 unfold ptTake
 simp only[]
 by_cases hb:(Zj a m p.take).1=true
 ·rw[if_pos hb]
  unfold ZX
  by_cases h2:Zd (Zj a m p.take).2.2.2<0
  ·rw[if_pos h2]
   obtain⟨g1,g2⟩:=take_full hac T hb h2
   exact⟨fun h=>(by cases h),fun h=>(by cases h),fun _=>⟨g1,g2,by show(_:List Cll).set _ _=_;rw[hs.calls,hs.now]⟩⟩
  ·rw[if_neg h2]
   exact⟨fun _=>.same hs,fun _ _=>take_caches,fun h=>(by cases h)⟩
 ·rw[if_neg hb]
  exact⟨fun _=>.same hs,fun _ _=>take_caches,fun h=>(by cases h)⟩
theorem post_take {p:Pst}(hac:a.c=c)(I:PoI c p)(h0:p.stage=0):TkE c i cl t a m (ZJ h a m i t cl se p).1 (ZJ h a m i t cl se p).2.2.1 (ZJ h a m i t cl se p).2.2.2.1 True:=by
 obtain⟨⟨k,e1,t0,_⟩,_⟩:=I
 have T:=t0 h0
 have hs:=Ju a m k
 unfold ZJ
 rw[e1]
 simp only[]
 rw[if_pos h0]
 by_cases hb:(Zj a m k).1=true
 ·rw[if_pos hb]
  simp only[]
  unfold ZI
  by_cases h2:Zd (Zj a m k).2.2.2<0
  ·rw[if_pos h2]
   obtain⟨g1,g2⟩:=take_full hac T hb h2
   exact⟨fun h=>(by cases h),fun h=>(by cases h),fun _=>⟨g1,g2,by show(_:List Cll).set _ _=_;rw[hs.calls,hs.now]⟩⟩
  ·rw[if_neg h2]
   exact⟨fun _=>.same hs,fun _ _=>take_caches,fun h=>(by cases h)⟩
 ·rw[if_neg hb]
  exact⟨fun _=>.same hs,fun _ _=>take_caches,fun h=>(by cases h)⟩
theorem put_stage1 {p:Pt}(I:PtI c p)(hf:(Z7 h a m i t cl se p).1=false)(h1':(Z7 h a m i t cl se p).2.2.2.stage=1):p.stage=1:=by
 by_cases h1:p.stage=1
 ·exact h1
 exfalso
 have hst:=I.stage
 unfold Z7 at hf h1'
 simp only[]at hf h1'
 rw[if_neg h1]at hf h1'
 split at h1'
 ·have h1':(3:Int)=1:=h1';omega
 split at h1'
 ·have h1':(4:Int)=1:=h1';omega
 split at h1'
 ·have h1':(5:Int)=1:=h1';omega
 split at h1'
 ·have h1':(6:Int)=1:=h1';omega
 split at h1'
 ·split at h1'
  ·have h1':(7:Int)=1:=h1';omega
  ·have h1':(5:Int)=1:=h1';omega
 split at h1'
 ·split at h1'
  ·have h1':(11:Int)=1:=h1';omega
  ·have h1':(8:Int)=1:=h1';omega
 split at h1'
 ·split at h1'
  ·have h1':(9:Int)=1:=h1';omega
  ·have h1':(4:Int)=1:=h1';omega
 split at h1'
 ·have h1':(10:Int)=1:=h1';omega
 split at h1'
 ·exact h1 h1'
 ·have h1':(4:Int)=1:=h1';omega
theorem post_stage0 {p:Pst}(I:PoI c p)(hf:(ZJ h a m i t cl se p).1=false)(h0':(ZJ h a m i t cl se p).2.2.2.2.stage=0):p.stage=0:=by
 obtain⟨⟨k,e1,t0,t1⟩,q1,q2,q3⟩:=I
 unfold ZJ at hf h0'
 rw[e1]at hf h0'
 simp only[]at hf h0'
 by_cases h0:p.stage=0
 ·exact h0
 rw[if_neg h0]at hf h0'
 exfalso
 by_cases h1:p.stage=1
 ·rw[if_pos h1]at h0';have h0':(2:Int)=0:=h0';omega
 rw[if_neg h1]at hf h0'
 by_cases h2:p.stage=2
 ·rw[if_pos h2]at h0';have h0':(3:Int)=0:=h0';omega
 rw[if_neg h2]at hf h0'
 by_cases h3:p.stage=3
 ·rw[if_pos h3]at hf h0'
  split at h0'
  ·rename_i hw
   rw[if_pos hw]at hf
   unfold Jc at hf h0'
   simp only[]at hf h0'
   split at h0'
   ·rename_i h5;rw[if_pos h5]at hf;cases hf
   ·have h0':(4:Int)=0:=h0';omega
  ·have h0':(2:Int)=0:=h0';omega
 rw[if_neg h3]at hf h0'
 split at h0'
 ·exact h0 h0'
 ·split at h0'
  ·exact h0 h0'
  ·exact h0 h0'
structure QRd (t:Nat)(a:Are)(m:Mch)(k:Zu)(r:GR Zu):Prop where
 calls:r.2.2.1.calls=m.calls
 seats:r.2.2.1.seats=m.seats
 words:r.2.2.1.mem.words=m.mem.words
 tk:tkg r.2.2.2→a.caches.getD t []=[]∧r.2.1.2=a
 reg:isR r.2.2.2→isR k
theorem takeReady_words {k:Tak}:(Zf a m k).2.2.1.mem.words=m.mem.words:=by unfold Zf;simp only[];split<;>rfl
theorem take_empty (h1:(Zf a m ⟨(t:Int),1,0,0,0,false⟩).1=false):a.caches.getD t []=[]:=by
 unfold Zf at h1
 simp only[Yo]at h1
 split at h1
 ·rename_i e;exact List.eq_nil_of_length_eq_zero e
 ·cases h1
theorem qk_rdy_hon {k:Zu}(C:Core c L S N h a m)(ht:(t:Int)<c.T)(I:QI c t false (h.held.getD t 0) (a.caches.getD t []) k):QRd t a m k (QR (h,a) m i t cl se k):=by
 have hT:=Jp (k:=⟨(t:Int),1,0,0,0,false⟩) C (by simp only[];omega) (by simp only[];omega)
 have hs:=Z3 a m ⟨(t:Int),1,0,0,0,false⟩
 have hw:=takeReady_words (a:=a) (m:=m) (k:=⟨(t:Int),1,0,0,0,false⟩)
 cases k with
 | hz k=>
  cases k with
  | pst p=>
   obtain⟨i1,i2,i3,i4⟩:=(I:TI c t false _ _ (.pst p))
   obtain⟨_,h0,_⟩:=i4 rfl
   simp only[QR,Qy]
   unfold ZP
   simp only[]
   rw[i1]
   rcases hT with hT|⟨g1,_,g3,_⟩
   ·rw[hT]
    exact⟨rfl,rfl,rfl,fun _=>⟨take_empty (by rw[hT]),rfl⟩,fun h=>h.elim⟩
   ·rw[if_pos g1]
    unfold ZI
    rw[if_neg (by omega)]
    refine⟨hs.calls,hs.seats,hw,fun e => ?_,fun h=>h.elim⟩
    have e:(1:Int)=0:=e
    omega
  | reg r=>exact⟨rfl,rfl,rfl,fun h=>h.elim,fun h=>h⟩
  | unr u=>exact⟨rfl,rfl,rfl,fun h=>h.elim,fun h=>h⟩
  | rdg r=>exact⟨rfl,rfl,rfl,fun h=>h.elim,fun h=>h⟩
  | clr ad=>exact⟨rfl,rfl,rfl,fun h=>h.elim,fun h=>h⟩
  | scn s=>exact⟨rfl,rfl,rfl,fun h=>h.elim,fun h=>h⟩
 | put p=>
  obtain⟨i1,i2,i3,i4⟩:=I
  have ht:=(i3 rfl).1
  simp only[QR]
  unfold ZY
  simp only[]
  rw[ht]
  rcases hT with hT|⟨g1,_,g3,_⟩
  ·rw[hT]
   exact⟨rfl,rfl,rfl,fun _=>⟨take_empty (by rw[hT]),rfl⟩,fun h=>h.elim⟩
  ·rw[if_pos g1]
   unfold ZX
   rw[if_neg (Int.not_lt.2 g3.1)]
   refine⟨hs.calls,hs.seats,hw,fun e => ?_,fun h=>h.elim⟩
   have e:(2:Int)=1:=e
   omega
 | get g=>exact⟨rfl,rfl,rfl,fun h=>h.elim,fun h=>h⟩
structure QSd (c:Cfg)(i:Nat)(cl:Cll)(t:Nat)(a:Are)(m:Mch)(k:Zu)(r:GR Zu):Prop where
 reg:isR k→r.2.2.1.calls=m.calls
 ans:NoF t m r.2.2.1∨(r.1=true∧(isR k∨tkg k∧m.word (adr c 1 0)%4294967296=0∧r.2.1.2=a∧r.2.2.1.calls=m.calls.set i { cl with point:=m.now }))
 ca:r.1=false→tkg r.2.2.2→tkg k∧r.2.1.2.caches=a.caches
 reg':isR r.2.2.2→isR k
theorem qk_stp_hon {k:Zu}(C:Core c L S N h a m)(ht:(t:Int)<c.T)(I:QI c t true (h.held.getD t 0) (a.caches.getD t []) k):QSd c i cl t a m k (Jb (h,a) m i t cl se k):=by
 have hac:=C.ac
 cases k with
 | hz k=>
  cases k with
  | pst p=>
   have I:PoI c p:=(I:TI c t true _ _ (.pst p)).2.2.1 rfl
   by_cases h0:p.stage=0
   ·have T:=post_take (i:=i) (cl:=cl) (se:=se) (t:=t) (h:=h) (m:=m) hac I h0
    refine⟨fun h=>h.elim,?_,fun hf hk=>⟨h0,T.ca hf trivial⟩,fun h=>h.elim⟩
    by_cases hb:(ZJ h a m i t cl se p).1=true
    ·obtain⟨g1,g2,g3⟩:=T.full hb
     exact .inr ⟨hb,.inr ⟨h0,g1,g2,g3⟩⟩
    ·exact .inl (T.on (by simpa using hb))
   ·refine⟨fun h=>h.elim,.inl (post_nof p h0),fun hf hk => ?_,fun h=>h.elim⟩
    exact absurd (post_stage0 I hf hk) h0
  | reg r=>
   refine⟨fun _=>reg_calls r,?_,fun _ h=>h.elim,fun _=>trivial⟩
   rcases reg_seats (t:=t) (m:=m) (se:=se) (h:=h) r with h1|h1
   ·exact .inr ⟨h1,.inl trivial⟩
   ·exact .inl h1
  | unr u=>exact⟨fun h=>h.elim,.inl (unr_same u),fun _ h=>h.elim,fun h=>h.elim⟩
  | rdg r=>exact⟨fun h=>h.elim,.inl (read_nof r),fun _ h=>h.elim,fun h=>h.elim⟩
  | clr ad=>exact⟨fun h=>h.elim,.inl (.of rfl),fun _ h=>h.elim,fun h=>h.elim⟩
  | scn s=>exact⟨fun h=>h.elim,.inl (.same (same_scan ..)),fun _ h=>h.elim,fun h=>h.elim⟩
 | put p=>
  have I:PtI c p:=((I:_∧_∧_∧_).2.2.2 rfl).1
  by_cases h0:p.stage=1
  ·have T:=put_take (i:=i) (cl:=cl) (se:=se) (t:=t) (h:=h) (m:=m) hac I h0
   refine⟨fun h=>h.elim,?_,fun hf hk=>⟨h0,T.ca hf trivial⟩,fun h=>h.elim⟩
   by_cases hb:(Z7 h a m i t cl se p).1=true
   ·obtain⟨g1,g2,g3⟩:=T.full hb
    exact .inr ⟨hb,.inr ⟨h0,g1,g2,g3⟩⟩
   ·exact .inl (T.on (by simpa using hb))
  ·refine⟨fun h=>h.elim,.inl (put_nof p h0),fun hf hk => ?_,fun h=>h.elim⟩
   exact absurd (put_stage1 I hf hk) h0
 | get g=>exact⟨fun h=>h.elim,.inl (get_nof g),fun _ h=>h.elim,fun h=>h.elim⟩
end
end
end Go.Proofs.YtefjbdajgakgpaaGreat
