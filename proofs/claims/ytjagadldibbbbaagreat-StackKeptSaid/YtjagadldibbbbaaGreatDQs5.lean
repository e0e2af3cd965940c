/-
  Any moves, with a stack beside the hazards, keep each slot in one place.
-/
import Derived.Test.YtjagadldibbbbaaGreatDQs3
import Derived.Test.YtjagadldibbbbaaGreatDEvq
import Derived.Test.YtjagadldibbbbaaGreatDStkR3
import Derived.Test.YtjagadldibbbbaaGreatDStkA
set_option linter.all false
namespace Go.Proofs.YtjagadldibbbbaaGreat
open Go.RowKit Hp
set_option maxRecDepth 100000
set_option maxHeartbeats 1000000
attribute [local irreducible] Go.Calls
section
def K0:Zm→Prop
 | .hz k=>hS k=[]∧hL k=[]
 | .psh p=>p.stage=0
 | .pop p=>p.stage=0
theorem K0.nil {k:Zm}(h:K0 k):kS k=[]∧kL k=[]:=by
 cases k with
 | hz k=>exact h
 | psh p=>exact⟨kS_psh0 (.inl h),rfl⟩
 | pop p=>have h:p.stage=0:=h;exact⟨(QZ (p:=p) (by omega)).1,(QZ (p:=p) (by omega)).2.1⟩
structure DK (c:Cfg)(stk:List Int)(pr:Int→Prop)(F:List Int)(n:Int)(y:GW Zm):Prop where
 gd:Gd c n (cnt2 (y.tasks.map kSo)) (cnt2 (y.tasks.map kLo)) F (sx stk pr c y.s.1 y.s.2 y.m) [] []
 td:∀(j:Nat) (k:Zm),y.tasks[j]? = some (some k)→KD c j (sx stk pr c y.s.1 y.s.2 y.m) k
 fresh:∀(j:Nat) (k:Zm) (se:Sea),y.tasks[j]? = some (some k)→y.m.seats[j]? = some se→se.ready=false→K0 k
section
variable {c:Cfg}{Lg S N:Nat}{h:Haz}{a:Are}{m:Mch}
variable {n:Int}{Z Y:Int→Nat}{F stk:List Int}{pr:Int→Prop}{K L:List Int}{t:Nat}{W:Int→Prop}
theorem kcount {tasks:List (Option Zm)}(f:Option Zm→List Int)(f0:f none=[]){t:Nat}{o:Option Zm}(h:tasks[t]? = some o)(s:Int) :
  cnt2 (tasks.map f) s=cnt2 ((tasks.set t none).map f) s+(f o).count s:=by
 have h1:(tasks.map f)[t]? = some (f o):=by rw[Ym,h];rfl
 have:=cnt2_set [] s h1
 rw[Yk,f0]
 simp only[List.count_nil]at this
 omega
theorem Gd.kfocus {x:Sx}{tasks:List (Option Zm)}{t:Nat}{o:Option Zm}(G:Gd c n (cnt2 (tasks.map kSo)) (cnt2 (tasks.map kLo)) F x [] [])(h:tasks[t]? = some o) :
  Gd c n (cnt2 ((tasks.set t none).map kSo)) (cnt2 ((tasks.set t none).map kLo)) F x (kSo o) (kLo o):=by
 refine⟨fun s => ?_,G.stF,G.stC,G.stX,G.stL,fun s hs=>G.stZ s ?_,G.chain,G.hd0,G.tag,fun r r0 r1 => ?_,G.act1,G.pr1,G.pr2,G.stK,G.lk⟩
 ·have:=G.tot s
  rw[kcount kSo rfl h s]at this
  simp only[List.count_nil]at this
  omega
 ·rw[kcount kSo rfl h s];omega
 ·have:=G.rcd r r0 r1
  rw[kcount kLo rfl h r]at this
  simp only[List.count_nil]at this
  omega
theorem Gd.kunfocus {x:Sx}{tasks:List (Option Zm)}{t:Nat}{o:Option Zm}(h:t<tasks.length)(G:Gd c n (cnt2 ((tasks.set t none).map kSo)) (cnt2 ((tasks.set t none).map kLo)) F x (kSo o) (kLo o))
  (hst:∀s∈kSo o,(x.sl s).state=2∨(x.sl s).state=4∨(x.sl s).state=5):Gd c n (cnt2 ((tasks.set t o).map kSo)) (cnt2 ((tasks.set t o).map kLo)) F x [] []:=by
 have ht:(tasks.set t o)[t]? = some o:=Ye h
 have e1:=kcount kSo rfl ht
 have e2:=kcount kLo rfl ht
 rw[Yl]at e1 e2
 refine⟨fun s => ?_,G.stF,G.stC,G.stX,G.stL,fun s hs => ?_,G.chain,G.hd0,G.tag,fun r r0 r1 => ?_,G.act1,G.pr1,G.pr2,G.stK,G.lk⟩
 ·have:=G.tot s
  rw[e1 s]
  simp only[List.count_nil]
  omega
 ·rw[e1 s]at hs
  by_cases h0:0<cnt2 ((tasks.set t none).map kSo) s
  ·exact G.stZ s h0
  ·exact hst s (List.count_pos_iff.1 (by omega))
 ·have:=G.rcd r r0 r1
  rw[e2 r]
  simp only[List.count_nil]
  omega
theorem kd_made {mv:Mv}{k:Zm}(C:Core c Lg S N h a m)(ht:(t:Int)<c.T)(hk:sTask (h,a) t mv=some k):K0 k∧KD c t (sx stk pr c h a m) k:=by
 have ho:=sTask_op hk
 cases k with
 | hz k=>
  unfold sTask at hk
  rw[if_neg (by intro h;rcases h with h|h;exact ho.1 h;exact ho.2 h)]at hk
  cases hq:Z9 (h,a) t mv with
  | none=>rw[hq]at hk;cases hk
  | some q=>
   rw[hq]at hk
   cases hk
   obtain⟨m1,m2,m3⟩:=made_td (stk:=stk) (pr:=pr) C ht hq
   exact⟨⟨m1,m2⟩,m3⟩
 | psh p=>exact⟨ho.2.2,⟨fun hf=>by have:=ho.2.2;omega,fun hf=>by have:=ho.2.2;omega,fun hf=>by have:=ho.2.2;omega,fun hf=>by have:=ho.2.2;omega⟩⟩
 | pop p=>exact⟨ho.2,pod_vac (.inl ho.2)⟩
theorem kds_of {k:Zm}{rdy:Bool}(C:Core c Lg S N h a m)(ht:(t:Int)<c.T)(I:SI c t rdy (h.held.getD t 0) (a.caches.getD t []) k)(hf:rdy=false→K0 k):KDs c t (sx stk pr c h a m) k:=by
 cases k with
 | hz k=>exact(TkS.of I hf).2
 | psh p=>
  obtain⟨_,i2,i3⟩:=I
  intro h1 h3
  cases rdy with
  | false=>rw[i2 rfl]at h3;simp at h3
  | true=>exact(((i3 rfl).tk h1).head (by omega)).2.1
 | pop p=>
  obtain⟨i1,i2,i3⟩:=I
  obtain⟨r1,_⟩:=C.hget ht
  have hlt:t<h.held.length:=by rw[C.held];omega
  have hh:h.held[t]? = some (h.held.getD t 0):=by rw[Yb,Yd hlt];rfl
  refine⟨⟨h.held.getD t 0,hh,i2,r1⟩,fun s hs => ?_⟩
  have h9:p.stage=9:=by
   unfold poSc at hs
   split at hs
   ·assumption
   ·cases hs
  cases rdy with
  | false=>have:p.stage=0:=hf rfl;omega
  | true=>
   obtain⟨r,sc,e1,e2,e3,e4⟩:=(i3 rfl).ret h9
   rw[(kS_pop9 h9 e1 e2).2.2]at hs
   cases hs
   exact e3.rec0
theorem sk_rdy_kd {i:Nat}{cl:Cll}{se:Sea}{k:Zm}(C:Core c Lg S N h a m)(ht:(t:Int)<c.T)(hm:m.thread=(t:Int))(I:SI c t false (h.held.getD t 0) (a.caches.getD t []) k)(h0:K0 k)
  (G:Gd c n Z Y F (sx stk pr c h a m) (kS k) (kL k)) (D:KD c t (sx stk pr c h a m) k):KP stk stk c n Z Y pr h a m t (QV (h,a) m i t cl se k):=by
 cases k with
 | hz k=>
  obtain⟨pr',F',q1,q2,q3⟩:=ready_gd (i:=i) (cl:=cl) (se:=se) C ht hm I h0 G D
  exact⟨pr',F',q1.mono (by omega),q2.weaken (fun _ h=>h.1),q3⟩
 | psh p=>
  obtain⟨i1,i2,i3⟩:=I
  exact psh_rdy C ht hm (i2 rfl) (K0.nil (k:=.psh p) h0).1 G
 | pop p=>
  have h0:p.stage=0:=h0
  obtain⟨y1,y2,_⟩:=QZ (p:=p) (by omega)
  rw[y1,y2]at G
  obtain⟨z1,z2,_⟩:=QZ (p:={ p with stage:=1 }) (by simp)
  refine⟨pr,F,?_,Rl.refl ..,fun _=>pod_vac (.inr (.inl rfl))⟩
  simp only[QV,Yn,if_false]
  rw[z1,z2]
  exact G
theorem sk_stp_kd {i:Nat}{cl:Cll}{se:Sea}{k:Zm}(C:Core c Lg S N h a m)(hN:N<1000000)(ht:(t:Int)<c.T)(hm:m.thread=(t:Int))(I:SI c t true (h.held.getD t 0) (a.caches.getD t []) k)(hn:n<4294967295)
  (G:Gd c n Z Y F (sx stk pr c h a m) (kS k) (kL k)) (D:KD c t (sx stk pr c h a m) k):KP stk (Q4 c m stk k) c (n+1) Z Y pr h a m t (Qm (h,a) m i t cl se k):=by
 cases k with
 | hz k=>
  obtain⟨pr',F',q1,q2,q3⟩:=step_gd (i:=i) (cl:=cl) (se:=se) C hN ht hm I hn G D
  exact⟨pr',F',q1,q2.weaken (fun _ h=>h.1),q3⟩
 | psh p=>
  obtain⟨i1,i2,i3⟩:=I
  exact psh_kd C hm (i3 rfl) hn G D
 | pop p=>
  obtain⟨i1,i2,i3⟩:=I
  exact pop_kd C ht hm i1 i2 (i3 rfl) hn G D
end
section
variable {c:Cfg}{n:Nat}{y:GW Zm}{F stk:List Int}{pr:Int→Prop}{bh ba:Nat}{CX:Zc}{t i:Nat}{cl:Cll}{se:Sea}{k:Zm}{r1 r2:GR Zm}
def stkOf (c:Cfg)(stk:List Int)(r1:GR Zm):List Int:=if r1.1=true then stk else Q4 c r1.2.2.1 stk r1.2.2.2
theorem DK.tick (D:DK c stk pr F n y):DK c stk pr F ((n+1:Nat):Int) y.tick:=⟨D.gd.mono (by omega),D.td,D.fresh⟩
theorem DK.begin {mv:Mv}{v vc:Value}(D:DK c stk pr F n y)(P:PG (SI c) c n y)(htT:(t:Int)<c.T)(hk:y.tasks[t]? = some none)(hm:sTask y.s t mv=some k) :
  DK c stk pr F ((n+1:Nat):Int) ⟨y.s,ZC y.m t mv v vc,y.tasks.set t (some k)⟩:=by
 have hlt:=(List.getElem?_eq_some_iff.1 hk).1
 have hx:sx stk pr c y.s.1 y.s.2 (ZC y.m t mv v vc)=sx stk pr c y.s.1 y.s.2 y.m:=ZO rfl
 obtain⟨m0,m3⟩:=kd_made (stk:=stk) (pr:=pr) P.core htT hm
 obtain⟨m1,m2⟩:=m0.nil
 refine⟨?_,?_,?_⟩
 ·refine Gd.mono (n:=n) ?_ (by omega)
  refine Gd.kunfocus (o:=some k) hlt ?_ (fun s hs=>by rw[show kSo (some k)=kS k from rfl,m1]at hs;simp at hs)
  have:=D.gd.kfocus hk
  rw[show kSo (some k)=kS k from rfl,show kLo (some k)=kL k from rfl,m1,m2,hx]
  exact this
 ·intro j kj hkj
  simp only[]at hkj
  rw[show(⟨y.s,ZC y.m t mv v vc,y.tasks.set t (some k)⟩:GW Zm).m=ZC y.m t mv v vc from rfl,hx]
  by_cases hj:j=t
  ·subst hj
   rw[Ye hlt]at hkj
   cases hkj;exact m3
  ·rw[ZX hj]at hkj
   exact D.td j kj hkj
 ·intro j kj se hkj hse hf
  simp only[ZC]at hkj hse
  by_cases hj:j=t
  ·subst hj
   rw[Ye hlt]at hkj
   cases hkj;exact m0
  ·rw[ZX hj]at hkj hse
   exact D.fresh j kj se hkj hse hf
structure DStep (c:Cfg)(n:Nat)(stk:List Int)(pr:Int→Prop)(y:GW Zm)(t i:Nat)(k:Zm)(r1 r2:GR Zm):Prop where
 ex:∃(Z Y:Int→Nat) (F0:List Int) (pr1:Int→Prop) (F1:List Int) (pr2:Int→Prop) (F2:List Int),
  Z=cnt2 ((y.tasks.set t none).map kSo) ∧
  Gd c n Z Y F0 (sx stk pr c y.s.1 y.s.2 y.m) (kS k) (kL k)∧KD c t (sx stk pr c y.s.1 y.s.2 y.m) k ∧
  Gd c n Z Y F1 (sx stk pr1 c r1.2.1.1 r1.2.1.2 r1.2.2.1) (if r1.1=true then [] else kS r1.2.2.2) (if r1.1=true then [] else kL r1.2.2.2)∧(r1.1=false→KD c t (sx stk pr1 c r1.2.1.1 r1.2.1.2 r1.2.2.1) r1.2.2.2) ∧
  Rl Z t (Own c t (sx stk pr c y.s.1 y.s.2 y.m)) (sx stk pr c y.s.1 y.s.2 y.m) (sx stk pr1 c r1.2.1.1 r1.2.1.2 r1.2.2.1) ∧
  Rl Z t (Own c t (sx stk pr c y.s.1 y.s.2 y.m)) (sx stk pr1 c r1.2.1.1 r1.2.1.2 r1.2.2.1) (sx (stkOf c stk r1) pr2 c r2.2.1.1 r2.2.1.2 r2.2.2.1) ∧
  DK c (stkOf c stk r1) pr2 F2 ((n+1:Nat):Int) (QY y t i r2)
theorem DK.step (D:DK c stk pr F n y)(hn:n<65536)(P:PG (SI c) c n y)(G:GStep (skT bh ba CX) (SI c) c n y t i cl se k r1 r2):DStep c n stk pr y t i k r1 r2:=by
 have hlt:=(List.getElem?_eq_some_iff.1 G.hse).1
 have hltk:=(List.getElem?_eq_some_iff.1 G.hk).1
 have hok:=P.core.ok
 have hx0:sx stk pr c y.s.1 y.s.2 (QC y t i se)=sx stk pr c y.s.1 y.s.2 y.m:=ZO rfl
 have G0:=D.gd.kfocus G.hk
 have D0:=D.td t k G.hk
 have G0':=G0
 have D0':=D0
 rw[←hx0]at G0 D0
 generalize hZ:cnt2 ((y.tasks.set t none).map kSo)=Z at G0 G0'
 generalize hY:cnt2 ((y.tasks.set t none).map kLo)=Y at G0 G0'
 have E1:KP stk stk c n Z Y pr y.s.1 y.s.2 (QC y t i se) t r1:=by
  rcases G.rdy with⟨hf,e⟩|⟨_,e⟩
  ·have hI:=G.i0
   rw[hf]at hI
   rw[e]
   exact sk_rdy_kd G.c0 G.htT rfl hI (D.fresh t k se G.hk G.hse hf) G0 D0
  ·rw[e]
   exact⟨pr,F,by simp only[Yn,if_false];exact G0,Rl.refl ..,fun _=>D0⟩
 obtain⟨pr1,F1,q1,q2,q3⟩:=E1
 have hth1:r1.2.2.1.thread=(t:Int):=G.h1.frame.thread
 have hhe:r1.2.1.1.held=y.s.1.held:=by
  rcases G.rdy with⟨hf,e⟩|⟨_,e⟩
  ·rw[e]
   cases k with
   | hz k=>cases k<;>rfl
   | psh p=>rfl
   | pop p=>rfl
  ·rw[e]
 have hOw:∀j,Own c t (sx stk pr1 c r1.2.1.1 r1.2.1.2 r1.2.2.1) j→Own c t (sx stk pr c y.s.1 y.s.2 y.m) j:=fun j hj=>hj.he (by show y.s.1.held[t]? = r1.2.1.1.held[t]?;rw[hhe])
 have E2:∃(pr2:Int→Prop) (F2:List Int),Gd c (n+1) Z Y F2 (sx (stkOf c stk r1) pr2 c r2.2.1.1 r2.2.1.2 r2.2.2.1) (if r2.1=true then [] else kS r2.2.2.2) (if r2.1=true then [] else kL r2.2.2.2) ∧
   Rl Z t (Own c t (sx stk pr c y.s.1 y.s.2 y.m)) (sx stk pr1 c r1.2.1.1 r1.2.1.2 r1.2.2.1) (sx (stkOf c stk r1) pr2 c r2.2.1.1 r2.2.1.2 r2.2.2.1)∧(r2.1=false→KD c t (sx (stkOf c stk r1) pr2 c r2.2.1.1 r2.2.1.2 r2.2.2.1) r2.2.2.2):=by
  rcases G.stp with⟨hb,e⟩|⟨hb,z1,q1',v1,hcu,e⟩
  ·have hs:stkOf c stk r1=stk:=by unfold stkOf;rw[if_pos hb]
   rw[hs,e]
   exact⟨pr1,F1,q1.mono (by omega),Rl.refl ..,q3⟩
  ·have hs:stkOf c stk r1=Q4 c r1.2.2.1 stk r1.2.2.2:=by unfold stkOf;rw[if_neg (by simp[hb])]
   rw[hs]
   rw[if_neg (by simp[hb]),if_neg (by simp[hb])]at q1
   have X:=sk_stp_kd (i:=i) (cl:={ cl with point:=z1 }) (se:={ se with ready:=true,kind:=q1',value:=v1 }) G.h1.core (by omega) G.htT hth1 (G.h1.fin hb) (by omega) q1 (q3 hb)
   have e':r2=Qm (r1.2.1.1,r1.2.1.2) r1.2.2.1 i t { cl with point:=z1 } { se with ready:=true,kind:=q1',value:=v1 } r1.2.2.2:=e
   rw[←e']at X
   obtain⟨pr2,F2,x1,x2,x3⟩:=X
   exact⟨pr2,F2,x1,x2.weaken hOw,x3⟩
 obtain⟨pr2,F2,x1,x2,x3⟩:=E2
 rw[hx0]at q2
 refine⟨Z,Y,F,pr1,F1,pr2,F2,hZ.symm,G0',D0',q1,q3,q2,x2,?_⟩
 have R:=q2.trans x2
 obtain⟨z,q,v,O⟩:=G.out P
 have hx1:sx (stkOf c stk r1) pr2 c r2.2.1.1 r2.2.1.2 (QY y t i r2).m=sx (stkOf c stk r1) pr2 c r2.2.1.1 r2.2.1.2 r2.2.2.1:=ZO (by rw[O.mem])
 refine⟨?_,?_,?_⟩
 ·rw[show(QY y t i r2).s=r2.2.1 from rfl,hx1,show(QY y t i r2).tasks=y.tasks.set t (if r2.1=true then none else some r2.2.2.2) from rfl]
  refine Gd.kunfocus hltk ?_ ?_
  ·rw[hZ,hY]
   by_cases hb:r2.1=true
   ·rw[if_pos hb,if_pos hb]at x1
    rw[if_pos hb];exact x1.mono (by omega)
   ·rw[if_neg hb,if_neg hb]at x1
    rw[if_neg hb];exact x1.mono (by omega)
  ·intro s hs
   by_cases hb:r2.1=true
   ·rw[if_pos hb]at hs;simp[kSo]at hs
   ·rw[if_neg hb]at hs
    exact(x3 (by simpa using hb)).st s hs
 ·intro j kj hkj
  rw[show(QY y t i r2).s=r2.2.1 from rfl,hx1]
  have hkj:(y.tasks.set t (if r2.1=true then none else some r2.2.2.2))[j]? = some (some kj):=hkj
  by_cases hj:j=t
  ·subst hj
   rw[Ye hltk]at hkj
   by_cases hb:r2.1=true
   ·rw[if_pos hb]at hkj;cases hkj
   ·rw[if_neg hb]at hkj
    cases hkj
    exact x3 (by simpa using hb)
  ·rw[ZX hj]at hkj
   have hp5:=P.seats
   have hp4:=P.tasks
   have hjl:=(List.getElem?_eq_some_iff.1 hkj).1
   have hjT:j<y.m.seats.length:=by omega
   have hjT2:(j:Int)<c.T:=by have:=hok.T1;omega
   obtain⟨_,I2⟩:=P.task j kj _ hkj (Yd hjT)
   have T2:=kds_of (stk:=stk) (pr:=pr) P.core hjT2 I2 (fun hf=>D.fresh j kj _ hkj (Yd hjT) hf)
   refine(D.td j kj hkj).rely hok R hj T2 (fun s hs => ?_) (fun w h1 h2=>hj (own_two G0' hok h1 h2))
   rw[←hZ]
   refine cnt2_at (i:=j) (l:=kS kj) ?_ hs
   rw[Ym,ZX hj,hkj];rfl
 ·intro j kj sj hkj hsj hf
  have hkj:(y.tasks.set t (if r2.1=true then none else some r2.2.2.2))[j]? = some (some kj):=hkj
  rw[O.seats]at hsj
  by_cases hj:j=t
  ·subst hj
   rw[Ye hltk]at hkj
   rw[Ye hlt]at hsj
   by_cases hb:r2.1=true
   ·rw[if_pos hb]at hkj;cases hkj
   ·rw[if_neg hb]at hsj
    cases hsj
    cases hf
  ·rw[ZX hj]at hkj hsj
   exact D.fresh j kj sj hkj hsj hf
end
end
section
theorem fill_ge {ws:List Int}{b:Int}(hb:0≤b):∀(n:Nat) (i:Nat),(∀k:Nat,k<n→(i:Int)≠b+k)→(fillW ws b 0 n).getD i 0=ws.getD i 0
 | 0,i,_=>rfl
 | n+1,i,h=>by
  simp only[fillW,Yb]
  have h1:=h n (by omega)
  rw[ZX (by omega),←Yb,←Yb]
  exact fill_ge hb n i fun k hk=>h k (by omega)
theorem fill_lt {ws:List Int}{b:Int}(hb:0≤b):∀(n:Nat) (k:Nat),k<n→(b+k).toNat<ws.length→(fillW ws b 0 n).getD (b+k).toNat 0=(k:Int)+2
 | 0,k,h,_=>by omega
 | n+1,k,h,hl=>by
  simp only[fillW,Yb]
  by_cases e:k=n
  ·subst e
   rw[show 0+k=k by omega,Ye (by rw[fillW_len];exact hl)]
   simp
  ·rw[ZX (by omega),←Yb]
   exact fill_lt hb n k (by omega) hl
def seqF (k:Int):Nat→List Int
 | 0=>[]
 | n+1=>k::seqF (k+1) n
theorem seqF_count (s:Int):∀(n:Nat) (k:Int),(seqF k n).count s=ind (k≤s∧s<k+n)
 | 0,k=>by rw[ind_neg (by omega)];rfl
 | n+1,k=>by
  simp only[seqF,List.count_cons,seqF_count s n (k+1)]
  by_cases e:k=s
  ·subst e
   rw[ind_neg (by omega),ind_pos (by omega)];simp
  ·have:(k==s)=false:=by simpa using e
   rw[this]
   by_cases h:k+1≤s∧s<k+1+n
   ·rw[ind_pos h,ind_pos (by omega)];rfl
   ·rw[ind_neg h,ind_neg (by omega)];rfl
theorem seqF_mem {s:Int}:∀ {n:Nat} {k:Int},s∈seqF k n→k≤s∧s<k+n
 | 0,k,h=>by simp[seqF]at h
 | n+1,k,h=>by
  rcases List.mem_cons.1 h with rfl|h
  ·omega
  ·have:=seqF_mem h;omega
theorem seqF_chain {nx:Int→Int}{E:Int}(h1:∀s,0≤s→s+1<E→nx s=s+2)(h2:nx (E-1)=0):∀(n:Nat) (k:Int),0≤k→k+n=E→0<n→Chain nx (k+1) (seqF k n)
 | 0,k,_,_,h=>by omega
 | n+1,k,k0,he,_=>by
  refine⟨rfl,k0,?_⟩
  cases n with
  | zero=>
   have:k=E-1:=by omega
   show Chain nx (nx k) []
   rw[this,h2];rfl
  | succ n=>
   rw[h1 k k0 (by omega),show k+2=(k+1)+1 by omega]
   exact seqF_chain h1 h2 (n+1) (k+1) (by omega) (by omega) (by omega)
theorem mv0 {c:Cfg}(hok:c.Ok){m:Mch}(hw:m.mem.words=firstW c 0) :
  (mv c m).hd=1∧(mv c m).cell=0∧(mv c m).top=0∧(∀s,0≤s→s+1<c.Sl→(mv c m).nx s=s+2)∧(mv c m).nx (c.Sl-1)=0∧(∀r,(mv c m).act r=0)∧∀j,(mv c m).hz j=0:=by
 have hS:=hok.S1
 have hR:=hok.R1
 obtain⟨b1,b2,b8,b9,b10,b11,b12,b13,b14,rh,rh2,b3⟩:=QI hok
 obtain⟨a1,a2,a3,a8,a9,a10,a11,a13⟩:=adrs hok
 have hl:0<(base c 14).toNat:=by omega
 have hwd:∀i:Nat,m.word i=(fillW ((List.replicate (base c 14).toNat (0:Int)).set 0 1) (base c 10) 0 (c.Sl.toNat-1)).getD i 0:=by
  intro i
  unfold Mch.word
  rw[hw]
  simp only[firstW]
  rw[if_neg (by omega),if_pos (by show((0:Nat):Int)<c.Sl;omega)]
  rfl
 have hz:∀i:Nat,i≠0→((List.replicate (base c 14).toNat (0:Int)).set 0 1).getD i 0=0:=by
  intro i hi
  rw[Yb,ZX hi,List.getElem?_replicate]
  split<;>rfl
 have h0:∀i:Nat,i≠0→((i:Int)<base c 10∨base c 10+c.Sl≤i+1)→m.word i=0:=by
  intro i hi hi2
  rw[hwd i,fill_ge (by omega) _ _ (fun k hk=>by omega)]
  exact hz i hi
 refine⟨?_,?_,?_,?_,?_,?_,?_⟩
 ·show m.word (adr c 1 0)=1
  have:adr c 1 0=0:=by omega
  rw[this,hwd 0,fill_ge (by omega) _ _ (fun k hk=>by omega)]
  rw[Yb,Ye (by simp;omega)];rfl
 ·show m.word (adr c 2 0)=0
  exact h0 _ (by omega) (.inl (by omega))
 ·show m.word (adr c 3 0)=0
  exact h0 _ (by omega) (.inl (by omega))
 ·intro s s0 s1
  rw[nx_at s0 (by omega)]
  have e:adr c 10 s=(base c 10+(s.toNat:Int)).toNat:=by unfold adr;congr 1;omega
  rw[hwd,e,fill_lt (by omega) _ _ (by omega) (by simp;omega)]
  omega
 ·rw[nx_at (by omega) (by omega)]
  have:=a10 (c.Sl-1) (by omega)
  exact h0 _ (by omega) (.inr (by omega))
 ·intro r
  show(if 0≤r∧r<c.R then m.word (adr c 8 r) else 0)=0
  split
  ·rename_i h
   have:=a8 r h.1
   exact h0 _ (by omega) (.inl (by omega))
  ·rfl
 ·intro r
  show(if 0≤r∧r<c.R*c.Hz then m.word (adr c 9 r) else 0)=0
  split
  ·rename_i h
   have:=a9 r h.1
   exact h0 _ (by omega) (.inl (by omega))
  ·rfl
theorem kcnt2_none (f:Option Zm→List Int)(f0:f none=[])(n:Nat)(s:Int):cnt2 ((List.replicate n (none:Option Zm)).map f) s=0:=by
 rw[List.map_replicate,f0];exact cnt2_nils s n
theorem DK.start {c:Cfg}(hok:c.Ok)(km:Nat)(vs:Value):DK c [] (fun _=>False) (seqF 0 c.Sl.toNat) (0:Nat) (gst0 Zm c km vs):=by
 have hS:=hok.S1
 obtain⟨w1,w2,w2',w3,w4,w5,w6⟩:=mv0 hok (m:=(gst0 Zm c km vs).m) rfl
 have hsl:∀s,0≤s→s<c.Sl→(are0 c).sl s=⟨0,-1⟩:=by
  intro s s0 s1
  unfold Are.sl are0
  rw[if_pos s0]
  simp only[Yb,List.getElem?_replicate]
  rw[if_pos (by omega)];rfl
 have hTS:∀s,cnt2 ((gst0 Zm c km vs).tasks.map kSo) s=0:=fun s=>kcnt2_none kSo rfl _ s
 have hTL:∀s,cnt2 ((gst0 Zm c km vs).tasks.map kLo) s=0:=fun s=>kcnt2_none kLo rfl _ s
 have hno:∀(t:Nat) (k:Zm),(gst0 Zm c km vs).tasks[t]? = some (some k)→False:=by
  intro t k hk
  simp only[gst0,List.getElem?_replicate]at hk
  split at hk<;>simp at hk
 refine⟨⟨?_,?_,?_,?_,?_,?_,?_,?_,?_,?_,?_,fun j hf=>hf.elim,?_,fun s hs=>by simp[sx]at hs,w2'⟩,fun t k hk=>(hno t k hk).elim,fun t k se hk=>(hno t k hk).elim⟩
 ·intro s
  rw[hTS,seqF_count]
  show _+cnt2 (List.replicate c.T.toNat []) s+0+0+ind (0≤s∧(mv c (gst0 Zm c km vs).m).cell=s+1)+cnt2 (List.replicate c.R.toNat []) s+0=_
  rw[cnt2_nils,cnt2_nils,w2,ind_neg (p:=0≤s∧(0:Int)=s+1) (by omega)]
  by_cases h:0≤s∧s<c.Sl
  ·rw[ind_pos h,ind_pos (p:=0≤s∧s<0+(c.Sl.toNat:Int)) (by omega)]
  ·rw[ind_neg h,ind_neg (p:=0≤s∧s<0+(c.Sl.toNat:Int)) (by omega)]
 ·intro s hs
  have:=seqF_mem hs
  show((are0 c).sl s).state=0
  rw[hsl s (by omega) (by omega)]
 ·intro t y hy s hs
  have:y=[]:=(List.mem_replicate.1 (Yc hy)).2
  subst this;simp at hs
 ·intro s s0 h
  have h:(mv c (gst0 Zm c km vs).m).cell=s+1:=h
  omega
 ·intro l hl s hs
  have:l=[]:=(List.mem_replicate.1 hl).2
  subst this;simp at hs
 ·intro s hs
  rw[hTS]at hs;omega
 ·show Chain (mv c (gst0 Zm c km vs).m).nx ((mv c (gst0 Zm c km vs).m).hd%4294967296) _
  rw[w1]
  exact seqF_chain w3 w4 c.Sl.toNat 0 (by omega) (by omega) (by omega)
 ·show 0≤(mv c (gst0 Zm c km vs).m).hd;omega
 ·show(mv c (gst0 Zm c km vs).m).hd / 4294967296≤_;omega
 ·intro r r0 r1
  rw[hTL]
  show(((List.replicate c.T.toNat (-1:Int)).count r+0+0:Nat):Int)=(mv c (gst0 Zm c km vs).m).act r
  rw[w5]
  have:(List.replicate c.T.toNat (-1:Int)).count r=0:=List.count_eq_zero.2 (fun h=>by have:=(List.mem_replicate.1 h).2;omega)
  omega
 ·intro r r0 r1
  exact .inl (w5 r)
 ·intro j j0 j1 h
  have h:1≤(mv c (gst0 Zm c km vs).m).hz j:=h
  rw[w6]at h;omega
end
end Go.Proofs.YtjagadldibbbbaaGreat
