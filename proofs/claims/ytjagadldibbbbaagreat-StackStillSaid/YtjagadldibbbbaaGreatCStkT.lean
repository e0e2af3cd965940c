/-
  Any moves, with a stack beside the hazards, keep each slot in one place.
-/
import Derived.Test.YtjagadldibbbbaaGreatCQs3
import Derived.Test.YtjagadldibbbbaaGreatCEvq
import Derived.Test.YtjagadldibbbbaaGreatCStkR3
set_option linter.all false
namespace Go.Proofs.YtjagadldibbbbaaGreat
open Go.RowKit Hp
set_option maxRecDepth 100000
set_option maxHeartbeats 1000000
attribute [local irreducible] Go.Calls
section
def K0:Zt→Prop
 | .hz k=>hS k=[]∧hL k=[]
 | .psh p=>p.stage=0
 | .pop p=>p.stage=0
theorem K0.nil {k:Zt}(h:K0 k):kS k=[]∧kL k=[]:=by
 cases k with
 | hz k=>exact h
 | psh p=>exact⟨kS_psh0 (.inl h),rfl⟩
 | pop p=>have h:p.stage=0:=h;exact⟨(QR (p:=p) (by omega)).1,(QR (p:=p) (by omega)).2.1⟩
structure DK (c:Cfg)(stk:List Int)(pr:Int→Prop)(F:List Int)(n:Int)(y:GW Zt):Prop where
 gd:Gd c n (cnt2 (y.tasks.map kSo)) (cnt2 (y.tasks.map kLo)) F (sx stk pr c y.s.1 y.s.2 y.m) [] []
 td:∀(j:Nat) (k:Zt),y.tasks[j]? = some (some k)→KD c j (sx stk pr c y.s.1 y.s.2 y.m) k
 fresh:∀(j:Nat) (k:Zt) (se:Sea),y.tasks[j]? = some (some k)→y.m.seats[j]? = some se→se.ready=false→K0 k
section
variable {c:Cfg}{Lg S N:Nat}{h:Haz}{a:Are}{m:Mch}
variable {n:Int}{Z Y:Int→Nat}{F stk:List Int}{pr:Int→Prop}{K L:List Int}{t:Nat}{W:Int→Prop}
theorem kcount {tasks:List (Option Zt)}(f:Option Zt→List Int)(f0:f none=[]){t:Nat}{o:Option Zt}(h:tasks[t]? = some o)(s:Int) :
  cnt2 (tasks.map f) s=cnt2 ((tasks.set t none).map f) s+(f o).count s:=by
 have h1:(tasks.map f)[t]? = some (f o):=by rw[Ym,h];rfl
 have:=cnt2_set [] s h1
 rw[Yk,f0]
 simp only[List.count_nil]at this
 omega
theorem Gd.kfocus {x:Sx}{tasks:List (Option Zt)}{t:Nat}{o:Option Zt}(G:Gd c n (cnt2 (tasks.map kSo)) (cnt2 (tasks.map kLo)) F x [] [])(h:tasks[t]? = some o) :
  Gd c n (cnt2 ((tasks.set t none).map kSo)) (cnt2 ((tasks.set t none).map kLo)) F x (kSo o) (kLo o):=by
 refine⟨fun s => ?_,G.stF,G.stC,G.stX,G.stL,fun s hs=>G.stZ s ?_,G.chain,G.hd0,G.tag,fun r r0 r1 => ?_,G.act1,G.pr1,G.pr2,G.stK,G.lk⟩
 ·have:=G.tot s
  rw[kcount kSo rfl h s]at this
  simp only[List.count_nil]at this
  omega
 ·rw[kcount kSo rfl h s];omega
 ·have:=G.rcd r r0 r1
  rw[kcount kLo rfl h r]at this
  simp only[List.count_nil]at this
  omega
theorem Gd.kunfocus {x:Sx}{tasks:List (Option Zt)}{t:Nat}{o:Option Zt}(h:t<tasks.length)(G:Gd c n (cnt2 ((tasks.set t none).map kSo)) (cnt2 ((tasks.set t none).map kLo)) F x (kSo o) (kLo o))
  (hst:∀s∈kSo o,(x.sl s).state=2∨(x.sl s).state=4∨(x.sl s).state=5):Gd c n (cnt2 ((tasks.set t o).map kSo)) (cnt2 ((tasks.set t o).map kLo)) F x [] []:=by
 have ht:(tasks.set t o)[t]? = some o:=Ye h
 have e1:=kcount kSo rfl ht
 have e2:=kcount kLo rfl ht
 rw[Yl]at e1 e2
 refine⟨fun s => ?_,G.stF,G.stC,G.stX,G.stL,fun s hs => ?_,G.chain,G.hd0,G.tag,fun r r0 r1 => ?_,G.act1,G.pr1,G.pr2,G.stK,G.lk⟩
 ·have:=G.tot s
  rw[e1 s]
  simp only[List.count_nil]
  omega
 ·rw[e1 s]at hs
  by_cases h0:0<cnt2 ((tasks.set t none).map kSo) s
  ·exact G.stZ s h0
  ·exact hst s (List.count_pos_iff.1 (by omega))
 ·have:=G.rcd r r0 r1
  rw[e2 r]
  simp only[List.count_nil]
  omega
theorem kd_made {mv:Mv}{k:Zt}(C:Core c Lg S N h a m)(ht:(t:Int)<c.T)(hk:sTask (h,a) t mv=some k):K0 k∧KD c t (sx stk pr c h a m) k:=by
 have ho:=sTask_op hk
 cases k with
 | hz k=>
  unfold sTask at hk
  rw[if_neg (by intro h;rcases h with h|h;exact ho.1 h;exact ho.2 h)]at hk
  cases hq:Z0 (h,a) t mv with
  | none=>rw[hq]at hk;cases hk
  | some q=>
   rw[hq]at hk
   cases hk
   obtain⟨m1,m2,m3⟩:=made_td (stk:=stk) (pr:=pr) C ht hq
   exact⟨⟨m1,m2⟩,m3⟩
 | psh p=>exact⟨ho.2.2,⟨fun hf=>by have:=ho.2.2;omega,fun hf=>by have:=ho.2.2;omega,fun hf=>by have:=ho.2.2;omega,fun hf=>by have:=ho.2.2;omega⟩⟩
 | pop p=>exact⟨ho.2,pod_vac (.inl ho.2)⟩
theorem kds_of {k:Zt}{rdy:Bool}(C:Core c Lg S N h a m)(ht:(t:Int)<c.T)(I:SI c t rdy (h.held.getD t 0) (a.caches.getD t []) k)(hf:rdy=false→K0 k):KDs c t (sx stk pr c h a m) k:=by
 cases k with
 | hz k=>exact(TkS.of I hf).2
 | psh p=>
  obtain⟨_,i2,i3⟩:=I
  intro h1 h3
  cases rdy with
  | false=>rw[i2 rfl]at h3;simp at h3
  | true=>exact(((i3 rfl).tk h1).head (by omega)).2.1
 | pop p=>
  obtain⟨i1,i2,i3⟩:=I
  obtain⟨r1,_⟩:=C.hget ht
  have hlt:t<h.held.length:=by rw[C.held];omega
  have hh:h.held[t]? = some (h.held.getD t 0):=by rw[Yb,Yd hlt];rfl
  refine⟨⟨h.held.getD t 0,hh,i2,r1⟩,fun s hs => ?_⟩
  have h9:p.stage=9:=by
   unfold poSc at hs
   split at hs
   ·assumption
   ·cases hs
  cases rdy with
  | false=>have:p.stage=0:=hf rfl;omega
  | true=>
   obtain⟨r,sc,e1,e2,e3,e4⟩:=(i3 rfl).ret h9
   rw[(kS_pop9 h9 e1 e2).2.2]at hs
   cases hs
   exact e3.rec0
theorem sk_rdy_kd {i:Nat}{cl:Cll}{se:Sea}{k:Zt}(C:Core c Lg S N h a m)(ht:(t:Int)<c.T)(hm:m.thread=(t:Int))(I:SI c t false (h.held.getD t 0) (a.caches.getD t []) k)(h0:K0 k)
  (G:Gd c n Z Y F (sx stk pr c h a m) (kS k) (kL k)) (D:KD c t (sx stk pr c h a m) k):KP stk stk c n Z Y pr h a m t (QQ (h,a) m i t cl se k):=by
 cases k with
 | hz k=>
  obtain⟨pr',F',q1,q2,q3⟩:=ready_gd (i:=i) (cl:=cl) (se:=se) C ht hm I h0 G D
  exact⟨pr',F',q1.mono (by omega),q2.weaken (fun _ h=>h.1),q3⟩
 | psh p=>
  obtain⟨i1,i2,i3⟩:=I
  exact psh_rdy C ht hm (i2 rfl) (K0.nil (k:=.psh p) h0).1 G
 | pop p=>
  have h0:p.stage=0:=h0
  obtain⟨y1,y2,_⟩:=QR (p:=p) (by omega)
  rw[y1,y2]at G
  obtain⟨z1,z2,_⟩:=QR (p:={ p with stage:=1 }) (by simp)
  refine⟨pr,F,?_,Rl.refl ..,fun _=>pod_vac (.inr (.inl rfl))⟩
  simp only[QQ,Yn,if_false]
  rw[z1,z2]
  exact G
theorem sk_stp_kd {i:Nat}{cl:Cll}{se:Sea}{k:Zt}(C:Core c Lg S N h a m)(hN:N<1000000)(ht:(t:Int)<c.T)(hm:m.thread=(t:Int))(I:SI c t true (h.held.getD t 0) (a.caches.getD t []) k)(hn:n<4294967295)
  (G:Gd c n Z Y F (sx stk pr c h a m) (kS k) (kL k)) (D:KD c t (sx stk pr c h a m) k):KP stk (skStk c m stk k) c (n+1) Z Y pr h a m t (QN (h,a) m i t cl se k):=by
 cases k with
 | hz k=>
  obtain⟨pr',F',q1,q2,q3⟩:=step_gd (i:=i) (cl:=cl) (se:=se) C hN ht hm I hn G D
  exact⟨pr',F',q1,q2.weaken (fun _ h=>h.1),q3⟩
 | psh p=>
  obtain⟨i1,i2,i3⟩:=I
  exact psh_kd C hm (i3 rfl) hn G D
 | pop p=>
  obtain⟨i1,i2,i3⟩:=I
  exact pop_kd C ht hm i1 i2 (i3 rfl) hn G D
end
section
variable {c:Cfg}{n:Nat}{y:GW Zt}{F stk:List Int}{pr:Int→Prop}{bh ba:Nat}{CX:Zb}{t i:Nat}{cl:Cll}{se:Sea}{k:Zt}{r1 r2:GR Zt}
def stkOf (c:Cfg)(stk:List Int)(r1:GR Zt):List Int:=if r1.1=true then stk else skStk c r1.2.2.1 stk r1.2.2.2
theorem DK.tick (D:DK c stk pr F n y):DK c stk pr F ((n+1:Nat):Int) y.tick:=⟨D.gd.mono (by omega),D.td,D.fresh⟩
theorem DK.begin {mv:Mv}{v vc:Value}(D:DK c stk pr F n y)(P:PG (SI c) c n y)(htT:(t:Int)<c.T)(hk:y.tasks[t]? = some none)(hm:sTask y.s t mv=some k) :
  DK c stk pr F ((n+1:Nat):Int) ⟨y.s,ZL y.m t mv v vc,y.tasks.set t (some k)⟩:=by
 have hlt:=(List.getElem?_eq_some_iff.1 hk).1
 have hx:sx stk pr c y.s.1 y.s.2 (ZL y.m t mv v vc)=sx stk pr c y.s.1 y.s.2 y.m:=ZK rfl
 obtain⟨m0,m3⟩:=kd_made (stk:=stk) (pr:=pr) P.core htT hm
 obtain⟨m1,m2⟩:=m0.nil
 refine⟨?_,?_,?_⟩
 ·refine Gd.mono (n:=n) ?_ (by omega)
  refine Gd.kunfocus (o:=some k) hlt ?_ (fun s hs=>by rw[show kSo (some k)=kS k from rfl,m1]at hs;simp at hs)
  have:=D.gd.kfocus hk
  rw[show kSo (some k)=kS k from rfl,show kLo (some k)=kL k from rfl,m1,m2,hx]
  exact this
 ·intro j kj hkj
  simp only[]at hkj
  rw[show(⟨y.s,ZL y.m t mv v vc,y.tasks.set t (some k)⟩:GW Zt).m=ZL y.m t mv v vc from rfl,hx]
  by_cases hj:j=t
  ·subst hj
   rw[Ye hlt]at hkj
   cases hkj;exact m3
  ·rw[ZY hj]at hkj
   exact D.td j kj hkj
 ·intro j kj se hkj hse hf
  simp only[ZL]at hkj hse
  by_cases hj:j=t
  ·subst hj
   rw[Ye hlt]at hkj
   cases hkj;exact m0
  ·rw[ZY hj]at hkj hse
   exact D.fresh j kj se hkj hse hf
structure DStep (c:Cfg)(n:Nat)(stk:List Int)(pr:Int→Prop)(y:GW Zt)(t i:Nat)(k:Zt)(r1 r2:GR Zt):Prop where
 ex:∃(Z Y:Int→Nat) (F0:List Int) (pr1:Int→Prop) (F1:List Int) (pr2:Int→Prop) (F2:List Int),
  Z=cnt2 ((y.tasks.set t none).map kSo) ∧
  Gd c n Z Y F0 (sx stk pr c y.s.1 y.s.2 y.m) (kS k) (kL k)∧KD c t (sx stk pr c y.s.1 y.s.2 y.m) k ∧
  Gd c n Z Y F1 (sx stk pr1 c r1.2.1.1 r1.2.1.2 r1.2.2.1) (if r1.1=true then [] else kS r1.2.2.2) (if r1.1=true then [] else kL r1.2.2.2)∧(r1.1=false→KD c t (sx stk pr1 c r1.2.1.1 r1.2.1.2 r1.2.2.1) r1.2.2.2) ∧
  Rl Z t (Own c t (sx stk pr c y.s.1 y.s.2 y.m)) (sx stk pr c y.s.1 y.s.2 y.m) (sx stk pr1 c r1.2.1.1 r1.2.1.2 r1.2.2.1) ∧
  Rl Z t (Own c t (sx stk pr c y.s.1 y.s.2 y.m)) (sx stk pr1 c r1.2.1.1 r1.2.1.2 r1.2.2.1) (sx (stkOf c stk r1) pr2 c r2.2.1.1 r2.2.1.2 r2.2.2.1) ∧
  DK c (stkOf c stk r1) pr2 F2 ((n+1:Nat):Int) (gStepY y t i r2)
theorem DK.step (D:DK c stk pr F n y)(hn:n<65536)(P:PG (SI c) c n y)(G:GStep (skT bh ba CX) (SI c) c n y t i cl se k r1 r2):DStep c n stk pr y t i k r1 r2:=by
 have hlt:=(List.getElem?_eq_some_iff.1 G.hse).1
 have hltk:=(List.getElem?_eq_some_iff.1 G.hk).1
 have hok:=P.core.ok
 have hx0:sx stk pr c y.s.1 y.s.2 (Qm y t i se)=sx stk pr c y.s.1 y.s.2 y.m:=ZK rfl
 have G0:=D.gd.kfocus G.hk
 have D0:=D.td t k G.hk
 have G0':=G0
 have D0':=D0
 rw[←hx0]at G0 D0
 generalize hZ:cnt2 ((y.tasks.set t none).map kSo)=Z at G0 G0'
 generalize hY:cnt2 ((y.tasks.set t none).map kLo)=Y at G0 G0'
 have E1:KP stk stk c n Z Y pr y.s.1 y.s.2 (Qm y t i se) t r1:=by
  rcases G.rdy with⟨hf,e⟩|⟨_,e⟩
  ·have hI:=G.i0
   rw[hf]at hI
   rw[e]
   exact sk_rdy_kd G.c0 G.htT rfl hI (D.fresh t k se G.hk G.hse hf) G0 D0
  ·rw[e]
   exact⟨pr,F,by simp only[Yn,if_false];exact G0,Rl.refl ..,fun _=>D0⟩
 obtain⟨pr1,F1,q1,q2,q3⟩:=E1
 have hth1:r1.2.2.1.thread=(t:Int):=G.h1.frame.thread
 have hhe:r1.2.1.1.held=y.s.1.held:=by
  rcases G.rdy with⟨hf,e⟩|⟨_,e⟩
  ·rw[e]
   cases k with
   | hz k=>cases k<;>rfl
   | psh p=>rfl
   | pop p=>rfl
  ·rw[e]
 have hOw:∀j,Own c t (sx stk pr1 c r1.2.1.1 r1.2.1.2 r1.2.2.1) j→Own c t (sx stk pr c y.s.1 y.s.2 y.m) j:=fun j hj=>hj.he (by show y.s.1.held[t]? = r1.2.1.1.held[t]?;rw[hhe])
 have E2:∃(pr2:Int→Prop) (F2:List Int),Gd c (n+1) Z Y F2 (sx (stkOf c stk r1) pr2 c r2.2.1.1 r2.2.1.2 r2.2.2.1) (if r2.1=true then [] else kS r2.2.2.2) (if r2.1=true then [] else kL r2.2.2.2) ∧
   Rl Z t (Own c t (sx stk pr c y.s.1 y.s.2 y.m)) (sx stk pr1 c r1.2.1.1 r1.2.1.2 r1.2.2.1) (sx (stkOf c stk r1) pr2 c r2.2.1.1 r2.2.1.2 r2.2.2.1)∧(r2.1=false→KD c t (sx (stkOf c stk r1) pr2 c r2.2.1.1 r2.2.1.2 r2.2.2.1) r2.2.2.2):=by
  rcases G.stp with⟨hb,e⟩|⟨hb,z1,q1',v1,hcu,e⟩
  ·have hs:stkOf c stk r1=stk:=by unfold stkOf;rw[if_pos hb]
   rw[hs,e]
   exact⟨pr1,F1,q1.mono (by omega),Rl.refl ..,q3⟩
  ·have hs:stkOf c stk r1=skStk c r1.2.2.1 stk r1.2.2.2:=by unfold stkOf;rw[if_neg (by simp[hb])]
   rw[hs]
   rw[if_neg (by simp[hb]),if_neg (by simp[hb])]at q1
   have X:=sk_stp_kd (i:=i) (cl:={ cl with point:=z1 }) (se:={ se with ready:=true,kind:=q1',value:=v1 }) G.h1.core (by omega) G.htT hth1 (G.h1.fin hb) (by omega) q1 (q3 hb)
   have e':r2=QN (r1.2.1.1,r1.2.1.2) r1.2.2.1 i t { cl with point:=z1 } { se with ready:=true,kind:=q1',value:=v1 } r1.2.2.2:=e
   rw[←e']at X
   obtain⟨pr2,F2,x1,x2,x3⟩:=X
   exact⟨pr2,F2,x1,x2.weaken hOw,x3⟩
 obtain⟨pr2,F2,x1,x2,x3⟩:=E2
 rw[hx0]at q2
 refine⟨Z,Y,F,pr1,F1,pr2,F2,hZ.symm,G0',D0',q1,q3,q2,x2,?_⟩
 have R:=q2.trans x2
 obtain⟨z,q,v,O⟩:=G.out P
 have hx1:sx (stkOf c stk r1) pr2 c r2.2.1.1 r2.2.1.2 (gStepY y t i r2).m=sx (stkOf c stk r1) pr2 c r2.2.1.1 r2.2.1.2 r2.2.2.1:=ZK (by rw[O.mem])
 refine⟨?_,?_,?_⟩
 ·rw[show(gStepY y t i r2).s=r2.2.1 from rfl,hx1,show(gStepY y t i r2).tasks=y.tasks.set t (if r2.1=true then none else some r2.2.2.2) from rfl]
  refine Gd.kunfocus hltk ?_ ?_
  ·rw[hZ,hY]
   by_cases hb:r2.1=true
   ·rw[if_pos hb,if_pos hb]at x1
    rw[if_pos hb];exact x1.mono (by omega)
   ·rw[if_neg hb,if_neg hb]at x1
    rw[if_neg hb];exact x1.mono (by omega)
  ·intro s hs
   by_cases hb:r2.1=true
   ·rw[if_pos hb]at hs;simp[kSo]at hs
   ·rw[if_neg hb]at hs
    exact(x3 (by simpa using hb)).st s hs
 ·intro j kj hkj
  rw[show(gStepY y t i r2).s=r2.2.1 from rfl,hx1]
  have hkj:(y.tasks.set t (if r2.1=true then none else some r2.2.2.2))[j]? = some (some kj):=hkj
  by_cases hj:j=t
  ·subst hj
   rw[Ye hltk]at hkj
   by_cases hb:r2.1=true
   ·rw[if_pos hb]at hkj;cases hkj
   ·rw[if_neg hb]at hkj
    cases hkj
    exact x3 (by simpa using hb)
  ·rw[ZY hj]at hkj
   have hp5:=P.seats
   have hp4:=P.tasks
   have hjl:=(List.getElem?_eq_some_iff.1 hkj).1
   have hjT:j<y.m.seats.length:=by omega
   have hjT2:(j:Int)<c.T:=by have:=hok.T1;omega
   obtain⟨_,I2⟩:=P.task j kj _ hkj (Yd hjT)
   have T2:=kds_of (stk:=stk) (pr:=pr) P.core hjT2 I2 (fun hf=>D.fresh j kj _ hkj (Yd hjT) hf)
   refine(D.td j kj hkj).rely hok R hj T2 (fun s hs => ?_) (fun w h1 h2=>hj (own_two G0' hok h1 h2))
   rw[←hZ]
   refine cnt2_at (i:=j) (l:=kS kj) ?_ hs
   rw[Ym,ZY hj,hkj];rfl
 ·intro j kj sj hkj hsj hf
  have hkj:(y.tasks.set t (if r2.1=true then none else some r2.2.2.2))[j]? = some (some kj):=hkj
  rw[O.seats]at hsj
  by_cases hj:j=t
  ·subst hj
   rw[Ye hltk]at hkj
   rw[Ye hlt]at hsj
   by_cases hb:r2.1=true
   ·rw[if_pos hb]at hkj;cases hkj
   ·rw[if_neg hb]at hsj
    cases hsj
    cases hf
  ·rw[ZY hj]at hkj hsj
   exact D.fresh j kj sj hkj hsj hf
end
end
section
def stF (ds:List Shf)(f:Int→Int):Int→Int:=ds.foldl (fun f d=>fun s=>if s=d.slot then d.to else f s) f
theorem stF_app (a b:List Shf)(f:Int→Int):stF (a++b) f=stF b (stF a f):=List.foldl_append ..
theorem stF_two:∀ {ds:List Shf} {f:Int→Int} {s v:Int},stF ds f s=v→f s=v∨∃d∈ds,d.slot=s∧d.to=v
 | [],_,_,_,h=>.inl h
 | d::r,f,s,v,h=>by
  have h:stF r (fun s=>if s=d.slot then d.to else f s) s=v:=h
  rcases stF_two h with h|⟨e,h1,h2⟩
  ·by_cases hs:s=d.slot
   ·simp only[if_pos hs]at h
    exact .inr ⟨d,List.mem_cons_self ..,hs.symm,h⟩
   ·simp only[if_neg hs]at h
    exact .inl h
  ·exact .inr ⟨e,List.mem_cons_of_mem _ h1,h2⟩
def Wq (c:Cfg)(a:Are)(A:Int):Prop:=∀s,0≤s→s<c.Sl→A=base c 11+s∨A=base c 13+s→(a.sl s).state=2
structure Wd (c:Cfg)(W:Int→Prop)(a:Are)(m:Mch)(a':Are)(m':Mch):Prop where
 log:∃es,m'.mem.log=m.mem.log++es∧∀e∈es,e.move=m.mem.move∧(e.kind≠1→W e.addr)
 sh:∃ds,m'.shifts=m.shifts++ds∧(∀d∈ds,d.move=m.now∧0≤d.slot∧d.slot<c.Sl)∧∀s,(a'.sl s).state=stF ds (fun s=>(a.sl s).state) s
 mv:m'.mem.move=m.mem.move
 now:m'.now=m.now
section
variable {c:Cfg}{W:Int→Prop}{a a' a'':Are}{m m' m'':Mch}
theorem wd_mem (h1:m'.mem=m.mem)(h2:m'.shifts=m.shifts)(h3:m'.now=m.now):Wd c W a m a m' :=
 ⟨⟨[],by rw[h1];simp,by simp⟩,⟨[],by rw[h2];simp,by simp,fun _=>rfl⟩,by rw[h1],h3⟩
theorem Wd.trans (A:Wd c W a m a' m')(B:Wd c W a' m' a'' m''):Wd c W a m a'' m'':=by
 obtain⟨⟨es,l1,l2⟩,⟨ds,s1,s2,s3⟩,p1,p2⟩:=A
 obtain⟨⟨fs,k1,k2⟩,⟨gs,t1,t2,t3⟩,q1,q2⟩:=B
 refine⟨⟨es++fs,by rw[k1,l1,List.append_assoc],fun e he => ?_⟩,⟨ds++gs,by rw[t1,s1,List.append_assoc],fun d hd => ?_,fun s => ?_⟩,q1.trans p1,q2.trans p2⟩
 ·rcases List.mem_append.1 he with he|he
  ·exact l2 e he
  ·exact⟨(k2 e he).1.trans p1,(k2 e he).2⟩
 ·rcases List.mem_append.1 hd with hd|hd
  ·exact s2 d hd
  ·exact⟨(t2 d hd).1.trans p2,(t2 d hd).2⟩
 ·rw[t3 s,stF_app]
  have:(fun s=>(a'.sl s).state)=stF ds (fun s=>(a.sl s).state):=funext s3
  rw[this]
theorem wd_load (j:Nat)(u:Int):Wd c W a m a (m.load j u):=
 ⟨⟨_,rfl,fun e he=>by simp at he;subst he;exact⟨rfl,fun hf=>absurd rfl hf⟩⟩,⟨[],by simp[Mch.load],by simp,fun _=>rfl⟩,rfl,rfl⟩
theorem wd_store (j:Nat)(u z:Int)(h:W j):Wd c W a m a (m.store j u z):=
 ⟨⟨_,rfl,fun e he=>by simp at he;subst he;exact⟨rfl,fun _=>h⟩⟩,⟨[],by simp[Mch.store],by simp,fun _=>rfl⟩,rfl,rfl⟩
theorem wd_swap (j:Nat)(u o z:Int)(h:W j):Wd c W a m a (m.swap j u o z):=
 ⟨⟨_,rfl,fun e he=>by simp at he;subst he;exact⟨rfl,fun _=>h⟩⟩,⟨[],by simp[Mch.swap],by simp,fun _=>rfl⟩,rfl,rfl⟩
theorem wd_shift {s to:Int}(h0:0≤s)(h1:s<c.Sl)(hl:(a.slots.length:Int)=c.Sl)(th fr:Int):Wd c W a m (a.shift s.toNat th to) (m.shift s fr to):=by
 refine⟨⟨[],by simp[Mch.shift],by simp⟩,⟨_,rfl,fun d hd=>by simp at hd;subst hd;exact⟨rfl,h0,h1⟩,fun s' => ?_⟩,rfl,rfl⟩
 rw[QX h0 (by omega)]
 show(updS a.sl s _ s').state=if s'=s then to else (a.sl s').state
 unfold updS
 split<;>rfl
theorem evq_wd {i t:Nat}{x y:St3}(E:EvQ (fun j=>W (j:Int)) i t x y):(x.2.1.slots.length:Int)=c.Sl→x.2.1.c=c→Wd c W x.2.1 x.2.2 y.2.1 y.2.2∧(y.2.1.slots.length:Int)=c.Sl∧y.2.1.c=c:=by
 induction E with
 | refl x=>exact fun h1 h2=>⟨wd_mem rfl rfl rfl,h1,h2⟩
 | trans _ _ A B=>
  intro h1 h2
  obtain⟨a1,a2,a3⟩:=A h1 h2
  obtain⟨b1,b2,b3⟩:=B a2 a3
  exact⟨a1.trans b1,b2,b3⟩
 | load j h1 h2=>exact fun k1 k2=>⟨wd_load j _,k1,k2⟩
 | store j z h1 h2=>exact fun k1 k2=>⟨wd_store j _ _ h2.2,k1,k2⟩
 | swap j o z h1 h2=>exact fun k1 k2=>⟨wd_swap j _ _ _ h2.2,k1,k2⟩
 | shift s to h1 h2 h3 h4=>
  intro k1 k2
  have k2:(_:Are).c=c:=k2
  exact⟨wd_shift h1 (by rw[←k2];exact h2) k1 _ _,by simp only[Are.shift,List.length_set];exact k1,k2⟩
 | point cl z h1 h2 h3=>exact fun k1 k2=>⟨wd_mem rfl rfl rfl,k1,k2⟩
 | answer se k v h1 h2 h3 h4=>exact fun k1 k2=>⟨wd_mem rfl rfl rfl,k1,k2⟩
 | haz h'=>exact fun k1 k2=>⟨wd_mem rfl rfl rfl,k1,k2⟩
 | cache cs=>exact fun k1 k2=>⟨⟨⟨[],by simp,by simp⟩,⟨[],by simp,by simp,fun _=>rfl⟩,rfl,rfl⟩,k1,k2⟩
end
section
variable {c:Cfg}{Lg S N:Nat}{h:Haz}{a:Are}{m:Mch}{i t:Nat}{cl:Cll}{se:Sea}{stk:List Int}{pr:Int→Prop}
theorem wq_low (hc:c.Ok){A:Int}(hA:A<base c 11):Wq c a A:=by
 intro s h0 h1 h2
 have:=hc.S1
 obtain⟨b1,b2,b8,b9,b10,b11,b12,b13,b14,rh,rh2,b3⟩:=Qp hc
 omega
theorem wq_qok (hc:c.Ok):QOk c (fun j:Nat=>Wq c a (j:Int)):=⟨fun _ hj=>wq_low hc hj.1⟩
theorem wq_val (hc:c.Ok){s:Int}(h0:0≤s)(h1:s<c.Sl)(h2:(a.sl s).state=2):Wq c a ((adr c 11 s:Nat):Int):=by
 intro s' k0 k1 k2
 have e:=QI hc 11 h0
 obtain⟨b1,b2,b8,b9,b10,b11,b12,b13,b14,rh,rh2,b3⟩:=Qp hc
 have:=hc.S1
 have:s'=s:=by omega
 rw[this];exact h2
theorem wq_link (hc:c.Ok){s:Int}(h0:0≤s)(h1:s<c.Sl)(h2:(a.sl s).state=2):Wq c a ((adr c 13 s:Nat):Int):=by
 intro s' k0 k1 k2
 have e:=QI hc 13 h0
 obtain⟨b1,b2,b8,b9,b10,b11,b12,b13,b14,rh,rh2,b3⟩:=Qp hc
 have:=hc.S1
 have:s'=s:=by omega
 rw[this];exact h2
theorem wq_top (hc:c.Ok):Wq c a ((adr c 3 0:Nat):Int):=by
 refine wq_low hc ?_
 have e:=QI hc 3 (Int.le_refl 0)
 have:=hc.R1
 have:=hc.S1
 obtain⟨b1,b2,b8,b9,b10,b11,b12,b13,b14,rh,rh2,b3⟩:=Qp hc
 omega
theorem hz_wd {k:Z7}(C:Core c Lg S N h a m)(ht:(t:Int)<c.T)(I:TI c t true (h.held.getD t 0) (a.caches.getD t []) k)(D:TD c t (sx stk pr c h a m) k)(hcl:m.calls[i]? = some cl)(hse:m.seats[t]? = some se)(hb:cl.begin_<m.now)(hp:RdP cl.begin_ m.now k)(hu:m.used=false) :
  Wd c (Wq c a) a m (ZT (h,a) m i t cl se k).2.1.2 (ZT (h,a) m i t cl se k).2.2.1:=by
 have hok:=C.ok
 haveI:=wq_qok (c:=c) (a:=a) hok
 by_cases hr:∃r,k=.rdg r∧r.stage=3
 ·obtain⟨r,rfl,h3⟩:=hr
  simp only[ZT]
  unfold Z4
  simp only[]
  rw[if_neg (by omega),if_neg (by omega),if_neg (by omega)]
  exact(wd_load _ _).trans (wd_mem rfl rfl rfl)
 ·refine(evq_wd (c:=c) (W:=Wq c a) (evq_stp (Q:=fun j:Nat=>Wq c a (j:Int)) (i:=i) C ht I hcl hse hb hp hu (fun r e h3=>absurd ⟨r,e,h3⟩ hr) (fun p e h1 => ?_)) ?_ C.ac).1
  ·subst e
   have I:=I.2.2.1 rfl
   obtain⟨kk,hkk,_,k1⟩:=I.take
   obtain⟨g1,g2,g3⟩:=k1 (.inl h1)
   have ho:=D.own (p.link-1) (by simp only[hO];rw[if_pos (.inl h1)];exact List.mem_cons_self ..)
   have ho:a.sl (p.link-1)=⟨2,(t:Int)⟩:=ho
   exact wq_val hok (by omega) (by omega) (by rw[ho])
  ·show(a.slots.length:Int)=c.Sl
   rw[C.slots];have:=hok.S1;omega
theorem taken_wd {W:Int→Prop}{p:Pu}:Wd c W a m a (ZZ m i t cl se p).2.1:=by
 unfold ZZ
 split
 ·exact wd_mem rfl rfl rfl
 ·exact wd_mem rfl rfl rfl
theorem seen_wd {W:Int→Prop}{p:Po}:Wd c W a m a (Z3 m i t cl se p).2.1:=by
 unfold Z3
 split
 ·exact wd_mem rfl rfl rfl
 ·exact wd_mem rfl rfl rfl
theorem sk_wd_rdy {k:Zt}(C:Core c Lg S N h a m)(ht:(t:Int)<c.T)(I:SI c t false (h.held.getD t 0) (a.caches.getD t []) k)(hci:ZP m i t cl se)(hb:cl.begin_<m.now) :
  Wd c (Wq c a) a m (QQ (h,a) m i t cl se k).2.1.2 (QQ (h,a) m i t cl se k).2.2.1:=by
 have hok:=C.ok
 haveI:=wq_qok (c:=c) (a:=a) hok
 have hsl:(a.slots.length:Int)=c.Sl:=by rw[C.slots];have:=hok.S1;omega
 cases k with
 | hz k=>exact(evq_wd (c:=c) (W:=Wq c a) (evq_rdy (Q:=fun j:Nat=>Wq c a (j:Int)) (i:=i) C ht I hci.call hci.seat hb) hsl C.ac).1
 | psh p=>
  have E:=(evq_wd (c:=c) (W:=Wq c a) (evq_takeReady (Q:=fun j:Nat=>Wq c a (j:Int)) (i:=i) (t:=t) (k:=p.take) C (by rw[I.2.1 rfl];simp only[];omega) (by rw[I.2.1 rfl];exact ht)) hsl C.ac).1
  simp only[QQ]
  unfold QA
  simp only[]
  split
  ·exact E.trans taken_wd
  ·exact E
 | pop p=>exact wd_mem rfl rfl rfl
theorem sk_wd {k:Zt}(C:Core c Lg S N h a m)(ht:(t:Int)<c.T)(I:SI c t true (h.held.getD t 0) (a.caches.getD t []) k)(D:KD c t (sx stk pr c h a m) k)(hci:ZP m i t cl se)(hb:cl.begin_<m.now)(hp:hzP cl.begin_ m.now k)(hu:m.used=false) :
  Wd c (Wq c a) a m (QN (h,a) m i t cl se k).2.1.2 (QN (h,a) m i t cl se k).2.2.1:=by
 have hok:=C.ok
 haveI:=wq_qok (c:=c) (a:=a) hok
 have hsl:(a.slots.length:Int)=c.Sl:=by rw[C.slots];have:=hok.S1;omega
 have hc:=C.hc
 cases k with
 | hz k=>exact hz_wd C ht I D hci.call hci.seat hb hp hu
 | psh p=>
  obtain⟨i1,i2,i3⟩:=I
  obtain⟨j1,j2,j3,j4⟩:=i3 rfl
  obtain⟨d1,d2,d3,d4⟩:=D
  simp only[QN]
  unfold Ja
  rw[hc]
  simp only[]
  by_cases s1:p.stage=1
  ·rw[if_pos s1]
   have E:=(evq_wd (c:=c) (W:=Wq c a) (evq_take (Q:=fun j:Nat=>Wq c a (j:Int)) (i:=i) (t:=t) C (j2 s1) hu) hsl C.ac).1
   unfold puTake
   simp only[]
   split
   ·exact E.trans taken_wd
   ·exact E
  rw[if_neg s1]
  obtain⟨g1,g2⟩:=j3 s1
  have ho:a.sl p.slot=⟨2,(t:Int)⟩:=d2 (by omega)
  by_cases s2:p.stage=2
  ·rw[if_pos s2]
   exact wd_store _ _ _ (wq_val hok g1 g2 (by rw[ho]))
  rw[if_neg s2]
  by_cases s3:p.stage=3
  ·rw[if_pos s3]
   exact wd_load _ _
  rw[if_neg s3]
  by_cases s4:p.stage=4
  ·rw[if_pos s4]
   exact wd_store _ _ _ (wq_link hok g1 g2 (by rw[ho]))
  rw[if_neg s4]
  split
  ·unfold puDone
   simp only[]
   have E:=wd_swap (c:=c) (W:=Wq c a) (a:=a) (m:=m) (adr c 3 0) (m.word (adr c 3 0)) p.top (p.slot+1) (wq_top hok)
   generalize m.swap (adr c 3 0) (m.word (adr c 3 0)) p.top (p.slot+1)=mw at E ⊢
   have E2:Wd c (Wq c a) a mw a (mw.point i cl mw.now):=wd_mem rfl rfl rfl
   exact E.trans (E2.trans ((wd_shift g1 g2 hsl mw.thread (a.slots.getD p.slot.toNat ⟨0,0⟩).state).trans (wd_mem rfl rfl rfl)))
  ·exact wd_swap _ _ _ _ (wq_top hok)
 | pop p=>
  obtain⟨i1,i2,i3⟩:=I
  obtain⟨j1,j2,j3,j4⟩:=i3 rfl
  obtain⟨r1,_⟩:=C.hget ht
  have hH1:=hok.H1
  have hz:=hz_adr hok i2 r1 (Int.le_refl 0) (by omega)
  have hpt:p.thread.toNat=t:=by omega
  have hpz:Wq c a ((poHz h p:Nat):Int):=by
   refine wq_low hok ?_
   have e:((poHz h p:Nat):Int)=base c 9+h.held.getD t 0*c.Hz+0:=by
    unfold poHz
    rw[hpt,hc]
    have:=(ZB hok 9).1
    omega
   rw[e]
   have:=(Qp hok).b11
   have:=hok.S1
   omega
  simp only[QN]
  unfold QP
  rw[hc]
  simp only[]
  by_cases s1:p.stage=1
  ·rw[if_pos s1]
   exact(wd_load _ _).trans seen_wd
  rw[if_neg s1]
  by_cases s2:p.stage=2
  ·rw[if_pos s2]
   exact wd_store _ _ _ hpz
  rw[if_neg s2]
  by_cases s3:p.stage=3
  ·rw[if_pos s3]
   split
   ·exact wd_load _ _
   ·exact(wd_load _ _).trans seen_wd
  rw[if_neg s3]
  by_cases s4:p.stage=4
  ·rw[if_pos s4]
   exact wd_load _ _
  rw[if_neg s4]
  by_cases s5:p.stage=5
  ·rw[if_pos s5]
   obtain⟨g1,g2⟩:=j2 (by omega) (by omega)
   split
   ·have E:=wd_swap (c:=c) (W:=Wq c a) (a:=a) (m:=m) (adr c 3 0) (m.word (adr c 3 0)) p.top p.behind (wq_top hok)
    simp only[]
    generalize m.swap (adr c 3 0) (m.word (adr c 3 0)) p.top p.behind=mw at E ⊢
    have E2:Wd c (Wq c a) a mw a (mw.point i cl m.now):=wd_mem rfl rfl rfl
    exact E.trans (E2.trans (wd_shift (by omega) (by omega) hsl m.thread (a.slots.getD (p.top-1).toNat ⟨0,0⟩).state))
   ·exact wd_swap _ _ _ _ (wq_top hok)
  rw[if_neg s5]
  by_cases s6:p.stage=6
  ·rw[if_pos s6]
   exact wd_load _ _
  rw[if_neg s6]
  by_cases s7:p.stage=7
  ·rw[if_pos s7]
   obtain⟨g1,g2⟩:=j2 (by omega) (by omega)
   unfold Zs
   simp only[]
   have E:=wd_store (c:=c) (W:=Wq c a) (a:=a) (m:=m) (poHz h p) (m.word (poHz h p)) 0 hpz
   generalize m.store (poHz h p) (m.word (poHz h p)) 0=mw at E ⊢
   have E2:Wd c (Wq c a) a mw a (mw.answer t se 2 p.value):=wd_mem rfl rfl rfl
   have E4:=E.trans (E2.trans (wd_shift (s:=p.top-1) (to:=5) (by omega) (by omega) hsl (mw.answer t se 2 p.value).thread (a.slots.getD (p.top-1).toNat ⟨0,0⟩).state))
   split<;>exact E4
  rw[if_neg s7]
  by_cases s8:p.stage=8
  ·rw[if_pos s8]
   exact wd_store _ _ _ hpz
  rw[if_neg s8]
  have s9:p.stage=9:=by clear j4;omega
  obtain⟨r,sc,e1,e2,e3,e4⟩:=j4 s9
  rw[e1]
  simp only[e2]
  exact(evq_wd (c:=c) (W:=Wq c a) (evq_scan (Q:=fun j:Nat=>Wq c a (j:Int)) (i:=i) (t:=t) C e3 hu) hsl C.ac).1
end
end
end Go.Proofs.YtjagadldibbbbaaGreat
