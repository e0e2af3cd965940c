import Derived.Test.YtefjbdajgakgpaaGreatDDyn
set_option linter.all false
namespace Go.Proofs.YtefjbdajgakgpaaGreat
open Go.RowKit Hp
set_option maxRecDepth 100000
set_option maxHeartbeats 1000000
attribute [local irreducible] Go.Calls
structure ZX (m:Mch)(i t:Nat)(c:Cll)(s:Sea):Prop where
 cur:m.cur=some (i,t)
 call:m.calls[i]? = some c
 seat:m.seats[t]? = some s
structure Qz (i t:Nat)(c:Cll)(s:Sea)(m m':Mch):Prop where
 cur:m'.cur=m.cur
 vs:m'.vs=m.vs
 vc:m'.vc=m.vc
 kit:m'.kit=m.kit
 moves:m'.moves=m.moves
 now:m'.now=m.now
 thread:m'.thread=m.thread
 calls:∃z,m'.calls=m.calls.set i { c with point:=z }
 seats:∃k v,m'.seats=m.seats.set t { s with kind:=k,value:=v }
theorem Qz.curIn {i t:Nat}{c:Cll}{s:Sea}{m m':Mch}(f:Qz i t c s m m')(h:ZX m i t c s):∃z k v,ZX m' i t { c with point:=z } { s with kind:=k,value:=v }:=by
 obtain⟨z,hz⟩:=f.calls
 obtain⟨k,v,hk⟩:=f.seats
 have l1:=(List.getElem?_eq_some_iff.1 h.call).1
 have l2:=(List.getElem?_eq_some_iff.1 h.seat).1
 exact⟨z,k,v,by rw[f.cur];exact h.cur,by rw[hz];simp[l1],by rw[hk];simp[l2]⟩
structure JH (σ τ:Type) where
 X:σ→Zc
 R:τ→Value→Zc
 rdy:σ→Mch→Nat→Nat→Cll→Sea→τ→Bool×σ×Mch×τ
 stp:σ→Mch→Nat→Nat→Cll→Sea→τ→Bool×σ×Mch×τ
 okr:σ→Mch→Nat→τ→Prop
 oks:σ→Mch→Nat→τ→Prop
structure JH.Good {σ τ:Type}(T:JH σ τ):Prop where
 iface:∀ {O w k v F},Sat O w (T.R k v*F)→∃ty x,v=.iface ty x
 cr:∀d bx bm s m i t c se k v,T.okr s m t k→ZX m i t c se→Dyn Tryz.prog (callMethod v "Ready" #[.pointer (some ⟨d,0,none⟩)]) (T.R k v*(T.X s*DkR d bx bm m))
  (fun u=>pu (u=.bool (T.rdy s m i t c se k).1)*(T.R (T.rdy s m i t c se k).2.2.2 v*(T.X (T.rdy s m i t c se k).2.1*DkR d bx bm (T.rdy s m i t c se k).2.2.1)))
 cs:∀d bx bm s m i t c se k v,T.oks s m t k→ZX m i t c se→Dyn Tryz.prog (callMethod v "Step" #[.pointer (some ⟨d,0,none⟩)]) (T.R k v*(T.X s*DkR d bx bm m))
  (fun u=>pu (u=.bool (T.stp s m i t c se k).1)*(T.R (T.stp s m i t c se k).2.2.2 v*(T.X (T.stp s m i t c se k).2.1*DkR d bx bm (T.stp s m i t c se k).2.2.1)))
 fr:∀s m i t c se k,ZX m i t c se→Qz i t c se m (T.rdy s m i t c se k).2.2.1
 fs:∀s m i t c se k,ZX m i t c se→Qz i t c se m (T.stp s m i t c se k).2.2.1
def tskR {τ:Type}(R:τ→Value→Zc):List (Option τ)→List Sea→Zc
 | some k::ks,s::ss=>R k s.task*tskR R ks ss
 | none::ks,s::ss=>pu (s.task=.nilIface)*tskR R ks ss
 | _,_=>emp
section
variable {σ τ:Type}{R:τ→Value→Zc}{O w:World}{F:Zc}
theorem tsk_at:∀ {ks:List (Option τ)} {ss:List Sea} {i:Nat} {k:Option τ} {s:Sea},ks[i]? = some k→ss[i]? = some s→tskR R ks ss=tskR R [k] [s]*tskR R (ks.eraseIdx i) (ss.eraseIdx i)
 | [],_,_,_,_,h,_=>by simp at h
 | _::_,[],_,_,_,_,h=>by simp at h
 | some a::ks,b::ss,0,k,s,h1,h2=>by simp at h1 h2;subst h1;subst h2;simp only[tskR,List.eraseIdx_cons_zero,mul_emp]
 | none::ks,b::ss,0,k,s,h1,h2=>by simp at h1 h2;subst h1;subst h2;simp only[tskR,List.eraseIdx_cons_zero,mul_emp]
 | some a::ks,b::ss,i+1,k,s,h1,h2=>by
  simp only[Ue]at h1 h2
  rw[List.eraseIdx_cons_succ,List.eraseIdx_cons_succ]
  show R a b.task*tskR R ks ss=tskR R [k] [s]*(R a b.task*tskR R (ks.eraseIdx i) (ss.eraseIdx i))
  rw[tsk_at h1 h2,QN]
 | none::ks,b::ss,i+1,k,s,h1,h2=>by
  simp only[Ue]at h1 h2
  rw[List.eraseIdx_cons_succ,List.eraseIdx_cons_succ]
  show pu (b.task=.nilIface)*tskR R ks ss=tskR R [k] [s]*(pu (b.task=.nilIface)*tskR R (ks.eraseIdx i) (ss.eraseIdx i))
  rw[tsk_at h1 h2,QN]
theorem tsk_one {k:τ}{s:Sea}:tskR R [some k] [s]=R k s.task:=by simp only[tskR,mul_emp]
theorem tsk_none {s:Sea}(h:s.task=.nilIface):tskR R [none] [s]=emp:=by simp only[tskR,mul_emp];rw[←mul_emp (pu _)];exact pu_true h emp
theorem tsk_put {ks:List (Option τ)}{ss:List Sea}{i:Nat}{k:Option τ}{s:Sea}(h1:i<ks.length)(h2:i<ss.length):tskR R (ks.set i k) (ss.set i s)=tskR R [k] [s]*tskR R (ks.eraseIdx i) (ss.eraseIdx i):=by
 rw[tsk_at (k:=k) (s:=s) (i:=i) (by simp[h1]) (by simp[h2]),List.eraseIdx_set_eq,List.eraseIdx_set_eq]
end
theorem List.set_getElem?_self' {α:Type}{l:List α}{i:Nat}{a:α}(h:l[i]? = some a):l.set i a=l:=by
 obtain⟨h1,h2⟩:=List.getElem?_eq_some_iff.1 h
 rw[←h2];exact List.set_getElem_self h1
def Mch.prep (m:Mch)(t i:Nat)(now:Int)(s:Sea):Mch:=
 { m with thread:=t,now:=now,used:=false,cur:=some (i,t),mem:={ m.mem with move:=now },seats:=m.seats.set t { s with ready:=true } }
def QT (m:Mch)(t i:Nat)(now:Int)(c:Cll)(s:Sea)(over:Bool):Mch:=
 if over=true then { m with cur:=none,calls:=m.calls.set i { c with end_:=now,kind:=s.kind,value:=s.value },seats:=m.seats.set t { s with task:=.nilIface } }
 else { m with cur:=none }
def Zp {σ τ:Type}(T:JH σ τ)(s:σ)(m:Mch)(i t:Nat)(c:Cll)(se:Sea)(k:τ)(now:Int):Bool×σ×Mch×τ:=
 if se.ready=false then T.rdy s (m.prep t i now se) i t c { se with ready:=true } k else (false,s,m.prep t i now se,k)
def getC (m:Mch)(i:Nat):Cll:=m.calls.getD i ⟨0,0,0,0,0,0,0,0,0⟩
def getS (m:Mch)(t:Nat):Sea:=m.seats.getD t ⟨.nilIface,false,0,0,0⟩
def Jc {σ τ:Type}(T:JH σ τ)(i t:Nat)(r:Bool×σ×Mch×τ):Bool×σ×Mch×τ:=
 if r.1=false then T.stp r.2.1 r.2.2.1 i t (getC r.2.2.1 i) (getS r.2.2.1 t) r.2.2.2 else r
def Z9 {σ τ:Type}(T:JH σ τ)(s:σ)(m:Mch)(i t:Nat)(c:Cll)(se:Sea)(k:τ)(now:Int):σ×Mch×Option τ:=
 let r:=Jc T i t (Zp T s m i t c se k now)
 (r.2.1,QT r.2.2.1 t i now (getC r.2.2.1 i) (getS r.2.2.1 t) r.1,if r.1=true then none else some r.2.2.2)
theorem ZX.getC {m:Mch}{i t:Nat}{c:Cll}{s:Sea}(h:ZX m i t c s):getC m i=c:=by
 have:=h.call
 simp[Go.Proofs.YtefjbdajgakgpaaGreat.getC,Yb,this]
theorem ZX.getS {m:Mch}{i t:Nat}{c:Cll}{s:Sea}(h:ZX m i t c s):getS m t=s:=by
 have:=h.seat
 simp[Go.Proofs.YtefjbdajgakgpaaGreat.getS,Yb,this]
section
end
set_option maxHeartbeats 4000000 in
theorem mach_step {σ τ:Type}(T:JH σ τ)(hT:T.Good)(bx bm:Nat)(s:σ)(m:Mch)(tasks:List (Option τ))(i t:Nat)(c:Cll)(se:Sea)(k:τ)(now:Int)(hcur:m.cur=none)
  (hse:m.seats[t]? = some se) (hk:tasks[t]? = some (some k)) (hlast:se.last=(i:Int)) (hc:m.calls[i]? = some c) (hlen:tasks.length=m.seats.length)
  (hr:se.ready=false→T.okr s (m.prep t i now se) t k) (hs2:(Zp T s m i t c se k now).1=false→T.oks (Zp T s m i t c se k now).2.1 (Zp T s m i t c se k now).2.2.1 t (Zp T s m i t c se k now).2.2.2) :
  Zk Tryz.prog 95 #[.pointer (some ⟨bx,0,none⟩),.int .i64 (t:Int),.int .i64 now] (MchR bx bm m*(T.X s*tskR T.R tasks m.seats)) (.tuple #[])
   (MchR bx bm (Z9 T s m i t c se k now).2.1*(T.X (Z9 T s m i t c se k now).1*tskR T.R (tasks.set t (Z9 T s m i t c se k now).2.2) (Z9 T s m i t c se k now).2.1.seats)):=by
 obtain⟨s1,s2,s3,s4,s5⟩:=se
 obtain⟨c1,c2,c3,c4,c5,c6,c7,c8,c9⟩:=c
 simp only[]at hlast
 subst hlast
 intro O w F hs
 simp only[Ma]at hs
 rw[tsk_at hk hse,tsk_one]at hs
 have lt:=(List.getElem?_eq_some_iff.1 hse).1
 have li:=(List.getElem?_eq_some_iff.1 hc).1
 have HCur:=Lh hcur;clear hcur
 have HR:=Lh hr;have HS:=Lh hs2;clear hr hs2
 have hcin:ZX (m.prep t i now ⟨s1,s2,i,s4,s5⟩) i t ⟨c1,c2,c3,c4,c5,c6,c7,c8,c9⟩ ⟨s1,true,i,s4,s5⟩:=⟨rfl,hc,by simp[Mch.prep,lt]⟩
 have hnow:=Lh (mem_now bm m.mem now)
 have hl2:(List.map Sea.e m.seats).length=m.seats.length:=by simp
 cases s2 with
 | true=>
  have he1:m.seats.map Sea.e=((m.prep t i now ⟨s1,true,i,s4,s5⟩).seats).map Sea.e:=by simp only[Mch.prep];rw[List.set_getElem?_self' hse]
  have er:Zp T s m i t ⟨c1,c2,c3,c4,c5,c6,c7,c8,c9⟩ ⟨s1,true,i,s4,s5⟩ k now=(false,s,m.prep t i now ⟨s1,true,i,s4,s5⟩,k):=rfl
  unfold Z9
  rw[er]at HS ⊢
  simp only[]at HS ⊢
  have hC2:=fun d=>hT.cs d bx bm s (m.prep t i now ⟨s1,true,i,s4,s5⟩) i t ⟨c1,c2,c3,c4,c5,c6,c7,c8,c9⟩ ⟨s1,true,i,s4,s5⟩ k s1 (HS.out (by trivial)) hcin
  have hF2:=hT.fs s (m.prep t i now ⟨s1,true,i,s4,s5⟩) i t ⟨c1,c2,c3,c4,c5,c6,c7,c8,c9⟩ ⟨s1,true,i,s4,s5⟩ k hcin
  simp only[Jc,if_true]
  rw[(hcin).getC,(hcin).getS]
  generalize T.stp s (m.prep t i now ⟨s1,true,i,s4,s5⟩) i t ⟨c1,c2,c3,c4,c5,c6,c7,c8,c9⟩ ⟨s1,true,i,s4,s5⟩ k=r2 at hC2 hF2 ⊢
  obtain⟨b2,sg2,m2,k2⟩:=r2
  simp only[]at hC2 hF2
  have hcin2:=hF2.curIn hcin
  have hse4:m2.seats.eraseIdx t=m.seats.eraseIdx t:=by obtain⟨_,_,hh⟩:=hF2.seats;rw[hh];simp[Mch.prep,List.eraseIdx_set_eq]
  have hsl4:m2.seats.length=m.seats.length:=by obtain⟨_,_,hh⟩:=hF2.seats;rw[hh];simp[Mch.prep]
  obtain⟨g1,g2,g3,g4,g5,g6,g7,_,_⟩:=hF2
  obtain⟨z2,kd2,v2,hcin2⟩:=hcin2
  obtain⟨m2a,m2b,m2c,m2d,m2e,m2f,m2g,m2h,m2i,m2j,m2k,m2l⟩:=m2
  simp only[]at hse4 hsl4
  have hse3:=hcin2.seat
  have hc3:=hcin2.call
  simp only[]at hse3 hc3
  have li2:=(List.getElem?_eq_some_iff.1 hc3).1
  have lt2:=(List.getElem?_eq_some_iff.1 hse3).1
  simp only[Mch.prep]at g1 g2 g3 g4 g5 g6 g7
  have g6:=g6.symm
  subst g1 g2 g3 g4 g5 g6 g7
  have HC2:=Lh hC2;clear hC2
  rw[hcin2.getC,hcin2.getS]
  cases b2 with
  | true=>
   simp only[QT,if_true]
   (obtain⟨vh,call,told,hcur,hs⟩:=mchR.1 hs)
   go_enter Tryz.func95,Tryz.ntmps95
   go_wp2_with (first|(with_reducible first|apply NQ.mk|apply EQ.mk|exact Zg|apply Zj)|((with_reducible apply Zi);rfl;rfl)|((with_reducible apply Zo);rfl)|((with_reducible refine Zn ?_ ?_);focus((with_reducible apply ZI);rfl;rfl))|(show Qd _ _ _;rfl)|((with_reducible apply Zb hs);exact Ii;rfl;(with_reducible repeat first|exact Qh|apply Qk);rfl;rfl;simp only[Uc,Uz])|((with_reducible apply Zv hs);exact Ii;rfl;rfl;(with_reducible repeat first|exact Qh|apply Qk);rfl;exact Vb rfl;rfl;clear hs;intro w hs;simp only[Yg,Uc,Uz]at hs)|((with_reducible apply Zt hs);rfl;rfl;rfl;clear hs;intro w b hs;simp only[Uc,Uz])|((with_reducible apply wl_ldS hs);exact Ii;rfl;assumption;(with_reducible repeat first|exact Qh|apply Qk);rfl;(exact Ze (by assumption));rfl;rfl;simp only[Uc,Uz])|((with_reducible apply ZE hs);exact Ii;rfl;assumption;(with_reducible repeat first|exact Qh|apply Qk);rfl;(exact Ze (by assumption));rfl;rfl;simp only[Uc,Uz])|((with_reducible apply wl_stS hs);exact Ii;rfl;rfl;assumption;(with_reducible repeat first|exact Qh|apply Qk);rfl;(exact Ze (by assumption));exact Vb rfl;rfl;rfl;clear hs;intro w hs)|((with_reducible apply QO hs);exact Ii;rfl;rfl;assumption;(with_reducible repeat first|exact Qh|apply Qk);rfl;(exact Ze (by assumption));exact Vb rfl;rfl;rfl;clear hs;intro w hs)|((with_reducible apply wl_ldSN hs);exact Ii;rfl;assumption;(with_reducible repeat first|exact Qh|apply Qk);rfl;(exact Ze (by assumption));exact Vb rfl;rfl;rfl;simp only[Uc,Uz])|((with_reducible apply wl_stSN hs);exact Ii;rfl;rfl;assumption;(with_reducible exact Qh);rfl;(exact Qp (by exact Ze (by assumption)));exact Vb rfl;rfl;rfl;rfl;rfl;clear hs;intro w hs;simp only[List.take_succ_cons,List.take_zero,List.drop_succ_cons,List.drop_zero,List.cons_append,List.nil_append,List.append_nil]at hs)|((with_reducible apply Jv hs);exact Ii;exact Ii;rfl;assumption;rfl;(with_reducible repeat first|exact Qh|apply Qk);rfl;(simp only[Wm,Ws,Wa,Wc,Wn,Wr]at *;omega);rfl;simp only[Uc,Uz])|((with_reducible apply Qe hs);exact Ii;exact Ii;rfl;rfl;(with_reducible repeat first|exact Qh|apply Qk);rfl;(simp only[Wm,Ws,Wa,Wc,Wn,Wr]at *;omega);rfl;intro b off hat;simp only[Uc,Uz])|(go_at_call 106;(refine(hnow.out).at hs (by with_reducible repeat first|exact Qh|apply Qk) ?_;clear hs;intro w hs;(try simp only[Em,Ma]at hs)))|((show wpList _ _ _ (Oper.mk (some 78) _ _ _ _ _::_) _ _);(rw[he1]at hs;(replace hs:=dkR_mk (d:=b) (m:=m.prep t i now ⟨s1,true,i,s4,s5⟩) (vh:=vh) (call:=.pointer (some ⟨_,_+i*9,none⟩)) (told:=.pointer (some ⟨_,_+t*5+3,none⟩)) ⟨(fun h=>by cases h),(fun i' t' h=>by cases h;exact⟨⟨_,_,by assumption,rfl⟩,⟨_,_,by assumption,rfl⟩⟩)⟩ (hs.fin (by (focus((repeat(first|with_reducible exact Ql|with_reducible apply Qb|exact Qh|with_reducible apply Qk));done))))));((with_reducible apply wl_inv1 hs);rfl;rfl;exact HC2.out _;(with_reducible repeat first|exact Qh|apply Qb|apply Qk);rfl;clear hs;intro v w hs;simp only[Ma]at hs;(have hs9:=Zz.1 hs);clear hs;(obtain⟨rfl,hs⟩:=hs9);(replace hs:=mchR.1 (dkR.1 (hs.pull (A:=DkR _ _ _ _) (by (with_reducible repeat first|exact Qh|apply Qk)))));(obtain⟨vh,call,told,hcur,hs⟩:=hs);simp only[]at hs;simp only[Uc,Uz]))|((with_reducible refine Wp (id:=3) (Paz (Pbz (Pcz [.neu 15,.eff 16 [1,11,12,13],.neu 17,.neu 18,.eff 19 []]))) hs rfl ?_ ?_);kernel_rfl;clear hs;intro w hs)|((with_reducible refine Wp (id:=13) (Paz (Pbz [.neu 10,.eff 11 []])) hs rfl ?_ ?_);kernel_rfl;clear hs;intro w hs)|((with_reducible refine Wp (id:=14) (Paz (Pbz [.neu 10,.neu 11,.neu 12,.neu 13,.eff 14 []])) hs rfl ?_ ?_);kernel_rfl;clear hs;intro w hs))
   (go_end0)
   refine⟨rfl,?_⟩
   simp only[Ma]
   rw[tsk_put (by omega) (by omega),tsk_none rfl,hse4]
   simp only[Em]
   simp only[Yl,List.take_succ_cons,List.take_zero,List.drop_succ_cons,List.drop_zero,List.cons_append,List.nil_append,Nat.reduceAdd]at hs
   apply Jg (vh:=vh) (call:=.pointer none) (told:=.pointer none)
   ·exact⟨fun _=>⟨rfl,rfl⟩,fun _ _ h=>by cases h⟩
   ·simp only[Yk]
    (with_reducible apply Sat.fin hs;repeat first|exact Ql|exact Qh|apply Qb|apply Qk)
  | false=>
   simp only[QT,Yn,if_false]
   (obtain⟨vh,call,told,hcur,hs⟩:=mchR.1 hs)
   go_enter Tryz.func95,Tryz.ntmps95
   go_wp2_with (first|(with_reducible first|apply NQ.mk|apply EQ.mk|exact Zg|apply Zj)|((with_reducible apply Zi);rfl;rfl)|((with_reducible apply Zo);rfl)|((with_reducible refine Zn ?_ ?_);focus((with_reducible apply ZI);rfl;rfl))|(show Qd _ _ _;rfl)|((with_reducible apply Zb hs);exact Ii;rfl;(with_reducible repeat first|exact Qh|apply Qk);rfl;rfl;simp only[Uc,Uz])|((with_reducible apply Zv hs);exact Ii;rfl;rfl;(with_reducible exact Qh);rfl;exact Vb rfl;rfl;clear hs;intro w hs;simp only[Yg,Uc,Uz]at hs)|((with_reducible apply Zt hs);rfl;rfl;rfl;clear hs;intro w b hs;simp only[Uc,Uz])|((with_reducible apply wl_ldS hs);exact Ii;rfl;assumption;(with_reducible repeat first|exact Qh|apply Qk);rfl;(exact Ze (by assumption));rfl;rfl;simp only[Uc,Uz])|((with_reducible apply ZE hs);exact Ii;rfl;assumption;(with_reducible repeat first|exact Qh|apply Qk);rfl;(exact Ze (by assumption));rfl;rfl;simp only[Uc,Uz])|((with_reducible apply Qe hs);exact Ii;exact Ii;rfl;rfl;(with_reducible repeat first|exact Qh|apply Qk);rfl;(simp only[Wm,Ws,Wa,Wc,Wn,Wr]at *;omega);rfl;intro b off hat;simp only[Uc,Uz])|(go_at_call 106;(refine(hnow.out).at hs (by with_reducible repeat first|exact Qh|apply Qk) ?_;clear hs;intro w hs;(try simp only[Em,Ma]at hs)))|((show wpList _ _ _ (Oper.mk (some 78) _ _ _ _ _::_) _ _);(rw[he1]at hs;(replace hs:=dkR_mk (d:=b) (m:=m.prep t i now ⟨s1,true,i,s4,s5⟩) (vh:=vh) (call:=.pointer (some ⟨_,_+i*9,none⟩)) (told:=.pointer (some ⟨_,_+t*5+3,none⟩)) ⟨(fun h=>by cases h),(fun i' t' h=>by cases h;exact⟨⟨_,_,by assumption,rfl⟩,⟨_,_,by assumption,rfl⟩⟩)⟩ (hs.fin (by (focus((repeat(first|with_reducible exact Ql|with_reducible apply Qb|exact Qh|with_reducible apply Qk));done))))));((with_reducible apply wl_inv1 hs);rfl;rfl;exact HC2.out _;(with_reducible repeat first|exact Qh|apply Qb|apply Qk);rfl;clear hs;intro v w hs;simp only[Ma]at hs;(have hs9:=Zz.1 hs);clear hs;(obtain⟨rfl,hs⟩:=hs9);(replace hs:=mchR.1 (dkR.1 (hs.pull (A:=DkR _ _ _ _) (by (with_reducible repeat first|exact Qh|apply Qk)))));(obtain⟨vh,call,told,hcur,hs⟩:=hs);simp only[]at hs;simp only[Uc,Uz]))|((with_reducible refine Wp (id:=3) (Paz (Pbz (Pcz [.neu 15,.eff 16 [1,11,12,13],.neu 17,.neu 18,.eff 19 []]))) hs rfl ?_ ?_);kernel_rfl;clear hs;intro w hs))
   (go_end0)
   refine⟨rfl,?_⟩
   simp only[Ma]
   have e9:m2j=m2j.set t ⟨s1,true,i,kd2,v2⟩:=(List.set_getElem?_self' hse3).symm
   rw[e9,tsk_put (by omega) (by omega),tsk_one,hse4,←e9]
   apply Jg (vh:=vh) (call:=.pointer none) (told:=.pointer none)
   ·exact⟨fun _=>⟨rfl,rfl⟩,fun _ _ h=>by cases h⟩
   ·(with_reducible apply Sat.fin hs;repeat first|exact Ql|exact Qh|apply Qb|apply Qk)
 | false=>
  have he1:(m.seats.map Sea.e).set t ((Sea.e ⟨s1,false,i,s4,s5⟩).set 1 (.bool true))=((m.prep t i now ⟨s1,false,i,s4,s5⟩).seats).map Sea.e:=by simp[Mch.prep,Yk]
  have er:Zp T s m i t ⟨c1,c2,c3,c4,c5,c6,c7,c8,c9⟩ ⟨s1,false,i,s4,s5⟩ k now=T.rdy s (m.prep t i now ⟨s1,false,i,s4,s5⟩) i t ⟨c1,c2,c3,c4,c5,c6,c7,c8,c9⟩ ⟨s1,true,i,s4,s5⟩ k:=rfl
  have hC:=fun d=>hT.cr d bx bm s (m.prep t i now ⟨s1,false,i,s4,s5⟩) i t ⟨c1,c2,c3,c4,c5,c6,c7,c8,c9⟩ ⟨s1,true,i,s4,s5⟩ k s1 (HR.out rfl) hcin
  have hF:=hT.fr s (m.prep t i now ⟨s1,false,i,s4,s5⟩) i t ⟨c1,c2,c3,c4,c5,c6,c7,c8,c9⟩ ⟨s1,true,i,s4,s5⟩ k hcin
  unfold Z9
  rw[er]at HS ⊢
  generalize T.rdy s (m.prep t i now ⟨s1,false,i,s4,s5⟩) i t ⟨c1,c2,c3,c4,c5,c6,c7,c8,c9⟩ ⟨s1,true,i,s4,s5⟩ k=r at hC hF HS ⊢
  obtain⟨b1,sg1,m1,k1⟩:=r
  simp only[]at hC hF HS
  have hcin1:=hF.curIn hcin
  have hse2:m1.seats.eraseIdx t=m.seats.eraseIdx t:=by obtain⟨_,_,hh⟩:=hF.seats;rw[hh];simp[Mch.prep,List.eraseIdx_set_eq]
  have hsl2:m1.seats.length=m.seats.length:=by obtain⟨_,_,hh⟩:=hF.seats;rw[hh];simp[Mch.prep]
  obtain⟨f1,f2,f3,f4,f5,f6,f7,_,_⟩:=hF
  obtain⟨z1,kd1,v1,hcin1⟩:=hcin1
  obtain⟨m1a,m1b,m1c,m1d,m1e,m1f,m1g,m1h,m1i,m1j,m1k,m1l⟩:=m1
  simp only[]at hse2 hsl2
  have hse1:=hcin1.seat
  have hc1:=hcin1.call
  simp only[]at hse1 hc1
  have li1:=(List.getElem?_eq_some_iff.1 hc1).1
  have lt1:=(List.getElem?_eq_some_iff.1 hse1).1
  simp only[Mch.prep]at f1 f2 f3 f4 f5 f6 f7
  have f6:=f6.symm
  subst f1 f2 f3 f4 f5 f6 f7
  have HC:=Lh hC;clear hC
  cases b1 with
  | true=>
   simp only[Jc,Bool.true_eq_false,if_false]
   rw[hcin1.getC,hcin1.getS]
   simp only[QT,if_true]
   (obtain⟨vh,call,told,hcur,hs⟩:=mchR.1 hs)
   go_enter Tryz.func95,Tryz.ntmps95
   go_wp2_with (first|(with_reducible first|apply NQ.mk|apply EQ.mk|exact Zg|apply Zj)|((with_reducible apply Zi);rfl;rfl)|((with_reducible apply Zo);rfl)|((with_reducible refine Zn ?_ ?_);focus((with_reducible apply ZI);rfl;rfl))|(show Qd _ _ _;rfl)|((with_reducible apply Zb hs);exact Ii;rfl;(with_reducible repeat first|exact Qh|apply Qk);rfl;rfl;simp only[Uc,Uz])|((with_reducible apply Zv hs);exact Ii;rfl;rfl;(with_reducible repeat first|exact Qh|apply Qk);rfl;exact Vb rfl;rfl;clear hs;intro w hs;simp only[Yg,Uc,Uz]at hs)|((with_reducible apply Zt hs);rfl;rfl;rfl;clear hs;intro w b hs;simp only[Uc,Uz])|((with_reducible apply wl_ldS hs);exact Ii;rfl;assumption;(with_reducible repeat first|exact Qh|apply Qk);rfl;(exact Ze (by assumption));rfl;rfl;simp only[Uc,Uz])|((with_reducible apply ZE hs);exact Ii;rfl;assumption;(with_reducible exact Qh);rfl;(exact Qp (by exact Ze (by assumption)));rfl;rfl;simp only[Uc,Uz])|((with_reducible apply wl_stS hs);exact Ii;rfl;rfl;assumption;(with_reducible repeat first|exact Qh|apply Qk);rfl;(exact Ze (by assumption));exact Vb rfl;rfl;rfl;clear hs;intro w hs)|((with_reducible apply QO hs);exact Ii;rfl;rfl;assumption;(with_reducible repeat first|exact Qh|apply Qk);rfl;(exact Ze (by assumption));exact Vb rfl;rfl;rfl;clear hs;intro w hs)|((with_reducible apply wl_ldSN hs);exact Ii;rfl;assumption;(with_reducible repeat first|exact Qh|apply Qk);rfl;(exact Ze (by assumption));exact Vb rfl;rfl;rfl;simp only[Uc,Uz])|((with_reducible apply wl_stSN hs);exact Ii;rfl;rfl;assumption;(with_reducible exact Qh);rfl;(exact Qp (by exact Ze (by assumption)));exact Vb rfl;rfl;rfl;rfl;rfl;clear hs;intro w hs;simp only[List.take_succ_cons,List.take_zero,List.drop_succ_cons,List.drop_zero,List.cons_append,List.nil_append,List.append_nil]at hs)|((with_reducible apply Jv hs);exact Ii;exact Ii;rfl;assumption;rfl;(with_reducible repeat first|exact Qh|apply Qk);rfl;(simp only[Wm,Ws,Wa,Wc,Wn,Wr]at *;omega);rfl;simp only[Uc,Uz])|((with_reducible apply Qe hs);exact Ii;exact Ii;rfl;rfl;(with_reducible repeat first|exact Qh|apply Qk);rfl;(simp only[Wm,Ws,Wa,Wc,Wn,Wr]at *;omega);rfl;intro b off hat;simp only[Uc,Uz])|(go_at_call 106;(refine(hnow.out).at hs (by with_reducible repeat first|exact Qh|apply Qk) ?_;clear hs;intro w hs;(try simp only[Em,Ma]at hs)))|((show wpList _ _ _ (Oper.mk _ (.call { callee:=.invoke _ _,args:=_,argTypes:=_ }) _ _ _ _::_) _ _);(rw[he1]at hs;(replace hs:=dkR_mk (d:=b) (m:=m.prep t i now ⟨s1,false,i,s4,s5⟩) (vh:=vh) (call:=.pointer (some ⟨_,_+i*9,none⟩)) (told:=.pointer (some ⟨_,_+t*5+3,none⟩)) ⟨(fun h=>by cases h),(fun i' t' h=>by cases h;exact⟨⟨_,_,by assumption,rfl⟩,⟨_,_,by assumption,rfl⟩⟩)⟩ (hs.fin (by (focus((repeat(first|with_reducible exact Ql|with_reducible apply Qb|exact Qh|with_reducible apply Qk));done))))));((with_reducible apply wl_inv1 hs);rfl;rfl;exact HC.out _;(with_reducible repeat first|exact Qh|apply Qb|apply Qk);rfl;clear hs;intro v w hs;simp only[Ma]at hs;(have hs9:=Zz.1 hs);clear hs;(obtain⟨rfl,hs⟩:=hs9);(replace hs:=mchR.1 (dkR.1 (hs.pull (A:=DkR _ _ _ _) (by (with_reducible repeat first|exact Qh|apply Qk)))));(obtain⟨vh,call,told,hcur,hs⟩:=hs);simp only[]at hs;simp only[Uc,Uz]))|((with_reducible refine Wp (id:=3) (Paz (Pbz (Pcz [.neu 15,.eff 16 [1,11,12,13],.neu 17,.neu 18,.eff 19 []]))) hs rfl ?_ ?_);kernel_rfl;clear hs;intro w hs)|((with_reducible refine Wp (id:=13) (Paz (Pbz [.neu 10,.eff 11 []])) hs rfl ?_ ?_);kernel_rfl;clear hs;intro w hs)|((with_reducible refine Wp (id:=14) (Paz (Pbz [.neu 10,.neu 11,.neu 12,.neu 13,.eff 14 []])) hs rfl ?_ ?_);kernel_rfl;clear hs;intro w hs))
   (go_end0)
   refine⟨rfl,?_⟩
   simp only[Ma]
   rw[tsk_put (by omega) (by omega),tsk_none rfl,hse2]
   simp only[Em]
   simp only[Yl,List.take_succ_cons,List.take_zero,List.drop_succ_cons,List.drop_zero,List.cons_append,List.nil_append,Nat.reduceAdd]at hs
   apply Jg (vh:=vh) (call:=.pointer none) (told:=.pointer none)
   ·exact⟨fun _=>⟨rfl,rfl⟩,fun _ _ h=>by cases h⟩
   ·simp only[Yk]
    (with_reducible apply Sat.fin hs;repeat first|exact Ql|exact Qh|apply Qb|apply Qk)
  | false=>
   have hC2:=fun d=>hT.cs d bx bm sg1 ⟨m1a,(t:Int),now,some (i,t),m1e,m1f,m.kit,m.vs,m.vc,m1j,m.moves,m1l⟩ i t ⟨c1,c2,c3,c4,c5,c6,z1,c8,c9⟩ ⟨s1,true,i,kd1,v1⟩ k1 s1 (HS.out (by trivial)) hcin1
   have hF2:=hT.fs sg1 ⟨m1a,(t:Int),now,some (i,t),m1e,m1f,m.kit,m.vs,m.vc,m1j,m.moves,m1l⟩ i t ⟨c1,c2,c3,c4,c5,c6,z1,c8,c9⟩ ⟨s1,true,i,kd1,v1⟩ k1 hcin1
   simp only[Jc,if_true]
   rw[(hcin1).getC,(hcin1).getS]
   generalize T.stp sg1 ⟨m1a,(t:Int),now,some (i,t),m1e,m1f,m.kit,m.vs,m.vc,m1j,m.moves,m1l⟩ i t ⟨c1,c2,c3,c4,c5,c6,z1,c8,c9⟩ ⟨s1,true,i,kd1,v1⟩ k1=r2 at hC2 hF2 ⊢
   obtain⟨b2,sg2,m2,k2⟩:=r2
   simp only[]at hC2 hF2
   have hcin2:=hF2.curIn hcin1
   have hse4:m2.seats.eraseIdx t=m.seats.eraseIdx t:=by obtain⟨_,_,hh⟩:=hF2.seats;rw[hh];simp[hse2,hsl2,List.eraseIdx_set_eq]
   have hsl4:m2.seats.length=m.seats.length:=by obtain⟨_,_,hh⟩:=hF2.seats;rw[hh];simp[hse2,hsl2]
   obtain⟨g1,g2,g3,g4,g5,g6,g7,_,_⟩:=hF2
   obtain⟨z2,kd2,v2,hcin2⟩:=hcin2
   obtain⟨m2a,m2b,m2c,m2d,m2e,m2f,m2g,m2h,m2i,m2j,m2k,m2l⟩:=m2
   simp only[]at hse4 hsl4
   have hse3:=hcin2.seat
   have hc3:=hcin2.call
   simp only[]at hse3 hc3
   have li2:=(List.getElem?_eq_some_iff.1 hc3).1
   have lt2:=(List.getElem?_eq_some_iff.1 hse3).1
   simp only[Mch.prep]at g1 g2 g3 g4 g5 g6 g7
   have g6:=g6.symm
   subst g1 g2 g3 g4 g5 g6 g7
   have HC2:=Lh hC2;clear hC2
   rw[hcin2.getC,hcin2.getS]
   cases b2 with
   | true=>
    simp only[QT,if_true]
    (obtain⟨vh,call,told,hcur,hs⟩:=mchR.1 hs)
    go_enter Tryz.func95,Tryz.ntmps95
    go_wp2_with (first|(with_reducible first|apply NQ.mk|apply EQ.mk|exact Zg|apply Zj)|((with_reducible apply Zi);rfl;rfl)|((with_reducible apply Zo);rfl)|((with_reducible refine Zn ?_ ?_);focus((with_reducible apply ZI);rfl;rfl))|(show Qd _ _ _;rfl)|((with_reducible apply Zb hs);exact Ii;rfl;(with_reducible repeat first|exact Qh|apply Qk);rfl;rfl;simp only[Uc,Uz])|((with_reducible apply Zv hs);exact Ii;rfl;rfl;(with_reducible repeat first|exact Qh|apply Qk);rfl;exact Vb rfl;rfl;clear hs;intro w hs;simp only[Yg,Uc,Uz]at hs)|((with_reducible apply Zt hs);rfl;rfl;rfl;clear hs;intro w b hs;simp only[Uc,Uz])|((with_reducible apply wl_ldS hs);exact Ii;rfl;assumption;(with_reducible repeat first|exact Qh|apply Qk);rfl;(exact Ze (by assumption));rfl;rfl;simp only[Uc,Uz])|((with_reducible apply ZE hs);exact Ii;rfl;assumption;(with_reducible repeat first|exact Qh|apply Qk);rfl;(first|exact Ze (by assumption)|exact Qp (by exact Ze (by assumption)));rfl;rfl;simp only[Uc,Uz])|((with_reducible apply wl_stS hs);exact Ii;rfl;rfl;assumption;(with_reducible repeat first|exact Qh|apply Qk);rfl;(exact Ze (by assumption));exact Vb rfl;rfl;rfl;clear hs;intro w hs)|((with_reducible apply QO hs);exact Ii;rfl;rfl;assumption;(with_reducible repeat first|exact Qh|apply Qk);rfl;(exact Ze (by assumption));exact Vb rfl;rfl;rfl;clear hs;intro w hs)|((with_reducible apply wl_ldSN hs);exact Ii;rfl;assumption;(with_reducible repeat first|exact Qh|apply Qk);rfl;(exact Ze (by assumption));exact Vb rfl;rfl;rfl;simp only[Uc,Uz])|((with_reducible apply wl_stSN hs);exact Ii;rfl;rfl;assumption;(with_reducible exact Qh);rfl;(exact Qp (by exact Ze (by assumption)));exact Vb rfl;rfl;rfl;rfl;rfl;clear hs;intro w hs;simp only[List.take_succ_cons,List.take_zero,List.drop_succ_cons,List.drop_zero,List.cons_append,List.nil_append,List.append_nil]at hs)|((with_reducible apply Jv hs);exact Ii;exact Ii;rfl;assumption;rfl;(with_reducible repeat first|exact Qh|apply Qk);rfl;(simp only[Wm,Ws,Wa,Wc,Wn,Wr]at *;omega);rfl;simp only[Uc,Uz])|((with_reducible apply Qe hs);exact Ii;exact Ii;rfl;rfl;(with_reducible repeat first|exact Qh|apply Qk);rfl;(simp only[Wm,Ws,Wa,Wc,Wn,Wr]at *;omega);rfl;intro b off hat;simp only[Uc,Uz])|(go_at_call 106;(refine(hnow.out).at hs (by with_reducible repeat first|exact Qh|apply Qk) ?_;clear hs;intro w hs;(try simp only[Em,Ma]at hs)))|((show wpList _ _ _ (Oper.mk (some 70) _ _ _ _ _::_) _ _);(rw[he1]at hs;(replace hs:=dkR_mk (d:=b) (m:=m.prep t i now ⟨s1,false,i,s4,s5⟩) (vh:=vh) (call:=.pointer (some ⟨_,_+i*9,none⟩)) (told:=.pointer (some ⟨_,_+t*5+3,none⟩)) ⟨(fun h=>by cases h),(fun i' t' h=>by cases h;exact⟨⟨_,_,by assumption,rfl⟩,⟨_,_,by assumption,rfl⟩⟩)⟩ (hs.fin (by (focus((repeat(first|with_reducible exact Ql|with_reducible apply Qb|exact Qh|with_reducible apply Qk));done))))));((with_reducible apply wl_inv1 hs);rfl;rfl;exact HC.out _;(with_reducible repeat first|exact Qh|apply Qb|apply Qk);rfl;clear hs;intro v w hs;simp only[Ma]at hs;(have hs9:=Zz.1 hs);clear hs;(obtain⟨rfl,hs⟩:=hs9);(replace hs:=mchR.1 (dkR.1 (hs.pull (A:=DkR _ _ _ _) (by (with_reducible repeat first|exact Qh|apply Qk)))));(obtain⟨vh,call,told,hcur,hs⟩:=hs);simp only[]at hs;simp only[Uc,Uz]))|((show wpList _ _ _ (Oper.mk (some 78) _ _ _ _ _::_) _ _);(replace hs:=dkR_mk (d:=b) (m:=⟨m1a,(t:Int),now,some (i,t),m1e,m1f,m.kit,m.vs,m.vc,m1j,m.moves,m1l⟩) hcur (hs.fin (by (with_reducible exact Ql))));((with_reducible apply wl_inv1 hs);rfl;rfl;exact HC2.out _;(with_reducible repeat first|exact Qh|apply Qb|apply Qk);rfl;clear hs;intro v w hs;simp only[Ma]at hs;(have hs9:=Zz.1 hs);clear hs;(obtain⟨rfl,hs⟩:=hs9);(replace hs:=mchR.1 (dkR.1 (hs.pull (A:=DkR _ _ _ _) (by (with_reducible repeat first|exact Qh|apply Qk)))));(obtain⟨vh,call,told,hcur,hs⟩:=hs);simp only[]at hs;simp only[Uc,Uz]))|((with_reducible refine Wp (id:=3) (Paz (Pbz (Pcz [.neu 15,.eff 16 [1,11,12,13],.neu 17,.neu 18,.eff 19 []]))) hs rfl ?_ ?_);kernel_rfl;clear hs;intro w hs)|((with_reducible refine Wp (id:=13) (Paz (Pbz [.neu 10,.eff 11 []])) hs rfl ?_ ?_);kernel_rfl;clear hs;intro w hs)|((with_reducible refine Wp (id:=14) (Paz (Pbz [.neu 10,.neu 11,.neu 12,.neu 13,.eff 14 []])) hs rfl ?_ ?_);kernel_rfl;clear hs;intro w hs))
    (go_end0)
    refine⟨rfl,?_⟩
    simp only[Ma]
    rw[tsk_put (by omega) (by omega),tsk_none rfl,hse4]
    simp only[Em]
    simp only[Yl,List.take_succ_cons,List.take_zero,List.drop_succ_cons,List.drop_zero,List.cons_append,List.nil_append,Nat.reduceAdd]at hs
    apply Jg (vh:=vh) (call:=.pointer none) (told:=.pointer none)
    ·exact⟨fun _=>⟨rfl,rfl⟩,fun _ _ h=>by cases h⟩
    ·simp only[Yk]
     (with_reducible apply Sat.fin hs;repeat first|exact Ql|exact Qh|apply Qb|apply Qk)
   | false=>
    simp only[QT,Yn,if_false]
    (obtain⟨vh,call,told,hcur,hs⟩:=mchR.1 hs)
    go_enter Tryz.func95,Tryz.ntmps95
    go_wp2_with (first|(with_reducible first|apply NQ.mk|apply EQ.mk|exact Zg|apply Zj)|((with_reducible apply Zi);rfl;rfl)|((with_reducible apply Zo);rfl)|((with_reducible refine Zn ?_ ?_);focus((with_reducible apply ZI);rfl;rfl))|(show Qd _ _ _;rfl)|((with_reducible apply Zb hs);exact Ii;rfl;(with_reducible repeat first|exact Qh|apply Qk);rfl;rfl;simp only[Uc,Uz])|((with_reducible apply Zv hs);exact Ii;rfl;rfl;(with_reducible repeat first|exact Qh|apply Qk);rfl;exact Vb rfl;rfl;clear hs;intro w hs;simp only[Yg,Uc,Uz]at hs)|((with_reducible apply Zt hs);rfl;rfl;rfl;clear hs;intro w b hs;simp only[Uc,Uz])|((with_reducible apply wl_ldS hs);exact Ii;rfl;assumption;(with_reducible repeat first|exact Qh|apply Qk);rfl;(exact Ze (by assumption));rfl;rfl;simp only[Uc,Uz])|((with_reducible apply ZE hs);exact Ii;rfl;assumption;(with_reducible repeat first|exact Qh|apply Qk);rfl;(first|exact Ze (by assumption)|exact Qp (by exact Ze (by assumption)));rfl;rfl;simp only[Uc,Uz])|((with_reducible apply wl_stS hs);exact Ii;rfl;rfl;assumption;(with_reducible repeat first|exact Qh|apply Qk);rfl;(exact Ze (by assumption));exact Vb rfl;rfl;rfl;clear hs;intro w hs)|((with_reducible apply Qe hs);exact Ii;exact Ii;rfl;rfl;(with_reducible repeat first|exact Qh|apply Qk);rfl;(simp only[Wm,Ws,Wa,Wc,Wn,Wr]at *;omega);rfl;intro b off hat;simp only[Uc,Uz])|(go_at_call 106;(refine(hnow.out).at hs (by with_reducible repeat first|exact Qh|apply Qk) ?_;clear hs;intro w hs;(try simp only[Em,Ma]at hs)))|((show wpList _ _ _ (Oper.mk (some 70) _ _ _ _ _::_) _ _);(rw[he1]at hs;(replace hs:=dkR_mk (d:=b) (m:=m.prep t i now ⟨s1,false,i,s4,s5⟩) (vh:=vh) (call:=.pointer (some ⟨_,_+i*9,none⟩)) (told:=.pointer (some ⟨_,_+t*5+3,none⟩)) ⟨(fun h=>by cases h),(fun i' t' h=>by cases h;exact⟨⟨_,_,by assumption,rfl⟩,⟨_,_,by assumption,rfl⟩⟩)⟩ (hs.fin (by (focus((repeat(first|with_reducible exact Ql|with_reducible apply Qb|exact Qh|with_reducible apply Qk));done))))));((with_reducible apply wl_inv1 hs);rfl;rfl;exact HC.out _;(with_reducible repeat first|exact Qh|apply Qb|apply Qk);rfl;clear hs;intro v w hs;simp only[Ma]at hs;(have hs9:=Zz.1 hs);clear hs;(obtain⟨rfl,hs⟩:=hs9);(replace hs:=mchR.1 (dkR.1 (hs.pull (A:=DkR _ _ _ _) (by (with_reducible repeat first|exact Qh|apply Qk)))));(obtain⟨vh,call,told,hcur,hs⟩:=hs);simp only[]at hs;simp only[Uc,Uz]))|((show wpList _ _ _ (Oper.mk (some 78) _ _ _ _ _::_) _ _);(replace hs:=dkR_mk (d:=b) (m:=⟨m1a,(t:Int),now,some (i,t),m1e,m1f,m.kit,m.vs,m.vc,m1j,m.moves,m1l⟩) hcur (hs.fin (by (with_reducible exact Ql))));((with_reducible apply wl_inv1 hs);rfl;rfl;exact HC2.out _;(with_reducible repeat first|exact Qh|apply Qb|apply Qk);rfl;clear hs;intro v w hs;simp only[Ma]at hs;(have hs9:=Zz.1 hs);clear hs;(obtain⟨rfl,hs⟩:=hs9);(replace hs:=mchR.1 (dkR.1 (hs.pull (A:=DkR _ _ _ _) (by (with_reducible repeat first|exact Qh|apply Qk)))));(obtain⟨vh,call,told,hcur,hs⟩:=hs);simp only[]at hs;simp only[Uc,Uz]))|((with_reducible refine Wp (id:=3) (Paz (Pbz (Pcz [.neu 15,.eff 16 [1,11,12,13],.neu 17,.neu 18,.eff 19 []]))) hs rfl ?_ ?_);kernel_rfl;clear hs;intro w hs))
    (go_end0)
    refine⟨rfl,?_⟩
    simp only[Ma]
    have e9:m2j=m2j.set t ⟨s1,true,i,kd2,v2⟩:=(List.set_getElem?_self' hse3).symm
    rw[e9,tsk_put (by omega) (by omega),tsk_one,hse4,←e9]
    apply Jg (vh:=vh) (call:=.pointer none) (told:=.pointer none)
    ·exact⟨fun _=>⟨rfl,rfl⟩,fun _ _ h=>by cases h⟩
    ·(with_reducible apply Sat.fin hs;repeat first|exact Ql|exact Qh|apply Qb|apply Qk)
end Go.Proofs.YtefjbdajgakgpaaGreat
