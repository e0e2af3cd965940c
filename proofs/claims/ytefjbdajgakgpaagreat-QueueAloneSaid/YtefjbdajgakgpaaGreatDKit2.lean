import Derived.Test.YtefjbdajgakgpaaGreatDMach2
set_option linter.all false
namespace Go.Proofs.YtefjbdajgakgpaaGreat
open Go.RowKit Hp
set_option maxRecDepth 100000
set_option maxHeartbeats 1000000
attribute [local irreducible] Go.Calls
section
theorem fnil_run (x:Operand)(f:Fn)(a b:Array Value)(w:World):(do pure (Next.value (←(do eqGuard .eql 177 x (.const .nilFunc) (.func f a b) .nilFunc;binOp .eql 177 (.func f a b) .nilFunc))):Sem Next).run Tryz.prog w=.ok (.value (.bool false)) w:=by
 kernel_rfl
theorem wl_fnil {ops:Array Oper}{Q:Exit→Act→World→Prop}{w:World}{rest:List Oper}{l:List Value}{ds:List Deferred}{ty y:TypeId}{pos:String}{after:Array Edge}{gd:Option (Nat×Bool)}{d:Nat}{x:Operand}{f:Fn}{a b:Array Value}(hx:ev l x=some (.func f a b))
  (hg:Region.wanted { dst:=some d,op:=.binOp .eql 177 x (.const .nilFunc) y,type:=ty,pos,after,guard:=gd } (yielded ops l.toArray)=true)
  (kk:wpList Tryz.prog ops Q rest ⟨(l.set d (.bool false)).toArray,ds⟩ w) :
  wpList Tryz.prog ops Q ({ dst:=some d,op:=.binOp .eql 177 x (.const .nilFunc) y,type:=ty,pos,after,guard:=gd }::rest) ⟨l.toArray,ds⟩ w:=by
 refine QE (v:=.bool false) hg ?_ (ZU▸kk)
 have e:(Act.mk l.toArray ds).eval x=.func f a b:=Zm hx
 simp only[execOp,e]
 exact fnil_run x f a b w
theorem fnil2_run (x:Operand)(w:World):(do pure (Next.value (←(do eqGuard .eql 177 x (.const .nilFunc) .nilFunc .nilFunc;binOp .eql 177 .nilFunc .nilFunc))):Sem Next).run Tryz.prog w=.ok (.value (.bool true)) w:=by
 kernel_rfl
theorem wl_fnil2 {ops:Array Oper}{Q:Exit→Act→World→Prop}{w:World}{rest:List Oper}{l:List Value}{ds:List Deferred}{ty y:TypeId}{pos:String}{after:Array Edge}{gd:Option (Nat×Bool)}{d:Nat}{x:Operand}(hx:ev l x=some .nilFunc)
  (hg:Region.wanted { dst:=some d,op:=.binOp .eql 177 x (.const .nilFunc) y,type:=ty,pos,after,guard:=gd } (yielded ops l.toArray)=true)
  (kk:wpList Tryz.prog ops Q rest ⟨(l.set d (.bool true)).toArray,ds⟩ w) :
  wpList Tryz.prog ops Q ({ dst:=some d,op:=.binOp .eql 177 x (.const .nilFunc) y,type:=ty,pos,after,guard:=gd }::rest) ⟨l.toArray,ds⟩ w:=by
 refine QE (v:=.bool true) hg ?_ (ZU▸kk)
 have e:(Act.mk l.toArray ds).eval x=.nilFunc:=Zm hx
 simp only[execOp,e]
 exact fnil2_run x w
section
variable {σ τ:Type}(T:JH σ τ)(bx bm:Nat){m:Mch}{mv:Mv}
theorem move_step (hT:T.Good)(s:σ)(tasks:List (Option τ))(hcur0:m.cur=none)(hl:m.moves<65536)(hm0:0≤m.moves){t i:Nat}{c:Cll}{se:Sea}{k:τ}(ht:mv.thread=(t:Int))(hop:mv.op=0)(hse:m.seats[t]? = some se)(hk:tasks[t]? = some (some k))(hlast:se.last=(i:Int))(hc:m.calls[i]? = some c)(hlen:tasks.length=m.seats.length)
  (hr:se.ready=false→T.okr s ({ m with moves:=m.moves+1 }.prep t i m.moves se) t k)
  (hs2:(Zp T s { m with moves:=m.moves+1 } i t c se k m.moves).1=false→T.oks (Zp T s { m with moves:=m.moves+1 } i t c se k m.moves).2.1 (Zp T s { m with moves:=m.moves+1 } i t c se k m.moves).2.2.1 t (Zp T s { m with moves:=m.moves+1 } i t c se k m.moves).2.2.2) :
  Zk Tryz.prog 59 #[.pointer (some ⟨bx,0,none⟩),mv.v] (MchR bx bm m*(T.X s*tskR T.R tasks m.seats)) (.bool true)
   (MchR bx bm (Z9 T s { m with moves:=m.moves+1 } i t c se k m.moves).2.1*(T.X (Z9 T s { m with moves:=m.moves+1 } i t c se k m.moves).1*tskR T.R (tasks.set t (Z9 T s { m with moves:=m.moves+1 } i t c se k m.moves).2.2) (Z9 T s { m with moves:=m.moves+1 } i t c se k m.moves).2.1.seats)):=by
 obtain⟨v1,v2,v3,v4⟩:=mv
 simp only[]at ht hop
 subst ht hop
 have hS:=mach_step T hT bx bm s { m with moves:=m.moves+1 } tasks i t c se k m.moves hcur0 hse hk hlast hc hlen hr hs2
 clear hr hs2
 intro O w F hs
 simp only[Ma]at hs
 obtain⟨ty,x,hx⟩:∃ty x,se.task=.iface ty x:=by
  have h:=hs
  rw[tsk_at hk hse,tsk_one]at h
  simp only[Ma]at h
  have h2:=h.pull (A:=T.R k se.task) (by (with_reducible repeat first|exact Qh|apply Qk))
  exact hT.iface h2
 generalize Z9 T s { m with moves:=m.moves+1 } i t c se k m.moves=r at hS ⊢
 obtain⟨r1,r2,r3⟩:=r
 have HS:=Lh hS;clear hS
 obtain⟨s1,s2,s3,s4,s5⟩:=se
 simp only[]at hx
 subst hx
 clear hk hlen hlast hc hcur0
 (obtain⟨vh,call,told,hcur,hs⟩:=mchR.1 hs)
 have lt:=(List.getElem?_eq_some_iff.1 hse).1
 have h0':((m.seats.length:Int)==0)=false:=by simp;intro e;simp[e]at lt
 have h1:decide (m.moves≥65536)=false:=by simpa using hl
 have h2:decide ((t:Int)<0)=false:=by simp
 have h3:decide ((t:Int)≥(m.seats.length:Int))=false:=by simp;omega
 go_enter Tryz.func59,Tryz.ntmps59
 go_wp2_with (first|(with_reducible refine NQ.mk ?_)|((with_reducible apply Zi);rfl;rfl)|(with_reducible refine Zj ?_)|((with_reducible apply Zb hs);exact Ii;rfl;(with_reducible repeat first|exact Qh|apply Qk);rfl;rfl;simp only[Uc,Uz])|((with_reducible apply Zv hs);exact Ii;rfl;rfl;(with_reducible repeat first|exact Qh|apply Qk);rfl;exact Vb rfl;rfl;clear hs;intro w hs;simp only[Yg,Uc,Uz]at hs)|((with_reducible apply Zt hs);rfl;rfl;rfl;clear hs;intro w b hs;simp only[Uc,Uz])|((with_reducible apply ZE hs);exact Ii;rfl;assumption;(with_reducible repeat first|exact Qh|apply Qk);rfl;(exact Ze (by assumption));rfl;rfl;simp only[Uc,Uz])|((with_reducible apply Qe hs);exact Ii;exact Ii;rfl;rfl;(with_reducible repeat first|exact Qh|apply Qk);rfl;(simp only[Wm,Ws,Wa,Wc,Wn,Wr]at *;omega);rfl;intro b off hat;simp only[Uc,Uz])|((with_reducible apply ZS hs);exact Ii;rfl;(with_reducible repeat first|exact Qh|apply Qk);rfl;simp only[Uc,Uz])|(go_at_call 95;(replace hs:=Jg (m:={ m with moves:=m.moves+1 }) hcur (hs.fin (by (with_reducible repeat first|exact Ql|exact Qh|apply Qb|apply Qk))));(refine(HS.out).at hs (by with_reducible repeat first|exact Qh|apply Qb|apply Qk) ?_;clear hs;intro w hs;(try simp only[Em,Ma]at hs)))|((with_reducible refine Wp (id:=5) (Paz (Pbz [.neu 10,.neu 11,.neu 12])) hs rfl ?_ ?_);kernel_rfl;clear hs;intro w hs)|((with_reducible refine Wp (id:=7) (Paz [.neu 5,.neu 6,.neu 7]) hs rfl ?_ ?_);kernel_rfl;clear hs;intro w hs))
 go_ret
 refine⟨rfl,?_⟩
 simp only[Ma]
 (with_reducible apply Sat.fin hs;repeat first|exact Ql|exact Qh|apply Qb|apply Qk)
theorem move_nokit {kv:Value}{K:Int→Option Value}(hkv:m.kit=kv)(hl:m.moves<65536)(hm0:0≤m.moves){t:Nat}{se:Sea}(ht:mv.thread=(t:Int))(hop:mv.op≠0)(hse:m.seats[t]? = some se)(hidle:se.task=.nilIface)(hK:K mv.op=none) :
  Zk Tryz.prog 59 #[.pointer (some ⟨bx,0,none⟩),mv.v] (MchR bx bm m*mp .i64 K kv) (.bool false) (MchR bx bm { m with moves:=m.moves+1 }*mp .i64 K kv):=by
 obtain⟨v1,v2,v3,v4⟩:=mv
 obtain⟨s1,s2,s3,s4,s5⟩:=se
 simp only[]at ht hidle hop hK
 subst ht hidle hkv
 intro O w F hs
 simp only[Ma]at hs
 (obtain⟨vh,call,told,hcur,hs⟩:=mchR.1 hs)
 have lt:=(List.getElem?_eq_some_iff.1 hse).1
 have h0':((m.seats.length:Int)==0)=false:=by simp;intro e;simp[e]at lt
 have h1:decide (m.moves≥65536)=false:=by simpa using hl
 have h2:decide ((t:Int)<0)=false:=by simp
 have h3:decide ((t:Int)≥(m.seats.length:Int))=false:=by simp;omega
 have h4:(v2==0)=false:=by simpa using hop
 have h5:(K v2).getD .nilFunc=.nilFunc:=by rw[hK];rfl
 clear hK
 have HN:=Lh hop;clear hop
 go_enter Tryz.func59,Tryz.ntmps59
 go_wp2_with (first|(with_reducible refine NQ.mk ?_)|((with_reducible apply Zi);rfl;rfl)|(with_reducible refine Zj ?_)|((with_reducible apply Zb hs);exact Ii;rfl;(with_reducible repeat first|exact Qh|apply Qk);rfl;rfl;simp only[Uc,Uz])|((with_reducible apply Zv hs);exact Ii;rfl;rfl;(with_reducible repeat first|exact Qh|apply Qk);rfl;exact Vb rfl;rfl;clear hs;intro w hs;simp only[Yg,Uc,Uz]at hs)|((with_reducible apply Zt hs);rfl;rfl;rfl;clear hs;intro w b hs;simp only[Uc,Uz])|((with_reducible apply ZE hs);exact Ii;rfl;assumption;(with_reducible repeat first|exact Qh|apply Qk);rfl;(exact Ze (by assumption));rfl;rfl;simp only[Uc,Uz])|((with_reducible apply Qe hs);exact Ii;exact Ii;rfl;rfl;(with_reducible repeat first|exact Qh|apply Qk);rfl;(simp only[Wm,Ws,Wa,Wc,Wn,Wr]at *;omega);rfl;intro b off hat;simp only[Uc,Uz])|((with_reducible apply ZS hs);exact Ii;rfl;(with_reducible repeat first|exact Qh|apply Qk);rfl;simp only[Uc,Uz])|((with_reducible apply wl_lk hs);exact Ii;rfl;rfl;(with_reducible repeat first|exact Qh|apply Qk);(assumption);rfl;simp only[Uc,Uz])|((with_reducible apply wl_fnil2);rfl;rfl;simp only[Uc,Uz])|((with_reducible refine Wp (id:=5) (Paz (Pbz [.neu 10,.neu 11,.neu 12])) hs rfl ?_ ?_);kernel_rfl;clear hs;intro w hs)|((with_reducible refine Wp (id:=7) (Paz [.neu 5,.neu 6,.neu 7]) hs rfl ?_ ?_);kernel_rfl;clear hs;intro w hs)|((with_reducible refine Wp (id:=15) (Paz [.neu 5,.neu 6,.neu 7]) hs rfl ?_ ?_);kernel_rfl;clear hs;intro w hs))
 go_ret
 refine⟨rfl,?_⟩
 simp only[Ma]
 apply Jg (m:={ m with moves:=m.moves+1 }) hcur
 (with_reducible apply Sat.fin hs;repeat first|exact Ql|exact Qh|apply Qb|apply Qk)
theorem move_refused {K:Int→Option Value}{mkr:σ→Nat→Mv→Option τ}{ok:σ→Prop}{n:Nat}(hKO:KitOk T K mkr ok n)(s:σ)(hok:ok s){kv:Value}(hkv:m.kit=kv)(hl:m.moves<65536)(hm0:0≤m.moves){t:Nat}{se:Sea}(ht:mv.thread=(t:Int))(htn:t<n)(hop:mv.op≠0)(hse:m.seats[t]? = some se)(hidle:se.task=.nilIface){u:Value}(hK:K mv.op=some u)(hmk:mkr s t mv=none) :
  Zk Tryz.prog 59 #[.pointer (some ⟨bx,0,none⟩),mv.v] (MchR bx bm m*(mp .i64 K kv*T.X s)) (.bool false) (MchR bx bm { m with moves:=m.moves+1 }*(mp .i64 K kv*T.X s)):=by
 have hD:=hKO.make mv.op u s t mv hK rfl htn ht hok
 rw[hmk]at hD
 have HD:=Lh hD;clear hD hmk
 obtain⟨f,a,b,hu⟩:=hKO.func _ _ hK
 obtain⟨v1,v2,v3,v4⟩:=mv
 obtain⟨s1,s2,s3,s4,s5⟩:=se
 simp only[]at ht hidle hop hK
 subst ht hidle hkv hu
 intro O w F hs
 simp only[Ma]at hs
 (obtain⟨vh,call,told,hcur,hs⟩:=mchR.1 hs)
 have lt:=(List.getElem?_eq_some_iff.1 hse).1
 have h0':((m.seats.length:Int)==0)=false:=by simp;intro e;simp[e]at lt
 have h1:decide (m.moves≥65536)=false:=by simpa using hl
 have h2:decide ((t:Int)<0)=false:=by simp
 have h3:decide ((t:Int)≥(m.seats.length:Int))=false:=by simp;omega
 have h4:(v2==0)=false:=by simpa using hop
 have h5:(K v2).getD .nilFunc=.func f a b:=by rw[hK];rfl
 clear hK
 have HN:=Lh hop;clear hop
 go_enter Tryz.func59,Tryz.ntmps59
 go_wp2_with (first|(with_reducible refine NQ.mk ?_)|((with_reducible apply Zi);rfl;rfl)|(with_reducible refine Zj ?_)|((with_reducible apply Zb hs);exact Ii;rfl;(with_reducible repeat first|exact Qh|apply Qk);rfl;rfl;simp only[Uc,Uz])|((with_reducible apply Qy hs);exact Ii;rfl;(with_reducible repeat first|exact Qh|apply Qk);rfl;rfl;simp only[Uc,Uz])|((with_reducible apply Zv hs);exact Ii;rfl;rfl;(with_reducible repeat first|exact Qh|apply Qk);rfl;exact Vb rfl;rfl;clear hs;intro w hs;simp only[Yg,Uc,Uz]at hs)|((with_reducible apply Zt hs);rfl;rfl;rfl;clear hs;intro w b hs;simp only[Uc,Uz])|((with_reducible apply ZE hs);exact Ii;rfl;assumption;(with_reducible repeat first|exact Qh|apply Qk);rfl;(exact Ze (by assumption));rfl;rfl;simp only[Uc,Uz])|((with_reducible apply Qe hs);exact Ii;exact Ii;rfl;rfl;(with_reducible repeat first|exact Qh|apply Qk);rfl;(simp only[Wm,Ws,Wa,Wc,Wn,Wr]at *;omega);rfl;intro b off hat;simp only[Uc,Uz])|((with_reducible apply ZS hs);exact Ii;rfl;(with_reducible repeat first|exact Qh|apply Qk);rfl;simp only[Uc,Uz])|((with_reducible apply wl_lk hs);exact Ii;rfl;rfl;(with_reducible repeat first|exact Qh|apply Qk);(assumption);rfl;simp only[Uc,Uz])|((with_reducible apply wl_fnil);rfl;rfl;simp only[Uc,Uz])|((with_reducible apply wl_val2 hs);rfl;rfl;rfl;exact HD.out;(with_reducible repeat first|exact Qh|apply Qk);rfl;clear hs;intro v w hs;(replace hs:=made_none.1 hs);(obtain⟨rfl,hs⟩:=hs);simp only[Uc,Uz])|((with_reducible refine Wp (id:=5) (Paz (Pbz [.neu 10,.neu 11,.neu 12])) hs rfl ?_ ?_);kernel_rfl;clear hs;intro w hs)|((with_reducible refine Wp (id:=7) (Paz [.neu 5,.neu 6,.neu 7]) hs rfl ?_ ?_);kernel_rfl;clear hs;intro w hs)|((with_reducible refine Wp (id:=15) (Paz [.neu 5,.neu 6,.neu 7]) hs rfl ?_ ?_);kernel_rfl;clear hs;intro w hs))
 go_ret
 refine⟨rfl,?_⟩
 simp only[Ma]
 apply Jg (m:={ m with moves:=m.moves+1 }) hcur
 (with_reducible apply Sat.fin hs;repeat first|exact Ql|exact Qh|apply Qb|apply Qk)
theorem move_begin (hT:T.Good){K:Int→Option Value}{mkr:σ→Nat→Mv→Option τ}{ok:σ→Prop}{n:Nat}(hKO:KitOk T K mkr ok n)(s:σ)(hok:ok s){kv:Value}(hkv:m.kit=kv)(hcur0:m.cur=none)(hl:m.moves<65536)(hm0:0≤m.moves){t:Nat}{se:Sea}(ht:mv.thread=(t:Int))(htn:t<n)(hop:mv.op≠0)(hse:m.seats[t]? = some se)(hidle:se.task=.nilIface){u:Value}(hK:K mv.op=some u){k:τ}(hmk:mkr s t mv=some k)(hcl:m.calls.length<4294967296)
  {tasks:List (Option τ)} (htk:tasks[t]? = some none) (hlen:tasks.length=m.seats.length) :
  Zk Tryz.prog 59 #[.pointer (some ⟨bx,0,none⟩),mv.v] (MchR bx bm m*(mp .i64 K kv*(T.X s*tskR T.R tasks m.seats))) (.bool true)
   (ex fun v=>ex fun vc'=>MchR bx bm (ZB m t mv v vc')*(mp .i64 K kv*(T.X s*tskR T.R (tasks.set t (some k)) (ZB m t mv v vc').seats))):=by
 have hD:=hKO.make mv.op u s t mv hK rfl htn ht hok
 rw[hmk]at hD
 have HD:=Lh hD;clear hD hmk
 obtain⟨f,a,b,hu⟩:=hKO.func _ _ hK
 obtain⟨v1,v2,v3,v4⟩:=mv
 obtain⟨s1,s2,s3,s4,s5⟩:=se
 simp only[]at ht hidle hop hK
 subst ht hidle hkv hu
 intro O w F hs
 simp only[Ma]at hs
 rw[tsk_at htk hse,tsk_none rfl,Em]at hs
 (obtain⟨vh,call,told,hcur,hs⟩:=mchR.1 hs)
 have lt:=(List.getElem?_eq_some_iff.1 hse).1
 have h0':((m.seats.length:Int)==0)=false:=by simp;intro e;simp[e]at lt
 have h1:decide (m.moves≥65536)=false:=by simpa using hl
 have h2:decide ((t:Int)<0)=false:=by simp
 have h3:decide ((t:Int)≥(m.seats.length:Int))=false:=by simp;omega
 have h4:(v2==0)=false:=by simpa using hop
 have h5:(K v2).getD .nilFunc=.func f a b:=by rw[hK];rfl
 clear hK
 have HCur:=Lh hcur0;clear hcur0
 have HN:=Lh hop;clear hop
 have HH:=Lh hcur;clear hcur
 go_enter Tryz.func59,Tryz.ntmps59
 go_wp2_with (first|(with_reducible first|apply NQ.mk|apply EQ.mk|exact Zg|apply Zj)|((with_reducible apply Zi);rfl;rfl)|((with_reducible apply Zo);rfl)|((with_reducible refine Zn ?_ ?_);focus((with_reducible apply ZI);rfl;rfl))|(show Qd _ _ _;rfl)|((with_reducible apply Zb hs);exact Ii;rfl;(with_reducible repeat first|exact Qh|apply Qk);rfl;rfl;simp only[Uc,Uz])|((with_reducible apply Qy hs);exact Ii;rfl;(with_reducible repeat first|exact Qh|apply Qk);rfl;rfl;simp only[Uc,Uz])|((with_reducible apply Zv hs);exact Ii;rfl;rfl;(with_reducible repeat first|exact Qh|apply Qk);(first|rfl|(apply QS;apply hs.pull;(with_reducible exact Qh)));exact Vb rfl;rfl;clear hs;intro w hs;simp only[Yg,Uc,Uz]at hs)|((with_reducible apply Zt hs);rfl;rfl;rfl;clear hs;intro w b hs;simp only[Uc,Uz])|((with_reducible apply ZE hs);exact Ii;rfl;assumption;(with_reducible repeat first|exact Qh|apply Qk);rfl;(exact Ze (by assumption));rfl;rfl;simp only[Uc,Uz])|((with_reducible apply wl_stSN (k:=0) hs);exact Ii;rfl;rfl;assumption;(with_reducible repeat first|exact Qh|apply Qk);(exact(Nat.add_zero _).symm);(exact Ze (by assumption));exact Vb rfl;rfl;rfl;rfl;rfl;clear hs;intro w hs;simp only[List.take_succ_cons,List.take_zero,List.drop_succ_cons,List.drop_zero,List.cons_append,List.nil_append,List.append_nil]at hs)|((with_reducible apply Qe hs);exact Ii;exact Ii;rfl;rfl;(with_reducible repeat first|exact Qh|apply Qk);rfl;(simp only[Wm,Ws,Wa,Wc,Wn,Wr]at *;omega);rfl;intro b off hat;simp only[Uc,Uz])|((with_reducible apply ZS hs);exact Ii;rfl;(with_reducible repeat first|exact Qh|apply Qk);rfl;simp only[Uc,Uz])|((with_reducible apply wl_bs hs);exact Ii;exact Ii;rfl;rfl;rfl;rfl;exact Vb rfl;rfl;clear hs;intro w v hs;simp only[Uc,Uz])|((with_reducible apply JA hs);exact Ii;exact Ii;rfl;rfl;(focus with_reducible (repeat first|exact Qh|apply Qk);done);(with_reducible exact Qh);(simp only[Wm,Ws,Wa,Wc,Wn,Wr]at *;omega);exact Vb rfl;rfl;clear hs;intro w v hs;simp only[Uc,Uz])|((with_reducible apply wl_lk hs);exact Ii;rfl;rfl;(with_reducible repeat first|exact Qh|apply Qk);(assumption);rfl;simp only[Uc,Uz])|((with_reducible apply wl_fnil);rfl;rfl;simp only[Uc,Uz])|((with_reducible apply wl_val2 hs);rfl;rfl;rfl;exact HD.out;(with_reducible repeat first|exact Qh|apply Qk);rfl;clear hs;intro v w hs;(replace hs:=made_some.1 hs);(obtain⟨ty,x,rfl⟩:=hT.iface hs);simp only[Uc,Uz])|((with_reducible refine Wp (id:=5) (Paz (Pbz [.neu 10,.neu 11,.neu 12])) hs rfl ?_ ?_);kernel_rfl;clear hs;intro w hs)|((with_reducible refine Wp (id:=7) (Paz [.neu 5,.neu 6,.neu 7]) hs rfl ?_ ?_);kernel_rfl;clear hs;intro w hs)|((with_reducible refine Wp (id:=15) (Paz [.neu 5,.neu 6,.neu 7]) hs rfl ?_ ?_);kernel_rfl;clear hs;intro w hs)|((with_reducible refine Wp (id:=22) (Paz (Pbz (Pcz [.eff 15 [0,1,2,3,4],.eff 16 [0],.neu 17,.neu 18,.eff 19 []]))) hs rfl ?_ ?_);kernel_rfl;clear hs;intro w hs))
 go_ret
 refine⟨rfl,?_⟩
 rw[ZG]
 refine⟨.iface ty x,?_⟩
 rw[ZG]
 refine⟨v,?_⟩
 simp only[ZB,Ma]
 rw[tsk_put (by omega) (by omega),tsk_one]
 simp only[Ma]
 apply Jg (vh:=vh) (call:=call) (told:=told)
 ·exact⟨fun h=>HH.out.no h,fun i t h=>by rw[HCur.out]at h;cases h⟩
 ·simp only[Yk,Yh,Yi,Yj]
  (with_reducible apply Sat.fin hs;repeat first|exact Ql|exact Qh|apply Qb|apply Qk)
end
end
section
def optR (bh ba:Nat):Option Z8→Value→Zc
 | none,v=>pu (v=.nilIface)
 | some k,v=>htR bh ba k v
def Qx (bh c1:Nat):Zc:=pt c1 (.cells #[.pointer (some ⟨bh,0,none⟩)] 72)
theorem haz_addr_no (b ba:Nat)(h:Haz)(t:Nat)(r k:Int)(ht:h.held[t]? = some r)(r0:0≤r)(k0:k<0∨h.c.Hz≤k) :
  Zk Tryz.prog 91 #[.pointer (some ⟨b,0,none⟩),.int .i64 (t:Int),.int .i64 k] (HazR b ba h) (.int .i64 (-1)) (HazR b ba h):=by
 intro O w F hs
 have hR:=Lh (Q3 b ba h t r ht)
 have n1:decide (r<0)=false:=by simp;omega
 by_cases hk:k<0
 ·have n2:decide (k<0)=true:=by simp;omega
  clear k0
  go_enter Tryz.func91,Tryz.ntmps91
  go_wp2_with (go_at_call 69;((refine(hR.out).at hs (by (with_reducible exact Qh)) ?_);clear hs;intro w hs;(try simp only[Em,Ma]at hs)))
  go_ret
  exact⟨rfl,by ((with_reducible apply Sat.fin hs);(with_reducible exact Ql))⟩
 ·have n2:decide (k<0)=false:=by simp;omega
  have n3:decide (k≥h.c.Hz)=true:=by simp;omega
  clear k0
  go_enter Tryz.func91,Tryz.ntmps91
  go_wp2_with (first|((with_reducible apply Zb hs);exact Ii;rfl;(with_reducible exact Qh);rfl;rfl;simp only[Uc,Uz])|(go_at_call 69;((refine(hR.out).at hs (by (with_reducible exact Qh)) ?_);clear hs;intro w hs;(try simp only[Em,Ma]at hs));(obtain⟨vhh,vhl,hs⟩:=hazR.1 hs)))
  go_ret
  refine⟨rfl,?_⟩
  (apply ZA;((try simp only[Yh,Yi,Yj,Yk,Yl]);(try simp only[Yh,Yi,Yj,Yk,Yl]at hs);((with_reducible apply Sat.fin hs);(with_reducible exact Ql))))
section
variable (bh ba c1:Nat)(h:Haz)(t:Nat)(mv:Mv)
theorem mk_reg (r:Int)(ht:h.held[t]? = some r)(hr:r<0):Does Tryz.prog 87 #[.int .i64 (t:Int),mv.v,.pointer (some ⟨c1,0,none⟩)] (HazR bh ba h*Qx bh c1)
  (fun v=>optR bh ba (some (.reg ⟨t,0,false⟩)) v*(HazR bh ba h*Qx bh c1)):=by
 intro O w F hs
 have hlt:=(List.getElem?_eq_some_iff.1 ht).1
 have n1:decide ((t:Int)<0)=false:=by simp
 have n2:decide ((t:Int)≥(h.held.length:Int))=false:=by simp;omega
 have n2':decide (h.held.length≤t)=false:=by simp;omega
 have n3:decide (r≥0)=false:=by simp;omega
 unfold Qx at hs ⊢
 simp only[Ma]at hs ⊢
 (obtain⟨vhh,vhl,hs⟩:=hazR.1 hs)
 go_enter Tryz.func87,Tryz.ntmps87
 go_wp2_with (first|((with_reducible apply Zb hs);exact Ii;rfl;(with_reducible repeat first|exact Qh|apply Qk);rfl;rfl;simp only[Uc,Uz])|((with_reducible apply Zt hs);rfl;rfl;rfl;clear hs;intro w b hs;simp only[Uc,Uz])|((with_reducible apply ZE hs);exact Ii;rfl;assumption;(with_reducible repeat first|exact Qh|apply Qk);rfl;(exact Ze (by assumption));rfl;rfl;simp only[Uc,Uz])|((with_reducible apply Qe hs);exact Ii;exact Ii;rfl;rfl;(with_reducible repeat first|exact Qh|apply Qk);rfl;(simp only[Wm,Ws,Wa,Wc,Wn,Wr]at *;omega);rfl;intro b off hat;simp only[Uc,Uz])|((with_reducible apply ZS hs);exact Ii;rfl;(with_reducible repeat first|exact Qh|apply Qk);rfl;simp only[Uc,Uz]))
 go_ret
 refine⟨_,rfl,?_⟩
 refine JE.2 ⟨_,rfl,?_⟩
 (replace hs:=ZA (hs.fin (by (with_reducible repeat first|exact Ql|exact Qh|apply Qb|apply Qk))))
 unfold RegR
 (with_reducible apply Sat.fin hs;repeat first|exact Ql|exact Qh|apply Qb|apply Qk)
theorem mk_reg_no (r:Int)(ht:h.held[t]? = some r)(hr:0≤r):Does Tryz.prog 87 #[.int .i64 (t:Int),mv.v,.pointer (some ⟨c1,0,none⟩)] (HazR bh ba h*Qx bh c1)
  (fun v=>optR bh ba none v*(HazR bh ba h*Qx bh c1)):=by
 intro O w F hs
 have hlt:=(List.getElem?_eq_some_iff.1 ht).1
 have n1:decide ((t:Int)<0)=false:=by simp
 have n2:decide ((t:Int)≥(h.held.length:Int))=false:=by simp;omega
 have n2':decide (h.held.length≤t)=false:=by simp;omega
 have n3:decide (r≥0)=true:=by simp;omega
 unfold Qx at hs ⊢
 simp only[Ma]at hs ⊢
 (obtain⟨vhh,vhl,hs⟩:=hazR.1 hs)
 go_enter Tryz.func87,Tryz.ntmps87
 go_wp2_with (first|((with_reducible apply Zb hs);exact Ii;rfl;(with_reducible repeat first|exact Qh|apply Qk);rfl;rfl;simp only[Uc,Uz])|((with_reducible apply Zt hs);rfl;rfl;rfl;clear hs;intro w b hs;simp only[Uc,Uz])|((with_reducible apply ZE hs);exact Ii;rfl;assumption;(with_reducible repeat first|exact Qh|apply Qk);rfl;(exact Ze (by assumption));rfl;rfl;simp only[Uc,Uz])|((with_reducible apply Qe hs);exact Ii;exact Ii;rfl;rfl;(with_reducible repeat first|exact Qh|apply Qk);rfl;(simp only[Wm,Ws,Wa,Wc,Wn,Wr]at *;omega);rfl;intro b off hat;simp only[Uc,Uz])|((with_reducible apply ZS hs);exact Ii;rfl;(with_reducible repeat first|exact Qh|apply Qk);rfl;simp only[Uc,Uz]))
 go_ret
 refine⟨_,rfl,?_⟩
 refine Zz.2 ⟨rfl,?_⟩
 (replace hs:=ZA (hs.fin (by (with_reducible repeat first|exact Ql|exact Qh|apply Qb|apply Qk))))
 (with_reducible apply Sat.fin hs;repeat first|exact Ql|exact Qh|apply Qb|apply Qk)
theorem mk_unr:Does Tryz.prog 88 #[.int .i64 (t:Int),mv.v,.pointer (some ⟨c1,0,none⟩)] (HazR bh ba h*Qx bh c1)
  (fun v=>optR bh ba (some (.unr ⟨t,0,0,none,none⟩)) v*(HazR bh ba h*Qx bh c1)):=by
 intro O w F hs
 unfold Qx at hs ⊢
 simp only[Ma]at hs ⊢
 go_enter Tryz.func88,Tryz.ntmps88
 go_wp2_with (first|((with_reducible apply Zb hs);exact Ii;rfl;(with_reducible repeat first|exact Qh|apply Qk);rfl;rfl;simp only[Uc,Uz])|((with_reducible apply Zt hs);rfl;rfl;rfl;clear hs;intro w b hs;simp only[Uc,Uz]))
 go_ret
 refine⟨_,rfl,?_⟩
 refine JE.2 ⟨_,rfl,?_⟩
 apply unrR_mk
 have hs:=flu_none (ba:=ba) (scan_none (bh:=bh) (ba:=ba) hs)
 (with_reducible apply Sat.fin hs;repeat first|exact Ql|exact Qh|apply Qb|apply Qk)
theorem mk_pst:Does Tryz.prog 89 #[.int .i64 (t:Int),mv.v,.pointer (some ⟨c1,0,none⟩)] (HazR bh ba h*Qx bh c1)
  (fun v=>optR bh ba (some (.pst ⟨t,mv.arg,0,none,0,0,none⟩)) v*(HazR bh ba h*Qx bh c1)):=by
 intro O w F hs
 unfold Qx at hs ⊢
 simp only[Ma]at hs ⊢
 go_enter Tryz.func89,Tryz.ntmps89
 go_wp2_with (first|((with_reducible apply Zb hs);exact Ii;rfl;(with_reducible repeat first|exact Qh|apply Qk);rfl;rfl;simp only[Uc,Uz])|((with_reducible apply Zt hs);rfl;rfl;rfl;clear hs;intro w b hs;simp only[Uc,Uz]))
 go_ret
 refine⟨_,rfl,?_⟩
 refine JE.2 ⟨_,rfl,?_⟩
 apply pstR_mk
 have hs:=tak_none (ba:=ba) (rtr_none (bh:=bh) (ba:=ba) hs)
 (with_reducible apply Sat.fin hs;repeat first|exact Ql|exact Qh|apply Qb|apply Qk)
theorem mk_scn (r:Int)(ht:h.held[t]? = some r):Does Tryz.prog 93 #[.int .i64 (t:Int),mv.v,.pointer (some ⟨c1,0,none⟩)] (HazR bh ba h*Qx bh c1)
  (fun v=>optR bh ba (some (.scn ⟨t,r,6,0,false,fun _=>0,[],none⟩)) v*(HazR bh ba h*Qx bh c1)):=by
 intro O w F hs
 have hSc:=Lh (haz_scan bh ba h t r ht)
 unfold Qx at hs ⊢
 simp only[Ma]at hs ⊢
 go_enter Tryz.func93,Tryz.ntmps93
 go_wp2_with (first|((with_reducible apply Zb hs);exact Ii;rfl;(with_reducible repeat first|exact Qh|apply Qk);rfl;rfl;simp only[Uc,Uz])|((with_reducible apply Zt hs);rfl;rfl;rfl;clear hs;intro w b hs;simp only[Uc,Uz])|(go_at_call 94;(refine(hSc.out).at hs (by with_reducible repeat first|exact Qh|apply Qk) ?_;clear hs;intro g w hs;(try simp only[Em,Ma]at hs))))
 go_ret
 refine⟨_,rfl,?_⟩
 refine JE.2 ⟨_,rfl,?_⟩
 (with_reducible apply Sat.fin hs;repeat first|exact Ql|exact Qh|apply Qb|apply Qk)
theorem mk_rdg (hc:h.c.Ok)(r:Int)(ht:h.held[t]? = some r)(r0:0≤r)(r1:r<h.c.R)(k0:0≤mv.arg)(k1:mv.arg<h.c.Hz):Does Tryz.prog 90 #[.int .i64 (t:Int),mv.v,.pointer (some ⟨c1,0,none⟩)] (HazR bh ba h*Qx bh c1)
  (fun v=>optR bh ba (some (.rdg ⟨base h.c 9+r*h.c.Hz+mv.arg,0,0,0⟩)) v*(HazR bh ba h*Qx bh c1)):=by
 intro O w F hs
 have hA:=Lh (haz_addr bh ba h hc t r mv.arg ht r0 r1 k0 k1)
 have hm:0≤r*h.c.Hz:=Int.mul_nonneg r0 (by omega)
 have hb:=(ZD hc 9).1
 have n1:decide (base h.c 9+r*h.c.Hz+mv.arg≥0)=true:=by simp;omega
 unfold Qx at hs ⊢
 simp only[Ma]at hs ⊢
 go_enter Tryz.func90,Tryz.ntmps90
 go_wp2_with (first|((with_reducible apply Zb hs);exact Ii;rfl;(with_reducible repeat first|exact Qh|apply Qk);rfl;rfl;simp only[Uc,Uz])|((with_reducible apply Zt hs);rfl;rfl;rfl;clear hs;intro w b hs;simp only[Uc,Uz])|(go_at_call 91;(refine(hA.out).at hs (by with_reducible repeat first|exact Qh|apply Qk) ?_;clear hs;intro w hs;(try simp only[Em,Ma]at hs))))
 go_ret
 refine⟨_,rfl,?_⟩
 refine JE.2 ⟨_,rfl,?_⟩
 unfold RdgR
 (with_reducible apply Sat.fin hs;repeat first|exact Ql|exact Qh|apply Qb|apply Qk)
theorem mk_rdg_no (r:Int)(ht:h.held[t]? = some r)(r0:0≤r)(k0:mv.arg<0∨h.c.Hz≤mv.arg):Does Tryz.prog 90 #[.int .i64 (t:Int),mv.v,.pointer (some ⟨c1,0,none⟩)] (HazR bh ba h*Qx bh c1)
  (fun v=>optR bh ba none v*(HazR bh ba h*Qx bh c1)):=by
 intro O w F hs
 have hA:=Lh (haz_addr_no bh ba h t r mv.arg ht r0 k0)
 clear k0
 unfold Qx at hs ⊢
 simp only[Ma]at hs ⊢
 go_enter Tryz.func90,Tryz.ntmps90
 go_wp2_with (first|((with_reducible apply Zb hs);exact Ii;rfl;(with_reducible repeat first|exact Qh|apply Qk);rfl;rfl;simp only[Uc,Uz])|((with_reducible apply Zt hs);rfl;rfl;rfl;clear hs;intro w b hs;simp only[Uc,Uz])|(go_at_call 91;(refine(hA.out).at hs (by with_reducible repeat first|exact Qh|apply Qk) ?_;clear hs;intro w hs;(try simp only[Em,Ma]at hs))))
 go_ret
 refine⟨_,rfl,?_⟩
 refine Zz.2 ⟨rfl,?_⟩
 (with_reducible apply Sat.fin hs;repeat first|exact Ql|exact Qh|apply Qb|apply Qk)
theorem mk_clr (hc:h.c.Ok)(r:Int)(ht:h.held[t]? = some r)(r0:0≤r)(r1:r<h.c.R)(k0:0≤mv.arg)(k1:mv.arg<h.c.Hz):Does Tryz.prog 92 #[.int .i64 (t:Int),mv.v,.pointer (some ⟨c1,0,none⟩)] (HazR bh ba h*Qx bh c1)
  (fun v=>optR bh ba (some (.clr (base h.c 9+r*h.c.Hz+mv.arg).toNat)) v*(HazR bh ba h*Qx bh c1)):=by
 intro O w F hs
 have hA:=Lh (haz_addr bh ba h hc t r mv.arg ht r0 r1 k0 k1)
 have hm:0≤r*h.c.Hz:=Int.mul_nonneg r0 (by omega)
 have hb:=(ZD hc 9).1
 have n1:decide (base h.c 9+r*h.c.Hz+mv.arg≥0)=true:=by simp;omega
 have hn:((base h.c 9+r*h.c.Hz+mv.arg).toNat:Int)=base h.c 9+r*h.c.Hz+mv.arg:=Int.toNat_of_nonneg (by omega)
 unfold Qx at hs ⊢
 simp only[Ma]at hs ⊢
 go_enter Tryz.func92,Tryz.ntmps92
 go_wp2_with (first|((with_reducible apply Zb hs);exact Ii;rfl;(with_reducible repeat first|exact Qh|apply Qk);rfl;rfl;simp only[Uc,Uz])|((with_reducible apply Zt hs);rfl;rfl;rfl;clear hs;intro w b hs;simp only[Uc,Uz])|(go_at_call 91;(refine(hA.out).at hs (by with_reducible repeat first|exact Qh|apply Qk) ?_;clear hs;intro w hs;(try simp only[Em,Ma]at hs))))
 go_ret
 refine⟨_,rfl,?_⟩
 refine JE.2 ⟨_,rfl,?_⟩
 unfold ClrR
 rw[hn]
 (with_reducible apply Sat.fin hs;repeat first|exact Ql|exact Qh|apply Qb|apply Qk)
theorem mk_clr_no (r:Int)(ht:h.held[t]? = some r)(r0:0≤r)(k0:mv.arg<0∨h.c.Hz≤mv.arg):Does Tryz.prog 92 #[.int .i64 (t:Int),mv.v,.pointer (some ⟨c1,0,none⟩)] (HazR bh ba h*Qx bh c1)
  (fun v=>optR bh ba none v*(HazR bh ba h*Qx bh c1)):=by
 intro O w F hs
 have hA:=Lh (haz_addr_no bh ba h t r mv.arg ht r0 k0)
 clear k0
 unfold Qx at hs ⊢
 simp only[Ma]at hs ⊢
 go_enter Tryz.func92,Tryz.ntmps92
 go_wp2_with (first|((with_reducible apply Zb hs);exact Ii;rfl;(with_reducible repeat first|exact Qh|apply Qk);rfl;rfl;simp only[Uc,Uz])|((with_reducible apply Zt hs);rfl;rfl;rfl;clear hs;intro w b hs;simp only[Uc,Uz])|(go_at_call 91;(refine(hA.out).at hs (by with_reducible repeat first|exact Qh|apply Qk) ?_;clear hs;intro w hs;(try simp only[Em,Ma]at hs))))
 go_ret
 refine⟨_,rfl,?_⟩
 refine Zz.2 ⟨rfl,?_⟩
 (with_reducible apply Sat.fin hs;repeat first|exact Ql|exact Qh|apply Qb|apply Qk)
def Qs (d:Nat)(u:Value):Zc:=pt d (.cells #[u] 143)
theorem hold_no (d:Nat)(u:Value)(r:Int)(ht:h.held[t]? = some r)(r0:r<0):Does Tryz.prog 86 #[.int .i64 (t:Int),mv.v,.pointer (some ⟨c1,0,none⟩),.pointer (some ⟨d,0,none⟩)] (HazR bh ba h*(Qx bh c1*Qs d u))
  (fun v=>optR bh ba none v*(HazR bh ba h*(Qx bh c1*Qs d u))):=by
 intro O w F hs
 have hR:=Lh (Q3 bh ba h t r ht)
 have n1:decide (r<0)=true:=by simp;omega
 unfold Qx Qs at hs ⊢
 simp only[Ma]at hs ⊢
 go_enter Tryz.func86,Tryz.ntmps86
 go_wp2_with (first|((with_reducible apply Zb hs);exact Ii;rfl;(with_reducible repeat first|exact Qh|apply Qk);rfl;rfl;simp only[Uc,Uz])|((with_reducible apply Zt hs);rfl;rfl;rfl;clear hs;intro w b hs;simp only[Uc,Uz])|(go_at_call 69;(refine(hR.out).at hs (by with_reducible repeat first|exact Qh|apply Qk) ?_;clear hs;intro w hs;(try simp only[Em,Ma]at hs))))
 go_ret
 refine⟨_,rfl,?_⟩
 refine Zz.2 ⟨rfl,?_⟩
 (with_reducible apply Sat.fin hs;repeat first|exact Ql|exact Qh|apply Qb|apply Qk)
theorem hold_yes (d:Nat)(f:FuncId)(o:Option Z8)(r:Int)(ht:h.held[t]? = some r)(r0:0≤r)
  (hD:Dyn Tryz.prog (Ja (.func (.func f) #[] #[.pointer (some ⟨c1,0,none⟩)]) #[.int .i64 (t:Int),mv.v]) (HazR bh ba h*Qx bh c1) (fun v=>optR bh ba o v*(HazR bh ba h*Qx bh c1))) :
  Does Tryz.prog 86 #[.int .i64 (t:Int),mv.v,.pointer (some ⟨c1,0,none⟩),.pointer (some ⟨d,0,none⟩)] (HazR bh ba h*(Qx bh c1*Qs d (.func (.func f) #[] #[.pointer (some ⟨c1,0,none⟩)])))
  (fun v=>optR bh ba o v*(HazR bh ba h*(Qx bh c1*Qs d (.func (.func f) #[] #[.pointer (some ⟨c1,0,none⟩)])))):=by
 intro O w F hs
 have hR:=Lh (Q3 bh ba h t r ht)
 have n1:decide (r<0)=false:=by simp;omega
 unfold Qx at hD
 have hD:=Lh hD
 unfold Qx Qs at hs ⊢
 simp only[Ma]at hs ⊢
 go_enter Tryz.func86,Tryz.ntmps86
 go_wp2_with (first|((with_reducible apply Zb hs);exact Ii;rfl;(with_reducible repeat first|exact Qh|apply Qk);rfl;rfl;simp only[Uc,Uz])|((with_reducible apply Qy hs);exact Ii;rfl;(with_reducible repeat first|exact Qh|apply Qk);rfl;rfl;simp only[Uc,Uz])|((with_reducible apply Zt hs);rfl;rfl;rfl;clear hs;intro w b hs;simp only[Uc,Uz])|(go_at_call 69;(refine(hR.out).at hs (by with_reducible repeat first|exact Qh|apply Qk) ?_;clear hs;intro w hs;(try simp only[Em,Ma]at hs)))|((with_reducible apply wl_val2 hs);rfl;rfl;rfl;exact hD.out;(with_reducible repeat first|exact Qh|apply Qb|apply Qk);rfl;clear hs;intro v w hs;(simp only[Ma]at hs);simp only[Uc,Uz]))
 go_ret
 refine⟨_,rfl,?_⟩
 ((with_reducible apply Sat.fin hs);(focus((repeat(first|with_reducible exact Ql|with_reducible exact Qh|with_reducible apply Qb|exact Qh|with_reducible apply Qk));done)))
end
end
end Go.Proofs.YtefjbdajgakgpaaGreat
