/-
  The machine: a move that does something.
-/
import Derived.Test.YtegafhhdegnigaaGreatEMach2
set_option linter.all false
namespace Go.Proofs.YtegafhhdegnigaaGreat
open Go.RowKit Hp
set_option maxRecDepth 100000
set_option maxHeartbeats 1000000
attribute [local irreducible] Go.Calls
section
theorem fnil_run (x:Operand)(f:Fn)(a b:Array Value)(w:World):(do pure (Next.value (←(do eqGuard .eql 178 x (.const .nilFunc) (.func f a b) .nilFunc;binOp .eql 178 (.func f a b) .nilFunc))):Sem Next).run Tryz.prog w=.ok (.value (.bool false)) w:=by
 kernel_rfl
theorem wl_fnil {ops:Array Oper}{Q:Exit→Act→World→Prop}{w:World}{rest:List Oper}{l:List Value}{ds:List Deferred}{ty y:TypeId}{pos:String}{after:Array Edge}{gd:Option (Nat×Bool)}{d:Nat}{x:Operand}{f:Fn}{a b:Array Value}(hx:ev l x=some (.func f a b))
  (hg:Region.wanted { dst:=some d,op:=.binOp .eql 178 x (.const .nilFunc) y,type:=ty,pos,after,guard:=gd } (yielded ops l.toArray)=true)
  (kk:wpList Tryz.prog ops Q rest ⟨(l.set d (.bool false)).toArray,ds⟩ w) :
  wpList Tryz.prog ops Q ({ dst:=some d,op:=.binOp .eql 178 x (.const .nilFunc) y,type:=ty,pos,after,guard:=gd }::rest) ⟨l.toArray,ds⟩ w:=by
 refine QA (v:=.bool false) hg ?_ (Z9▸kk)
 have e:(Act.mk l.toArray ds).eval x=.func f a b:=Zs hx
 simp only[execOp,e]
 exact fnil_run x f a b w
theorem fnil2_run (x:Operand)(w:World):(do pure (Next.value (←(do eqGuard .eql 178 x (.const .nilFunc) .nilFunc .nilFunc;binOp .eql 178 .nilFunc .nilFunc))):Sem Next).run Tryz.prog w=.ok (.value (.bool true)) w:=by
 kernel_rfl
theorem wl_fnil2 {ops:Array Oper}{Q:Exit→Act→World→Prop}{w:World}{rest:List Oper}{l:List Value}{ds:List Deferred}{ty y:TypeId}{pos:String}{after:Array Edge}{gd:Option (Nat×Bool)}{d:Nat}{x:Operand}(hx:ev l x=some .nilFunc)
  (hg:Region.wanted { dst:=some d,op:=.binOp .eql 178 x (.const .nilFunc) y,type:=ty,pos,after,guard:=gd } (yielded ops l.toArray)=true)
  (kk:wpList Tryz.prog ops Q rest ⟨(l.set d (.bool true)).toArray,ds⟩ w) :
  wpList Tryz.prog ops Q ({ dst:=some d,op:=.binOp .eql 178 x (.const .nilFunc) y,type:=ty,pos,after,guard:=gd }::rest) ⟨l.toArray,ds⟩ w:=by
 refine QA (v:=.bool true) hg ?_ (Z9▸kk)
 have e:(Act.mk l.toArray ds).eval x=.nilFunc:=Zs hx
 simp only[execOp,e]
 exact fnil2_run x w
section
variable {σ τ:Type}(T:Tasks σ τ)(bx bm:Nat){m:Mch}{mv:Mv}
theorem move_step (hT:T.Good)(s:σ)(tasks:List (Option τ))(hcur0:m.cur=none)(hl:m.moves<65536)(hm0:0≤m.moves){t i:Nat}{c:Cll}{se:Sea}{k:τ}(ht:mv.thread=(t:Int))(hop:mv.op=0)(hse:m.seats[t]? = some se)(hk:tasks[t]? = some (some k))(hlast:se.last=(i:Int))(hc:m.calls[i]? = some c)(hlen:tasks.length=m.seats.length)
  (hr:se.ready=false→T.okr s ({ m with moves:=m.moves+1 }.prep t i m.moves se) t k)
  (hs2:(Zb T s { m with moves:=m.moves+1 } i t c se k m.moves).1=false→T.oks (Zb T s { m with moves:=m.moves+1 } i t c se k m.moves).2.1 (Zb T s { m with moves:=m.moves+1 } i t c se k m.moves).2.2.1 t (Zb T s { m with moves:=m.moves+1 } i t c se k m.moves).2.2.2) :
  ZB Tryz.prog 41 #[.pointer (some ⟨bx,0,none⟩),mv.v] (MchR bx bm m*(T.X s*tskR T.R tasks m.seats)) (.bool true)
   (MchR bx bm (Qi T s { m with moves:=m.moves+1 } i t c se k m.moves).2.1*(T.X (Qi T s { m with moves:=m.moves+1 } i t c se k m.moves).1*tskR T.R (tasks.set t (Qi T s { m with moves:=m.moves+1 } i t c se k m.moves).2.2) (Qi T s { m with moves:=m.moves+1 } i t c se k m.moves).2.1.seats)):=by
 obtain⟨v1,v2,v3,v4⟩:=mv
 simp only[]at ht hop
 subst ht hop
 have hS:=mach_step T hT bx bm s { m with moves:=m.moves+1 } tasks i t c se k m.moves hcur0 hse hk hlast hc hlen hr hs2
 clear hr hs2
 intro O w F hs
 simp only[Ma]at hs
 obtain⟨ty,x,hx⟩:∃ty x,se.task=.iface ty x:=by
  have h:=hs
  rw[tsk_at hk hse,tsk_one]at h
  simp only[Ma]at h
  have h2:=h.pull (A:=T.R k se.task) (by (with_reducible repeat first|exact Qh|apply Qk))
  exact hT.iface h2
 generalize Qi T s { m with moves:=m.moves+1 } i t c se k m.moves=r at hS ⊢
 obtain⟨r1,r2,r3⟩:=r
 have HS:=Lh hS;clear hS
 obtain⟨s1,s2,s3,s4,s5⟩:=se
 simp only[]at hx
 subst hx
 clear hk hlen hlast hc hcur0
 (obtain⟨vh,call,told,hcur,hs⟩:=mchR.1 hs)
 have lt:=(List.getElem?_eq_some_iff.1 hse).1
 have h0':((m.seats.length:Int)==0)=false:=by simp;intro e;simp[e]at lt
 have h1:decide (m.moves≥65536)=false:=by simpa using hl
 have h2:decide ((t:Int)<0)=false:=by simp
 have h3:decide ((t:Int)≥(m.seats.length:Int))=false:=by simp;omega
 go_enter Tryz.func41,Tryz.ntmps41
 go_wp2_with (first|(first|(first|(with_reducible refine NQ.mk ?_)|((with_reducible apply Zl);rfl;rfl)|(with_reducible refine Zm ?_))|((with_reducible apply Zc hs);exact Ii;rfl;(with_reducible repeat first|exact Qh|apply Qk);rfl;rfl;(simp only[Uc,Uz]))|((with_reducible apply ZX hs);exact Ii;rfl;rfl;(with_reducible repeat first|exact Qh|apply Qk);(rfl);(exact Vb rfl);rfl;clear hs;intro w hs;simp only[Yg,Uc,Uz]at hs)|((with_reducible apply Zv hs);rfl;rfl;rfl;clear hs;intro w b hs;(simp only[Uc,Uz]))|((with_reducible apply Zt hs);exact Ii;rfl;assumption;(with_reducible repeat first|exact Qh|apply Qk);rfl;(exact Ze (by assumption));rfl;rfl;(simp only[Uc,Uz]))|((with_reducible apply ZN hs);exact Ii;exact Ii;rfl;rfl;(with_reducible repeat first|exact Qh|apply Qk);(rfl);(simp only[Wm,Ws,Wa,Wc,Wn,Wr]at *;omega);rfl;intro b off hat;(simp only[Uc,Uz]))|((with_reducible apply Zp hs);exact Ii;rfl;(with_reducible repeat first|exact Qh|apply Qk);rfl;(simp only[Uc,Uz])))|(go_at_call 101;(replace hs:=Q3 (m:={ m with moves:=m.moves+1 }) hcur (hs.fin (by (with_reducible repeat first|exact Ql|exact Qh|apply Qb|apply Qk))));((refine(HS.out).at hs (by (with_reducible repeat first|exact Qh|apply Qb|apply Qk)) ?_);clear hs;intro w hs;(try simp only[Em,Ma]at hs)))|((with_reducible refine Wp (id:=5) (Paz (Pbz [.neu 10,.neu 11,.neu 12])) hs rfl ?_ ?_);kernel_rfl;clear hs;intro w hs)|((with_reducible refine Wp (id:=7) (Paz [.neu 5,.neu 6,.neu 7]) hs rfl ?_ ?_);kernel_rfl;clear hs;intro w hs))
 (go_ret)
 refine⟨rfl,?_⟩
 simp only[Ma]
 ((with_reducible apply Sat.fin hs);(with_reducible repeat first|exact Ql|exact Qh|apply Qb|apply Qk))
theorem move_nokit {kv:Value}{K:Int→Option Value}(hkv:m.kit=kv)(hl:m.moves<65536)(hm0:0≤m.moves){t:Nat}{se:Sea}(ht:mv.thread=(t:Int))(hop:mv.op≠0)(hse:m.seats[t]? = some se)(hidle:se.task=.nilIface)(hK:K mv.op=none) :
  ZB Tryz.prog 41 #[.pointer (some ⟨bx,0,none⟩),mv.v] (MchR bx bm m*mp .i64 K kv) (.bool false) (MchR bx bm { m with moves:=m.moves+1 }*mp .i64 K kv):=by
 obtain⟨v1,v2,v3,v4⟩:=mv
 obtain⟨s1,s2,s3,s4,s5⟩:=se
 simp only[]at ht hidle hop hK
 subst ht hidle hkv
 intro O w F hs
 simp only[Ma]at hs
 (obtain⟨vh,call,told,hcur,hs⟩:=mchR.1 hs)
 have lt:=(List.getElem?_eq_some_iff.1 hse).1
 have h0':((m.seats.length:Int)==0)=false:=by simp;intro e;simp[e]at lt
 have h1:decide (m.moves≥65536)=false:=by simpa using hl
 have h2:decide ((t:Int)<0)=false:=by simp
 have h3:decide ((t:Int)≥(m.seats.length:Int))=false:=by simp;omega
 have h4:(v2==0)=false:=by simpa using hop
 have h5:(K v2).getD .nilFunc=.nilFunc:=by rw[hK];rfl
 clear hK
 have HN:=Lh hop;clear hop
 go_enter Tryz.func41,Tryz.ntmps41
 go_wp2_with (first|(first|(first|(with_reducible refine NQ.mk ?_)|((with_reducible apply Zl);rfl;rfl)|(with_reducible refine Zm ?_))|((with_reducible apply Zc hs);exact Ii;rfl;(with_reducible repeat first|exact Qh|apply Qk);rfl;rfl;(simp only[Uc,Uz]))|((with_reducible apply ZX hs);exact Ii;rfl;rfl;(with_reducible repeat first|exact Qh|apply Qk);(rfl);(exact Vb rfl);rfl;clear hs;intro w hs;simp only[Yg,Uc,Uz]at hs)|((with_reducible apply Zv hs);rfl;rfl;rfl;clear hs;intro w b hs;(simp only[Uc,Uz]))|((with_reducible apply Zt hs);exact Ii;rfl;assumption;(with_reducible repeat first|exact Qh|apply Qk);rfl;(exact Ze (by assumption));rfl;rfl;(simp only[Uc,Uz]))|((with_reducible apply ZN hs);exact Ii;exact Ii;rfl;rfl;(with_reducible repeat first|exact Qh|apply Qk);(rfl);(simp only[Wm,Ws,Wa,Wc,Wn,Wr]at *;omega);rfl;intro b off hat;(simp only[Uc,Uz]))|((with_reducible apply Zp hs);exact Ii;rfl;(with_reducible repeat first|exact Qh|apply Qk);rfl;(simp only[Uc,Uz])))|((with_reducible apply wl_lk hs);exact Ii;rfl;rfl;(with_reducible repeat first|exact Qh|apply Qk);(assumption);rfl;(simp only[Uc,Uz]))|((with_reducible apply wl_fnil2);rfl;rfl;(simp only[Uc,Uz]))|((with_reducible refine Wp (id:=5) (Paz (Pbz [.neu 10,.neu 11,.neu 12])) hs rfl ?_ ?_);kernel_rfl;clear hs;intro w hs)|((with_reducible refine Wp (id:=7) (Paz [.neu 5,.neu 6,.neu 7]) hs rfl ?_ ?_);kernel_rfl;clear hs;intro w hs)|((with_reducible refine Wp (id:=15) (Paz [.neu 5,.neu 6,.neu 7]) hs rfl ?_ ?_);kernel_rfl;clear hs;intro w hs))
 (go_ret)
 refine⟨rfl,?_⟩
 simp only[Ma]
 apply Q3 (m:={ m with moves:=m.moves+1 }) hcur
 ((with_reducible apply Sat.fin hs);(with_reducible repeat first|exact Ql|exact Qh|apply Qb|apply Qk))
theorem move_refused {K:Int→Option Value}{mkr:σ→Nat→Mv→Option τ}{ok:σ→Prop}{n:Nat}(hKO:KitOk T K mkr ok n)(s:σ)(hok:ok s){kv:Value}(hkv:m.kit=kv)(hl:m.moves<65536)(hm0:0≤m.moves){t:Nat}{se:Sea}(ht:mv.thread=(t:Int))(htn:t<n)(hop:mv.op≠0)(hse:m.seats[t]? = some se)(hidle:se.task=.nilIface){u:Value}(hK:K mv.op=some u)(hmk:mkr s t mv=none) :
  ZB Tryz.prog 41 #[.pointer (some ⟨bx,0,none⟩),mv.v] (MchR bx bm m*(mp .i64 K kv*T.X s)) (.bool false) (MchR bx bm { m with moves:=m.moves+1 }*(mp .i64 K kv*T.X s)):=by
 have hD:=hKO.make mv.op u s t mv hK rfl htn ht hok
 rw[hmk]at hD
 have HD:=Lh hD;clear hD hmk
 obtain⟨f,a,b,hu⟩:=hKO.func _ _ hK
 obtain⟨v1,v2,v3,v4⟩:=mv
 obtain⟨s1,s2,s3,s4,s5⟩:=se
 simp only[]at ht hidle hop hK
 subst ht hidle hkv hu
 intro O w F hs
 simp only[Ma]at hs
 (obtain⟨vh,call,told,hcur,hs⟩:=mchR.1 hs)
 have lt:=(List.getElem?_eq_some_iff.1 hse).1
 have h0':((m.seats.length:Int)==0)=false:=by simp;intro e;simp[e]at lt
 have h1:decide (m.moves≥65536)=false:=by simpa using hl
 have h2:decide ((t:Int)<0)=false:=by simp
 have h3:decide ((t:Int)≥(m.seats.length:Int))=false:=by simp;omega
 have h4:(v2==0)=false:=by simpa using hop
 have h5:(K v2).getD .nilFunc=.func f a b:=by rw[hK];rfl
 clear hK
 have HN:=Lh hop;clear hop
 go_enter Tryz.func41,Tryz.ntmps41
 go_wp2_with (first|(first|(first|(with_reducible refine NQ.mk ?_)|((with_reducible apply Zl);rfl;rfl)|(with_reducible refine Zm ?_))|((with_reducible apply Zc hs);exact Ii;rfl;(with_reducible repeat first|exact Qh|apply Qk);rfl;rfl;(simp only[Uc,Uz]))|((with_reducible apply Z5 hs);exact Ii;rfl;(with_reducible repeat first|exact Qh|apply Qk);rfl;rfl;(simp only[Uc,Uz]))|((with_reducible apply ZX hs);exact Ii;rfl;rfl;(with_reducible repeat first|exact Qh|apply Qk);(rfl);(exact Vb rfl);rfl;clear hs;intro w hs;simp only[Yg,Uc,Uz]at hs)|((with_reducible apply Zv hs);rfl;rfl;rfl;clear hs;intro w b hs;(simp only[Uc,Uz]))|((with_reducible apply Zt hs);exact Ii;rfl;assumption;(with_reducible repeat first|exact Qh|apply Qk);rfl;(exact Ze (by assumption));rfl;rfl;(simp only[Uc,Uz]))|((with_reducible apply ZN hs);exact Ii;exact Ii;rfl;rfl;(with_reducible repeat first|exact Qh|apply Qk);(rfl);(simp only[Wm,Ws,Wa,Wc,Wn,Wr]at *;omega);rfl;intro b off hat;(simp only[Uc,Uz]))|((with_reducible apply Zp hs);exact Ii;rfl;(with_reducible repeat first|exact Qh|apply Qk);rfl;(simp only[Uc,Uz])))|((with_reducible apply wl_lk hs);exact Ii;rfl;rfl;(with_reducible repeat first|exact Qh|apply Qk);(assumption);rfl;(simp only[Uc,Uz]))|((with_reducible apply wl_fnil);rfl;rfl;(simp only[Uc,Uz]))|((with_reducible apply wl_val2 hs);rfl;rfl;rfl;exact HD.out;(with_reducible repeat first|exact Qh|apply Qk);rfl;clear hs;intro v w hs;(replace hs:=made_none.1 hs);(obtain⟨rfl,hs⟩:=hs);(simp only[Uc,Uz]))|((with_reducible refine Wp (id:=5) (Paz (Pbz [.neu 10,.neu 11,.neu 12])) hs rfl ?_ ?_);kernel_rfl;clear hs;intro w hs)|((with_reducible refine Wp (id:=7) (Paz [.neu 5,.neu 6,.neu 7]) hs rfl ?_ ?_);kernel_rfl;clear hs;intro w hs)|((with_reducible refine Wp (id:=15) (Paz [.neu 5,.neu 6,.neu 7]) hs rfl ?_ ?_);kernel_rfl;clear hs;intro w hs))
 (go_ret)
 refine⟨rfl,?_⟩
 simp only[Ma]
 apply Q3 (m:={ m with moves:=m.moves+1 }) hcur
 ((with_reducible apply Sat.fin hs);(with_reducible repeat first|exact Ql|exact Qh|apply Qb|apply Qk))
theorem move_begin (hT:T.Good){K:Int→Option Value}{mkr:σ→Nat→Mv→Option τ}{ok:σ→Prop}{n:Nat}(hKO:KitOk T K mkr ok n)(s:σ)(hok:ok s){kv:Value}(hkv:m.kit=kv)(hcur0:m.cur=none)(hl:m.moves<65536)(hm0:0≤m.moves){t:Nat}{se:Sea}(ht:mv.thread=(t:Int))(htn:t<n)(hop:mv.op≠0)(hse:m.seats[t]? = some se)(hidle:se.task=.nilIface){u:Value}(hK:K mv.op=some u){k:τ}(hmk:mkr s t mv=some k)(hcl:m.calls.length<4294967296)
  {tasks:List (Option τ)} (htk:tasks[t]? = some none) (hlen:tasks.length=m.seats.length) :
  ZB Tryz.prog 41 #[.pointer (some ⟨bx,0,none⟩),mv.v] (MchR bx bm m*(mp .i64 K kv*(T.X s*tskR T.R tasks m.seats))) (.bool true)
   (ex fun v=>ex fun vc'=>MchR bx bm (ZD m t mv v vc')*(mp .i64 K kv*(T.X s*tskR T.R (tasks.set t (some k)) (ZD m t mv v vc').seats))):=by
 have hD:=hKO.make mv.op u s t mv hK rfl htn ht hok
 rw[hmk]at hD
 have HD:=Lh hD;clear hD hmk
 obtain⟨f,a,b,hu⟩:=hKO.func _ _ hK
 obtain⟨v1,v2,v3,v4⟩:=mv
 obtain⟨s1,s2,s3,s4,s5⟩:=se
 simp only[]at ht hidle hop hK
 subst ht hidle hkv hu
 intro O w F hs
 simp only[Ma]at hs
 rw[tsk_at htk hse,tsk_none rfl,Em]at hs
 (obtain⟨vh,call,told,hcur,hs⟩:=mchR.1 hs)
 have lt:=(List.getElem?_eq_some_iff.1 hse).1
 have h0':((m.seats.length:Int)==0)=false:=by simp;intro e;simp[e]at lt
 have h1:decide (m.moves≥65536)=false:=by simpa using hl
 have h2:decide ((t:Int)<0)=false:=by simp
 have h3:decide ((t:Int)≥(m.seats.length:Int))=false:=by simp;omega
 have h4:(v2==0)=false:=by simpa using hop
 have h5:(K v2).getD .nilFunc=.func f a b:=by rw[hK];rfl
 clear hK
 have HCur:=Lh hcur0;clear hcur0
 have HN:=Lh hop;clear hop
 have HH:=Lh hcur;clear hcur
 go_enter Tryz.func41,Tryz.ntmps41
 go_wp2_with (first|(first|(first|(with_reducible refine NQ.mk ?_)|((with_reducible apply Zl);rfl;rfl)|((with_reducible apply ZF);rfl)|(with_reducible refine EQ.mk ?_ ?_)|(first|(with_reducible exact Zo)|((with_reducible refine ZJ ?_ ?_);(focus((with_reducible apply Qd);rfl;rfl))))|(with_reducible refine Zm ?_)|(show QD _ _ _;rfl))|((with_reducible apply Zc hs);exact Ii;rfl;(with_reducible repeat first|exact Qh|apply Qk);rfl;rfl;(simp only[Uc,Uz]))|((with_reducible apply Z5 hs);exact Ii;rfl;(with_reducible repeat first|exact Qh|apply Qk);rfl;rfl;(simp only[Uc,Uz]))|((with_reducible apply ZX hs);exact Ii;rfl;rfl;(with_reducible repeat first|exact Qh|apply Qk);(first|rfl|(apply QN;apply hs.pull;(with_reducible exact Qh)));(exact Vb rfl);rfl;clear hs;intro w hs;simp only[Yg,Uc,Uz]at hs)|((with_reducible apply Zv hs);rfl;rfl;rfl;clear hs;intro w b hs;(simp only[Uc,Uz]))|((with_reducible apply Zt hs);exact Ii;rfl;assumption;(with_reducible repeat first|exact Qh|apply Qk);rfl;(exact Ze (by assumption));rfl;rfl;(simp only[Uc,Uz]))|((with_reducible apply wl_stSN (k:=0) hs);exact Ii;rfl;rfl;assumption;(with_reducible repeat first|exact Qh|apply Qk);(exact(Nat.add_zero _).symm);(exact Ze (by assumption));(exact Vb rfl);rfl;rfl;rfl;rfl;clear hs;intro w hs;simp only[List.take_succ_cons,List.take_zero,List.drop_succ_cons,List.drop_zero,List.cons_append,List.nil_append,List.append_nil]at hs)|((with_reducible apply ZN hs);exact Ii;exact Ii;rfl;rfl;(with_reducible repeat first|exact Qh|apply Qk);(rfl);(simp only[Wm,Ws,Wa,Wc,Wn,Wr]at *;omega);rfl;intro b off hat;(simp only[Uc,Uz]))|((with_reducible apply Zp hs);exact Ii;rfl;(with_reducible repeat first|exact Qh|apply Qk);rfl;(simp only[Uc,Uz]))|((with_reducible apply wl_bs hs);exact Ii;exact Ii;rfl;rfl;rfl;rfl;(exact Vb rfl);rfl;clear hs;intro w v hs;(simp only[Uc,Uz]))|((with_reducible apply Jd hs);exact Ii;exact Ii;rfl;rfl;(focus with_reducible (repeat first|exact Qh|apply Qk);done);(with_reducible exact Qh);(simp only[Wm,Ws,Wa,Wc,Wn,Wr]at *;omega);(exact Vb rfl);rfl;clear hs;intro w v hs;(simp only[Uc,Uz])))|((with_reducible apply wl_lk hs);exact Ii;rfl;rfl;(with_reducible repeat first|exact Qh|apply Qk);(assumption);rfl;(simp only[Uc,Uz]))|((with_reducible apply wl_fnil);rfl;rfl;(simp only[Uc,Uz]))|((with_reducible apply wl_val2 hs);rfl;rfl;rfl;exact HD.out;(with_reducible repeat first|exact Qh|apply Qk);rfl;clear hs;intro v w hs;(replace hs:=made_some.1 hs);(obtain⟨ty,x,rfl⟩:=hT.iface hs);(simp only[Uc,Uz]))|((with_reducible refine Wp (id:=5) (Paz (Pbz [.neu 10,.neu 11,.neu 12])) hs rfl ?_ ?_);kernel_rfl;clear hs;intro w hs)|((with_reducible refine Wp (id:=7) (Paz [.neu 5,.neu 6,.neu 7]) hs rfl ?_ ?_);kernel_rfl;clear hs;intro w hs)|((with_reducible refine Wp (id:=15) (Paz [.neu 5,.neu 6,.neu 7]) hs rfl ?_ ?_);kernel_rfl;clear hs;intro w hs)|((with_reducible refine Wp (id:=22) (Paz (Pbz (Pcz [.eff 15 [0,1,2,3,4],.eff 16 [0],.neu 17,.neu 18,.eff 19 []]))) hs rfl ?_ ?_);kernel_rfl;clear hs;intro w hs))
 (go_ret)
 refine⟨rfl,?_⟩
 rw[ZM]
 refine⟨.iface ty x,?_⟩
 rw[ZM]
 refine⟨v,?_⟩
 simp only[ZD,Ma]
 rw[tsk_put (by omega) (by omega),tsk_one]
 simp only[Ma]
 apply Q3 (vh:=vh) (call:=call) (told:=told)
 ·exact⟨fun h=>HH.out.no h,fun i t h=>by rw[HCur.out]at h;cases h⟩
 ·simp only[Yk,Yh,Yi,Yj]
  ((with_reducible apply Sat.fin hs);(with_reducible repeat first|exact Ql|exact Qh|apply Qb|apply Qk))
end
end
section
def optR (bh ba:Nat):Option Zz→Value→Zd
 | none,v=>pu (v=.nilIface)
 | some k,v=>htR bh ba k v
def QF (bh c1:Nat):Zd:=pt c1 (.cells #[.pointer (some ⟨bh,0,none⟩)] 76)
theorem haz_addr_no (b ba:Nat)(h:Haz)(t:Nat)(r k:Int)(ht:h.held[t]? = some r)(r0:0≤r)(k0:k<0∨h.c.Hz≤k) :
  ZB Tryz.prog 51 #[.pointer (some ⟨b,0,none⟩),.int .i64 (t:Int),.int .i64 k] (HazR b ba h) (.int .i64 (-1)) (HazR b ba h):=by
 intro O w F hs
 have hR:=Lh (haz_record b ba h t r ht)
 have n1:decide (r<0)=false:=by simp;omega
 by_cases hk:k<0
 ·have n2:decide (k<0)=true:=by simp;omega
  clear k0
  go_enter Tryz.func51,Tryz.ntmps51
  go_wp2_with (go_at_call 50;((refine(hR.out).at hs (by (with_reducible exact Qh)) ?_);clear hs;intro w hs;(try simp only[Em,Ma]at hs)))
  (go_ret)
  exact⟨rfl,by ((with_reducible apply Sat.fin hs);(with_reducible exact Ql))⟩
 ·have n2:decide (k<0)=false:=by simp;omega
  have n3:decide (k≥h.c.Hz)=true:=by simp;omega
  clear k0
  go_enter Tryz.func51,Tryz.ntmps51
  go_wp2_with (first|((with_reducible apply Zc hs);exact Ii;rfl;(with_reducible exact Qh);rfl;rfl;(simp only[Uc,Uz]))|(go_at_call 50;((refine(hR.out).at hs (by (with_reducible exact Qh)) ?_);clear hs;intro w hs;(try simp only[Em,Ma]at hs));(obtain⟨vhh,vhl,hs⟩:=hazR.1 hs)))
  (go_ret)
  refine⟨rfl,?_⟩
  (apply ZP;((try simp only[Yh,Yi,Yj,Yk,Yl]);(try simp only[Yh,Yi,Yj,Yk,Yl]at hs);((with_reducible apply Sat.fin hs);(with_reducible exact Ql))))
section
variable (bh ba c1:Nat)(h:Haz)(t:Nat)(mv:Mv)
theorem mk_reg (r:Int)(ht:h.held[t]? = some r)(hr:r<0):Does Tryz.prog 95 #[.int .i64 (t:Int),mv.v,.pointer (some ⟨c1,0,none⟩)] (HazR bh ba h*QF bh c1)
  (fun v=>optR bh ba (some (.reg ⟨t,0,false⟩)) v*(HazR bh ba h*QF bh c1)):=by
 intro O w F hs
 have hlt:=(List.getElem?_eq_some_iff.1 ht).1
 have n1:decide ((t:Int)<0)=false:=by simp
 have n2:decide ((t:Int)≥(h.held.length:Int))=false:=by simp;omega
 have n2':decide (h.held.length≤t)=false:=by simp;omega
 have n3:decide (r≥0)=false:=by simp;omega
 unfold QF at hs ⊢
 simp only[Ma]at hs ⊢
 (obtain⟨vhh,vhl,hs⟩:=hazR.1 hs)
 go_enter Tryz.func95,Tryz.ntmps95
 go_wp2_with (first|((with_reducible apply Zc hs);exact Ii;rfl;(with_reducible repeat first|exact Qh|apply Qk);rfl;rfl;(simp only[Uc,Uz]))|((with_reducible apply Zv hs);rfl;rfl;rfl;clear hs;intro w b hs;(simp only[Uc,Uz]))|((with_reducible apply Zt hs);exact Ii;rfl;assumption;(with_reducible repeat first|exact Qh|apply Qk);rfl;(exact Ze (by assumption));rfl;rfl;(simp only[Uc,Uz]))|((with_reducible apply ZN hs);exact Ii;exact Ii;rfl;rfl;(with_reducible repeat first|exact Qh|apply Qk);(rfl);(simp only[Wm,Ws,Wa,Wc,Wn,Wr]at *;omega);rfl;intro b off hat;(simp only[Uc,Uz]))|((with_reducible apply Zp hs);exact Ii;rfl;(with_reducible repeat first|exact Qh|apply Qk);rfl;(simp only[Uc,Uz])))
 (go_ret)
 refine⟨_,rfl,?_⟩
 refine ifR_iff.2 ⟨_,rfl,?_⟩
 (replace hs:=ZP (hs.fin (by (with_reducible repeat first|exact Ql|exact Qh|apply Qb|apply Qk))))
 unfold RegR
 ((with_reducible apply Sat.fin hs);(with_reducible repeat first|exact Ql|exact Qh|apply Qb|apply Qk))
theorem mk_reg_no (r:Int)(ht:h.held[t]? = some r)(hr:0≤r):Does Tryz.prog 95 #[.int .i64 (t:Int),mv.v,.pointer (some ⟨c1,0,none⟩)] (HazR bh ba h*QF bh c1)
  (fun v=>optR bh ba none v*(HazR bh ba h*QF bh c1)):=by
 intro O w F hs
 have hlt:=(List.getElem?_eq_some_iff.1 ht).1
 have n1:decide ((t:Int)<0)=false:=by simp
 have n2:decide ((t:Int)≥(h.held.length:Int))=false:=by simp;omega
 have n2':decide (h.held.length≤t)=false:=by simp;omega
 have n3:decide (r≥0)=true:=by simp;omega
 unfold QF at hs ⊢
 simp only[Ma]at hs ⊢
 (obtain⟨vhh,vhl,hs⟩:=hazR.1 hs)
 go_enter Tryz.func95,Tryz.ntmps95
 go_wp2_with (first|((with_reducible apply Zc hs);exact Ii;rfl;(with_reducible repeat first|exact Qh|apply Qk);rfl;rfl;(simp only[Uc,Uz]))|((with_reducible apply Zv hs);rfl;rfl;rfl;clear hs;intro w b hs;(simp only[Uc,Uz]))|((with_reducible apply Zt hs);exact Ii;rfl;assumption;(with_reducible repeat first|exact Qh|apply Qk);rfl;(exact Ze (by assumption));rfl;rfl;(simp only[Uc,Uz]))|((with_reducible apply ZN hs);exact Ii;exact Ii;rfl;rfl;(with_reducible repeat first|exact Qh|apply Qk);(rfl);(simp only[Wm,Ws,Wa,Wc,Wn,Wr]at *;omega);rfl;intro b off hat;(simp only[Uc,Uz]))|((with_reducible apply Zp hs);exact Ii;rfl;(with_reducible repeat first|exact Qh|apply Qk);rfl;(simp only[Uc,Uz])))
 (go_ret)
 refine⟨_,rfl,?_⟩
 refine ZH.2 ⟨rfl,?_⟩
 (replace hs:=ZP (hs.fin (by (with_reducible repeat first|exact Ql|exact Qh|apply Qb|apply Qk))))
 ((with_reducible apply Sat.fin hs);(with_reducible repeat first|exact Ql|exact Qh|apply Qb|apply Qk))
theorem mk_unr:Does Tryz.prog 96 #[.int .i64 (t:Int),mv.v,.pointer (some ⟨c1,0,none⟩)] (HazR bh ba h*QF bh c1)
  (fun v=>optR bh ba (some (.unr ⟨t,0,0,none,none⟩)) v*(HazR bh ba h*QF bh c1)):=by
 intro O w F hs
 unfold QF at hs ⊢
 simp only[Ma]at hs ⊢
 go_enter Tryz.func96,Tryz.ntmps96
 go_wp2_with (first|((with_reducible apply Zc hs);exact Ii;rfl;(with_reducible repeat first|exact Qh|apply Qk);rfl;rfl;(simp only[Uc,Uz]))|((with_reducible apply Zv hs);rfl;rfl;rfl;clear hs;intro w b hs;(simp only[Uc,Uz])))
 (go_ret)
 refine⟨_,rfl,?_⟩
 refine ifR_iff.2 ⟨_,rfl,?_⟩
 apply unrR_mk
 have hs:=flu_none (ba:=ba) (scan_none (bh:=bh) (ba:=ba) hs)
 ((with_reducible apply Sat.fin hs);(with_reducible repeat first|exact Ql|exact Qh|apply Qb|apply Qk))
theorem mk_pst:Does Tryz.prog 97 #[.int .i64 (t:Int),mv.v,.pointer (some ⟨c1,0,none⟩)] (HazR bh ba h*QF bh c1)
  (fun v=>optR bh ba (some (.pst ⟨t,mv.arg,0,none,0,0,none⟩)) v*(HazR bh ba h*QF bh c1)):=by
 intro O w F hs
 unfold QF at hs ⊢
 simp only[Ma]at hs ⊢
 go_enter Tryz.func97,Tryz.ntmps97
 go_wp2_with (first|((with_reducible apply Zc hs);exact Ii;rfl;(with_reducible repeat first|exact Qh|apply Qk);rfl;rfl;(simp only[Uc,Uz]))|((with_reducible apply Zv hs);rfl;rfl;rfl;clear hs;intro w b hs;(simp only[Uc,Uz])))
 (go_ret)
 refine⟨_,rfl,?_⟩
 refine ifR_iff.2 ⟨_,rfl,?_⟩
 apply pstR_mk
 have hs:=tak_none (ba:=ba) (rtr_none (bh:=bh) (ba:=ba) hs)
 ((with_reducible apply Sat.fin hs);(with_reducible repeat first|exact Ql|exact Qh|apply Qb|apply Qk))
theorem mk_scn (r:Int)(ht:h.held[t]? = some r):Does Tryz.prog 100 #[.int .i64 (t:Int),mv.v,.pointer (some ⟨c1,0,none⟩)] (HazR bh ba h*QF bh c1)
  (fun v=>optR bh ba (some (.scn ⟨t,r,6,0,false,fun _=>0,[],none⟩)) v*(HazR bh ba h*QF bh c1)):=by
 intro O w F hs
 have hSc:=Lh (haz_scan bh ba h t r ht)
 unfold QF at hs ⊢
 simp only[Ma]at hs ⊢
 go_enter Tryz.func100,Tryz.ntmps100
 go_wp2_with (first|(first|((with_reducible apply Zc hs);exact Ii;rfl;(with_reducible repeat first|exact Qh|apply Qk);rfl;rfl;(simp only[Uc,Uz]))|((with_reducible apply Zv hs);rfl;rfl;rfl;clear hs;intro w b hs;(simp only[Uc,Uz])))|(go_at_call 45;((refine(hSc.out).at hs (by (with_reducible repeat first|exact Qh|apply Qk)) ?_);clear hs;intro g w hs;(try simp only[Em,Ma]at hs))))
 (go_ret)
 refine⟨_,rfl,?_⟩
 refine ifR_iff.2 ⟨_,rfl,?_⟩
 ((with_reducible apply Sat.fin hs);(with_reducible repeat first|exact Ql|exact Qh|apply Qb|apply Qk))
theorem mk_rdg (hc:h.c.Ok)(r:Int)(ht:h.held[t]? = some r)(r0:0≤r)(r1:r<h.c.R)(k0:0≤mv.arg)(k1:mv.arg<h.c.Hz):Does Tryz.prog 98 #[.int .i64 (t:Int),mv.v,.pointer (some ⟨c1,0,none⟩)] (HazR bh ba h*QF bh c1)
  (fun v=>optR bh ba (some (.rdg ⟨base h.c 9+r*h.c.Hz+mv.arg,0,0,0⟩)) v*(HazR bh ba h*QF bh c1)):=by
 intro O w F hs
 have hA:=Lh (haz_addr bh ba h hc t r mv.arg ht r0 r1 k0 k1)
 have hm:0≤r*h.c.Hz:=Int.mul_nonneg r0 (by omega)
 have hb:=(ZS hc 9).1
 have n1:decide (base h.c 9+r*h.c.Hz+mv.arg≥0)=true:=by simp;omega
 unfold QF at hs ⊢
 simp only[Ma]at hs ⊢
 go_enter Tryz.func98,Tryz.ntmps98
 go_wp2_with (first|(first|((with_reducible apply Zc hs);exact Ii;rfl;(with_reducible repeat first|exact Qh|apply Qk);rfl;rfl;(simp only[Uc,Uz]))|((with_reducible apply Zv hs);rfl;rfl;rfl;clear hs;intro w b hs;(simp only[Uc,Uz])))|(go_at_call 51;((refine(hA.out).at hs (by (with_reducible repeat first|exact Qh|apply Qk)) ?_);clear hs;intro w hs;(try simp only[Em,Ma]at hs))))
 (go_ret)
 refine⟨_,rfl,?_⟩
 refine ifR_iff.2 ⟨_,rfl,?_⟩
 unfold RdgR
 ((with_reducible apply Sat.fin hs);(with_reducible repeat first|exact Ql|exact Qh|apply Qb|apply Qk))
theorem mk_rdg_no (r:Int)(ht:h.held[t]? = some r)(r0:0≤r)(k0:mv.arg<0∨h.c.Hz≤mv.arg):Does Tryz.prog 98 #[.int .i64 (t:Int),mv.v,.pointer (some ⟨c1,0,none⟩)] (HazR bh ba h*QF bh c1)
  (fun v=>optR bh ba none v*(HazR bh ba h*QF bh c1)):=by
 intro O w F hs
 have hA:=Lh (haz_addr_no bh ba h t r mv.arg ht r0 k0)
 clear k0
 unfold QF at hs ⊢
 simp only[Ma]at hs ⊢
 go_enter Tryz.func98,Tryz.ntmps98
 go_wp2_with (first|(first|((with_reducible apply Zc hs);exact Ii;rfl;(with_reducible repeat first|exact Qh|apply Qk);rfl;rfl;(simp only[Uc,Uz]))|((with_reducible apply Zv hs);rfl;rfl;rfl;clear hs;intro w b hs;(simp only[Uc,Uz])))|(go_at_call 51;((refine(hA.out).at hs (by (with_reducible repeat first|exact Qh|apply Qk)) ?_);clear hs;intro w hs;(try simp only[Em,Ma]at hs))))
 (go_ret)
 refine⟨_,rfl,?_⟩
 refine ZH.2 ⟨rfl,?_⟩
 ((with_reducible apply Sat.fin hs);(with_reducible repeat first|exact Ql|exact Qh|apply Qb|apply Qk))
theorem mk_clr (hc:h.c.Ok)(r:Int)(ht:h.held[t]? = some r)(r0:0≤r)(r1:r<h.c.R)(k0:0≤mv.arg)(k1:mv.arg<h.c.Hz):Does Tryz.prog 99 #[.int .i64 (t:Int),mv.v,.pointer (some ⟨c1,0,none⟩)] (HazR bh ba h*QF bh c1)
  (fun v=>optR bh ba (some (.clr (base h.c 9+r*h.c.Hz+mv.arg).toNat)) v*(HazR bh ba h*QF bh c1)):=by
 intro O w F hs
 have hA:=Lh (haz_addr bh ba h hc t r mv.arg ht r0 r1 k0 k1)
 have hm:0≤r*h.c.Hz:=Int.mul_nonneg r0 (by omega)
 have hb:=(ZS hc 9).1
 have n1:decide (base h.c 9+r*h.c.Hz+mv.arg≥0)=true:=by simp;omega
 have hn:((base h.c 9+r*h.c.Hz+mv.arg).toNat:Int)=base h.c 9+r*h.c.Hz+mv.arg:=Int.toNat_of_nonneg (by omega)
 unfold QF at hs ⊢
 simp only[Ma]at hs ⊢
 go_enter Tryz.func99,Tryz.ntmps99
 go_wp2_with (first|(first|((with_reducible apply Zc hs);exact Ii;rfl;(with_reducible repeat first|exact Qh|apply Qk);rfl;rfl;(simp only[Uc,Uz]))|((with_reducible apply Zv hs);rfl;rfl;rfl;clear hs;intro w b hs;(simp only[Uc,Uz])))|(go_at_call 51;((refine(hA.out).at hs (by (with_reducible repeat first|exact Qh|apply Qk)) ?_);clear hs;intro w hs;(try simp only[Em,Ma]at hs))))
 (go_ret)
 refine⟨_,rfl,?_⟩
 refine ifR_iff.2 ⟨_,rfl,?_⟩
 unfold ClrR
 rw[hn]
 ((with_reducible apply Sat.fin hs);(with_reducible repeat first|exact Ql|exact Qh|apply Qb|apply Qk))
theorem mk_clr_no (r:Int)(ht:h.held[t]? = some r)(r0:0≤r)(k0:mv.arg<0∨h.c.Hz≤mv.arg):Does Tryz.prog 99 #[.int .i64 (t:Int),mv.v,.pointer (some ⟨c1,0,none⟩)] (HazR bh ba h*QF bh c1)
  (fun v=>optR bh ba none v*(HazR bh ba h*QF bh c1)):=by
 intro O w F hs
 have hA:=Lh (haz_addr_no bh ba h t r mv.arg ht r0 k0)
 clear k0
 unfold QF at hs ⊢
 simp only[Ma]at hs ⊢
 go_enter Tryz.func99,Tryz.ntmps99
 go_wp2_with (first|(first|((with_reducible apply Zc hs);exact Ii;rfl;(with_reducible repeat first|exact Qh|apply Qk);rfl;rfl;(simp only[Uc,Uz]))|((with_reducible apply Zv hs);rfl;rfl;rfl;clear hs;intro w b hs;(simp only[Uc,Uz])))|(go_at_call 51;((refine(hA.out).at hs (by (with_reducible repeat first|exact Qh|apply Qk)) ?_);clear hs;intro w hs;(try simp only[Em,Ma]at hs))))
 (go_ret)
 refine⟨_,rfl,?_⟩
 refine ZH.2 ⟨rfl,?_⟩
 ((with_reducible apply Sat.fin hs);(with_reducible repeat first|exact Ql|exact Qh|apply Qb|apply Qk))
def Qw (d:Nat)(u:Value):Zd:=pt d (.cells #[u] 177)
theorem hold_no (d:Nat)(u:Value)(r:Int)(ht:h.held[t]? = some r)(r0:r<0):Does Tryz.prog 94 #[.int .i64 (t:Int),mv.v,.pointer (some ⟨c1,0,none⟩),.pointer (some ⟨d,0,none⟩)] (HazR bh ba h*(QF bh c1*Qw d u))
  (fun v=>optR bh ba none v*(HazR bh ba h*(QF bh c1*Qw d u))):=by
 intro O w F hs
 have hR:=Lh (haz_record bh ba h t r ht)
 have n1:decide (r<0)=true:=by simp;omega
 unfold QF Qw at hs ⊢
 simp only[Ma]at hs ⊢
 go_enter Tryz.func94,Tryz.ntmps94
 go_wp2_with (first|(first|((with_reducible apply Zc hs);exact Ii;rfl;(with_reducible repeat first|exact Qh|apply Qk);rfl;rfl;(simp only[Uc,Uz]))|((with_reducible apply Zv hs);rfl;rfl;rfl;clear hs;intro w b hs;(simp only[Uc,Uz])))|(go_at_call 50;((refine(hR.out).at hs (by (with_reducible repeat first|exact Qh|apply Qk)) ?_);clear hs;intro w hs;(try simp only[Em,Ma]at hs))))
 (go_ret)
 refine⟨_,rfl,?_⟩
 refine ZH.2 ⟨rfl,?_⟩
 ((with_reducible apply Sat.fin hs);(with_reducible repeat first|exact Ql|exact Qh|apply Qb|apply Qk))
theorem hold_yes (d:Nat)(f:FuncId)(o:Option Zz)(r:Int)(ht:h.held[t]? = some r)(r0:0≤r)
  (hD:Dyn Tryz.prog (QY (.func (.func f) #[] #[.pointer (some ⟨c1,0,none⟩)]) #[.int .i64 (t:Int),mv.v]) (HazR bh ba h*QF bh c1) (fun v=>optR bh ba o v*(HazR bh ba h*QF bh c1))) :
  Does Tryz.prog 94 #[.int .i64 (t:Int),mv.v,.pointer (some ⟨c1,0,none⟩),.pointer (some ⟨d,0,none⟩)] (HazR bh ba h*(QF bh c1*Qw d (.func (.func f) #[] #[.pointer (some ⟨c1,0,none⟩)])))
  (fun v=>optR bh ba o v*(HazR bh ba h*(QF bh c1*Qw d (.func (.func f) #[] #[.pointer (some ⟨c1,0,none⟩)])))):=by
 intro O w F hs
 have hR:=Lh (haz_record bh ba h t r ht)
 have n1:decide (r<0)=false:=by simp;omega
 unfold QF at hD
 have hD:=Lh hD
 unfold QF Qw at hs ⊢
 simp only[Ma]at hs ⊢
 go_enter Tryz.func94,Tryz.ntmps94
 go_wp2_with (first|(first|((with_reducible apply Zc hs);exact Ii;rfl;(with_reducible repeat first|exact Qh|apply Qk);rfl;rfl;(simp only[Uc,Uz]))|((with_reducible apply Z5 hs);exact Ii;rfl;(with_reducible repeat first|exact Qh|apply Qk);rfl;rfl;(simp only[Uc,Uz]))|((with_reducible apply Zv hs);rfl;rfl;rfl;clear hs;intro w b hs;(simp only[Uc,Uz])))|(go_at_call 50;((refine(hR.out).at hs (by (with_reducible repeat first|exact Qh|apply Qk)) ?_);clear hs;intro w hs;(try simp only[Em,Ma]at hs)))|((with_reducible apply wl_val2 hs);rfl;rfl;rfl;exact hD.out;(with_reducible repeat first|exact Qh|apply Qb|apply Qk);rfl;clear hs;intro v w hs;(simp only[Ma]at hs);(simp only[Uc,Uz])))
 (go_ret)
 refine⟨_,rfl,?_⟩
 ((with_reducible apply Sat.fin hs);(focus((repeat(first|with_reducible exact Ql|with_reducible exact Qh|with_reducible apply Qb|exact Qh|with_reducible apply Qk));done)))
end
end
end Go.Proofs.YtegafhhdegnigaaGreat
