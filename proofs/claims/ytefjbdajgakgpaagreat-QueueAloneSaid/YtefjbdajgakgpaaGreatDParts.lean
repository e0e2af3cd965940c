import Derived.Test.YtefjbdajgakgpaaGreatDAddr2
set_option linter.all false
namespace Go.Proofs.YtefjbdajgakgpaaGreat
open Go.RowKit Hp
set_option maxRecDepth 100000
set_option maxHeartbeats 1000000
section
structure Slt where
 state:Int
 holder:Int
abbrev Slt.e (s:Slt):List Value:=[.int .i64 s.state,.int .i64 s.holder]
structure Are where
 c:Cfg
 slots:List Slt
 caches:List (List Int)
def AreR (b:Nat)(a:Are):Zc:=ex fun vs=>ex fun vc=>
 pt b (.cells #[.int .i64 a.c.T,.int .i64 a.c.R,.int .i64 a.c.Hz,.int .i64 a.c.Rt,.int .i64 a.c.Ca,.int .i64 a.c.Sl,.int .i64 a.c.Bu,vs,vc] 160)*(sl 162 2 (a.slots.map Slt.e) vs*nest 33 3 a.caches vc)
theorem areR {O w:World}{b:Nat}{a:Are}{R:Zc}:Sat O w (AreR b a*R)↔∃vs vc,Sat O w (pt b (.cells #[.int .i64 a.c.T,.int .i64 a.c.R,.int .i64 a.c.Hz,.int .i64 a.c.Rt,.int .i64 a.c.Ca,.int .i64 a.c.Sl,.int .i64 a.c.Bu,vs,vc] 160)*(sl 162 2 (a.slots.map Slt.e) vs*(nest 33 3 a.caches vc*R))):=by
 unfold AreR
 simp only[ZG,Ma]
theorem areR_mk {O w:World}{b:Nat}{a:Are}{R:Zc}{vs vc:Value}(h:Sat O w (pt b (.cells #[.int .i64 a.c.T,.int .i64 a.c.R,.int .i64 a.c.Hz,.int .i64 a.c.Rt,.int .i64 a.c.Ca,.int .i64 a.c.Sl,.int .i64 a.c.Bu,vs,vc] 160)*(sl 162 2 (a.slots.map Slt.e) vs*(nest 33 3 a.caches vc*R)))):Sat O w (AreR b a*R):=areR.2 ⟨_,_,h⟩
attribute [irreducible] AreR
section
end
theorem arena_has (b:Nat)(a:Are)(i:Nat)(hi:i<a.slots.length) :
  Zk Tryz.prog 133 #[.pointer (some ⟨b,0,none⟩),.int .i64 (i:Int)] (AreR b a) (.bool true) (AreR b a):=by
 intro O w F hs
 (obtain⟨vas,vac,hs⟩:=areR.1 hs)
 have hz:decide ((i:Int)≥0)=true:=by simp
 have hl:decide ((i:Int)<(a.slots.length:Int))=true:=by simp;exact hi
 go_enter Tryz.func133,Tryz.ntmps133
 go_wp2_with (first|((with_reducible apply Zb hs);exact Ii;rfl;(with_reducible exact Qh);rfl;rfl;simp only[Uc,Uz])|((with_reducible apply ZS hs);exact Ii;rfl;(with_reducible repeat first|exact Qh|apply Qk);rfl;simp only[Uc,Uz]))
 go_ret
 refine⟨by simp[hl],?_⟩
 (apply areR_mk;((try simp only[Yh,Yi,Yj,Yk,Yl]);(try simp only[Yh,Yi,Yj,Yk,Yl]at hs);((with_reducible apply Sat.fin hs);(with_reducible exact Ql))))
def adr (c:Cfg)(r:Nat)(i:Int):Nat:=(base c r+i).toNat
theorem arena_addr (b:Nat)(a:Are)(hc:a.c.Ok)(r:Nat)(h1:1≤r)(h2:r≤13)(h9:r≠9)(i:Int)(hi:InReg a.c r i) :
  Zk Tryz.prog 154 #[.pointer (some ⟨b,0,none⟩),.int .i64 (r:Int),.int .i64 i] (AreR b a) (.int .i64 (adr a.c r i:Int)) (AreR b a):=by
 intro O w F hs
 (obtain⟨vas,vac,hs⟩:=areR.1 hs)
 have hA:=word_addr a.c hc r h1 h2 i hi
 rw[if_neg h9]at hA
 have e:base a.c r+i=(adr a.c r i:Int):=by
  have:=(ZD hc r).1
  have:=hi.1
  unfold adr;omega
 rw[e]at hA
 have hA:=Lh hA
 go_enter Tryz.func154,Tryz.ntmps154
 go_wp2_with (first|((with_reducible apply wl_ldN hs);exact Ii;rfl;(with_reducible exact Qh);(simp only[List.size_toArray,List.length_cons,List.length_nil];omega);rfl;rfl;simp only[Uc,Uz])|(go_at_call 67;((refine(hA.out).at hs (by (focus((repeat(with_reducible exact Qn));done))) ?_);clear hs;intro w hs;(try simp only[Em,Ma]at hs))))
 go_ret
 refine⟨by simp,?_⟩
 (apply areR_mk;((try simp only[Yh,Yi,Yj,Yk,Yl]);(try simp only[Yh,Yi,Yj,Yk,Yl]at hs);((with_reducible apply Sat.fin hs);(with_reducible exact Ql))))
def Are.shift (a:Are)(i:Nat)(t to:Int):Are:={ a with slots:=a.slots.set i ⟨to,if to=0∨to=3 then -1 else t⟩ }
theorem Jb (b d bx bm:Nat)(a:Are)(m:Mch)(i:Nat)(s:Slt)(to:Int)(hi:a.slots[i]? = some s)(h0:0≤to)(h5:to≤5)(hl:m.shifts.length<4294967296) :
  Zk Tryz.prog 149 #[.pointer (some ⟨b,0,none⟩),.pointer (some ⟨d,0,none⟩),.int .i64 (i:Int),.int .i64 to] (AreR b a*DkR d bx bm m) (.tuple #[]) (AreR b (a.shift i m.thread to)*DkR d bx bm (m.shift i s.state to)):=by
 intro O w F hs
 rw[Ma]at hs
 have n1:decide (to<0)=false:=by simp;omega
 have n2:decide (to>5)=false:=by simp;omega
 have hlt:=(List.getElem?_eq_some_iff.1 hi).1
 have hH:=Lh (arena_has b a i (List.getElem?_eq_some_iff.1 hi).1)
 have hT:=Lh (desk_thread d bx bm m)
 have hS:=Lh (desk_shift d bx bm m i s.state to hl)
 by_cases e0:to=0
 ·subst e0
  go_enter Tryz.func149,Tryz.ntmps149
  go_wp2_with (first|(with_reducible first|apply NQ.mk|apply EQ.mk|exact Zg|apply Zj)|((with_reducible apply Zi);rfl;rfl)|((with_reducible apply Zo);rfl)|((with_reducible refine Zn ?_ ?_);focus((with_reducible apply ZI);rfl;rfl))|(show Qd _ _ _;rfl)|((with_reducible apply Zb hs);exact Ii;rfl;(with_reducible repeat first|exact Qh|apply Qk);rfl;rfl;simp only[Uc,Uz])|((with_reducible apply ZE hs);exact Ii;rfl;assumption;(with_reducible repeat first|exact Qh|apply Qk);rfl;(exact Ze (by assumption));rfl;rfl;simp only[Uc,Uz])|((with_reducible apply wl_stS hs);exact Ii;rfl;rfl;assumption;(with_reducible exact Qh);rfl;(exact Qp (by exact Ze (by assumption)));exact Vb rfl;rfl;rfl;clear hs;intro w hs)|((with_reducible apply wl_stSN (k:=0) hs);exact Ii;rfl;rfl;assumption;(with_reducible repeat first|exact Qh|apply Qk);(exact(Nat.add_zero _).symm);(exact Ze (by assumption));exact Vb rfl;rfl;rfl;rfl;rfl;clear hs;intro w hs;simp only[List.take_succ_cons,List.take_zero,List.drop_succ_cons,List.drop_zero,List.cons_append,List.nil_append,List.append_nil]at hs)|((with_reducible apply Jv hs);exact Ii;exact Ii;rfl;assumption;rfl;(with_reducible repeat first|exact Qh|apply Qk);rfl;(simp only[Wm,Ws,Wa,Wc,Wn,Wr]at *;omega);rfl;simp only[Uc,Uz])|((with_reducible apply Qe hs);exact Ii;exact Ii;rfl;rfl;(with_reducible repeat first|exact Qh|apply Qk);rfl;(simp only[Wm,Ws,Wa,Wc,Wn,Wr]at *;omega);rfl;intro b off hat;simp only[Uc,Uz])|(go_at_call 133;((refine(hH.out).at hs (by (with_reducible exact Qh)) ?_);clear hs;intro w hs;(try simp only[Em,Ma]at hs));(obtain⟨vas,vac,hs⟩:=areR.1 hs))|(go_at_call 162;(refine(hT.out).at hs (by with_reducible repeat first|exact Qh|apply Qk) ?_;clear hs;intro w hs;(try simp only[Em,Ma]at hs)))|(go_at_call 163;(refine(hS.out).at hs (by with_reducible repeat first|exact Qh|apply Qk) ?_;clear hs;intro w hs;(try simp only[Em,Ma]at hs)))|((with_reducible refine Wp (id:=2) (Paz [.neu 5,.neu 6,.eff 7 [0,1,2,3,4,5],.neu 8,.neu 9,.eff 10 []]) hs rfl ?_ ?_);kernel_rfl;clear hs;intro w hs))
  (go_end0)
  refine⟨rfl,?_⟩
  rw[Ma]
  unfold Are.shift
  rw[if_pos (.inl rfl)]
  (apply areR_mk;((try simp only[Yh,Yi,Yj,Yk,Yl]);(try simp only[Yh,Yi,Yj,Yk,Yl]at hs);((with_reducible apply Sat.fin hs);(focus((repeat(first|with_reducible exact Ql|with_reducible exact Qh|with_reducible apply Qb|exact Qh|with_reducible apply Qk));done)))))
 by_cases e3:to=3
 ·subst e3
  go_enter Tryz.func149,Tryz.ntmps149
  go_wp2_with (first|(with_reducible first|apply NQ.mk|apply EQ.mk|exact Zg|apply Zj)|((with_reducible apply Zi);rfl;rfl)|((with_reducible apply Zo);rfl)|((with_reducible refine Zn ?_ ?_);focus((with_reducible apply ZI);rfl;rfl))|(show Qd _ _ _;rfl)|((with_reducible apply Zb hs);exact Ii;rfl;(with_reducible repeat first|exact Qh|apply Qk);rfl;rfl;simp only[Uc,Uz])|((with_reducible apply ZE hs);exact Ii;rfl;assumption;(with_reducible repeat first|exact Qh|apply Qk);rfl;(exact Ze (by assumption));rfl;rfl;simp only[Uc,Uz])|((with_reducible apply wl_stS hs);exact Ii;rfl;rfl;assumption;(with_reducible exact Qh);rfl;(exact Qp (by exact Ze (by assumption)));exact Vb rfl;rfl;rfl;clear hs;intro w hs)|((with_reducible apply wl_stSN (k:=0) hs);exact Ii;rfl;rfl;assumption;(with_reducible repeat first|exact Qh|apply Qk);(exact(Nat.add_zero _).symm);(exact Ze (by assumption));exact Vb rfl;rfl;rfl;rfl;rfl;clear hs;intro w hs;simp only[List.take_succ_cons,List.take_zero,List.drop_succ_cons,List.drop_zero,List.cons_append,List.nil_append,List.append_nil]at hs)|((with_reducible apply Jv hs);exact Ii;exact Ii;rfl;assumption;rfl;(with_reducible repeat first|exact Qh|apply Qk);rfl;(simp only[Wm,Ws,Wa,Wc,Wn,Wr]at *;omega);rfl;simp only[Uc,Uz])|((with_reducible apply Qe hs);exact Ii;exact Ii;rfl;rfl;(with_reducible repeat first|exact Qh|apply Qk);rfl;(simp only[Wm,Ws,Wa,Wc,Wn,Wr]at *;omega);rfl;intro b off hat;simp only[Uc,Uz])|(go_at_call 133;((refine(hH.out).at hs (by (with_reducible exact Qh)) ?_);clear hs;intro w hs;(try simp only[Em,Ma]at hs));(obtain⟨vas,vac,hs⟩:=areR.1 hs))|(go_at_call 162;(refine(hT.out).at hs (by with_reducible repeat first|exact Qh|apply Qk) ?_;clear hs;intro w hs;(try simp only[Em,Ma]at hs)))|(go_at_call 163;(refine(hS.out).at hs (by with_reducible repeat first|exact Qh|apply Qk) ?_;clear hs;intro w hs;(try simp only[Em,Ma]at hs)))|((with_reducible refine Wp (id:=2) (Paz [.neu 5,.neu 6,.eff 7 [0,1,2,3,4,5],.neu 8,.neu 9,.eff 10 []]) hs rfl ?_ ?_);kernel_rfl;clear hs;intro w hs))
  (go_end0)
  refine⟨rfl,?_⟩
  rw[Ma]
  unfold Are.shift
  rw[if_pos (.inr rfl)]
  (apply areR_mk;((try simp only[Yh,Yi,Yj,Yk,Yl]);(try simp only[Yh,Yi,Yj,Yk,Yl]at hs);((with_reducible apply Sat.fin hs);(focus((repeat(first|with_reducible exact Ql|with_reducible exact Qh|with_reducible apply Qb|exact Qh|with_reducible apply Qk));done)))))
 ·have b1:(to==0)=false:=by simpa using e0
  have b2:(to==3)=false:=by simpa using e3
  have b3:decide (to=0)=false:=by simpa using e0
  have b4:decide (to=3)=false:=by simpa using e3
  have hif:¬(to=0∨to=3):=by omega
  have hif:=Lh hif
  clear e0 e3
  go_enter Tryz.func149,Tryz.ntmps149
  go_wp2_with (first|(with_reducible first|apply NQ.mk|apply EQ.mk|exact Zg|apply Zj)|((with_reducible apply Zi);rfl;rfl)|((with_reducible apply Zo);rfl)|((with_reducible refine Zn ?_ ?_);focus((with_reducible apply ZI);rfl;rfl))|(show Qd _ _ _;rfl)|((with_reducible apply Zb hs);exact Ii;rfl;(with_reducible repeat first|exact Qh|apply Qk);rfl;rfl;simp only[Uc,Uz])|((with_reducible apply ZE hs);exact Ii;rfl;assumption;(with_reducible repeat first|exact Qh|apply Qk);rfl;(exact Ze (by assumption));rfl;rfl;simp only[Uc,Uz])|((with_reducible apply wl_stSN (k:=0) hs);exact Ii;rfl;rfl;assumption;(with_reducible repeat first|exact Qh|apply Qk);(exact(Nat.add_zero _).symm);(exact Ze (by assumption));exact Vb rfl;rfl;rfl;rfl;rfl;clear hs;intro w hs;simp only[List.take_succ_cons,List.take_zero,List.drop_succ_cons,List.drop_zero,List.cons_append,List.nil_append,List.append_nil]at hs)|((with_reducible apply Jv hs);exact Ii;exact Ii;rfl;assumption;rfl;(with_reducible repeat first|exact Qh|apply Qk);rfl;(simp only[Wm,Ws,Wa,Wc,Wn,Wr]at *;omega);rfl;simp only[Uc,Uz])|((with_reducible apply Qe hs);exact Ii;exact Ii;rfl;rfl;(with_reducible repeat first|exact Qh|apply Qk);rfl;(simp only[Wm,Ws,Wa,Wc,Wn,Wr]at *;omega);rfl;intro b off hat;simp only[Uc,Uz])|(go_at_call 133;((refine(hH.out).at hs (by (with_reducible exact Qh)) ?_);clear hs;intro w hs;(try simp only[Em,Ma]at hs));(obtain⟨vas,vac,hs⟩:=areR.1 hs))|(go_at_call 162;(refine(hT.out).at hs (by with_reducible repeat first|exact Qh|apply Qk) ?_;clear hs;intro w hs;(try simp only[Em,Ma]at hs)))|(go_at_call 163;(refine(hS.out).at hs (by with_reducible repeat first|exact Qh|apply Qk) ?_;clear hs;intro w hs;(try simp only[Em,Ma]at hs)))|((with_reducible refine Wp (id:=2) (Paz [.neu 5,.neu 6,.eff 7 [0,1,2,3,4,5],.neu 8,.neu 9,.eff 10 []]) hs rfl ?_ ?_);kernel_rfl;clear hs;intro w hs))
  (go_end0)
  refine⟨rfl,?_⟩
  rw[Ma]
  unfold Are.shift
  rw[if_neg hif.out]
  (apply areR_mk;((try simp only[Yh,Yi,Yj,Yk,Yl]);(try simp only[Yh,Yi,Yj,Yk,Yl]at hs);(with_reducible apply Sat.fin hs;repeat first|exact Ql|exact Qh|apply Qb|apply Qk)))
/-! ### One thread's cache in hand -/
theorem areT {O w:World}{b:Nat}{a:Are}{R:Zc}{t:Nat}{x:List Int}(hs:Sat O w (AreR b a*R))(hi:a.caches[t]? = some x):∃(vs vc:Value) (us:List Value) (u:Value),us.length=a.caches.length∧us[t]? = some u ∧
  Sat O w (pt b (.cells #[.int .i64 a.c.T,.int .i64 a.c.R,.int .i64 a.c.Hz,.int .i64 a.c.Rt,.int .i64 a.c.Ca,.int .i64 a.c.Sl,.int .i64 a.c.Bu,vs,vc] 160)*(sl 162 2 (a.slots.map Slt.e) vs *
   (sl 33 1 (us.map fun u=>[u]) vc*(sl 3 1 (x.map eI) u*(Jd 3 (a.caches.eraseIdx t) (us.eraseIdx t)*R))))):=by
 obtain⟨vs,vc,hs⟩:=areR.1 hs
 obtain⟨us,u,h1,h2,hs⟩:=nest_at (hs.pull (A:=nest 33 3 a.caches vc) (by (with_reducible repeat first|exact Qh|apply Qk))) hi
 refine⟨vs,vc,us,u,h1,h2,?_⟩
 (with_reducible apply Sat.fin hs;repeat first|exact Ql|exact Qh|apply Qb|apply Qk)
theorem areT_back {O w:World}{b:Nat}{a:Are}{R:Zc}{t:Nat}{x:List Int}{vs vc u:Value}{us:List Value}(hl:us.length=a.caches.length)(hu:us[t]? = some u)(hi:a.caches[t]? = some x)
  (hs:Sat O w (pt b (.cells #[.int .i64 a.c.T,.int .i64 a.c.R,.int .i64 a.c.Hz,.int .i64 a.c.Rt,.int .i64 a.c.Ca,.int .i64 a.c.Sl,.int .i64 a.c.Bu,vs,vc] 160)*(sl 162 2 (a.slots.map Slt.e) vs *
   (sl 33 1 (us.map fun u=>[u]) vc*(sl 3 1 (x.map eI) u*(Jd 3 (a.caches.eraseIdx t) (us.eraseIdx t)*R)))))):Sat O w (AreR b a*R):=by
 apply areR_mk
 have:=nest_back (xss:=a.caches) hl hi hu (hs.fin (T:=sl 33 1 (us.map fun u=>[u]) vc*(sl 3 1 (x.map eI) u*(Jd 3 (a.caches.eraseIdx t) (us.eraseIdx t)*(pt b (.cells #[.int .i64 a.c.T,.int .i64 a.c.R,.int .i64 a.c.Hz,.int .i64 a.c.Rt,.int .i64 a.c.Ca,.int .i64 a.c.Sl,.int .i64 a.c.Bu,vs,vc] 160)*(sl 162 2 (a.slots.map Slt.e) vs*R))))) (by (with_reducible repeat first|exact Ql|exact Qh|apply Qb|apply Qk)))
 have hs:=this
 (with_reducible apply Sat.fin hs;repeat first|exact Ql|exact Qh|apply Qb|apply Qk)
theorem areT_mk {O w:World}{b:Nat}{a:Are}{R:Zc}{t:Nat}{x:List Int}{vs vc u:Value}{us:List Value}(hl:us.length=a.caches.length)(ht:t<a.caches.length)
  (hs:Sat O w (pt b (.cells #[.int .i64 a.c.T,.int .i64 a.c.R,.int .i64 a.c.Hz,.int .i64 a.c.Rt,.int .i64 a.c.Ca,.int .i64 a.c.Sl,.int .i64 a.c.Bu,vs,vc] 160)*(sl 162 2 (a.slots.map Slt.e) vs *
   (sl 33 1 ((us.set t u).map fun u=>[u]) vc*(sl 3 1 (x.map eI) u*(Jd 3 (a.caches.eraseIdx t) (us.eraseIdx t)*R)))))):Sat O w (AreR b { a with caches:=a.caches.set t x }*R):=by
 apply areR_mk
 have:=nest_mk (xss:=a.caches) hl ht (hs.fin (T:=sl 33 1 ((us.set t u).map fun u=>[u]) vc*(sl 3 1 (x.map eI) u*(Jd 3 (a.caches.eraseIdx t) (us.eraseIdx t)*(pt b (.cells #[.int .i64 a.c.T,.int .i64 a.c.R,.int .i64 a.c.Hz,.int .i64 a.c.Rt,.int .i64 a.c.Ca,.int .i64 a.c.Sl,.int .i64 a.c.Bu,vs,vc] 160)*(sl 162 2 (a.slots.map Slt.e) vs*R))))) (by (with_reducible repeat first|exact Ql|exact Qh|apply Qb|apply Qk)))
 have hs:=this
 (with_reducible apply Sat.fin hs;repeat first|exact Ql|exact Qh|apply Qb|apply Qk)
end
section
attribute [local irreducible] Go.Calls
theorem areT_mk2 {O w:World}{b:Nat}{a:Are}{R:Zc}{t:Nat}{x:List Int}{xc:List (List Value)}{vs vc u:Value}{us:List Value}(hl:us.length=a.caches.length)(ht:t<a.caches.length)
  (hs:Sat O w (pt b (.cells #[.int .i64 a.c.T,.int .i64 a.c.R,.int .i64 a.c.Hz,.int .i64 a.c.Rt,.int .i64 a.c.Ca,.int .i64 a.c.Sl,.int .i64 a.c.Bu,vs,vc] 160)*(sl 162 2 (a.slots.map Slt.e) vs *
   (sl 33 1 ((us.map fun u=>[u]).set t [u]) vc*(sl 3 1 xc u*(Jd 3 (a.caches.eraseIdx t) (us.eraseIdx t)*R)))))) (hxc:xc=x.map eI):Sat O w (AreR b { a with caches:=a.caches.set t x }*R):=by
 subst hxc
 refine areT_mk (vs:=vs) (vc:=vc) (u:=u) hl ht ?_
 rw[Yk]
 exact hs
section
end
theorem arena_thread (b:Nat)(a:Are)(t:Nat)(x:List Int)(hi:a.caches[t]? = some x) :
  Zk Tryz.prog 151 #[.pointer (some ⟨b,0,none⟩),.int .i64 (t:Int)] (AreR b a) (.bool true) (AreR b a):=by
 intro O w F hs
 have hlt:=(List.getElem?_eq_some_iff.1 hi).1
 (obtain⟨vas,vac,us,u,hus,hu,hs⟩:=areT hs hi)
 have hz:decide ((t:Int)≥0)=true:=by simp
 have hl:decide ((t:Int)<(us.length:Int))=true:=by simp;omega
 go_enter Tryz.func151,Tryz.ntmps151
 go_wp2_with (first|((with_reducible apply Zb hs);exact Ii;rfl;(with_reducible exact Qh);rfl;rfl;simp only[Uc,Uz])|((with_reducible apply ZS hs);exact Ii;rfl;(with_reducible repeat first|exact Qh|apply Qk);rfl;simp only[Uc,Uz]))
 go_ret
 refine⟨?_,?_⟩
 ·rw[←hus]at hlt;simp[hlt]
 ·(apply areT_back hus hu hi;((try simp only[Yh,Yi,Yj,Yk,Yl]);(try simp only[Yh,Yi,Yj,Yk,Yl]at hs);((with_reducible apply Sat.fin hs);(with_reducible exact Ql))))
structure Psh where
 slot:Int
 at_:Int
 head:Int
 thread:Int
def PshR (g ba:Nat)(E:TypeId)(p:Psh):Zc:=pt g (.cells #[.pointer (some ⟨ba,0,none⟩),.int .i64 p.slot,.int .i64 p.at_,.int .u64 p.head,.int .i64 p.thread] E)
theorem arena_give (b:Nat)(a:Are)(t i:Nat)(x:List Int)(ht:a.caches[t]? = some x)(hi:i<a.slots.length) :
  Makes Tryz.prog 181 #[.pointer (some ⟨b,0,none⟩),.int .i64 (t:Int),.int .i64 (i:Int)] (AreR b a) (fun g=>PshR g b 292 ⟨i,1,0,t⟩*AreR b a):=by
 intro O w F hs
 have hH:=Lh (arena_has b a i hi)
 have hT:=Lh (arena_thread b a t x ht)
 go_enter Tryz.func181,Tryz.ntmps181
 go_wp2_with (first|((with_reducible apply Zt hs);rfl;rfl;rfl;clear hs;intro w b hs;simp only[Uc,Uz])|(go_at_call 133;(refine(hH.out).at hs (by with_reducible repeat first|exact Qh|apply Qk) ?_;clear hs;intro w hs;(try simp only[Em,Ma]at hs)))|(go_at_call 151;((refine(hT.out).at hs (by (with_reducible exact Qh)) ?_);clear hs;intro w hs;(try simp only[Em,Ma]at hs))))
 go_ret
 refine⟨_,rfl,?_⟩
 unfold PshR
 (with_reducible apply Sat.fin hs;repeat first|exact Ql|exact Qh|apply Qb|apply Qk)
theorem arena_flush (b:Nat)(t:Int) :
  Makes Tryz.prog 191 #[.pointer (some ⟨b,0,none⟩),.int .i64 t] emp (fun g=>PshR g b 296 ⟨0,0,0,t⟩):=by
 intro O w F hs
 go_enter Tryz.func191,Tryz.ntmps191
 go_wp2_with ((with_reducible apply Zt hs);rfl;rfl;rfl;clear hs;intro w b hs;simp only[Uc,Uz])
 go_ret
 refine⟨_,rfl,?_⟩
 unfold PshR
 (with_reducible apply Sat.fin hs;repeat first|exact Ql|exact Qh|apply Qb|apply Qk)
def Mch.word (m:Mch)(i:Nat):Int:=m.mem.words.getD i 0
structure Mch.May (m:Mch)(i:Nat):Prop where
 used:m.used=false
 lt:i<m.mem.words.length
 log:m.mem.log.length<4294967296
 ahead:m.mem.ahead.length<4294967296
theorem Mch.May.acs {m:Mch}{i:Nat}(h:m.May i):Acs m i (m.word i):=
 ⟨h.used,by have:=h.lt;simp[Mch.word,this],h.log,h.ahead⟩
structure HeadOk (u:Int):Prop where
 nn:0≤u
 lt:u<18446744073709551616
 ix:u%4294967296≤2147483647
def Za (a:Are)(m:Mch)(p:Psh):Bool×Are×Mch×Psh:=
 if p.at_=1 then (false,a,m.load (adr a.c 1 0) (m.word (adr a.c 1 0)),{ p with head:=m.word (adr a.c 1 0),at_:=2 })
 else if p.at_=2 then (false,a,m.store (adr a.c 10 p.slot) (m.word (adr a.c 10 p.slot)) (p.head%4294967296),{ p with at_:=3 })
 else
  let m':=m.swap (adr a.c 1 0) (m.word (adr a.c 1 0)) p.head ((p.head / 4294967296+1)%4294967296*4294967296+(p.slot+1))
  if m.word (adr a.c 1 0)=p.head then (true,a.shift p.slot.toNat m.thread 0,m'.shift p.slot (a.slots.getD p.slot.toNat ⟨0,0⟩).state 0,{ p with at_:=0 })
  else (false,a,m',{ p with at_:=1 })
structure PushOk (a:Are)(m:Mch)(p:Psh):Prop where
 c:a.c.Ok
 used:m.used=false
 words:m.mem.words.length=(base a.c 14).toNat
 log:m.mem.log.length<4294967296
 ahead:m.mem.ahead.length<4294967296
 shifts:m.shifts.length<4294967296
 slots:a.slots.length=a.c.Sl.toNat
 s0:0≤p.slot
 s1:p.slot<a.c.Sl
 at0:p.at_=1∨p.at_=2∨p.at_=3
 head:p.at_≠1→HeadOk p.head
theorem in_free (c:Cfg):InReg c 1 0:=⟨by omega,by omega,by show(0:Int)<1;omega⟩
theorem in_spare {c:Cfg}{i:Int}(h0:0≤i)(h1:i<c.Sl):InReg c 10 i:=⟨h0,by omega,h1⟩
theorem base_succ (c:Cfg)(r:Nat)(h:1≤r):base c (r+1)=base c r+many c r:=by
 cases r with
 | zero=>omega
 | succ j=>rfl
theorem base_mono {c:Cfg}(h:c.Ok)(r k:Nat)(h1:1≤r):base c r≤base c (r+k):=by
 induction k with
 | zero=>exact Int.le_refl _
 | succ k ih=>
  have:=base_succ c (r+k) (by omega)
  have:=many_le h (r+k)
  rw[←Nat.add_assoc];omega
theorem adr_lt {c:Cfg}(h:c.Ok){r:Nat}(h1:1≤r)(h2:r≤13){i:Int}(hi:InReg c r i):adr c r i<(base c 14).toNat:=by
 have e:=base_succ c r h1
 have:=base_mono h (r+1) (13-r) (by omega)
 rw[show r+1+(13-r)=14 by omega]at this
 have:=(ZD h r).1
 have:=hi.1
 have:=hi.2.2
 unfold adr
 omega
theorem push_step (g b d bx bm:Nat)(E:TypeId)(a:Are)(m:Mch)(p:Psh)(h:PushOk a m p) :
  Zk Tryz.prog 183 #[.pointer (some ⟨g,0,none⟩),.pointer (some ⟨d,0,none⟩)] (PshR g b E p*(AreR b a*DkR d bx bm m))
   (.bool (Za a m p).1) (PshR g b E (Za a m p).2.2.2*(AreR b (Za a m p).2.1*DkR d bx bm (Za a m p).2.2.1)):=by
 intro O w F hs
 simp only[Ma]at hs
 unfold PshR at hs
 obtain⟨ps,pa,ph,pt_⟩:=p
 obtain⟨hc,hu,hw,hl,ha,hsh,hsl,s0,s1,hat,hhd⟩:=h
 simp only[]at s0 s1 hat hhd hs
 have hF:=Lh (arena_addr b a hc 1 (by omega) (by omega) (by omega) 0 (in_free a.c))
 have hS:=Lh (arena_addr b a hc 10 (by omega) (by omega) (by omega) ps (in_spare s0 s1))
 have mF:m.May (adr a.c 1 0):=⟨hu,by rw[hw];exact adr_lt hc (by omega) (by omega) (in_free a.c),hl,ha⟩
 have mS:m.May (adr a.c 10 ps):=⟨hu,by rw[hw];exact adr_lt hc (by omega) (by omega) (in_spare s0 s1),hl,ha⟩
 rcases hat with e|e|e
 ·subst e
  have hL:=Lh (Qt d bx bm m _ _ mF.acs)
  go_enter Tryz.func183,Tryz.ntmps183
  go_wp2_with (first|((with_reducible apply Zb hs);exact Ii;rfl;(with_reducible repeat first|exact Qh|apply Qk);rfl;rfl;simp only[Uc,Uz])|((with_reducible apply Zv hs);exact Ii;rfl;rfl;(with_reducible repeat first|exact Qh|apply Qk);rfl;exact Vb rfl;rfl;clear hs;intro w hs;simp only[Yg,Uc,Uz]at hs)|(go_at_call 154;(refine(hF.out).at hs (by with_reducible repeat first|exact Qh|apply Qk) ?_;clear hs;intro w hs;(try simp only[Em,Ma]at hs)))|(go_at_call 144;(refine(hL.out).at hs (by with_reducible repeat first|exact Qh|apply Qk) ?_;clear hs;intro w hs;(try simp only[Em,Ma]at hs))))
  go_ret
  simp only[Za,if_true,Ma]
  refine⟨rfl,?_⟩
  unfold PshR
  (with_reducible apply Sat.fin hs;repeat first|exact Ql|exact Qh|apply Qb|apply Qk)
 ·subst e
  obtain⟨g0,g1,g2⟩:=hhd (by omega)
  have hU:=Lh (word_unhead ph g0 g1 g2)
  have hK:=Lh (word_link (ph%4294967296-1) (by omega) (by omega))
  have hL:=Lh (Z7 d bx bm m _ _ (ph%4294967296) mS.acs)
  have e1:ph%4294967296-1+1=ph%4294967296:=by omega
  rw[e1]at hK
  go_enter Tryz.func183,Tryz.ntmps183
  go_wp2_with (first|(with_reducible first|apply NQ.mk|apply EQ.mk|exact Zg|apply Zj)|((with_reducible apply Zi);rfl;rfl)|((with_reducible apply Zo);rfl)|((with_reducible refine Zn ?_ ?_);focus((with_reducible apply ZI);rfl;rfl))|(show Qd _ _ _;rfl)|((with_reducible apply Zb hs);exact Ii;rfl;(with_reducible repeat first|exact Qh|apply Qk);rfl;rfl;simp only[Uc,Uz])|((with_reducible apply Zv hs);exact Ii;rfl;rfl;(with_reducible repeat first|exact Qh|apply Qk);rfl;exact Vb rfl;rfl;clear hs;intro w hs;simp only[Yg,Uc,Uz]at hs)|(go_at_call 154;first|(refine(hF.out).at hs (by with_reducible repeat first|exact Qh|apply Qk) ?_;clear hs;intro w hs;(try simp only[Em,Ma]at hs))|((refine(hS.out).at hs (by (with_reducible exact Qh)) ?_);clear hs;intro w hs;(try simp only[Em,Ma]at hs)))|(go_at_call 155;((refine(hU.out).at hs (by (focus((repeat(with_reducible exact Qn));done))) ?_);clear hs;intro w hs;(try simp only[Em,Ma]at hs)))|(go_at_call 153;((refine(hK.out).at hs (by (focus((repeat(with_reducible exact Qn));done))) ?_);clear hs;intro w hs;(try simp only[Em,Ma]at hs)))|(go_at_call 141;(refine(hL.out).at hs (by with_reducible repeat first|exact Qh|apply Qk) ?_;clear hs;intro w hs;(try simp only[Em,Ma]at hs)))|((with_reducible refine Wp (id:=9) (Paz [.neu 5,.neu 6,.neu 7,.neu 8,.neu 10,.eff 9 [0,10],.eff 11 []]) hs rfl ?_ ?_);kernel_rfl;clear hs;intro w hs))
  go_ret
  simp only[Za,if_true,Ma]
  refine⟨rfl,?_⟩
  unfold PshR
  ((with_reducible apply Sat.fin hs);(focus((repeat(first|with_reducible exact Ql|with_reducible apply Qb|exact Qh|with_reducible apply Qk));done)))
 ·subst e
  obtain⟨g0,g1,g2⟩:=hhd (by omega)
  have hU:=Lh (word_unhead ph g0 g1 g2)
  have hS2:=hc.S2
  have hK:=Lh (word_head ((ph / 4294967296+1)%4294967296) ps (by omega) (by omega) (by omega) (by omega))
  have hL:=Lh (Jl d bx bm m _ _ ph ((ph / 4294967296+1)%4294967296*4294967296+(ps+1)) mF.acs)
  by_cases hq:m.word (adr a.c 1 0)=ph
  ·have hq':decide (m.word (adr a.c 1 0)=ph)=true:=by simpa using hq
   rw[hq']at hL
   have hq:=Lh hq
   obtain⟨n,rfl⟩:=Int.eq_ofNat_of_zero_le s0
   have hn:n<a.slots.length:=by omega
   have hSh:=Lh (Jb b d bx bm a (m.swap (adr a.c 1 0) (m.word (adr a.c 1 0)) ph ((ph / 4294967296+1)%4294967296*4294967296+((n:Int)+1))) n (a.slots.getD n ⟨0,0⟩) 0 (by simp[hn]) (by omega) (by omega) hsh)
   go_enter Tryz.func183,Tryz.ntmps183
   go_wp2_with (first|(with_reducible refine NQ.mk ?_)|((with_reducible apply Zi);rfl;rfl)|((with_reducible apply Zo);rfl)|(with_reducible refine EQ.mk ?_ ?_)|(with_reducible exact Zg)|(with_reducible refine Zj ?_)|((with_reducible apply Zb hs);exact Ii;rfl;(with_reducible repeat first|exact Qh|apply Qk);rfl;rfl;simp only[Uc,Uz])|((with_reducible apply Zv hs);exact Ii;rfl;rfl;(with_reducible repeat first|exact Qh|apply Qk);rfl;exact Vb rfl;rfl;clear hs;intro w hs;simp only[Yg,Uc,Uz]at hs)|(go_at_call 154;(refine(hF.out).at hs (by with_reducible repeat first|exact Qh|apply Qk) ?_;clear hs;intro w hs;(try simp only[Em,Ma]at hs)))|(go_at_call 155;((refine(hU.out).at hs (by (focus((repeat(with_reducible exact Qn));done))) ?_);clear hs;intro w hs;(try simp only[Em,Ma]at hs)))|(go_at_call 157;((refine(hK.out).at hs (by (focus((repeat(with_reducible exact Qn));done))) ?_);clear hs;intro w hs;(try simp only[Em,Ma]at hs)))|(go_at_call 146;(refine(hL.out).at hs (by with_reducible repeat first|exact Qh|apply Qk) ?_;clear hs;intro w hs;(try simp only[Em,Ma]at hs)))|(go_at_call 149;(refine(hSh.out).at hs (by with_reducible repeat first|exact Qh|apply Qb|apply Qk) ?_;clear hs;intro w hs;(try simp only[Em,Ma]at hs)))|((with_reducible refine Wp (id:=16) (Paz [.neu 5,.neu 6,.neu 7,.neu 8,.eff 9 []]) hs rfl ?_ ?_);kernel_rfl;clear hs;intro w hs))
   go_ret
   simp only[Za,if_pos hq.out,Ma]
   refine⟨rfl,?_⟩
   unfold PshR
   ((with_reducible apply Sat.fin hs);(focus((repeat(first|with_reducible exact Ql|with_reducible apply Qb|exact Qh|with_reducible apply Qk));done)))
  ·have hq':decide (m.word (adr a.c 1 0)=ph)=false:=by simpa using hq
   rw[hq']at hL
   have hq:=Lh hq
   go_enter Tryz.func183,Tryz.ntmps183
   go_wp2_with (first|((with_reducible apply Zb hs);exact Ii;rfl;(with_reducible repeat first|exact Qh|apply Qk);rfl;rfl;simp only[Uc,Uz])|((with_reducible apply Zv hs);exact Ii;rfl;rfl;(with_reducible repeat first|exact Qh|apply Qk);rfl;exact Vb rfl;rfl;clear hs;intro w hs;simp only[Yg,Uc,Uz]at hs)|(go_at_call 154;(refine(hF.out).at hs (by with_reducible repeat first|exact Qh|apply Qk) ?_;clear hs;intro w hs;(try simp only[Em,Ma]at hs)))|(go_at_call 155;((refine(hU.out).at hs (by (focus((repeat(with_reducible exact Qn));done))) ?_);clear hs;intro w hs;(try simp only[Em,Ma]at hs)))|(go_at_call 157;((refine(hK.out).at hs (by (focus((repeat(with_reducible exact Qn));done))) ?_);clear hs;intro w hs;(try simp only[Em,Ma]at hs)))|(go_at_call 146;(refine(hL.out).at hs (by with_reducible repeat first|exact Qh|apply Qk) ?_;clear hs;intro w hs;(try simp only[Em,Ma]at hs))))
   go_ret
   simp only[Za,if_neg hq.out,Ma]
   refine⟨rfl,?_⟩
   unfold PshR
   ((with_reducible apply Sat.fin hs);(focus((repeat(first|with_reducible exact Ql|with_reducible apply Qb|exact Qh|with_reducible apply Qk));done)))
end
end Go.Proofs.YtefjbdajgakgpaaGreat
