import Derived.Test.YtefjbdajgakgpaaGreatDHaz
import Derived.Deep.LoopGhost
set_option linter.all false
namespace Go.Proofs.YtefjbdajgakgpaaGreat
open Go.RowKit Hp
set_option maxRecDepth 100000
set_option maxHeartbeats 1000000
attribute [local irreducible] Go.Calls
section
theorem jump_ret {l:Nat}{J:Act→World→Prop}{Q:Exit→Act→World→Prop}{a:Act}{w:World}(h:Q .ret a w):Exit.jump l J Q .ret a w:=h
theorem jump_goto {l:Nat}{J:Act→World→Prop}{Q:Exit→Act→World→Prop}{a:Act}{w:World}(h:J a w):Exit.jump l J Q (.goto l) a w:=⟨rfl,h⟩
theorem wp_scope_once {P:Program}{Q:Exit→Act→World→Prop}{a:Act}{w:World}{c rest:Code}{l:Nat}(hf:findLabel c l=some rest)
  (first:c.wp P (Exit.jump l (fun a w=>rest.wp P (Exit.jump l (fun _ _=>False) Q) a w) Q) a w):(Code.scope c).wp P Q a w:=by
 refine wp_scope_jumps l (fun a w=>rest.wp P (Exit.jump l (fun _ _=>False) Q) a w) (fun _ _=>0) hf first ?_
 intro a w h
 refine Go.wp_mono h ?_
 intro e a' w' hh
 cases e<;>first|exact hh|exact hh.2.elim
theorem scan_next (g b ba:Nat)(h:Haz)(s:Scn)(n:Nat)(x:List Int)(hn:s.record=(n:Int))(hx:h.lists[n]? = some x)(hat : -1≤s.at_∧s.at_≤16)(hR:h.c.R≤16) :
  Zk Tryz.prog 177 #[.pointer (some ⟨g,0,none⟩)] (ScnR g b ba s*HazR b ba h) (.bool (Zy h s).1) (ScnR g b ba (Zy h s).2*HazR b ba h):=by
 intro O w F hs
 simp only[Ma]at hs
 obtain⟨s1,s2,s3,s4,s5,s6,s7,s8⟩:=s
 simp only[]at hn hat
 subst hn
 obtain⟨vn,vp,vg,hs⟩:=scnR.1 hs
 simp only[]at hs
 (replace hs:=hs.pull (A:=HazR b _ _) (by (with_reducible repeat first|exact Qh|apply Qk));obtain⟨vhh,vhl,hus_,hu_,husl,husg,hs⟩:=hazT hs hx)
 have hlt:=(List.getElem?_eq_some_iff.1 hx).1
 have hltu:n<hus_.length:=by omega
 have hxd:h.lists.getD n []=x:=by simp[Yb,hx]
 obtain⟨a0,a1⟩:=hat
 by_cases hj:s4+1=(n:Int)
 ·have hj':(s4+1==(n:Int))=true:=by simpa using hj
  have hj2:(s4+2==(n:Int))=false:=by simp;omega
  have e12:s4+1+1=s4+2:=by omega
  by_cases hk:s4+2<h.c.R
  ·have e:Zy h ⟨s1,n,s3,s4,s5,s6,s7,s8⟩=(false,⟨s1,n,0,s4+2,s5,s6,s7,s8⟩):=by
    unfold Zy;simp only[if_pos hj,if_pos hk]
   rw[e];clear e
   have hk':decide (s4+2<h.c.R)=true:=by simpa using hk
   have HJ:=Lh hj;clear hj hk hxd
   go_enter Tryz.func177,Tryz.ntmps177
   go_wp2
   refine wp_scope_once (l:=0) rfl ?_
   go_wp2
   go_step3
   go_wp2_with (first|(with_reducible refine NQ.mk ?_)|((with_reducible apply Zi);rfl;rfl)|(with_reducible refine Zj ?_)|((with_reducible apply Zb hs);exact Ii;rfl;(with_reducible repeat first|exact Qh|apply Qk);rfl;rfl;simp only[Uc,Uz])|((with_reducible apply Zv hs);exact Ii;rfl;rfl;(with_reducible repeat first|exact Qh|apply Qk);rfl;exact Vb rfl;rfl;clear hs;intro w hs;simp only[Yg,Uc,Uz]at hs)|go_step3|((with_reducible refine Wp (id:=2) (Paz [.neu 5,.neu 6,.neu 7,.neu 8]) hs rfl ?_ ?_);kernel_rfl;clear hs;intro w hs))
   refine jump_goto ?_
   go_wp2_with (first|(with_reducible refine NQ.mk ?_)|((with_reducible apply Zi);rfl;rfl)|(with_reducible refine Zj ?_)|((with_reducible apply Zb hs);exact Ii;rfl;(with_reducible repeat first|exact Qh|apply Qk);rfl;rfl;simp only[Uc,Uz])|((with_reducible apply Zv hs);exact Ii;rfl;rfl;(with_reducible exact Qh);rfl;exact Vb rfl;rfl;clear hs;intro w hs;simp only[Yg,Uc,Uz]at hs)|((with_reducible refine Wp (id:=2) (Paz [.neu 5,.neu 6,.neu 7,.neu 8]) hs rfl ?_ ?_);kernel_rfl;clear hs;intro w hs)|((with_reducible refine Wp (id:=3) (Paz (Pbz [.neu 10,.neu 11,.neu 12])) hs rfl ?_ ?_);kernel_rfl;clear hs;intro w hs))
   refine jump_ret ?_
   go_ret
   refine⟨rfl,?_⟩
   (replace hs:=hazT_back husl husg hx (hs.fin (by (with_reducible repeat first|exact Ql|exact Qh|apply Qb|apply Qk))))
   rw[Ma]
   apply QG (vn:=vn) (vp:=vp) (vg:=vg)
   (with_reducible apply Sat.fin hs;repeat first|exact Ql|exact Qh|apply Qb|apply Qk)
  ·have hk':decide (s4+2<h.c.R)=false:=by simpa using hk
   by_cases h0:x.length=0
   ·have e:Zy h ⟨s1,n,s3,s4,s5,s6,s7,s8⟩=(true,⟨s1,n,6,0,true,fun _=>0,s7,s8⟩):=by
     unfold Zy;simp only[if_pos hj,if_neg hk,Yo,hxd,if_pos h0]
    rw[e];clear e
    have h0':((x.length:Int)==0)=true:=by simp;exact List.length_eq_zero_iff.1 h0
    have HJ:=Lh hj;clear hj hk hxd h0
    go_enter Tryz.func177,Tryz.ntmps177
    go_wp2
    refine wp_scope_once (l:=0) rfl ?_
    go_wp2
    go_step3
    go_wp2_with (first|(with_reducible refine NQ.mk ?_)|((with_reducible apply Zi);rfl;rfl)|(with_reducible refine Zj ?_)|((with_reducible apply Zb hs);exact Ii;rfl;(with_reducible repeat first|exact Qh|apply Qk);rfl;rfl;simp only[Uc,Uz])|((with_reducible apply Zv hs);exact Ii;rfl;rfl;(with_reducible repeat first|exact Qh|apply Qk);rfl;exact Vb rfl;rfl;clear hs;intro w hs;simp only[Yg,Uc,Uz]at hs)|go_step3|((with_reducible refine Wp (id:=2) (Paz [.neu 5,.neu 6,.neu 7,.neu 8]) hs rfl ?_ ?_);kernel_rfl;clear hs;intro w hs))
    refine jump_goto ?_
    go_wp2_with (first|(with_reducible refine NQ.mk ?_)|((with_reducible apply Zi);rfl;rfl)|(with_reducible refine Zj ?_)|((with_reducible apply Zb hs);exact Ii;rfl;(with_reducible repeat first|exact Qh|apply Qk);rfl;rfl;simp only[Uc,Uz])|((with_reducible apply Zv hs);exact Ii;rfl;rfl;(with_reducible repeat first|exact Qh|apply Qk);rfl;exact Vb rfl;rfl;clear hs;intro w hs;simp only[Yg,Uc,Uz]at hs)|((with_reducible apply ZE hs);exact Ii;rfl;assumption;(with_reducible repeat first|exact Qh|apply Qk);rfl;(exact Ze (by assumption));rfl;rfl;simp only[Uc,Uz])|((with_reducible apply Qe hs);exact Ii;exact Ii;rfl;rfl;(with_reducible repeat first|exact Qh|apply Qk);rfl;(simp only[Wm,Ws,Wa,Wc,Wn,Wr]at *;omega);rfl;intro b off hat;simp only[Uc,Uz])|((with_reducible apply ZS hs);exact Ii;rfl;(with_reducible repeat first|exact Qh|apply Qk);rfl;simp only[Uc,Uz])|((with_reducible apply wl_mkmap hs);exact Ii;rfl;clear hs;intro w r hs;simp only[Uc,Uz])|((with_reducible refine Wp (id:=2) (Paz [.neu 5,.neu 6,.neu 7,.neu 8]) hs rfl ?_ ?_);kernel_rfl;clear hs;intro w hs)|((with_reducible refine Wp (id:=3) (Paz (Pbz [.neu 10,.neu 11,.neu 12])) hs rfl ?_ ?_);kernel_rfl;clear hs;intro w hs)|((with_reducible refine Wp (id:=8) (Paz (Pbz [.neu 10,.neu 11,.neu 12,.neu 13,.neu 14])) hs rfl ?_ ?_);kernel_rfl;clear hs;intro w hs))
    refine jump_ret ?_
    go_ret
    refine⟨rfl,?_⟩
    replace hs:=named_empty (hs.pull (by (with_reducible repeat first|exact Qh|apply Qk)))
    (replace hs:=hazT_back husl husg hx (hs.fin (by (with_reducible repeat first|exact Ql|exact Qh|apply Qb|apply Qk))))
    rw[Ma]
    apply QG (vn:=.map (some r)) (vp:=vp) (vg:=vg)
    (with_reducible apply Sat.fin hs;repeat first|exact Ql|exact Qh|apply Qb|apply Qk)
   ·have e:Zy h ⟨s1,n,s3,s4,s5,s6,s7,s8⟩=(false,⟨s1,n,3,0,true,fun _=>0,s7,s8⟩):=by
     unfold Zy;simp only[if_pos hj,if_neg hk,Yo,hxd,if_neg h0]
    rw[e];clear e
    have h0':((x.length:Int)==0)=false:=by simp;intro e;simp[e]at h0
    have HJ:=Lh hj;clear hj hk hxd h0
    go_enter Tryz.func177,Tryz.ntmps177
    go_wp2
    refine wp_scope_once (l:=0) rfl ?_
    go_wp2
    go_step3
    go_wp2_with (first|(with_reducible refine NQ.mk ?_)|((with_reducible apply Zi);rfl;rfl)|(with_reducible refine Zj ?_)|((with_reducible apply Zb hs);exact Ii;rfl;(with_reducible repeat first|exact Qh|apply Qk);rfl;rfl;simp only[Uc,Uz])|((with_reducible apply Zv hs);exact Ii;rfl;rfl;(with_reducible repeat first|exact Qh|apply Qk);rfl;exact Vb rfl;rfl;clear hs;intro w hs;simp only[Yg,Uc,Uz]at hs)|go_step3|((with_reducible refine Wp (id:=2) (Paz [.neu 5,.neu 6,.neu 7,.neu 8]) hs rfl ?_ ?_);kernel_rfl;clear hs;intro w hs))
    refine jump_goto ?_
    go_wp2_with (first|(with_reducible refine NQ.mk ?_)|((with_reducible apply Zi);rfl;rfl)|(with_reducible refine Zj ?_)|((with_reducible apply Zb hs);exact Ii;rfl;(with_reducible repeat first|exact Qh|apply Qk);rfl;rfl;simp only[Uc,Uz])|((with_reducible apply Zv hs);exact Ii;rfl;rfl;(with_reducible repeat first|exact Qh|apply Qk);rfl;exact Vb rfl;rfl;clear hs;intro w hs;simp only[Yg,Uc,Uz]at hs)|((with_reducible apply ZE hs);exact Ii;rfl;assumption;(with_reducible repeat first|exact Qh|apply Qk);rfl;(exact Ze (by assumption));rfl;rfl;simp only[Uc,Uz])|((with_reducible apply Qe hs);exact Ii;exact Ii;rfl;rfl;(with_reducible repeat first|exact Qh|apply Qk);rfl;(simp only[Wm,Ws,Wa,Wc,Wn,Wr]at *;omega);rfl;intro b off hat;simp only[Uc,Uz])|((with_reducible apply ZS hs);exact Ii;rfl;(with_reducible repeat first|exact Qh|apply Qk);rfl;simp only[Uc,Uz])|((with_reducible apply wl_mkmap hs);exact Ii;rfl;clear hs;intro w r hs;simp only[Uc,Uz])|((with_reducible refine Wp (id:=2) (Paz [.neu 5,.neu 6,.neu 7,.neu 8]) hs rfl ?_ ?_);kernel_rfl;clear hs;intro w hs)|((with_reducible refine Wp (id:=3) (Paz (Pbz [.neu 10,.neu 11,.neu 12])) hs rfl ?_ ?_);kernel_rfl;clear hs;intro w hs)|((with_reducible refine Wp (id:=8) (Paz (Pbz [.neu 10,.neu 11,.neu 12,.neu 13,.neu 14])) hs rfl ?_ ?_);kernel_rfl;clear hs;intro w hs))
    refine jump_ret ?_
    go_ret
    refine⟨rfl,?_⟩
    replace hs:=named_empty (hs.pull (by (with_reducible repeat first|exact Qh|apply Qk)))
    (replace hs:=hazT_back husl husg hx (hs.fin (by (with_reducible repeat first|exact Ql|exact Qh|apply Qb|apply Qk))))
    rw[Ma]
    apply QG (vn:=.map (some r)) (vp:=vp) (vg:=vg)
    (with_reducible apply Sat.fin hs;repeat first|exact Ql|exact Qh|apply Qb|apply Qk)
 ·have hj':(s4+1==(n:Int))=false:=by simpa using hj
  by_cases hk:s4+1<h.c.R
  ·have e:Zy h ⟨s1,n,s3,s4,s5,s6,s7,s8⟩=(false,⟨s1,n,0,s4+1,s5,s6,s7,s8⟩):=by
    unfold Zy;simp only[if_neg hj,if_pos hk]
   rw[e];clear e
   have hk':decide (s4+1<h.c.R)=true:=by simpa using hk
   clear hj hk hxd
   go_enter Tryz.func177,Tryz.ntmps177
   go_wp2
   refine wp_scope_jumps 0 (fun _ _=>False) (fun _ _=>0) rfl ?_ (fun _ _ h=>h.elim)
   go_wp2
   go_step3
   go_wp2_with (first|(with_reducible refine NQ.mk ?_)|((with_reducible apply Zi);rfl;rfl)|(with_reducible refine Zj ?_)|((with_reducible apply Zb hs);exact Ii;rfl;(with_reducible repeat first|exact Qh|apply Qk);rfl;rfl;simp only[Uc,Uz])|((with_reducible apply Zv hs);exact Ii;rfl;rfl;(with_reducible repeat first|exact Qh|apply Qk);rfl;exact Vb rfl;rfl;clear hs;intro w hs;simp only[Yg,Uc,Uz]at hs)|((with_reducible refine Wp (id:=2) (Paz [.neu 5,.neu 6,.neu 7,.neu 8]) hs rfl ?_ ?_);kernel_rfl;clear hs;intro w hs)|((with_reducible refine Wp (id:=3) (Paz (Pbz [.neu 10,.neu 11,.neu 12])) hs rfl ?_ ?_);kernel_rfl;clear hs;intro w hs))
   refine jump_ret ?_
   go_ret
   refine⟨rfl,?_⟩
   (replace hs:=hazT_back husl husg hx (hs.fin (by (with_reducible repeat first|exact Ql|exact Qh|apply Qb|apply Qk))))
   rw[Ma]
   apply QG (vn:=vn) (vp:=vp) (vg:=vg)
   (with_reducible apply Sat.fin hs;repeat first|exact Ql|exact Qh|apply Qb|apply Qk)
  ·have hk':decide (s4+1<h.c.R)=false:=by simpa using hk
   by_cases h0:x.length=0
   ·have e:Zy h ⟨s1,n,s3,s4,s5,s6,s7,s8⟩=(true,⟨s1,n,6,0,true,fun _=>0,s7,s8⟩):=by
     unfold Zy;simp only[if_neg hj,if_neg hk,Yo,hxd,if_pos h0]
    rw[e];clear e
    have h0':((x.length:Int)==0)=true:=by simp;exact List.length_eq_zero_iff.1 h0
    clear hj hk hxd h0
    go_enter Tryz.func177,Tryz.ntmps177
    go_wp2
    refine wp_scope_jumps 0 (fun _ _=>False) (fun _ _=>0) rfl ?_ (fun _ _ h=>h.elim)
    go_wp2
    go_step3
    go_wp2_with (first|(with_reducible refine NQ.mk ?_)|((with_reducible apply Zi);rfl;rfl)|(with_reducible refine Zj ?_)|((with_reducible apply Zb hs);exact Ii;rfl;(with_reducible repeat first|exact Qh|apply Qk);rfl;rfl;simp only[Uc,Uz])|((with_reducible apply Zv hs);exact Ii;rfl;rfl;(with_reducible repeat first|exact Qh|apply Qk);rfl;exact Vb rfl;rfl;clear hs;intro w hs;simp only[Yg,Uc,Uz]at hs)|((with_reducible apply ZE hs);exact Ii;rfl;assumption;(with_reducible repeat first|exact Qh|apply Qk);rfl;(exact Ze (by assumption));rfl;rfl;simp only[Uc,Uz])|((with_reducible apply Qe hs);exact Ii;exact Ii;rfl;rfl;(with_reducible repeat first|exact Qh|apply Qk);rfl;(simp only[Wm,Ws,Wa,Wc,Wn,Wr]at *;omega);rfl;intro b off hat;simp only[Uc,Uz])|((with_reducible apply ZS hs);exact Ii;rfl;(with_reducible repeat first|exact Qh|apply Qk);rfl;simp only[Uc,Uz])|((with_reducible apply wl_mkmap hs);exact Ii;rfl;clear hs;intro w r hs;simp only[Uc,Uz])|((with_reducible refine Wp (id:=2) (Paz [.neu 5,.neu 6,.neu 7,.neu 8]) hs rfl ?_ ?_);kernel_rfl;clear hs;intro w hs)|((with_reducible refine Wp (id:=3) (Paz (Pbz [.neu 10,.neu 11,.neu 12])) hs rfl ?_ ?_);kernel_rfl;clear hs;intro w hs)|((with_reducible refine Wp (id:=8) (Paz (Pbz [.neu 10,.neu 11,.neu 12,.neu 13,.neu 14])) hs rfl ?_ ?_);kernel_rfl;clear hs;intro w hs))
    refine jump_ret ?_
    go_ret
    refine⟨rfl,?_⟩
    replace hs:=named_empty (hs.pull (by (with_reducible repeat first|exact Qh|apply Qk)))
    (replace hs:=hazT_back husl husg hx (hs.fin (by (with_reducible repeat first|exact Ql|exact Qh|apply Qb|apply Qk))))
    rw[Ma]
    apply QG (vn:=.map (some r)) (vp:=vp) (vg:=vg)
    (with_reducible apply Sat.fin hs;repeat first|exact Ql|exact Qh|apply Qb|apply Qk)
   ·have e:Zy h ⟨s1,n,s3,s4,s5,s6,s7,s8⟩=(false,⟨s1,n,3,0,true,fun _=>0,s7,s8⟩):=by
     unfold Zy;simp only[if_neg hj,if_neg hk,Yo,hxd,if_neg h0]
    rw[e];clear e
    have h0':((x.length:Int)==0)=false:=by simp;intro e;simp[e]at h0
    clear hj hk hxd h0
    go_enter Tryz.func177,Tryz.ntmps177
    go_wp2
    refine wp_scope_jumps 0 (fun _ _=>False) (fun _ _=>0) rfl ?_ (fun _ _ h=>h.elim)
    go_wp2
    go_step3
    go_wp2_with (first|(with_reducible refine NQ.mk ?_)|((with_reducible apply Zi);rfl;rfl)|(with_reducible refine Zj ?_)|((with_reducible apply Zb hs);exact Ii;rfl;(with_reducible repeat first|exact Qh|apply Qk);rfl;rfl;simp only[Uc,Uz])|((with_reducible apply Zv hs);exact Ii;rfl;rfl;(with_reducible repeat first|exact Qh|apply Qk);rfl;exact Vb rfl;rfl;clear hs;intro w hs;simp only[Yg,Uc,Uz]at hs)|((with_reducible apply ZE hs);exact Ii;rfl;assumption;(with_reducible repeat first|exact Qh|apply Qk);rfl;(exact Ze (by assumption));rfl;rfl;simp only[Uc,Uz])|((with_reducible apply Qe hs);exact Ii;exact Ii;rfl;rfl;(with_reducible repeat first|exact Qh|apply Qk);rfl;(simp only[Wm,Ws,Wa,Wc,Wn,Wr]at *;omega);rfl;intro b off hat;simp only[Uc,Uz])|((with_reducible apply ZS hs);exact Ii;rfl;(with_reducible repeat first|exact Qh|apply Qk);rfl;simp only[Uc,Uz])|((with_reducible apply wl_mkmap hs);exact Ii;rfl;clear hs;intro w r hs;simp only[Uc,Uz])|((with_reducible refine Wp (id:=2) (Paz [.neu 5,.neu 6,.neu 7,.neu 8]) hs rfl ?_ ?_);kernel_rfl;clear hs;intro w hs)|((with_reducible refine Wp (id:=3) (Paz (Pbz [.neu 10,.neu 11,.neu 12])) hs rfl ?_ ?_);kernel_rfl;clear hs;intro w hs)|((with_reducible refine Wp (id:=8) (Paz (Pbz [.neu 10,.neu 11,.neu 12,.neu 13,.neu 14])) hs rfl ?_ ?_);kernel_rfl;clear hs;intro w hs))
    refine jump_ret ?_
    go_ret
    refine⟨rfl,?_⟩
    replace hs:=named_empty (hs.pull (by (with_reducible repeat first|exact Qh|apply Qk)))
    (replace hs:=hazT_back husl husg hx (hs.fin (by (with_reducible repeat first|exact Ql|exact Qh|apply Qb|apply Qk))))
    rw[Ma]
    apply QG (vn:=.map (some r)) (vp:=vp) (vg:=vg)
    (with_reducible apply Sat.fin hs;repeat first|exact Ql|exact Qh|apply Qb|apply Qk)
end
section
def Zu (th:Int):List Int→Option Psh→Are→Mch→Bool×List Int×Option Psh×Are×Mch
 | [],g,a,m=>(true,[],g,a,m)
 | s::r,_,a,m=>
  if (Zq a m ⟨s,1,0,th⟩).1=true then Zu th r (some (Zq a m ⟨s,1,0,th⟩).2.2.2) (Zq a m ⟨s,1,0,th⟩).2.1 (Zq a m ⟨s,1,0,th⟩).2.2.1
  else (false,r,some (Zq a m ⟨s,1,0,th⟩).2.2.2,(Zq a m ⟨s,1,0,th⟩).2.1,(Zq a m ⟨s,1,0,th⟩).2.2.1)
def ZK (b:Bool):Int:=if b=true then 6 else 5
structure FreeOk (n:Nat)(pend:List Int)(a:Are)(m:Mch):Prop where
 cache:∃x,a.caches[n]? = some x∧x.length+pend.length<4294967296
 ins:∀s∈pend,0≤s∧s<a.slots.length
 sh:m.shifts.length+pend.length<4294967296
theorem FreeOk.next {n:Nat}{s:Int}{r:List Int}{a:Are}{m:Mch}(h:FreeOk n (s::r) a m)(hg:(Zq a m ⟨s,1,0,n⟩).1=true) :
  FreeOk n r (Zq a m ⟨s,1,0,n⟩).2.1 (Zq a m ⟨s,1,0,n⟩).2.2.1:=by
 obtain⟨⟨x,hx,hl⟩,h2,h3⟩:=h
 have hlt:=(List.getElem?_eq_some_iff.1 hx).1
 simp only[List.length_cons]at hl h3
 unfold Zq at hg ⊢
 by_cases hc:a.c.Ca≤((a.caches.getD (n:Int).toNat []).length:Int)
 ·rw[if_pos hc]at hg;cases hg
 ·rw[if_neg hc]
  have hxd:a.caches.getD n []=x:=by simp[Yb,hx]
  refine⟨⟨x++[s],?_,?_⟩,?_,?_⟩
  ·simp only[Are.shift,Yo,hxd]
   simp[hlt]
  ·simp;omega
  ·intro z hz
   simp only[Are.shift,List.length_set]
   exact h2 z (by simp[hz])
  ·simp only[Mch.shift,List.length_append,List.length_cons,List.length_nil];omega
def FreeRel (O:World)(gs bh ba d bx bm:Nat)(h:Haz)(F:Zc)(s:Scn)(n:Nat)(r:Bool×List Int×Option Psh×Are×Mch)(k:Nat)(wr:World):Prop:=
 ∃(pend:List Int) (gv:Option Psh) (a:Are) (m:Mch),k=pend.length∧Zu n pend gv a m=r∧FreeOk n pend a m ∧
  Sat O wr (ScnR gs bh ba { s with stage:=5,pending:=pend,give:=gv }*(HazR bh ba h*(AreR ba a*(DkR d bx bm m*F))))
theorem scan_free (gs bh ba d bx bm:Nat)(h:Haz)(a:Are)(m:Mch)(s:Scn)(n:Nat)(hn:s.thread=(n:Int))(hok:FreeOk n s.pending a m) :
  Zk Tryz.prog 179 #[.pointer (some ⟨gs,0,none⟩),.pointer (some ⟨d,0,none⟩)] (ScnR gs bh ba s*(HazR bh ba h*(AreR ba a*DkR d bx bm m)))
   (.bool (Zu s.thread s.pending s.give a m).1)
   (ScnR gs bh ba { s with stage:=ZK (Zu s.thread s.pending s.give a m).1,pending:=(Zu s.thread s.pending s.give a m).2.1,give:=(Zu s.thread s.pending s.give a m).2.2.1 } *
    (HazR bh ba h*(AreR ba (Zu s.thread s.pending s.give a m).2.2.2.1*DkR d bx bm (Zu s.thread s.pending s.give a m).2.2.2.2))):=by
 intro O w F hs
 simp only[Ma]at hs
 obtain⟨s1,s2,s3,s4,s5,s6,s7,s8⟩:=s
 simp only[]at hn hok
 subst hn
 obtain⟨vn,vp,vg,hs⟩:=scnR.1 hs
 simp only[]at hs ⊢
 have HOK:=Lh hok;clear hok
 generalize hr:Zu n s7 s8 a m=r
 have HR:=Lh hr;clear hr
 go_enter Tryz.func179,Tryz.ntmps179
 go_wp2_with ((with_reducible apply Zv hs);exact Ii;rfl;rfl;(with_reducible exact Qh);rfl;exact Vb rfl;rfl;clear hs;intro w hs;simp only[Yg,Uc,Uz]at hs)
 have hst:FreeRel O gs bh ba d bx bm h F ⟨n,s2,s3,s4,s5,s6,s7,s8⟩ n r s7.length w:=⟨s7,s8,a,m,rfl,HR.out,HOK.out,QG hs⟩
 go_loopg [] (s7.length) (fun k wr=>FreeRel O gs bh ba d bx bm h F ⟨n,s2,s3,s4,s5,s6,s7,s8⟩ n r k wr)
 case atStart=>exact hst
 case round=>
  clear hs hst HOK HR
  obtain⟨pend,gv,a',m',hk,hfr,hok,hs⟩:=hrel
  obtain⟨vn',vp',vg',hs⟩:=scnR.1 hs
  simp only[]at hs
  cases pend with
  | nil=>
   clear hk hok
   simp only[Zu]at hfr
   go_wp2_with (first|((with_reducible apply Zb hs);exact Ii;rfl;(with_reducible exact Qh);rfl;rfl;simp only[Uc,Uz])|((with_reducible apply Zv hs);exact Ii;rfl;rfl;(with_reducible exact Qh);rfl;exact Vb rfl;rfl;clear hs;intro w hs;simp only[Yg,Uc,Uz]at hs)|((with_reducible apply ZS hs);exact Ii;rfl;(with_reducible repeat first|exact Qh|apply Qk);rfl;simp only[Uc,Uz]))
   go_ret
   subst hfr
   refine⟨rfl,?_⟩
   simp only[Ma,ZK,if_true]
   apply QG (vn:=vn') (vp:=vp') (vg:=vg')
   ((with_reducible apply Sat.fin hs);(with_reducible exact Ql))
  | cons s pr=>
   have hok2:=hok.next (s:=s) (r:=pr)
   obtain⟨⟨x,hx,hxl⟩,hins,hsh⟩:=hok
   obtain⟨z0,z1⟩:=hins s (by simp)
   obtain⟨i,rfl⟩:=Int.eq_ofNat_of_zero_le z0
   have hi:i<a'.slots.length:=by omega
   simp only[List.length_cons]at hxl hsh hk
   have hlp:((i:Int)::pr).length=pr.length+1:=rfl
   have n1:decide (((pr.length+1:Nat):Int)>0)=true:=by simp
   have hG:=Lh (arena_give ba a' n i x hx hi)
   have hR:=fun gg=>give_ready gg ba d bx bm 292 a' m' ⟨i,1,0,n⟩ n i x rfl rfl hx hi rfl (by omega) (by omega)
   simp only[Zu]at hfr
   have hget:((i:Int)::pr)[0]? = some (i:Int):=rfl
   clear hins z0 z1 hi hxl hsh hx
   have hok':=fun(hh:(Zq a' m' ⟨(i:Int),1,0,n⟩).1=true)=>hok2 hh
   clear hok2
   generalize Zq a' m' ⟨(i:Int),1,0,n⟩=q at hR hfr hok'
   obtain⟨b1,a1,m1,p1⟩:=q
   simp only[]at hR hfr hok'
   have HR:=Lh hR;clear hR
   cases b1 with
   | true=>
    have HK:=Lh (hok' rfl);clear hok'
    simp only[if_true]at hfr
    have HF:=Lh hfr;clear hfr
    have HKK:=Lh hk;clear hk
    replace hs:=hs.pull (A:=HazR bh ba h) (by (with_reducible repeat first|exact Qh|apply Qk))
    (obtain⟨vhh,vhl,hs⟩:=hazR.1 hs)
    go_wp2_with (first|(with_reducible first|apply NQ.mk|apply EQ.mk|exact Zg|apply Zj)|((with_reducible apply Zi);rfl;rfl)|((with_reducible apply Zo);rfl)|((with_reducible refine Zn ?_ ?_);focus((with_reducible apply ZI);rfl;rfl))|(show Qd _ _ _;rfl)|((with_reducible apply Zb hs);exact Ii;rfl;(with_reducible repeat first|exact Qh|apply Qk);rfl;rfl;simp only[Uc,Uz])|((with_reducible apply Zv hs);exact Ii;rfl;rfl;(with_reducible repeat first|exact Qh|apply Qk);(first|rfl|(apply resL_one;apply QS;apply hs.pull;(with_reducible repeat first|exact Qh|apply Qk)));exact Vb rfl;rfl;clear hs;intro w hs;simp only[Yg,Uc,Uz]at hs)|((with_reducible apply ZE hs);exact Ii;rfl;assumption;(with_reducible repeat first|exact Qh|apply Qk);rfl;(exact Ze (by assumption));rfl;rfl;simp only[Uc,Uz])|((with_reducible apply Qe hs);exact Ii;exact Ii;rfl;rfl;(with_reducible repeat first|exact Qh|apply Qk);rfl;(simp only[Wm,Ws,Wa,Wc,Wn,Wr]at *;omega);rfl;intro b off hat;simp only[Uc,Uz])|((with_reducible apply ZS hs);exact Ii;rfl;(with_reducible repeat first|exact Qh|apply Qk);rfl;simp only[Uc,Uz])|((with_reducible apply wl_reL hs);exact Ii;exact Ii;rfl;rfl;(with_reducible repeat first|exact Qh|apply Qk);rfl;(simp only[Wm,Ws,Wa,Wc,Wn,Wr]at *;omega);rfl;simp only[Uc,Uz])|(go_at_call 181;(refine(hG.out).at hs (by with_reducible repeat first|exact Qh|apply Qk) ?_;clear hs;intro g w hs;(try simp only[Em,Ma]at hs)))|(go_at_call 182;((refine((HR.out g)).at hs (by (with_reducible repeat first|exact Qh|apply Qb|apply Qk)) ?_);clear hs;intro w hs;(try simp only[Em,Ma]at hs)))|((with_reducible refine Wp (id:=3) (Paz (Pbz (Pcz [.neu 15,.neu 16,.neu 17,.eff 18 [0],.neu 19,.neu 20,.eff 21 []]))) hs rfl ?_ ?_);kernel_rfl;clear hs;intro w hs))
    go_roundg pr.length
    case measure=>have:=HKK.out;omega
    case rel=>
     refine⟨pr,some p1,a1,m1,rfl,HF.out,HK.out,?_⟩
     replace hs:=give_get.2 ⟨g,rfl,hs.pull (A:=PshR g ba 292 p1) (by (with_reducible exact Qh))⟩
     replace hs:=sl_dropL (h:=1) (hs.pull (A:=sl 3 1 (((i:Int)::pr).map eI) vp') (by (with_reducible repeat first|exact Qh|apply Qk))) (by simp)
     rw[←List.map_drop,List.drop_succ_cons,List.drop_zero]at hs
     (replace hs:=ZA (hs.fin (by (with_reducible repeat first|exact Ql|exact Qh|apply Qb|apply Qk))))
     apply QG (vn:=vn') (vp:=resL 1 vp' 1) (vg:=.pointer (some ⟨g,0,none⟩))
     (with_reducible apply Sat.fin hs;repeat first|exact Ql|exact Qh|apply Qb|apply Qk)
   | false=>
    clear hok'
    simp only[Yn,if_false]at hfr
    have HF:=Lh hfr;clear hfr hk
    replace hs:=hs.pull (A:=HazR bh ba h) (by (with_reducible repeat first|exact Qh|apply Qk))
    (obtain⟨vhh,vhl,hs⟩:=hazR.1 hs)
    go_wp2_with (first|(with_reducible first|apply NQ.mk|apply EQ.mk|exact Zg|apply Zj)|((with_reducible apply Zi);rfl;rfl)|((with_reducible apply Zo);rfl)|((with_reducible refine Zn ?_ ?_);focus((with_reducible apply ZI);rfl;rfl))|(show Qd _ _ _;rfl)|((with_reducible apply Zb hs);exact Ii;rfl;(with_reducible repeat first|exact Qh|apply Qk);rfl;rfl;simp only[Uc,Uz])|((with_reducible apply Zv hs);exact Ii;rfl;rfl;(with_reducible repeat first|exact Qh|apply Qk);(first|rfl|(apply resL_one;apply QS;apply hs.pull;(with_reducible repeat first|exact Qh|apply Qk)));exact Vb rfl;rfl;clear hs;intro w hs;simp only[Yg,Uc,Uz]at hs)|((with_reducible apply ZE hs);exact Ii;rfl;assumption;(with_reducible repeat first|exact Qh|apply Qk);rfl;(exact Ze (by assumption));rfl;rfl;simp only[Uc,Uz])|((with_reducible apply Qe hs);exact Ii;exact Ii;rfl;rfl;(with_reducible repeat first|exact Qh|apply Qk);rfl;(simp only[Wm,Ws,Wa,Wc,Wn,Wr]at *;omega);rfl;intro b off hat;simp only[Uc,Uz])|((with_reducible apply ZS hs);exact Ii;rfl;(with_reducible repeat first|exact Qh|apply Qk);rfl;simp only[Uc,Uz])|((with_reducible apply wl_reL hs);exact Ii;exact Ii;rfl;rfl;(with_reducible repeat first|exact Qh|apply Qk);rfl;(simp only[Wm,Ws,Wa,Wc,Wn,Wr]at *;omega);rfl;simp only[Uc,Uz])|(go_at_call 181;(refine(hG.out).at hs (by with_reducible repeat first|exact Qh|apply Qk) ?_;clear hs;intro g w hs;(try simp only[Em,Ma]at hs)))|(go_at_call 182;((refine((HR.out g)).at hs (by (with_reducible repeat first|exact Qh|apply Qb|apply Qk)) ?_);clear hs;intro w hs;(try simp only[Em,Ma]at hs)))|((with_reducible refine Wp (id:=3) (Paz (Pbz (Pcz [.neu 15,.neu 16,.neu 17,.eff 18 [0],.neu 19,.neu 20,.eff 21 []]))) hs rfl ?_ ?_);kernel_rfl;clear hs;intro w hs))
    go_ret
    obtain rfl:=HF.out
    refine⟨rfl,?_⟩
    simp only[Ma,ZK,Yn,if_false]
    replace hs:=give_get.2 ⟨g,rfl,hs.pull (A:=PshR g ba 292 p1) (by (with_reducible exact Qh))⟩
    replace hs:=sl_dropL (h:=1) (hs.pull (A:=sl 3 1 (((i:Int)::pr).map eI) vp') (by (with_reducible repeat first|exact Qh|apply Qk))) (by simp)
    rw[←List.map_drop,List.drop_succ_cons,List.drop_zero]at hs
    (replace hs:=ZA (hs.fin (by (with_reducible repeat first|exact Ql|exact Qh|apply Qb|apply Qk))))
    apply QG (vn:=vn') (vp:=resL 1 vp' 1) (vg:=.pointer (some ⟨g,0,none⟩))
    (with_reducible apply Sat.fin hs;repeat first|exact Ql|exact Qh|apply Qb|apply Qk)
end
end Go.Proofs.YtefjbdajgakgpaaGreat
