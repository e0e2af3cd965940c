/-
  The stack's example ends as it should.
-/
import Derived.Test.YtjagadldibbbbaaGreatCStkE
import Derived.Test.YtjagadldibbbbaaGreatCNew3
import Derived.Test.YtjagadldibbbbaaGreatCInv5
import Derived.Test.YtjagadldibbbbaaGreatCAddr2
import Derived.BigQuiet
set_option linter.all false
namespace Go.Proofs.YtjagadldibbbbaaGreat
section
open Go.RowKit
namespace Hp
section
variable {P:Program}{ops:Array Oper}{Q:Exit→Act→World→Prop}{w w':World}{rest:List Oper}{O:World}{S R:Zb}
variable {l:List Value}{ds:List Deferred}{T E ty:TypeId}{pos:String}{after:Array Edge}{gd:Option (Nat×Bool)}{d n:Nat}{v:Value}
theorem sl_alloc {sz:Nat}{css:List (List Value)}(hs:Sat O w S)(h0:0<sz)(hw:∀c∈css,c.length=sz∧c.all Value.oneCell'=true):Sat O (w.alloc (.cells css.flatten.toArray E)) (sl E sz css (.slice (some ⟨w.heap.size,0,none⟩) css.length css.length)*S):=by
 refine Qw.2 ⟨⟨hw,h0⟩,.inr ⟨w.heap.size,0,css.length,[],[],rfl,rfl,by simp,by simp,?_⟩⟩
 exact(hs.alloc (.cells css.flatten.toArray E)).cast (by simp)
theorem ev_parts:∀ {ps:List (Nat×Operand)} {vs:List (Nat×Value)},ps.map (fun p=>(p.1,ev l p.2))=vs.map (fun p=>(p.1,some p.2))→ps.map (fun p=>(p.1,(Act.mk l.toArray ds).eval p.2))=vs
 | [],[],_=>rfl
 | [],_::_,h=>by simp at h
 | _::_,[],h=>by simp at h
 | (a,x)::ps,(b,v)::vs,h=>by
  simp only[Yi,List.cons.injEq,Prod.mk.injEq]at h ⊢
  obtain⟨⟨rfl,h1⟩,h2⟩:=h
  exact⟨⟨rfl,Zl h1⟩,ev_parts h2⟩
theorem wl_bsS {sz:Nat}{css:List (List Value)}{ps:List (Nat×Operand)}{vs:List (Nat×Value)}(hs:Sat O w S)(hp:ps.map (fun p=>(p.1,ev l p.2))=vs.map (fun p=>(p.1,some p.2)))
  (hr:∀w,(Instr.buildSlice T n vs.toArray).run P w=.ok (.slice (some ⟨w.heap.size,0,none⟩) n n) (w.alloc (.cells css.flatten.toArray E))) (hn:css.length=n) (h0:0<sz) (hw:∀c∈css,c.length=sz∧c.all Value.oneCell'=true)
  (hg:Region.wanted { dst:=some d,op:=.buildSlice T n ps.toArray,type:=ty,pos,after,guard:=gd } (yielded ops l.toArray)=true)
  (kk:∀w' b,Sat O w' (sl E sz css (.slice (some ⟨b,0,none⟩) n n)*S)→wpList P ops Q rest ⟨(l.set d (.slice (some ⟨b,0,none⟩) n n)).toArray,ds⟩ w') :
  wpList P ops Q ({ dst:=some d,op:=.buildSlice T n ps.toArray,type:=ty,pos,after,guard:=gd }::rest) ⟨l.toArray,ds⟩ w:=by
 subst hn
 refine Qv (v:=.slice (some ⟨w.heap.size,0,none⟩) css.length css.length) (w':=w.alloc (.cells css.flatten.toArray E)) hg ?_ (ZQ▸kk _ _ (sl_alloc hs h0 hw))
 have h1:=ev_parts (ds:=ds) hp
 have:=hr w
 rw[←h1]at this
 simp only[execOp]
 simp at this ⊢
 simp[this]
end
end Hp
open Hp
set_option maxRecDepth 100000
set_option maxHeartbeats 1000000
attribute [local irreducible] Go.Calls Go.wpList
theorem law_num (e:Int):Zk Tryz.prog 18 #[.int .i64 e] emp (.int .i64 e) emp:=by
 intro O w F hs
 go_enter Tryz.func18,Tryz.ntmps18
 go_wp2_with (fail)
 (go_ret)
 exact⟨rfl,by ((with_reducible apply Sat.fin hs);(with_reducible exact Ql))⟩
theorem sSmallOk:sSmall.Ok:=by constructor<;>decide
theorem sAw_facts {y:GW Zt}(h:sAwOk y=true):y.m.calls.length=3∧(∃a1 a2 a3 a4 a5 a7 a8 a9,y.m.calls[1]? = some ⟨a1,a2,a3,a4,a5,10,a7,a8,a9⟩)∧∃b1 b2 b3 b4 b5 b7,y.m.calls[2]? = some ⟨b1,b2,b3,b4,b5,24,b7,2,5⟩:=by
 unfold sAwOk at h
 simp only[Bool.and_eq_true,decide_eq_true_eq]at h
 obtain⟨⟨h1,h2⟩,h3⟩:=h
 refine⟨h1,?_,?_⟩
 ·split at h2
  ·rename_i c hc
   obtain⟨a1,a2,a3,a4,a5,a6,a7,a8,a9⟩:=c
   simp only[decide_eq_true_eq]at h2
   subst h2
   exact⟨_,_,_,_,_,_,_,_,hc⟩
  ·cases h2
 ·split at h3
  ·rename_i c hc
   obtain⟨a1,a2,a3,a4,a5,a6,a7,a8,a9⟩:=c
   simp only[Bool.and_eq_true,decide_eq_true_eq]at h3
   obtain⟨rfl,rfl,rfl⟩:=h3
   exact⟨_,_,_,_,_,_,hc⟩
  ·cases h3
abbrev sA1:List Mv:=[⟨0,20,0,0⟩,⟨0,0,0,0⟩,⟨0,0,0,0⟩,⟨0,30,5,0⟩]
abbrev sA2:List Mv:=(sA1++sSteps 7)++[⟨0,31,0,0⟩]
abbrev sM (o x:Int):Value:=.agg #[.int .i64 0,.int .i64 o,.int .i64 x,.int .i64 0]
theorem sA1_slice (w:World):(Instr.buildSlice 24 4 #[(0,sM 20 0),(1,sM 0 0),(2,sM 0 0),(3,sM 30 5)]).run Tryz.prog w=.ok (.slice (some ⟨w.heap.size,0,none⟩) 4 4) (w.alloc (.cells (sA1.map Mv.e).flatten.toArray 57)):=by kernel_rfl
theorem sA1_ok:∀c∈sA1.map Mv.e,c.length=4∧c.all Value.oneCell'=true:=by
 simp[sA1,Mv.e,Value.oneCell']
theorem law_awake:Zk Tryz.prog 9 #[] emp (.bool true) emp:=by
 intro O w F hs
 have hN:=Lh (law_num 0)
 have hP:=Lh (fun v=>stk_play_run sSmall sSmallOk v sAw (by decide))
 obtain⟨l1,⟨a1,a2,a3,a4,a5,a7,a8,a9,g1⟩,⟨b1,b2,b3,b4,b5,b7,g2⟩⟩:=sAw_facts sAw_ok
 have hAll:sAw=sA2++sSteps 13:=rfl
 generalize hM:sAw=mvs at l1 g1 g2 hAll hP
 have hAll:=Lh hAll
 generalize hY:sRun sSmall mvs=y at l1 g1 g2
 have hY:=Lh hY
 go_enter Tryz.func9,Tryz.ntmps9
 go_wp2_with (first|(first|((with_reducible apply ZR hs);exact Ii;rfl;rfl;(with_reducible exact Qh);rfl;rfl;rfl;rfl;clear hs;intro w hs)|((with_reducible apply Zv hs);exact Ii;rfl;clear hs;intro w b hs;(simp only[Uc,Uz])))|((with_reducible apply wl_bsS (sz:=4) (css:=sA1.map Mv.e) (E:=57) (vs:=[(0,sM 20 0),(1,sM 0 0),(2,sM 0 0),(3,sM 30 5)]) hs);rfl;(exact sA1_slice);rfl;omega;(exact sA1_ok);rfl;clear hs;intro w bs hs;(simp only[Uc,Uz])))
 simp only[Em]at hs ⊢
 have stp:∀(ms:List Mv) (k:Nat),(ms++sSteps (k+1)).map Mv.e=(ms++sSteps k).map Mv.e++[[.int .i64 0,.int .i64 0,.int .i64 0,.int .i64 0]]:=by
  intro ms k
  simp only[sSteps,List.replicate_succ',Yh,Yi,Yj,List.append_assoc]
 have stp:=Lh stp
 go_loopw [2,3] (fun u q wr=>∃k:Nat,k≤7∧q=.int .i64 (k:Int)∧Sat O wr (sl 57 4 ((sA1++sSteps k).map Mv.e) u*(pt b (.cells #[.int .i64 1,.int .i64 1,.int .i64 3,.int .i64 1,.int .i64 0,.int .i64 2,.int .i64 1] 23)*F))) (fun _ q _=>9-(intOf q).toNat)
 case atStart=>exact⟨0,by omega,rfl,by simp only[sSteps,List.replicate_zero,List.append_nil];exact hs⟩
 case round=>
  obtain⟨k,k1,rfl,hs⟩:=hrel
  by_cases hkr:k=7
  ·subst hkr
   have hlt:decide (((7:Nat):Int)<7)=false:=rfl
   go_wp2_with (first|((with_reducible apply wl_bs hs);exact Ii;exact Ii;rfl;rfl;rfl;rfl;(exact Vb rfl);rfl;clear hs;intro w v hs;(simp only[Uc,Uz]))|((with_reducible apply Q9 hs);exact Ii;exact Ii;rfl;rfl;(focus with_reducible (repeat first|exact Qh|apply Qk);done);(with_reducible exact Qh);(simp only[Wm,Ws,Wa,Wc,Wn,Wr]at *;omega);(exact Vb rfl);rfl;clear hs;intro w v hs;(simp only[Uc,Uz])))
   have e31:sA2.map Mv.e=(sA1++sSteps 7).map Mv.e++[[.int .i64 0,.int .i64 31,.int .i64 0,.int .i64 0]]:=by simp only[Yh,Yi,Yj]
   rw[←e31]at hs
   clear e31
   go_loopw [2,4] (fun u q wr=>∃k:Nat,k≤13∧q=.int .i64 (k:Int)∧Sat O wr (sl 57 4 ((sA2++sSteps k).map Mv.e) u*(pt b (.cells #[.int .i64 1,.int .i64 1,.int .i64 3,.int .i64 1,.int .i64 0,.int .i64 2,.int .i64 1] 23)*F))) (fun _ q _=>15-(intOf q).toNat)
   case atStart=>
    refine⟨0,by omega,rfl,?_⟩
    have e0:sA2++sSteps 0=sA2:=by simp only[sSteps,List.replicate_zero,List.append_nil]
    rw[e0]
    ((with_reducible apply Sat.fin hs);(with_reducible repeat first|exact Ql|exact Qh|apply Qb|apply Qk))
   case round=>
    obtain⟨k,k1,rfl,hs⟩:=hrel
    by_cases hkr:k=13
    ·subst hkr
     have hlt:decide (((13:Nat):Int)<13)=false:=rfl
     rw[←hAll.out]at hs
     have i1:1<(y.m.calls.map Cll.e).length:=by simp[l1]
     have i2:2<(y.m.calls.map Cll.e).length:=by simp[l1]
     go_wp2_with (first|(first|((with_reducible apply Zc hs);exact Ii;rfl;(with_reducible repeat first|exact Qh|apply Qk);rfl;rfl;(simp only[Uc,Uz]))|((with_reducible apply Qg hs);exact Ii;rfl;(with_reducible repeat first|exact Qh|apply Qk);rfl;rfl;(simp only[Uc,Uz]))|((with_reducible apply ZR hs);exact Ii;rfl;rfl;(with_reducible exact Qh);rfl;rfl;rfl;rfl;clear hs;intro w hs)|((with_reducible apply Zv hs);exact Ii;rfl;clear hs;intro w b hs;(simp only[Uc,Uz]))|((with_reducible apply QZ hs);exact Ii;exact Ii;rfl;assumption;rfl;(with_reducible repeat first|exact Qh|apply Qk);(rfl);(assumption);rfl;(simp only[Uc,Uz]))|((with_reducible apply ZS hs);exact Ii;exact Ii;rfl;rfl;(with_reducible repeat first|exact Qh|apply Qk);(rfl);(assumption);rfl;intro b off hat;(simp only[Uc,Uz]))|((with_reducible apply ZC hs);exact Ii;rfl;(with_reducible repeat first|exact Qh|apply Qk);rfl;(simp only[Uc,Uz])))|((with_reducible apply wl_ldS (i:=1) (k:=5) hs);exact Ii;rfl;assumption;(with_reducible repeat first|exact Qh|apply Qk);rfl;(exact Zd (by assumption));rfl;rfl;(simp only[Uc,Uz]))|((with_reducible apply wl_ldS (i:=2) (k:=5) hs);exact Ii;rfl;assumption;(with_reducible repeat first|exact Qh|apply Qk);rfl;(exact Zd (by assumption));rfl;rfl;(simp only[Uc,Uz]))|((with_reducible apply wl_ldSN (i:=2) (k:=7) (c':=[.int .i64 2,.int .i64 5]) hs);exact Ii;rfl;assumption;(with_reducible repeat first|exact Qh|apply Qk);rfl;(exact Zd (by assumption));(exact Vb rfl);rfl;rfl;(simp only[Uc,Uz]))|(go_at_call 18;((refine(hN.out).at hs (by (focus((repeat(with_reducible exact Qn));done))) ?_);clear hs;intro w hs;(try simp only[Em,Ma]at hs)))|(go_at_call 17;((refine((hP.out _)).at hs (by (with_reducible exact Qh)) ?_);clear hs;intro v w hs;(try simp only[Em,Ma]at hs));(unfold RunS RunR at hs);(simp only[ZJ,Ma,Zz,hY.out]at hs);(obtain⟨vr,rfl,vc,vt,vs,vw,rfl,hs⟩:=hs);(obtain⟨_,_,rfl⟩:=Qi (hs.pull (A:=sl 42 9 _ vc) (by (with_reducible exact Qh))));(obtain⟨_,_,rfl⟩:=Qi (hs.pull (A:=sl 49 7 _ vt) (by (with_reducible repeat first|exact Qh|apply Qk))));(obtain⟨_,_,rfl⟩:=Qi (hs.pull (A:=sl 52 5 _ vs) (by (with_reducible repeat first|exact Qh|apply Qk))));(obtain⟨_,_,rfl⟩:=Qi (hs.pull (A:=sl 47 1 _ vw) (by (with_reducible repeat first|exact Qh|apply Qk))));(simp only[List.length_map,l1]at hs ⊢)))
     (go_ret)
     exact⟨rfl,by ((with_reducible apply Sat.fin hs);(focus with_reducible (repeat first|exact Ql|exact Qn|apply Qb|apply Qk);done))⟩
    ·have hlt:decide ((k:Int)<13)=true:=by simp;omega
     have hlt2:decide (k<13)=true:=by simp;omega
     go_wp2_with (first|((with_reducible apply wl_bs hs);exact Ii;exact Ii;rfl;rfl;rfl;rfl;(exact Vb rfl);rfl;clear hs;intro w v hs;(simp only[Uc,Uz]))|((with_reducible apply Q9 hs);exact Ii;exact Ii;rfl;rfl;(focus with_reducible (repeat first|exact Qh|apply Qk);done);(with_reducible exact Qh);(simp only[Wm,Ws,Wa,Wc,Wn,Wr]at *;omega);(exact Vb rfl);rfl;clear hs;intro w v hs;(simp only[Uc,Uz])))
     rw[←stp.out]at hs
     go_roundw
     case rel=>exact⟨k+1,by omega,by simp,by ((with_reducible apply Sat.fin hs);(with_reducible repeat first|exact Ql|exact Qh|apply Qb|apply Qk))⟩
     case measure=>simp[intOf];omega
  ·have hlt:decide ((k:Int)<7)=true:=by simp;omega
   have hlt2:decide (k<7)=true:=by simp;omega
   go_wp2_with (first|((with_reducible apply wl_bs hs);exact Ii;exact Ii;rfl;rfl;rfl;rfl;(exact Vb rfl);rfl;clear hs;intro w v hs;(simp only[Uc,Uz]))|((with_reducible apply Q9 hs);exact Ii;exact Ii;rfl;rfl;(focus with_reducible (repeat first|exact Qh|apply Qk);done);(with_reducible exact Qh);(simp only[Wm,Ws,Wa,Wc,Wn,Wr]at *;omega);(exact Vb rfl);rfl;clear hs;intro w v hs;(simp only[Uc,Uz])))
   rw[←stp.out]at hs
   go_roundw
   case rel=>exact⟨k+1,by omega,by simp,by ((with_reducible apply Sat.fin hs);(with_reducible repeat first|exact Ql|exact Qh|apply Qb|apply Qk))⟩
   case measure=>simp[intOf];omega
end
section
open Go.RowKit Hp
set_option maxRecDepth 100000
set_option maxHeartbeats 1000000
attribute [local irreducible] Go.Calls
theorem ref_many (c:Cfg)(h:c.Ok)(r:Nat)(h1:1≤r)(h2:r≤13):Zk Tryz.prog 23 #[c.v,.int .i64 (r:Int)] emp (.int .i64 (many c r)) emp:=by
 intro O w F hs
 obtain⟨g1,g2⟩:=h.rh
 have hw:wrap64 (c.R*c.Hz)=c.R*c.Hz:=by unfold wrap64;omega
 have hr:r=1∨r=2∨r=3∨r=4∨r=5∨r=6∨r=7∨r=8∨r=9∨r=10∨r=11∨r=12∨r=13:=by omega
 rcases hr with rfl|rfl|rfl|rfl|rfl|rfl|rfl|rfl|rfl|rfl|rfl|rfl|rfl
 all_goals
  go_enter Tryz.func23,Tryz.ntmps23
  go_wp2_with (first|((with_reducible apply Zc hs);exact Ii;rfl;(with_reducible exact Qh);rfl;rfl;(simp only[Uc,Uz]))|((with_reducible apply Zq hs);rfl;rfl;rfl;clear hs;intro w b hs;(simp only[Uc,Uz])))
  (go_ret)
  exact⟨by simp[many,hw],by ((with_reducible apply Sat.fin hs);(focus with_reducible (repeat first|exact Ql|exact Qn|apply Qb|apply Qk);done))⟩
theorem ref_base (c:Cfg)(h:c.Ok)(r:Nat)(h1:1≤r)(h2:r≤13):Zk Tryz.prog 13 #[c.v,.int .i64 (r:Int)] emp (.int .i64 (base c r)) emp:=by
 intro O w F hs
 have hM:=Lh (ref_many c h)
 go_enter Tryz.func13,Tryz.ntmps13
 go_wp2_with ((with_reducible apply Zq hs);rfl;rfl;rfl;clear hs;intro w b hs;(simp only[Uc,Uz]))
 (obtain⟨A,hA,hsn⟩:∃A,Hid (A=_)∧Sat O w A:=⟨_,Lh rfl,hs⟩;clear hs;have hs:=hsn;clear hsn)
 go_loopw [5,6] (fun a q wr=>∃k:Nat,1≤k∧k≤r∧q=.int .i64 (k:Int)∧a=.int .i64 (base c k)∧Sat O wr A) (fun _ q _=>15-(intOf q).toNat)
 case atStart=>exact⟨1,by omega,by omega,rfl,rfl,hs⟩
 case round=>
  obtain⟨k,k1,k2,rfl,rfl,hs⟩:=hrel
  have hb:=ZB h k
  have hmk:=many_le h k
  have e1:=base_succ c _ k1
  rw[hA.out]at hs
  by_cases hkr:k=r
  ·subst hkr
   have hlt:decide ((k:Int)<(k:Int))=false:=by simp
   have hlt2:decide (k<k)=false:=by simp
   go_wp2_with (fail)
   (go_ret)
   exact⟨rfl,by ((with_reducible apply Sat.fin hs);(focus with_reducible (repeat first|exact Ql|exact Qn|apply Qb|apply Qk);done))⟩
  ·have hlt:decide ((k:Int)<(r:Int))=true:=by simp;omega
   have hlt2:decide (k<r)=true:=by simp;omega
   have hM1:=Lh (hM.out k k1 (by omega))
   go_wp2_with (first|((with_reducible apply Qg hs);exact Ii;rfl;(with_reducible exact Qh);rfl;rfl;(simp only[Uc,Uz]))|(go_at_call 23;((refine(hM1.out).at hs (by (focus((repeat(with_reducible exact Qn));done))) ?_);clear hs;intro w hs;(try simp only[Em,Ma]at hs))))
   go_roundw
   case rel=>exact⟨k+1,by omega,by omega,by simp,by rw[e1],by rw[hA.out];((with_reducible apply Sat.fin hs);(focus with_reducible (repeat first|exact Ql|exact Qh|exact Qn|apply Qb);done))⟩
   case measure=>simp[intOf];omega
theorem ref_size (c:Cfg)(h:c.Ok):Zk Tryz.prog 19 #[c.v] emp (.int .i64 (base c 14)) emp:=by
 intro O w F hs
 have hB:=Lh (ref_base c h 13 (by omega) (by omega))
 have hb:=ZB h 13
 have h2:=h.S1;have h3:=h.S2
 have e:base c 14=base c 13+c.Sl:=rfl
 have hw:wrap64 (base c 13+c.Sl)=base c 14:=by unfold wrap64;omega
 go_enter Tryz.func19,Tryz.ntmps19
 go_wp2_with (first|(first|(first|(with_reducible refine NQ.mk ?_)|((with_reducible apply Zh);rfl;rfl)|((with_reducible apply Zr);rfl)|(with_reducible refine EQ.mk ?_ ?_)|(first|(with_reducible exact Zg)|((with_reducible refine Zm ?_ ?_);(focus((with_reducible apply ZH);rfl;rfl))))|(with_reducible refine Zi ?_)|(show Z6 _ _ _;rfl))|((with_reducible apply Zc hs);exact Ii;rfl;(with_reducible exact Qh);rfl;rfl;(simp only[Uc,Uz]))|((with_reducible apply Qg hs);exact Ii;rfl;(with_reducible exact Qh);rfl;rfl;(simp only[Uc,Uz]))|((with_reducible apply Zq hs);rfl;rfl;rfl;clear hs;intro w b hs;(simp only[Uc,Uz])))|(go_at_call 13;((refine(hB.out).at hs (by (focus((repeat(with_reducible exact Qn));done))) ?_);clear hs;intro w hs;(try simp only[Em,Ma]at hs)))|((with_reducible refine Wp (id:=1) [.neu 0,.neu 2,.neu 3,.eff 1 [2,3],.neu 4,.neu 5] hs rfl ?_ ?_);kernel_rfl;clear hs;intro w hs))
 (go_ret)
 exact⟨by simp[e],by ((with_reducible apply Sat.fin hs);(focus with_reducible (repeat first|exact Ql|exact Qn|apply Qb|apply Qk);done))⟩
end
section
open Go.RowKit Hp
set_option maxHeartbeats 1000000 in
set_option maxRecDepth 100000 in
theorem config_yes (T R Hz Rt Ca Sl Bu:Int)(h:CfgOk T R Hz Rt Ca Sl Bu) :
  Zk Tryz.prog 16 #[.agg (cfgV T R Hz Rt Ca Sl Bu)] emp (.bool true) emp:=by
 intro O w F hs
 obtain⟨⟨a1,a2⟩,⟨b1,b2⟩,⟨c1,c2⟩,⟨d1,d2⟩,⟨e1,e2⟩,⟨f1,f2⟩,⟨g1,g2⟩⟩:=h
 go_enter Tryz.func16,Tryz.ntmps16
 simp only[List.append]
 go_wp2_with (first|((with_reducible apply Zc hs);exact Ii;rfl;(repeat(exact Qh));rfl;rfl;simp only[Uc,Uz])|((with_reducible apply Zq hs);rfl;rfl;rfl;clear hs;intro w b hs;simp only[Uc,Uz]))
 go_ret
 exact⟨rfl,hs.right⟩
set_option maxHeartbeats 4000000 in
set_option maxRecDepth 100000 in
theorem config_no (T R Hz Rt Ca Sl Bu:Int)(h:¬CfgOk T R Hz Rt Ca Sl Bu) :
  Zk Tryz.prog 16 #[.agg (cfgV T R Hz Rt Ca Sl Bu)] emp (.bool false) emp:=by
 intro O w F hs
 by_cases g0:1≤T
 case neg=>
  clear h
  have hd:decide (1≤T)=false:=by simpa using g0
  clear g0
  go_enter Tryz.func16,Tryz.ntmps16
  simp only[List.append]
  go_wp2_with (first|((with_reducible apply Zc hs);exact Ii;rfl;(repeat(exact Qh));rfl;rfl;simp only[Uc,Uz])|((with_reducible apply Zq hs);rfl;rfl;rfl;clear hs;intro w b hs;simp only[Uc,Uz]))
  go_ret
  exact⟨rfl,hs.right⟩
 by_cases g1:T≤16
 case neg=>
  clear h
  have hd:decide (T≤16)=false:=by simpa using g1
  clear g1
  go_enter Tryz.func16,Tryz.ntmps16
  simp only[List.append]
  go_wp2_with (first|((with_reducible apply Zc hs);exact Ii;rfl;(repeat(exact Qh));rfl;rfl;simp only[Uc,Uz])|((with_reducible apply Zq hs);rfl;rfl;rfl;clear hs;intro w b hs;simp only[Uc,Uz]))
  go_ret
  exact⟨rfl,hs.right⟩
 by_cases g2:1≤R
 case neg=>
  clear h
  have hd:decide (1≤R)=false:=by simpa using g2
  clear g2
  go_enter Tryz.func16,Tryz.ntmps16
  simp only[List.append]
  go_wp2_with (first|((with_reducible apply Zc hs);exact Ii;rfl;(repeat(exact Qh));rfl;rfl;simp only[Uc,Uz])|((with_reducible apply Zq hs);rfl;rfl;rfl;clear hs;intro w b hs;simp only[Uc,Uz]))
  go_ret
  exact⟨rfl,hs.right⟩
 by_cases g3:R≤16
 case neg=>
  clear h
  have hd:decide (R≤16)=false:=by simpa using g3
  clear g3
  go_enter Tryz.func16,Tryz.ntmps16
  simp only[List.append]
  go_wp2_with (first|((with_reducible apply Zc hs);exact Ii;rfl;(repeat(exact Qh));rfl;rfl;simp only[Uc,Uz])|((with_reducible apply Zq hs);rfl;rfl;rfl;clear hs;intro w b hs;simp only[Uc,Uz]))
  go_ret
  exact⟨rfl,hs.right⟩
 by_cases g4:3≤Hz
 case neg=>
  clear h
  have hd:decide (3≤Hz)=false:=by simpa using g4
  clear g4
  go_enter Tryz.func16,Tryz.ntmps16
  simp only[List.append]
  go_wp2_with (first|((with_reducible apply Zc hs);exact Ii;rfl;(repeat(exact Qh));rfl;rfl;simp only[Uc,Uz])|((with_reducible apply Zq hs);rfl;rfl;rfl;clear hs;intro w b hs;simp only[Uc,Uz]))
  go_ret
  exact⟨rfl,hs.right⟩
 by_cases g5:Hz≤8
 case neg=>
  clear h
  have hd:decide (Hz≤8)=false:=by simpa using g5
  clear g5
  go_enter Tryz.func16,Tryz.ntmps16
  simp only[List.append]
  go_wp2_with (first|((with_reducible apply Zc hs);exact Ii;rfl;(repeat(exact Qh));rfl;rfl;simp only[Uc,Uz])|((with_reducible apply Zq hs);rfl;rfl;rfl;clear hs;intro w b hs;simp only[Uc,Uz]))
  go_ret
  exact⟨rfl,hs.right⟩
 by_cases g6:1≤Rt
 case neg=>
  clear h
  have hd:decide (1≤Rt)=false:=by simpa using g6
  clear g6
  go_enter Tryz.func16,Tryz.ntmps16
  simp only[List.append]
  go_wp2_with (first|((with_reducible apply Zc hs);exact Ii;rfl;(repeat(exact Qh));rfl;rfl;simp only[Uc,Uz])|((with_reducible apply Zq hs);rfl;rfl;rfl;clear hs;intro w b hs;simp only[Uc,Uz]))
  go_ret
  exact⟨rfl,hs.right⟩
 by_cases g7:Rt≤1024
 case neg=>
  clear h
  have hd:decide (Rt≤1024)=false:=by simpa using g7
  clear g7
  go_enter Tryz.func16,Tryz.ntmps16
  simp only[List.append]
  go_wp2_with (first|((with_reducible apply Zc hs);exact Ii;rfl;(repeat(exact Qh));rfl;rfl;simp only[Uc,Uz])|((with_reducible apply Zq hs);rfl;rfl;rfl;clear hs;intro w b hs;simp only[Uc,Uz]))
  go_ret
  exact⟨rfl,hs.right⟩
 by_cases g8:0≤Ca
 case neg=>
  clear h
  have hd:decide (0≤Ca)=false:=by simpa using g8
  clear g8
  go_enter Tryz.func16,Tryz.ntmps16
  simp only[List.append]
  go_wp2_with (first|((with_reducible apply Zc hs);exact Ii;rfl;(repeat(exact Qh));rfl;rfl;simp only[Uc,Uz])|((with_reducible apply Zq hs);rfl;rfl;rfl;clear hs;intro w b hs;simp only[Uc,Uz]))
  go_ret
  exact⟨rfl,hs.right⟩
 by_cases g9:Ca≤64
 case neg=>
  clear h
  have hd:decide (Ca≤64)=false:=by simpa using g9
  clear g9
  go_enter Tryz.func16,Tryz.ntmps16
  simp only[List.append]
  go_wp2_with (first|((with_reducible apply Zc hs);exact Ii;rfl;(repeat(exact Qh));rfl;rfl;simp only[Uc,Uz])|((with_reducible apply Zq hs);rfl;rfl;rfl;clear hs;intro w b hs;simp only[Uc,Uz]))
  go_ret
  exact⟨rfl,hs.right⟩
 by_cases g10:1≤Sl
 case neg=>
  clear h
  have hd:decide (1≤Sl)=false:=by simpa using g10
  clear g10
  go_enter Tryz.func16,Tryz.ntmps16
  simp only[List.append]
  go_wp2_with (first|((with_reducible apply Zc hs);exact Ii;rfl;(repeat(exact Qh));rfl;rfl;simp only[Uc,Uz])|((with_reducible apply Zq hs);rfl;rfl;rfl;clear hs;intro w b hs;simp only[Uc,Uz]))
  go_ret
  exact⟨rfl,hs.right⟩
 by_cases g11:Sl≤1024
 case neg=>
  clear h
  have hd:decide (Sl≤1024)=false:=by simpa using g11
  clear g11
  go_enter Tryz.func16,Tryz.ntmps16
  simp only[List.append]
  go_wp2_with (first|((with_reducible apply Zc hs);exact Ii;rfl;(repeat(exact Qh));rfl;rfl;simp only[Uc,Uz])|((with_reducible apply Zq hs);rfl;rfl;rfl;clear hs;intro w b hs;simp only[Uc,Uz]))
  go_ret
  exact⟨rfl,hs.right⟩
 by_cases g12:1≤Bu
 case neg=>
  clear h
  have hd:decide (1≤Bu)=false:=by simpa using g12
  clear g12
  go_enter Tryz.func16,Tryz.ntmps16
  simp only[List.append]
  go_wp2_with (first|((with_reducible apply Zc hs);exact Ii;rfl;(repeat(exact Qh));rfl;rfl;simp only[Uc,Uz])|((with_reducible apply Zq hs);rfl;rfl;rfl;clear hs;intro w b hs;simp only[Uc,Uz]))
  go_ret
  exact⟨rfl,hs.right⟩
 by_cases g13:Bu≤64
 case neg=>
  clear h
  have hd:decide (Bu≤64)=false:=by simpa using g13
  clear g13
  go_enter Tryz.func16,Tryz.ntmps16
  simp only[List.append]
  go_wp2_with (first|((with_reducible apply Zc hs);exact Ii;rfl;(repeat(exact Qh));rfl;rfl;simp only[Uc,Uz])|((with_reducible apply Zq hs);rfl;rfl;rfl;clear hs;intro w b hs;simp only[Uc,Uz]))
  go_ret
  exact⟨rfl,hs.right⟩
 exact absurd ⟨⟨g0,g1⟩,⟨g2,g3⟩,⟨g4,g5⟩,⟨g6,g7⟩,⟨g8,g9⟩,⟨g10,g11⟩,⟨g12,g13⟩⟩ h
theorem ref_conf (c:Cfg)(h:c.Ok):Zk Tryz.prog 16 #[c.v] emp (.bool true) emp:=config_yes c.T c.R c.Hz c.Rt c.Ca c.Sl c.Bu (c.ok_iff.1 h)
theorem ref_conf_no (c:Cfg)(h:¬c.Ok):Zk Tryz.prog 16 #[c.v] emp (.bool false) emp:=config_no c.T c.R c.Hz c.Rt c.Ca c.Sl c.Bu (fun k=>h (c.ok_iff.2 k))
end
end Go.Proofs.YtjagadldibbbbaaGreat
