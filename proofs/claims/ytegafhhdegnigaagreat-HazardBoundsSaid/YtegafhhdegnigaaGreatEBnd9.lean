/-
  HazardBounds: the peaks of a run, walked.
-/
import Derived.Test.YtegafhhdegnigaaGreatEFlt3
import Derived.Test.YtegafhhdegnigaaGreatEBnd3
import Derived.Test.YtegafhhdegnigaaGreatELst
set_option linter.all false
namespace Go.Proofs.YtegafhhdegnigaaGreat
open Go.RowKit Hp
set_option maxRecDepth 100000
section
set_option maxHeartbeats 8000000
attribute [local irreducible] Go.Calls Go.wpList
def PkV (TB RB GB:Int)(v:Value):Zd:=ex fun p0:Int=>ex fun p1:Int=>ex fun p2:Int=>ex fun p3:Int=>ex fun p4:Int=>ex fun p5:Int=>ex fun p6:Int=>
 pu (v=.agg #[.int .i64 p0,.int .i64 p1,.int .i64 p2,.int .i64 p3,.int .i64 p4,.int .i64 p5,.int .i64 p6]∧(p3≤TB∧p4≤RB∧p5≤GB))
structure PkQ (c:Cfg)(sh:List Shf)(TB RB:Int):Prop where
 t0:0≤TB
 r0:0≤RB
 pk:∀i,i≤sh.length→cN 4 (puts (s0 c) (sh.take i))≤TB∧cN 5 (puts (s0 c) (sh.take i))≤RB
 rng:∀d∈sh,∃i:Nat,d.slot=(i:Int)∧(i:Int)<c.Sl
theorem mx_le {a b z:Int}(h1:a≤z)(h2:b≤z):mx a b≤z:=by unfold mx;split<;>omega
theorem cen_peaks (c:Cfg)(hok:c.Ok)(cs:List Cll)(lg:List Acc)(sh:List Shf)(ws:List Int)(u:Value)(hl:RunLen cs lg sh ws)(N:Nat)(hN:N≤65536)(TB RB B:Int)(hB:B<4294967296)(Q:GapQ lg cs N B)(Q2:PkQ c sh TB RB) :
  Does Tryz.prog 26 #[c.v,.int .i64 0,u] (RunR cs lg sh ws u) (fun v=>PkV TB RB B v*RunR cs lg sh ws u):=by
 intro O w F hs
 have hG:=Lh (fun u=>cen_gap cs lg sh ws u hl N hN B hB Q)
 have hSt:=Lh (fun u x=>cen_steps cs lg sh ws u hl x)
 have hg:=Jj hs
 clear hs Q
 obtain⟨a1,k1,a2,k2,a3,k3,a4,k4,rfl,hs⟩:=hg
 obtain⟨g1,g2,g3,g4⟩:=hl
 have hBg:=Lh (cen_begin c hok)
 have hS1:=hok.S1
 have hS2:=hok.S2
 have hLen:=s0_len hok
 rw[←s0_st,←s0_ho]at hBg
 obtain⟨q1,q2,q3,q4⟩:=Q2
 obtain⟨Z0,hZ0⟩:∃Z,Z=s0 c:=⟨_,rfl⟩
 rw[←hZ0]at hBg hLen q3
 clear hZ0 hok
 obtain⟨S0,hS0⟩:∃S0:Nat,c.Sl=(S0:Int):=⟨c.Sl.toNat,by omega⟩
 obtain⟨c1,c2,c3,c4,c5,c6,c7⟩:=c
 simp only[]at hS0 hS1 hS2 q4 hLen
 subst hS0
 have hSl:S0≤1024:=by omega
 have hLen:Z0.length=S0:=by omega
 clear hS1 hS2
 replace q3:=Lh q3
 replace q4:=Lh q4
 go_enter Tryz.func26,Tryz.ntmps26
 (repeat'(first|(go_big_may;(first|((show wpList _ _ _ (Oper.mk (some 3) _ _ _ _ _::_) _ _);(with_reducible apply Zv hs);rfl;rfl;rfl;clear hs;intro w bC hs;(simp only[Uc,Uz]))|((show wpList _ _ _ (Oper.mk (some 5) _ _ _ _ _::_) _ _);(with_reducible apply Zv hs);rfl;rfl;rfl;clear hs;intro w bR hs;(simp only[Uc,Uz]))|((show wpList _ _ _ (Oper.mk (some 6) _ _ _ _ _::_) _ _);(with_reducible apply Zw hs);exact Ii;rfl;clear hs;intro w bO hs;(simp only[Uc,Uz]))|((show wpList _ _ _ (Oper.mk (some 7) _ _ _ _ _::_) _ _);(with_reducible apply Zw hs);exact Ii;rfl;clear hs;intro w bP hs;(simp only[Uc,Uz]))|((with_reducible apply Z5 hs);exact Ii;rfl;(with_reducible repeat first|exact Qh|apply Qk);rfl;rfl;(simp only[Uc,Uz]))|(go_at_call 82;((refine(hBg.out).at hs (by (focus((repeat(with_reducible exact Qn));done))) ?_);clear hs;intro v w hs;(try simp only[Em,Ma]at hs));(simp only[ZM,Ma,ZH]at hs);(obtain⟨v1,v2,rfl,hs⟩:=hs))))|go_step|(dsimp only)))
 go_loopw [10] (fun q wr=>∃(k:Nat) (sn:List Slt) (p0 p1 p2 p3 p4:Int),k≤sh.length∧q=.int .i64 (k:Int)∧(p3≤TB∧p4≤RB)∧Hid (sn=puts Z0 (sh.take k))∧Sat O wr (pt bP (.cells #[.int .i64 p0,.int .i64 p1,.int .i64 p2,.int .i64 p3,.int .i64 p4,.int .i64 0,.int .i64 0] 63)*(stR (sn.map Slt.state) v1*(hoR (sn.map Slt.holder) v2*(pt bO (.cells #[.int .i64 0,.int .i64 0,.int .i64 0,.int .i64 0,.int .i64 0,.int .i64 0,.int .i64 0] 63)*(pt bR (.cells #[.slice a1 cs.length k1,.slice a2 lg.length k2,.slice a3 sh.length k3,.slice a4 ws.length k4] 32)*(pt bC (.cells #[.int .i64 c1,.int .i64 c2,.int .i64 c3,.int .i64 c4,.int .i64 c5,.int .i64 (S0:Int),.int .i64 c7] 23)*(sl 50 9 (cs.map Cll.e) (.slice a1 cs.length k1)*(sl 138 7 (lg.map Acc.e) (.slice a2 lg.length k2)*(sl 127 5 (sh.map Shf.e) (.slice a3 sh.length k3)*(sl 57 1 (ws.map eU) (.slice a4 ws.length k4)*F))))))))))) (fun q _=>sh.length+1-(intOf q).toNat)
 case atStart=>exact⟨0,Z0,0,0,0,0,0,by omega,rfl,⟨q1,q2⟩,Lh rfl,by ((with_reducible apply Sat.fin hs);(with_reducible repeat first|exact Ql|exact Qh|apply Qb|apply Qk))⟩
 case round=>
  obtain⟨k,sn,p0,p1,p2,p3,p4,kk,rfl,hp,hsn,hs⟩:=hrel
  have hsnl:sn.length=S0:=by rw[hsn.out,puts_len];exact hLen
  have hCt:=Lh (fun z=>cen_count (sn.map Slt.state) z v1 (by simp;omega))
  have hpk:=q3.out k kk
  rw[←hsn.out,←cI_map,←cI_map]at hpk
  have hp3:=Lh (mx_le hp.1 hpk.1)
  have hp4:=Lh (mx_le hp.2 hpk.2)
  clear hp hpk
  by_cases hkr:k=sh.length
  ·subst hkr
   have hlt:((sh.length:Int)==(sh.length:Int))=true:=by simp
   clear hsnl
   (repeat'(first|(go_big_may;(first|(first|(first|(with_reducible refine NQ.mk ?_)|((with_reducible apply Zl);rfl;rfl)|((with_reducible apply ZF);rfl)|(with_reducible refine EQ.mk ?_ ?_)|(first|(with_reducible exact Zo)|((with_reducible refine ZJ ?_ ?_);(focus((with_reducible apply Qd);rfl;rfl))))|(with_reducible refine Zm ?_)|(show QD _ _ _;rfl))|((with_reducible apply Zc hs);exact Ii;rfl;(with_reducible repeat first|exact Qh|apply Qk);rfl;rfl;(simp only[Uc,Uz]))|((with_reducible apply Z5 hs);exact Ii;rfl;(with_reducible repeat first|exact Qh|apply Qk);rfl;rfl;(simp only[Uc,Uz]))|((with_reducible apply ZX hs);exact Ii;rfl;rfl;(with_reducible repeat first|exact Qh|apply Qk);(rfl);(exact Vb rfl);rfl;clear hs;intro w hs;simp only[Yg,Uc,Uz]at hs)|((with_reducible apply Zp hs);exact Ii;rfl;(with_reducible repeat first|exact Qh|apply Qk);rfl;(simp only[Uc,Uz])))|((with_reducible apply wl_max);rfl;rfl;rfl;(simp only[Uc,Uz]))|(go_at_call 83;((refine((hCt.out _)).at hs (by (with_reducible repeat first|exact Qh|apply Qk)) ?_);clear hs;intro w hs;(try simp only[Em,Ma]at hs)))|(go_at_call 84;(replace hs:=runR_mkP a1 k1 a2 k2 a3 k3 a4 k4 (cs:=cs) (lg:=lg) (sh:=sh) (ws:=ws) hs (by (with_reducible repeat first|exact Qh|apply Qb|apply Qk)));((refine((hG.out _)).at hs (by (with_reducible exact Qh)) ?_);clear hs;intro v w hs;(try simp only[Em,Ma]at hs));(simp only[ZM,Ma,ZH]at hs);(obtain⟨p5,⟨rfl,hp5⟩,hs⟩:=hs);(replace hs:=runR_open hs (by (with_reducible exact Qh))))|((with_reducible refine Wp (id:=5) [.neu 0,.neu 1,.neu 2,.eff 3 [0,1],.eff 4 [],.neu 5,.eff 6 []] hs rfl ?_ ?_);kernel_rfl;clear hs;intro w hs)|((with_reducible refine Wp (id:=6) [.neu 0,.neu 1,.neu 2,.eff 3 [0,1],.eff 4 [],.neu 5,.eff 6 []] hs rfl ?_ ?_);kernel_rfl;clear hs;intro w hs)|((with_reducible refine Wp (id:=7) [.neu 0,.neu 1,.neu 2,.eff 3 [0,1],.eff 4 [],.neu 5,.eff 6 []] hs rfl ?_ ?_);kernel_rfl;clear hs;intro w hs)|((with_reducible refine Wp (id:=8) [.neu 0,.neu 1,.neu 2,.eff 3 [0,1],.eff 4 [],.neu 5,.eff 6 []] hs rfl ?_ ?_);kernel_rfl;clear hs;intro w hs)|((with_reducible refine Wp (id:=9) [.neu 0,.neu 1,.neu 2,.eff 3 [0,1],.eff 4 [],.neu 5,.eff 6 []] hs rfl ?_ ?_);kernel_rfl;clear hs;intro w hs)))|go_step|(dsimp only)))
   generalize mx p0 (cI 1 (sn.map Slt.state))=r0 at hs ⊢
   generalize mx p1 (cI 2 (sn.map Slt.state))=r1 at hs ⊢
   generalize mx p2 (cI 3 (sn.map Slt.state))=r2 at hs ⊢
   generalize mx p3 (cI 4 (sn.map Slt.state))=r3 at hs hp3 ⊢
   generalize mx p4 (cI 5 (sn.map Slt.state))=r4 at hs hp4 ⊢
   clear hCt hsn kk
   go_loopw [11] (fun q wr=>∃(j:Nat) (p6:Int),j≤cs.length∧q=.int .i64 (j:Int)∧Sat O wr (pt bP (.cells #[.int .i64 r0,.int .i64 r1,.int .i64 r2,.int .i64 r3,.int .i64 r4,.int .i64 p5,.int .i64 p6] 63)*(stR (sn.map Slt.state) v1*(hoR (sn.map Slt.holder) v2*(pt bO (.cells #[.int .i64 0,.int .i64 0,.int .i64 0,.int .i64 0,.int .i64 0,.int .i64 0,.int .i64 0] 63)*(pt bR (.cells #[.slice a1 cs.length k1,.slice a2 lg.length k2,.slice a3 sh.length k3,.slice a4 ws.length k4] 32)*(pt bC (.cells #[.int .i64 c1,.int .i64 c2,.int .i64 c3,.int .i64 c4,.int .i64 c5,.int .i64 (S0:Int),.int .i64 c7] 23)*(sl 50 9 (cs.map Cll.e) (.slice a1 cs.length k1)*(sl 138 7 (lg.map Acc.e) (.slice a2 lg.length k2)*(sl 127 5 (sh.map Shf.e) (.slice a3 sh.length k3)*(sl 57 1 (ws.map eU) (.slice a4 ws.length k4)*F))))))))))) (fun q _=>cs.length+1-(intOf q).toNat)
   case atStart=>exact⟨0,0,by omega,rfl,by ((with_reducible apply Sat.fin hs);(with_reducible repeat first|exact Ql|exact Qh|apply Qb|apply Qk))⟩
   case round=>
    obtain⟨j,p6,kj,rfl,hs⟩:=hrel
    by_cases hkr:j=cs.length
    ·subst hkr
     have hlt:decide ((cs.length:Int)<(cs.length:Int))=false:=by simp
     (repeat'(first|(go_big_may;(first|((with_reducible apply Zc hs);exact Ii;rfl;(with_reducible repeat first|exact Qh|apply Qk);rfl;rfl;(simp only[Uc,Uz]))|((with_reducible apply Z5 hs);exact Ii;rfl;(with_reducible exact Qh);rfl;rfl;(simp only[Uc,Uz]))|((with_reducible apply ZR hs);exact Ii;rfl;rfl;(with_reducible repeat first|exact Qh|apply Qk);rfl;rfl;rfl;rfl;clear hs;intro w hs)|((with_reducible apply Zp hs);exact Ii;rfl;(with_reducible repeat first|exact Qh|apply Qk);rfl;(simp only[Uc,Uz]))))|go_step))
     ((try simp only[Exit.inBlock,Exit.then]);(with_reducible apply bodyPost_ret);((with_reducible apply results_c);rfl;rfl;(with_reducible apply loadF hs);exact Ii;(with_reducible exact Qh);rfl;rfl))
     refine⟨_,rfl,?_⟩
     simp only[PkV,ZM,Ma,ZH]
     exact⟨r0,r1,r2,r3,r4,p5,p6,⟨rfl,hp3.out,hp4.out,hp5.2⟩,runR_mk (by ((with_reducible apply Sat.fin hs);(with_reducible repeat first|exact Ql|exact Qh|apply Qb|apply Qk)))⟩
    ·have hlt:decide ((j:Int)<(cs.length:Int))=true:=by simp;omega
     have hlt2:decide (j<cs.length)=true:=by simp;omega
     have hln:j<(cs.map Cll.e).length:=by simp;omega
     obtain⟨x,hx⟩:∃x,cs[j]? = some x:=⟨_,Yd (by omega)⟩
     have hnL:=Lh (show j+1≤cs.length by omega)
     have hj65:j<4294967296:=by omega
     have hStx:=Lh (fun u=>hSt.out u x)
     obtain⟨x1,x2,x3,x4,x5,x6,x7,x8,x9⟩:=x
     have hgv:(cs.map Cll.e)[j]? = some (Cll.e ⟨x1,x2,x3,x4,x5,x6,x7,x8,x9⟩):=by rw[Ym,hx];rfl
     clear hx hkr
     (repeat'(first|(go_big_may;(first|(first|(first|(with_reducible refine NQ.mk ?_)|((with_reducible apply Zl);rfl;rfl)|((with_reducible apply ZF);rfl)|(with_reducible refine EQ.mk ?_ ?_)|(first|(with_reducible exact Zo)|((with_reducible refine ZJ ?_ ?_);(focus((with_reducible apply Qd);rfl;rfl))))|(with_reducible refine Zm ?_)|(show QD _ _ _;rfl))|((with_reducible apply Zc hs);exact Ii;rfl;(with_reducible repeat first|exact Qh|apply Qk);rfl;rfl;(simp only[Uc,Uz]))|((with_reducible apply Z5 hs);exact Ii;rfl;(with_reducible repeat first|exact Qh|apply Qk);rfl;rfl;(simp only[Uc,Uz]))|((with_reducible apply ZX hs);exact Ii;rfl;rfl;(with_reducible repeat first|exact Qh|apply Qk);(rfl);(exact Vb rfl);rfl;clear hs;intro w hs;simp only[Yg,Uc,Uz]at hs)|((with_reducible apply Qu (k:=0) hs);exact Ii;rfl;assumption;(with_reducible repeat first|exact Qh|apply Qk);(exact(Nat.add_zero _).symm);(assumption);(exact Vb rfl);rfl;rfl;(simp only[Uc,Uz]))|((with_reducible apply ZN hs);exact Ii;exact Ii;rfl;rfl;(with_reducible repeat first|exact Qh|apply Qk);(rfl);(assumption);rfl;intro b off hat;(simp only[Uc,Uz]))|((with_reducible apply Zp hs);exact Ii;rfl;(with_reducible repeat first|exact Qh|apply Qk);rfl;(simp only[Uc,Uz])))|((with_reducible apply wl_max);rfl;rfl;rfl;(simp only[Uc,Uz]))|(go_at_call 85;(replace hs:=runR_mkP a1 k1 a2 k2 a3 k3 a4 k4 (cs:=cs) (lg:=lg) (sh:=sh) (ws:=ws) hs (by (with_reducible repeat first|exact Qh|apply Qb|apply Qk)));((refine((hStx.out _)).at hs (by (with_reducible exact Qh)) ?_);clear hs;intro v w hs;(try simp only[Em,Ma]at hs));(simp only[ZM,Ma,ZH]at hs);(obtain⟨q9,rfl,hs⟩:=hs);(replace hs:=runR_open hs (by (with_reducible exact Qh))))|((with_reducible refine Wp (id:=16) (Paz [.neu 5,.neu 6,.neu 7,.eff 8 [0,1],.eff 9 [],.neu 10,.eff 11 []]) hs rfl ?_ ?_);kernel_rfl;clear hs;intro w hs)))|go_step|(dsimp only)))
     go_roundw
     case rel=>exact⟨j+1,_,hnL.out,by simp,by ((with_reducible apply Sat.fin hs);(with_reducible repeat first|exact Ql|exact Qh|apply Qb|apply Qk))⟩
     case measure=>have:=hnL.out;simp[intOf];omega
  ·have hlt:((k:Int)==(sh.length:Int))=false:=by simp;omega
   have hlt1:(k==sh.length)=false:=by simp;omega
   have hlt2:decide (k<sh.length)=true:=by simp;omega
   have hln:k<(sh.map Shf.e).length:=by simp;omega
   obtain⟨e,he⟩:∃e,sh[k]? = some e:=⟨_,Yd (by omega)⟩
   obtain⟨i,hi,hiS⟩:=q4.out e (Yc he)
   have hnL:=Lh (show k<sh.length by omega)
   have hk65:k<4294967296:=by omega
   have hPut:=Lh (cen_put (sn.map Slt.state) (sn.map Slt.holder) e v1 v2 i hi (by simp;omega) (by simp;omega) (by simp;omega) (by simp;omega))
   rw[map_put_st,map_put_ho]at hPut
   have hsn2:=Lh (show put sn e=puts Z0 (sh.take (k+1)) by rw[List.take_add_one,he];show _=puts Z0 (sh.take k++[e]);rw[puts_snoc,←hsn.out])
   generalize put sn e=sn' at hPut hsn2
   obtain⟨e1,e2,e3,e4,e5⟩:=e
   have hgv:(sh.map Shf.e)[k]? = some (Shf.e ⟨e1,e2,e3,e4,e5⟩):=by rw[Ym,he];rfl
   clear he hkr hsn hsnl hi hiS
   (repeat'(first|(go_big_may;(first|(first|(first|(with_reducible refine NQ.mk ?_)|((with_reducible apply Zl);rfl;rfl)|((with_reducible apply ZF);rfl)|(with_reducible refine EQ.mk ?_ ?_)|(first|(with_reducible exact Zo)|((with_reducible refine ZJ ?_ ?_);(focus((with_reducible apply Qd);rfl;rfl))))|(with_reducible refine Zm ?_)|(show QD _ _ _;rfl))|((with_reducible apply Zc hs);exact Ii;rfl;(with_reducible repeat first|exact Qh|apply Qk);rfl;rfl;(simp only[Uc,Uz]))|((with_reducible apply ZX hs);exact Ii;rfl;rfl;(with_reducible repeat first|exact Qh|apply Qk);(rfl);(exact Vb rfl);rfl;clear hs;intro w hs;simp only[Yg,Uc,Uz]at hs)|((with_reducible apply Qu (k:=0) hs);exact Ii;rfl;assumption;(with_reducible repeat first|exact Qh|apply Qk);(exact(Nat.add_zero _).symm);(assumption);(exact Vb rfl);rfl;rfl;(simp only[Uc,Uz]))|((with_reducible apply ZN hs);exact Ii;exact Ii;rfl;rfl;(with_reducible repeat first|exact Qh|apply Qk);(rfl);(assumption);rfl;intro b off hat;(simp only[Uc,Uz]))|((with_reducible apply Zp hs);exact Ii;rfl;(with_reducible repeat first|exact Qh|apply Qk);rfl;(simp only[Uc,Uz])))|((with_reducible apply wl_max);rfl;rfl;rfl;(simp only[Uc,Uz]))|(go_at_call 83;((refine((hCt.out _)).at hs (by (with_reducible repeat first|exact Qh|apply Qk)) ?_);clear hs;intro w hs;(try simp only[Em,Ma]at hs)))|(go_at_call 81;((refine(hPut.out).at hs (by (with_reducible repeat first|exact Qh|apply Qb|apply Qk)) ?_);clear hs;intro w hs;(try simp only[Em,Ma]at hs)))|((with_reducible refine Wp (id:=5) [.neu 0,.neu 1,.neu 2,.eff 3 [0,1],.eff 4 [],.neu 5,.eff 6 []] hs rfl ?_ ?_);kernel_rfl;clear hs;intro w hs)|((with_reducible refine Wp (id:=6) [.neu 0,.neu 1,.neu 2,.eff 3 [0,1],.eff 4 [],.neu 5,.eff 6 []] hs rfl ?_ ?_);kernel_rfl;clear hs;intro w hs)|((with_reducible refine Wp (id:=7) [.neu 0,.neu 1,.neu 2,.eff 3 [0,1],.eff 4 [],.neu 5,.eff 6 []] hs rfl ?_ ?_);kernel_rfl;clear hs;intro w hs)|((with_reducible refine Wp (id:=8) [.neu 0,.neu 1,.neu 2,.eff 3 [0,1],.eff 4 [],.neu 5,.eff 6 []] hs rfl ?_ ?_);kernel_rfl;clear hs;intro w hs)|((with_reducible refine Wp (id:=9) [.neu 0,.neu 1,.neu 2,.eff 3 [0,1],.eff 4 [],.neu 5,.eff 6 []] hs rfl ?_ ?_);kernel_rfl;clear hs;intro w hs)))|go_step|(dsimp only)))
   go_roundw
   case rel=>exact⟨k+1,sn',_,_,_,_,_,(by have:=hnL.out;omega),by simp,⟨hp3.out,hp4.out⟩,hsn2,by ((with_reducible apply Sat.fin hs);(with_reducible repeat first|exact Ql|exact Qh|apply Qb|apply Qk))⟩
   case measure=>have:=hnL.out;simp[intOf];omega
end
section
set_option maxHeartbeats 1000000
attribute [local irreducible] Go.Calls
section
variable {c:Cfg}{n:Nat}{y y':HW}
variable {pr:Int→Prop}{F:List Int}{t i:Nat}{cl:Cll}{se:Sea}{k:Zz}{Z Y:Int→Nat}{r1:RT}{pr1:Int→Prop}{F1:List Int}{r2:RT}{pr2:Int→Prop}{F2:List Int}
theorem rdy_q {h:Haz}{a:Are}{m:Mch}:Hc c m (Qj (h,a) m i t cl se k).2.2.1∧c5 (Qj (h,a) m i t cl se k).2.1.2≤c5 a:=by
 cases k with
 | pst p=>
  show Hc c m (Zq a m i t cl se p).2.2.1∧c5 (Zq a m i t cl se p).2.1≤c5 a
  have h1:∀q:Tak,Hc c m (Zk a m q).2.2.1∧c5 (Zk a m q).2.1≤c5 a:=by
   intro q
   unfold Zk
   simp only[]
   split
   ·exact⟨.refl _,Int.le_refl _⟩
   ·exact⟨.of rfl,c5_no { a with caches:=a.caches.set q.thread.toNat ((a.caches.getD q.thread.toNat []).take ((a.caches.getD q.thread.toNat []).length-1)) } _ _ (by omega)⟩
  unfold Zq
  simp only[]
  split
  ·obtain⟨g1,g2⟩:=h1 ⟨p.thread,1,0,0,0,false⟩
   refine⟨g1.trans ?_,g2⟩
   unfold ZE
   split
   ·exact .of rfl
   ·exact .refl _
  ·exact h1 _
 | _=>exact⟨.refl _,Int.le_refl _⟩
theorem SO_gv (SO:StepO c n pr F y t i cl se k Z Y r1 pr1 F1 r2 pr2 F2)(b1:r1.1=false):GvR r1.2.1.2 r1.2.2.2:=by
 intro s p hs h5 hg
 have D:=SO.h1.td b1
 have G:=SO.h1.gd
 have S:=D.scan s hs
 have hin:p.slot∈scnP s:=by unfold scnP;rw[if_pos h5,hg];exact List.mem_cons_self ..
 have h1:((rsx pr1 c r1).sl p.slot).state=5:=S.st _ hin
 have hK:p.slot∈rS r1:=by
  unfold rS
  rw[if_neg (by rw[b1];simp)]
  unfold Go.Proofs.YtegafhhdegnigaaGreat.hS hP
  rw[hs]
  exact List.mem_append_right _ hin
 obtain⟨g1,g2⟩:=G.range (s:=p.slot) (by have:=cpos hK;omega)
 refine⟨by rw[SO.h1.core.slots];omega,?_⟩
 have h1:(r1.2.1.2.sl p.slot).state=5:=h1
 unfold Are.sl at h1
 rw[if_pos g1]at h1
 exact h1
theorem sT_busy {y:HW}{t:Nat}{k:Zz}{se:Sea}(hk:y.tasks[t]? = some (some k))(hse:y.m.seats[t]? = some se):wT c y t=(if se.ready=true then alC c t y k else oneC c)∧sT c y t=(if se.ready=true then sk c (caL y t) k else c.Ca+3):=by
 unfold wT sT
 rw[hk,hse]
 exact⟨rfl,rfl⟩
theorem phi_step (P:PI c n y)(R:Q4 c n y)(hn:n<65536)(SO:StepO c n pr F y t i cl se k Z Y r1 pr1 F1 r2 pr2 F2)(hb:r2.1=false):Phi c (Qg y t i r2)+1≤Phi c y:=by
 have hok:=P.core.ok
 have hT1:=hok.T1
 have hS1:=hok.S1
 have hC1:=hok.C1
 have hTn:((c.T.toNat:Nat):Int)=c.T:=by omega
 have htk:=(List.getElem?_eq_some_iff.1 SO.hk).1
 have hst:=(List.getElem?_eq_some_iff.1 SO.hse).1
 have htT:=SO.htT
 obtain⟨b1,e2⟩:r1.1=false∧r2=Zn r1.2.1 r1.2.2.1 i t (getC r1.2.2.1 i) (getS r1.2.2.1 t) r1.2.2.2:=by
  rcases SO.stp with⟨w,e,_⟩|w
  ·rw[e,w]at hb;cases hb
  ·exact w
 have C1:=SO.h1.core
 have C2:=SO.h2.core
 have I1:=SO.h1.ti b1
 have G1:=SO.h1.gd
 have hgS:rS r1=hS r1.2.2.2:=by unfold rS;rw[if_neg (by rw[b1];simp)]
 rw[hgS]at G1
 have hl1:∀r:Nat,((r1.2.1.1.lists.getD r []).length:Int)≤c.Sl:=fun r=>G1.lists_le (by omega) r
 have cal:∀ {r:RT} {L S N:Nat},Core c L S N r.2.1.1 r.2.1.2 r.2.2.1→((r.2.1.2.caches.getD t []).length:Int)≤c.Ca:=by
  intro r L S N C
  have htc:t<r.2.1.2.caches.length:=by rw[C.caches];omega
  have hy:r.2.1.2.caches[t]? = some (r.2.1.2.caches.getD t []):=by rw[Yb,Yd htc];rfl
  exact C.clens _ (Yc hy)
 have hc1:=cal C1
 have hc2:=cal C2
 have H1:Hc c y.m r1.2.2.1∧c5 r1.2.1.2≤c5 y.s.2:=by
  rcases SO.rdy with⟨_,w⟩|⟨_,w,_⟩
  ·rw[w]
   have g:=rdy_q (c:=c) (i:=i) (t:=t) (cl:=cl) (se:={ se with ready:=true }) (k:=k) (h:=y.s.1) (a:=y.s.2) (m:=QG y t i se)
   exact⟨(Hc.of rfl).trans g.1,g.2⟩
  ·rw[w];exact⟨.of rfl,Int.le_refl _⟩
 have hbusy:=sT_busy (c:=c) SO.hk SO.hse
 have H2:coC c (r1.2.2.1.word (adr c 1 0)) (r1.2.2.1.word (adr c 2 0)) ((r1.2.1.2.caches.getD t []).length:Int) r1.2.2.2≤wT c y t∧sk c ((r1.2.1.2.caches.getD t []).length:Int) r1.2.2.2≤sT c y t:=by
  rw[hbusy.1,hbusy.2]
  rcases SO.rdy with⟨hf,w⟩|⟨hf,w,_⟩
  ·rw[if_neg (by rw[hf];simp),if_neg (by rw[hf];simp)]
   refine⟨?_,sk_le hC1 hc1⟩
   have:=co_2 hok I1 hc1 (fun s hs=>by
    by_cases h5:s.stage=5
    ·exact G1.pend_le (by omega) hs h5
    ·have key:=sci_of I1 hs
     have hp:s.pending=[]:=key.pend (by have:=key.stage;omega)
     rw[hp];simp;omega) (r1.2.2.1.word (adr c 1 0)) (r1.2.2.1.word (adr c 2 0))
   unfold oneC;omega
  ·rw[if_pos hf,if_pos hf,w]
   exact⟨Int.le_refl _,Int.le_refl _⟩
 have H3:coC c (r2.2.2.1.word (adr c 1 0)) (r2.2.2.1.word (adr c 2 0)) ((r2.2.1.2.caches.getD t []).length:Int) r2.2.2.2≤coC c (r1.2.2.1.word (adr c 1 0)) (r1.2.2.1.word (adr c 2 0)) ((r1.2.1.2.caches.getD t []).length:Int) r1.2.2.2-1:=by
  rw[e2]at C2 hb ⊢
  exact cost_step C1 htT I1 hl1 C2 hb
 have H4:Dn c r1.2.2.1 r1.2.1.2 r2.2.2.1 r2.2.1.2 (sk c ((r2.2.1.2.caches.getD t []).length:Int) r2.2.2.2-sk c ((r1.2.1.2.caches.getD t []).length:Int) r1.2.2.2):=by
  rw[e2]at hc2 hb ⊢
  exact dn_stp C1 htT I1 (SO_gv SO b1) hc2 hb
 obtain⟨z,q,v,c1,c2,c3,c4,c5',c6⟩:=SO.call
 have hseats:=(c5' hb).2
 have htasks:(Qg y t i r2).tasks=y.tasks.set t (some r2.2.2.2):=by
  show y.tasks.set t _=_
  rw[if_neg (by rw[hb];simp)]
 have hs':(Qg y t i r2).s=r2.2.1:=rfl
 have hm':(Qg y t i r2).m.mem.words=r2.2.2.1.mem.words:=by
  show(ZC _ _ _ _ _ _ _).mem.words=_
  unfold ZC
  split<;>rfl
 generalize hy':Qg y t i r2=y' at hseats htasks hs' hm'
 have hw':∀j,y'.m.word j=r2.2.2.1.word j:=fun j=>by unfold Mch.word;rw[hm']
 have own:=sT_busy (c:=c) (y:=y') (t:=t) (k:=r2.2.2.2) (se:={ se with ready:=true,kind:=q,value:=v }) (by rw[htasks,Ye htk]) (by rw[hseats,Ye hst])
 have oW:wT c y' t=coC c (r2.2.2.1.word (adr c 1 0)) (r2.2.2.1.word (adr c 2 0)) ((r2.2.1.2.caches.getD t []).length:Int) r2.2.2.2:=by
  rw[own.1,if_pos rfl]
  unfold alC
  rw[hw',hw',hs']
 have oS:sT c y' t=sk c ((r2.2.1.2.caches.getD t []).length:Int) r2.2.2.2:=by
  rw[own.2,if_pos rfl]
  unfold caL
  rw[hs']
 have hca:∀j,j≠t→y'.s.2.caches.getD j []=y.s.2.caches.getD j []:=by
  intro j hj
  have g1:r1.2.1.2.caches[j]? = y.s.2.caches[j]? := SO.rl1.ca j hj
  have g2:r2.2.1.2.caches[j]? = r1.2.1.2.caches[j]? := SO.rl2.ca j hj
  rw[hs',Yb,Yb,g2,g1]
 have othS:∀j,j≠t→sT c y' j=sT c y j:=by
  intro j hj
  unfold sT caL
  rw[htasks,hseats,Zx hj,Zx hj,hca j hj]
 have othW:∀j,j≠t→wT c y' j≤wT c y j+3:=by
  intro j hj
  unfold wT alC
  rw[htasks,hseats,Zx hj,Zx hj,hca j hj]
  split
  ·split
   ·exact coC_any _ _ _ _ _ _
   ·omega
  ·omega
 have othW0:Hc c r1.2.2.1 r2.2.2.1→∀j,j≠t→wT c y' j=wT c y j:=by
  intro hh j hj
  have g:=H1.1.trans hh
  unfold wT alC
  rw[htasks,hseats,Zx hj,Zx hj,hca j hj,hw',hw',g.1,g.2]
 have hc5:c5 y'.s.2=c5 r2.2.1.2:=by rw[hs']
 have sS:=sumT_one (f:=sT c y') (g:=sT c y) (t:=t) (d:=sT c y t-sT c y' t) (e:=0) (by omega) (n:=c.T.toNat) (by omega) (by omega) fun j _ hj=>by rw[othS j hj];omega
 rw[Int.mul_zero]at sS
 unfold Phi
 rw[hc5]
 rcases H4 with h4|⟨h4,hh⟩
 ·have sW:=sumT_one (f:=wT c y') (g:=wT c y) (t:=t) (d:=1) (e:=3) (by omega) (n:=c.T.toNat) (by omega) (by omega) fun j _ hj=>othW j hj
  rw[hTn]at sW
  have g:3*c.T*(c5 r2.2.1.2+sumT (sT c y') c.T.toNat)≤3*c.T*(c5 y.s.2+sumT (sT c y) c.T.toNat-1):=Int.mul_le_mul_of_nonneg_left (by omega) (by omega)
  rw[Int.mul_sub,Int.mul_one]at g
  omega
 ·have sW:=sumT_one (f:=wT c y') (g:=wT c y) (t:=t) (d:=1) (e:=0) (by omega) (n:=c.T.toNat) (by omega) (by omega) fun j _ hj=>by rw[othW0 hh j hj];omega
  have g:3*c.T*(c5 r2.2.1.2+sumT (sT c y') c.T.toNat)≤3*c.T*(c5 y.s.2+sumT (sT c y) c.T.toNat):=Int.mul_le_mul_of_nonneg_left (by omega) (by omega)
  omega
theorem phi_beg (P:PI c n y){mv0:Mv}{v vc:Value}(hk:y.tasks[t]? = some none):Phi c ⟨y.s,ZD y.m t mv0 v vc,y.tasks.set t (some k)⟩≤Phi c y:=by
 have hok:=P.core.ok
 have hT1:=hok.T1
 have hlt:=(List.getElem?_eq_some_iff.1 hk).1
 have hs:t<y.m.seats.length:=by rw[P.seats,←P.tasks];exact hlt
 have e0:wT c y t=oneC c∧sT c y t=c.Ca+3:=by unfold wT sT;rw[hk];exact⟨rfl,rfl⟩
 generalize hy':(⟨y.s,ZD y.m t mv0 v vc,y.tasks.set t (some k)⟩:HW)=y'
 have e1:∀j,wT c y' j≤wT c y j∧sT c y' j≤sT c y j:=by
  intro j
  subst hy'
  by_cases hj:j=t
  ·subst hj
   have g:=sT_busy (c:=c) (y:=⟨y.s,ZD y.m j mv0 v vc,y.tasks.set j (some k)⟩) (t:=j) (k:=k) (se:=⟨v,false,(y.m.calls.length:Int),1,0⟩) (by simp only[];rw[Ye hlt]) (by simp only[ZD];rw[Ye hs])
   rw[g.1,g.2,e0.1,e0.2]
   simp
  ·have g1:(y.tasks.set t (some k))[j]? = y.tasks[j]? := Zx hj
   have g2:(ZD y.m t mv0 v vc).seats[j]? = y.m.seats[j]? := by simp only[ZD];exact Zx hj
   unfold wT sT alC caL
   simp only[g1,g2]
   exact⟨Int.le_refl _,Int.le_refl _⟩
 have g1:=sumT_le (f:=wT c y') (g:=wT c y) (n:=c.T.toNat) fun j _=>(e1 j).1
 have g2:=sumT_le (f:=sT c y') (g:=sT c y) (n:=c.T.toNat) fun j _=>(e1 j).2
 have g3:c5 y'.s.2=c5 y.s.2:=by subst hy';rfl
 unfold Phi
 rw[g3]
 have g:3*c.T*(c5 y.s.2+sumT (sT c y') c.T.toNat)≤3*c.T*(c5 y.s.2+sumT (sT c y) c.T.toNat):=Int.mul_le_mul_of_nonneg_left (by omega) (by omega)
 omega
structure GapJ (c:Cfg)(n:Nat)(y:HW):Prop where
 now:gp y.m.mem.log y.m.calls n=0∨gp y.m.mem.log y.m.calls n+Phi c y≤phB c
 all:∀k,k≤n→gp y.m.mem.log y.m.calls k≤phB c+1
theorem GapJ.nowB {k':Int}(J:GapJ c n y)(P:PI c n y)(D:DI c pr F k' y):gp y.m.mem.log y.m.calls n+Phi c y≤phB c:=by
 have:=Phi_bd P D
 rcases J.now with h|h<;>omega
theorem GapJ.keep {k':Int}{y':HW}(J:GapJ c n y)(P:PI c n y)(R:Q4 c n y)(D:DI c pr F k' y)(hlg:y'.m.mem.log=y.m.mem.log)(hcs:∀m:Int,0≤m→(endA y'.m.calls m↔endA y.m.calls m))(hP:Phi c y'≤Phi c y):GapJ c (n+1) y':=by
 have hst:∀m:Int,0≤m→(stpA y'.m.mem.log y'.m.calls m↔stpA y.m.mem.log y.m.calls m):=fun m h0=>by
  unfold stpA
  rw[hlg]
  exact or_congr Iff.rfl (hcs m h0)
 have hg:∀k,gp y'.m.mem.log y'.m.calls k=gp y.m.mem.log y.m.calls k:=fun k=>gp_same fun m h0 _=>⟨hst m h0,hcs m h0⟩
 have hno:¬stpA y.m.mem.log y.m.calls n:=by
  rintro(⟨e,he,h⟩|⟨x,hx,h⟩)
  ·have:=R.llt e he;omega
  ·have h1:=(R.cl x hx).e
   have h2:=(R.cl x hx).b0
   omega
 have e1:=gp_no hno
 have hB:=J.nowB P D
 have h0:=Phi_bd P D
 refine⟨.inr (by rw[hg,e1];omega),fun k hk => ?_⟩
 rw[hg]
 by_cases e:k=n+1
 ·subst e;rw[e1];exact J.all n (Nat.le_refl _)
 ·exact J.all k (by omega)
theorem gapJ_ok (c:Cfg)(hok:c.Ok):JOk2 c (fun n _ y=>GapJ c n y):=by
 refine⟨fun km vs=>⟨.inl rfl,fun k hk => ?_⟩,fun n pr y hn P R ⟨F,D⟩ J => ?_,fun n pr y mv t k v vc hn P R ⟨F,D⟩ J ht htT hop hk hK hmk => ?_,fun n pr F y t i cl se k Z Y r1 pr1 F1 r2 pr2 F2 hn P R D SO R' J => ?_⟩
 ·have:k=0:=by omega
  subst this
  have:=Phi_bd (PI.start hok km vs) (DI.start hok km vs)
  show(0:Int)≤_
  omega
 ·exact J.keep (y':=y.tick) P R D rfl (fun _ _=>Iff.rfl) (Int.le_refl _)
 ·refine J.keep P R D rfl (fun m h0 => ?_) (phi_beg P hk)
  unfold endA
  simp only[ZD]
  constructor
  ·rintro⟨x,hx,h⟩
   rcases List.mem_append.1 hx with hx|hx
   ·exact⟨x,hx,h⟩
   ·simp at hx;subst hx;simp only[]at h;omega
  ·rintro⟨x,hx,h⟩
   exact⟨x,List.mem_append_left _ hx,h⟩
 ·obtain⟨z,q,v,c1,c2,c3,c4,c5',c6⟩:=SO.call
  have hlt:=(List.getElem?_eq_some_iff.1 SO.hc).1
  have hmv:=P.moves
  have hlog:∃l,(Qg y t i r2).m.mem.log=y.m.mem.log++l∧∀e∈l,e.move=(n:Int):=by
   obtain⟨l1,a1,a2⟩:=evo_log SO.ev1
   obtain⟨l2,a3,a4⟩:=evo_log SO.ev2
   have a5:=(evo_move SO.ev1).1
   have a6:(QG y t i se).mem.move=y.m.moves:=rfl
   have a7:(QG y t i se).mem.log=y.m.mem.log:=rfl
   simp only[rst]at a1 a2 a3 a4 a5
   refine⟨l1++l2,?_,fun e he => ?_⟩
   ·show(ZC _ _ _ _ _ _ _).mem.log=_
    have:∀x1 x2 x3 x4 x5 x6 x7,(ZC x1 x2 x3 x4 x5 x6 x7).mem.log=x1.mem.log:=by
     intro x1 x2 x3 x4 x5 x6 x7;unfold ZC;split<;>rfl
    rw[this,a3,a1,a7,List.append_assoc]
   ·rcases List.mem_append.1 he with h|h
    ·rw[a2 e h,a6,hmv]
    ·rw[a4 e h,a5,a6,hmv]
  obtain⟨l,l1,l2⟩:=hlog
  obtain⟨cl',d1,d2⟩:∃cl':Cll,(Qg y t i r2).m.calls=y.m.calls.set i cl'∧((r2.1=true∧cl'.end_=n)∨(r2.1=false∧cl'.end_ = -1)):=by
   by_cases hb:r2.1=true
   ·exact⟨_,c4 hb,.inl ⟨hb,hmv⟩⟩
   ·exact⟨_,(c5' (by simpa using hb)).1,.inr ⟨by simpa using hb,SO.end_⟩⟩
  have hen:∀m:Int,0≤m→m<n→(endA (Qg y t i r2).m.calls m↔endA y.m.calls m):=by
   intro m h0 h1
   unfold endA
   rw[d1]
   constructor
   ·rintro⟨x,hx,h⟩
    rcases ZZ hx with rfl|⟨j,_,hj⟩
    ·omega
    ·exact⟨x,Yc hj,h⟩
   ·rintro⟨x,hx,h⟩
    obtain⟨j,hj⟩:=List.getElem?_of_mem hx
    by_cases e:j=i
    ·subst e
     rw[SO.hc]at hj;cases hj
     have:=SO.end_;omega
    ·exact⟨x,Yc (i:=j) (by rw[Zx e];exact hj),h⟩
  have hst:∀m:Int,0≤m→m<n→(stpA (Qg y t i r2).m.mem.log (Qg y t i r2).m.calls m↔stpA y.m.mem.log y.m.calls m):=by
   intro m h0 h1
   unfold stpA
   refine or_congr ?_ (hen m h0 h1)
   rw[l1]
   constructor
   ·rintro⟨e,he,h⟩
    rcases List.mem_append.1 he with he|he
    ·exact⟨e,he,h⟩
    ·have:=l2 e he;omega
   ·rintro⟨e,he,h⟩
    exact⟨e,List.mem_append_left _ he,h⟩
  have hg:∀k,k≤n→gp (Qg y t i r2).m.mem.log (Qg y t i r2).m.calls k=gp y.m.mem.log y.m.calls k:=fun k hk=>gp_same fun m h0 h1=>⟨hst m h0 (by omega),hen m h0 (by omega)⟩
  have hB:=J.nowB P D
  have hPh:=Phi_bd P D
  have hup:=gp_up (Qg y t i r2).m.mem.log (Qg y t i r2).m.calls n
  rw[hg n (Nat.le_refl _)]at hup
  have key:gp (Qg y t i r2).m.mem.log (Qg y t i r2).m.calls (n+1)=0∨(r2.1=false∧Phi c (Qg y t i r2)+1≤Phi c y):=by
   rcases d2 with⟨hb,he⟩|⟨hb,_⟩
   ·exact .inl (gp_end ⟨cl',by rw[d1];exact Yc (Ye hlt),he⟩)
   ·exact .inr ⟨hb,phi_step P R hn SO hb⟩
  refine⟨?_,fun k hk => ?_⟩
  ·rcases key with h|⟨_,h⟩
   ·exact .inl h
   ·right;omega
  ·by_cases e:k=n+1
   ·subst e
    rcases key with h|⟨hb,h⟩
    ·omega
    ·omega
   ·rw[hg k (by omega)];exact J.all k (by omega)
end
end
section
set_option maxHeartbeats 1000000
attribute [local irreducible] Go.Calls
def FullAt (c:Cfg)(sl:List Slt)(t:Int):Prop:=∀s:Nat,(s:Int)<c.Sl→(sl.getD s ⟨0,0⟩).state≠0∧¬((sl.getD s ⟨0,0⟩).state=1∧(sl.getD s ⟨0,0⟩).holder=t)
def bef (sh:List Shf)(p:Int):List Shf:=sh.filter (fun x=>decide (x.move<p))
structure HonJ (c:Cfg)(n:Nat)(y:HW):Prop where
 hon:∀x∈y.m.calls,x.kind=4→0≤x.point→FullAt c (puts (s0 c) (bef y.m.shifts x.point)) x.thread
 npt:∀(t i:Nat) (k:Zz) (se:Sea) (cl:Cll),y.tasks[t]? = some (some k)→y.m.seats[t]? = some se→se.last=(i:Int)→y.m.calls[i]? = some cl→kd k≠22→kd k≠23→cl.point = -1
 pk:∀(t:Nat) (p:Pst) (se:Sea),y.tasks[t]? = some (some (.pst p))→y.m.seats[t]? = some se→se.kind=1
 ca:∀(t:Nat) (p:Pst) (se:Sea),y.tasks[t]? = some (some (.pst p))→y.m.seats[t]? = some se→se.ready=true→p.stage=0→y.s.2.caches.getD t []=[]
section
variable {t:Nat}{c:Cfg}{L S N:Nat}{h:Haz}{a:Are}{m m' m'':Mch}
theorem unr_calls (h:Haz)(a:Are)(m:Mch)(u:Unr):(Zg h a m u).2.2.2.1.calls=m.calls:=by
 unfold Zg
 simp only[]
 split
 ·split
  ·rfl
  ·split<;>rfl
 ·split
  ·split
   ·rfl
   ·split<;>exact(same_scan ..).calls
  ·split
   ·split
    ·rfl
    ·exact(same_flush ..).calls
   ·rfl
theorem reg_calls (h:Haz)(m:Mch)(t:Nat)(se:Sea)(r:Reg):(ZU h m t se r).2.2.1.calls=m.calls:=by
 have hN:∀m',(ZV h m' t se r).2.2.1.calls=m'.calls:=by
  intro m'
  unfold ZV
  split<;>rfl
 unfold ZU
 simp only[]
 split
 ·split
  ·rw[hN];rfl
  ·rfl
 ·split
  ·rfl
  ·rw[hN];rfl
theorem oth_calls {k:Zz}{i:Nat}{cl:Cll}{se:Sea}{s:Haz×Are}(h2:kd k≠22)(h3:kd k≠23):(Zn s m i t cl se k).2.2.1.calls=m.calls:=by
 cases k with
 | reg r=>exact reg_calls ..
 | unr u=>exact unr_calls ..
 | rdg r=>exact absurd rfl h3
 | clr ad=>rfl
 | scn s=>exact(same_scan ..).calls
 | pst p=>exact absurd rfl h2
theorem oth_rdy {k:Zz}{i:Nat}{cl:Cll}{se:Sea}{s:Haz×Are}(h2:kd k≠22):Qj s m i t cl se k=((Qj s m i t cl se k).1,s,m,(Qj s m i t cl se k).2.2.2):=by
 cases k with
 | pst p=>exact absurd rfl h2
 | _=>rfl
theorem post_full {p:Pst}{i:Nat}{cl:Cll}{se:Sea}(hc:h.c=c)(hac:a.c=c)(I:PoI c p)(h0:p.stage=0)(hf:(Zj h a m i t cl se p).1=true):m.word (adr c 1 0)%4294967296=0∧(Zj h a m i t cl se p).2.2.1=a:=by
 obtain⟨⟨k,e1,t0,_⟩,_⟩:=I
 have T:=t0 h0
 unfold Zj at hf ⊢
 rw[e1]at hf ⊢
 simp only[]at hf ⊢
 rw[if_pos h0]at hf ⊢
 by_cases h1:(Zi a m k).1=true
 ·rw[if_pos h1]at hf ⊢
  simp only[]at hf ⊢
  unfold ZE at hf
  by_cases h2:Zh (Zi a m k).2.2.2<0
  ·unfold Zi at h1 h2 ⊢
   rw[hac]at h1 h2 ⊢
   split at h1
   ·rename_i ha
    rw[if_pos ha]at h2 ⊢
    exact⟨by simpa using h1,rfl⟩
   ·rename_i ha
    rw[if_neg ha]at h2
    split at h1
    ·cases h1
    ·rename_i hb
     rw[if_neg hb]at h2
     simp only[]at h1 h2
     split at h1
     ·rename_i hw
      rw[if_pos hw]at h2
      unfold Q1 Zh at h2
      simp only[if_true]at h2
      have:=(T.head ha).2.1
      omega
     ·cases h1
  ·rw[if_neg h2]at hf;cases hf
 ·rw[if_neg h1]at hf;cases hf
end
section
variable {c:Cfg}{n:Nat}{y y':HW}
variable {pr:Int→Prop}{F:List Int}{t i:Nat}{cl:Cll}{se:Sea}{k:Zz}{Z Y:Int→Nat}{r1:RT}{pr1:Int→Prop}{F1:List Int}{r2:RT}{pr2:Int→Prop}{F2:List Int}
theorem full_at {Z Y:Int→Nat}{F:List Int}{L' S' N':Nat}{h:Haz}{a:Are}{m:Mch}{g:Int}{K K2:List Int}(C:Core c L' S' N' h a m)(G:Gd c g Z Y F (sx pr c h a m) K K2)(hK:∀s∈K,(a.sl s).state=2∨(a.sl s).state=5)(h0:m.word (adr c 1 0)%4294967296=0)(hca:a.caches.getD t []=[]):FullAt c a.slots (t:Int):=by
 have hF:F=[]:=by
  have hch:=G.chain
  have e:(sx pr c h a m).V.hd%4294967296=0:=h0
  rw[e]at hch
  cases F with
  | nil=>rfl
  | cons s r=>obtain⟨e1,e2,_⟩:=hch;omega
 intro s hs
 have hsl:a.sl (s:Int)=a.slots.getD s ⟨0,0⟩:=by unfold Are.sl;rw[if_pos (by omega),Yo]
 rw[←hsl]
 have ht:F.count (s:Int)+cnt2 a.caches (s:Int)+Z (s:Int)+K.count (s:Int)+ind (0≤(s:Int)∧(mv c m).cell=(s:Int)+1)+cnt2 h.lists (s:Int)=ind (0≤(s:Int)∧(s:Int)<c.Sl):=G.tot (s:Int)
 rw[ind_pos (p:=0≤(s:Int)∧(s:Int)<c.Sl) (by omega),hF,List.count_nil]at ht
 have key:(∃t':Nat,t'≠t∧a.sl (s:Int)=⟨1,(t':Int)⟩)∨(a.sl (s:Int)).state=2∨(a.sl (s:Int)).state=3∨(a.sl (s:Int)).state=5:=by
  rcases Nat.eq_zero_or_pos (cnt2 a.caches (s:Int)) with h2|h2
  ·rcases Nat.eq_zero_or_pos (Z (s:Int)) with h3|h3
   ·rcases Nat.eq_zero_or_pos (K.count (s:Int)) with h5|h5
    ·by_cases h4:0≤(s:Int)∧(mv c m).cell=(s:Int)+1
     ·exact .inr (.inr (.inl (G.stX (s:Int) h4.1 h4.2)))
     ·rw[Ja h4]at ht
      obtain⟨r,l,g1,g2⟩:=cnt2_pos (ls:=h.lists) (s:=(s:Int)) (by omega)
      exact .inr (.inr (.inr (G.stL l (Yc g1) _ g2)))
    ·rcases hK _ (List.count_pos_iff.1 h5) with h6|h6
     ·exact .inr (.inl h6)
     ·exact .inr (.inr (.inr h6))
   ·have h6:(a.sl (s:Int)).state=2∨(a.sl (s:Int)).state=5:=G.stZ _ h3
    rcases h6 with h6|h6
    ·exact .inr (.inl h6)
    ·exact .inr (.inr (.inr h6))
  ·obtain⟨t',l,g1,g2⟩:=cnt2_pos h2
   refine .inl ⟨t',fun e => ?_,G.stC t' l g1 _ g2⟩
   subst e
   rw[Yb,g1]at hca
   have:l=[]:=hca
   rw[this]at g2;simp at g2
 rcases key with⟨t',e1,e2⟩|h1|h1|h1
 ·rw[e2]
  exact⟨by simp,fun h=>by have:=h.2;simp only[]at this;omega⟩
 ·omega
 ·omega
 ·omega
theorem bef_add {sh ds:List Shf}{p:Int}(h:∀d∈ds,p≤d.move):bef (sh++ds) p=bef sh p:=by
 unfold bef
 rw[List.filter_append]
 have:ds.filter (fun x=>decide (x.move<p))=[]:=List.filter_eq_nil_iff.2 fun d hd=>by have:=h d hd;simp;omega
 rw[this,List.append_nil]
theorem bef_all {sh:List Shf}{p:Int}(h:∀d∈sh,d.move<p):bef sh p=sh:=List.filter_eq_self.2 fun d hd=>by simpa using h d hd
end
end
end Go.Proofs.YtegafhhdegnigaaGreat
