/-
  StackStill, walked.
-/
import Derived.Test.YtjagadldibbbbaaGreatCStkTV
set_option linter.all false
namespace Go.Proofs.YtjagadldibbbbaaGreat
open Go.RowKit Hp
set_option maxRecDepth 100000
set_option maxHeartbeats 4000000
attribute [local irreducible] Go.Calls Go.wpList
structure StW (V LK:Int)(S0:Nat)(lg:List Acc)(sh:List Shf):Prop where
 lsort:lg.Pairwise (fun x z=>x.move≤z.move)
 ssort:sh.Pairwise (fun x z=>x.move≤z.move)
 srng:∀d∈sh,0≤d.slot∧d.slot<(S0:Int)
 main:∀e∈lg,e.kind≠1→∀s,0≤s→s<(S0:Int)→e.addr=V+s∨e.addr=LK+s→stF (sh.filter (fun d=>decide (d.move<e.move))) (fun _=>0) s=2∨∃d∈sh,d.move=e.move∧d.slot=s∧d.to=2
def AtI (lg:List Acc)(sh:List Shf)(i k:Nat):Prop:=∀e,lg[i]? = some e→∀d∈sh.take k,d.move<e.move
theorem AtI.next {V LK:Int}{S0:Nat}{lg:List Acc}{sh:List Shf}(h:StW V LK S0 lg sh){i k:Nat}{e:Acc}(he:lg[i]? = some e)(H:∀d∈sh.take k,d.move<e.move):AtI lg sh (i+1) k:=by
 intro e' he' d hd
 obtain⟨h1,rfl⟩:=List.getElem?_eq_some_iff.1 he
 obtain⟨h2,rfl⟩:=List.getElem?_eq_some_iff.1 he'
 have:=List.pairwise_iff_getElem.1 h.lsort i (i+1) h1 h2 (by omega)
 have:=H d hd
 omega
theorem StW.ask {V LK:Int}{S0:Nat}{lg:List Acc}{sh:List Shf}(h:StW V LK S0 lg sh){i k s:Nat}{e:Acc}(he:lg[i]? = some e)(hk:e.kind≠1)(hs:s<S0)(ha:e.addr=V+s∨e.addr=LK+s)
  (h1:∀d∈sh.take k,d.move<e.move) (h2:∀d,sh[k]? = some d→¬d.move<e.move) :
  (stL sh S0 k)[s]? = some 2∨∃z,(stL sh S0 k)[s]? = some z∧(z != 2)=true∧∃i,Tkn sh k e.move s i:=by
 rw[stL_get hs]
 rcases h.main e (Yc he) hk s (by omega) (by omega) ha with q|q
 ·left
  rw[take_filter h.ssort h1 h2]at q
  rw[q]
 ·by_cases e2:stF (sh.take k) (fun _=>0) (s:Int)=2
  ·left;rw[e2]
  ·exact .inr ⟨_,rfl,by simpa using e2,tkn_of h.ssort h1 h2 q⟩
theorem stack_still (c:Cfg)(mvs:List Mv)(v:Value)(A:Zb)(hRd:Rd A 4 (mvs.map Mv.e) v):Zk Tryz.prog 5 #[c.v,v] A (.bool true) A:=by
 intro O w F hs
 have hAw:=Lh law_awake
 by_cases hfit:SFit c mvs
 ·have hF:=Lh (law_fits c mvs v hfit A hRd)
  have hP:=Lh (law_played c mvs hfit v (TtJ c) (st_start hfit.1) (st_ok c) A hRd)
  have hB1:=ref_base c hfit.1 11 (by omega) (by omega)
  have hB2:=ref_base c hfit.1 13 (by omega) (by omega)
  obtain⟨b1,b2,b8,b9,b10,b11,b12,b13,b14,rh,rh2,b3⟩:=Qp hfit.1
  have hS1:=hfit.1.S1
  have hS2:=hfit.1.S2
  have hV0:=(ZB hfit.1 11).1
  have hV1:base c 11<4294967296:=by have:=(ZB hfit.1 11).2;omega
  have hL1:base c 13<4294967296:=by have:=(ZB hfit.1 13).2;omega
  have hVL:base c 11+c.Sl≤base c 13:=by omega
  obtain⟨a0,c0,rfl⟩:=hRd.len
  simp only[List.length_map]at hF hP hs ⊢
  have hN2:=hfit.2
  clear hRd hfit b1 b2 b8 b9 b10 b11 b12 b13 b14 rh rh2 b3
  generalize mvs.length=N at *
  have hN2:=Lh hN2
  have hQ:Hid (∀y:GW Zt,PG (SI c) c N y∧TtJ c N y→StW (base c 11) (base c 13) c.Sl.toNat y.m.mem.log y.m.shifts∧y.m.mem.log.length<4294967296∧y.m.shifts.length<4294967296):=Lh (fun y hy=>by
   have hl:=hy.1.core.log
   have hsh:=hy.1.core.shifts
   have hn:=hN2.out
   have e:((c.Sl.toNat:Nat):Int)=c.Sl:=by omega
   refine⟨⟨hy.2.st.lsort,hy.2.st.ssort,by rw[e];exact hy.2.st.srng,by rw[e];exact hy.2.st.main⟩,by omega,by omega⟩)
  generalize base c 11=V at hQ hB1 hV0 hV1 hVL
  generalize base c 13=LK at hQ hB2 hL1 hVL
  have HB1:=Lh hB1
  have HB2:=Lh hB2
  clear hB1 hB2
  obtain⟨d1,d2,d3,d4,d5,d6,d7⟩:=c
  simp only[]at hS1 hS2 hVL hQ
  obtain⟨S0,hS0⟩:∃S0:Nat,d6=(S0:Int):=⟨d6.toNat,by omega⟩
  subst hS0
  simp only[Yo]at hQ
  go_enter Tryz.func5,Tryz.ntmps5
  (repeat'(first|(go_big_may;(first|((show wpList _ _ _ (Oper.mk (some 2) _ _ _ _ _::_) _ _);(with_reducible apply Zq hs);rfl;rfl;rfl;clear hs;intro w bC hs;(simp only[Uc,Uz]))|((show wpList _ _ _ (Oper.mk (some 5) _ _ _ _ _::_) _ _);(with_reducible apply Zv hs);exact Ii;rfl;clear hs;intro w bR hs;(simp only[Uc,Uz]))|(first|((with_reducible apply Zc hs);exact Ii;rfl;(with_reducible repeat first|exact Qh|apply Qk);rfl;rfl;(simp only[Uc,Uz]))|((with_reducible apply Qg hs);exact Ii;rfl;(with_reducible repeat first|exact Qh|apply Qk);rfl;rfl;(simp only[Uc,Uz]))|((with_reducible apply ZR hs);exact Ii;rfl;rfl;(with_reducible exact Qh);rfl;rfl;rfl;rfl;clear hs;intro w hs))|((with_reducible apply wl_mk hs);exact Ii;exact Ii;rfl;rfl;rfl;rfl;(rfl);omega;(exact Vb rfl);rfl;clear hs;intro w v hs;(simp only[Uc,Uz]))|(go_at_call 8;((refine(hF.out).at hs (by (with_reducible repeat first|exact Qh|apply Qk)) ?_);clear hs;intro w hs;(try simp only[Em,Ma]at hs)))|(go_at_call 13;first|((refine(HB1.out).at hs (by (focus((repeat(with_reducible exact Qn));done))) ?_);clear hs;intro w hs;(try simp only[Em,Ma]at hs))|((refine(HB2.out).at hs (by (focus((repeat(with_reducible exact Qn));done))) ?_);clear hs;intro w hs;(try simp only[Em,Ma]at hs)))|(go_at_call 10;((refine(hP.out).at hs (by (with_reducible exact Qh)) ?_);clear hs;intro v w hs;(try simp only[Em,Ma]at hs));(unfold playedR RunR at hs);(simp only[ZJ,Ma,Zz]at hs);(obtain⟨y,vr,⟨hy,rfl⟩,vc,vt,vs,vw,rfl,hs⟩:=hs);(obtain⟨a1,k1,rfl⟩:=Qi (hs.pull (A:=sl 42 9 _ vc) (by (with_reducible exact Qh))));(obtain⟨a2,k2,rfl⟩:=Qi (hs.pull (A:=sl 49 7 _ vt) (by (with_reducible repeat first|exact Qh|apply Qk))));(obtain⟨a3,k3,rfl⟩:=Qi (hs.pull (A:=sl 52 5 _ vs) (by (with_reducible repeat first|exact Qh|apply Qk))));(obtain⟨a4,k4,rfl⟩:=Qi (hs.pull (A:=sl 47 1 _ vw) (by (with_reducible repeat first|exact Qh|apply Qk))));(simp only[List.length_map]at hs ⊢))))|go_step|(dsimp only)))
  obtain⟨b8,m8,rfl⟩:=Qi (hs.pull (A:=sl 3 1 _ v) (by (with_reducible exact Qh)))
  simp only[List.length_replicate,Yo]at hs ⊢
  obtain⟨hq,hlc,hsc⟩:=hQ.out y hy
  clear hQ hP hF hy HB1 HB2 hAw hN2
  generalize y.m.calls=cs at hs ⊢
  generalize y.m.mem.log=lg at hs hq hlc ⊢
  generalize y.m.shifts=sh at hs hq hsc ⊢
  generalize y.m.mem.words=ws at hs ⊢
  have hq:=Lh hq
  go_loopw [10,11,12,13] (fun l10 q _ _ wr=>∃(i k:Nat),i≤lg.length∧k≤sh.length∧l10=.int .i64 (k:Int)∧q=.int .i64 (i:Int)∧Hid (AtI lg sh i k)∧Sat O wr (sl 3 1 ((stL sh S0 k).map eI) (.slice b8 S0 m8)*(pt bR (.cells #[.slice a1 cs.length k1,.slice a2 lg.length k2,.slice a3 sh.length k3,.slice a4 ws.length k4] 32)*(sl 49 7 (lg.map Acc.e) (.slice a2 lg.length k2)*(sl 52 5 (sh.map Shf.e) (.slice a3 sh.length k3)*(pt bC (.cells #[.int .i64 d1,.int .i64 d2,.int .i64 d3,.int .i64 d4,.int .i64 d5,.int .i64 (S0:Int),.int .i64 d7] 23)*(A*F))))))) (fun _ q _ _ _=>lg.length+1-(intOf q).toNat)
  case atStart=>
   refine⟨0,0,by omega,by omega,rfl,rfl,Lh (fun e _ d hd=>by simp at hd),?_⟩
   have e0:(stL sh S0 0).map eI=List.replicate S0 [.int .i64 0]:=by
    apply List.ext_getElem?
    intro j
    by_cases hj:j<S0
    ·rw[Ym,stL_get hj,List.getElem?_replicate,if_pos hj];rfl
    ·rw[List.getElem?_eq_none (by simp[stL];omega),List.getElem?_eq_none (by simp;omega)]
   rw[e0]
   ((with_reducible apply Sat.fin hs);(focus((repeat(first|with_reducible exact Ql|with_reducible exact Qh|with_reducible apply Qb|exact Qh|with_reducible apply Qk));done)))
  case round=>
   obtain⟨i,k,ki,kk,rfl,rfl,hat,hs⟩:=hrel
   by_cases hkr:i=lg.length
   ·subst hkr
    have hlt:decide ((lg.length:Int)<(lg.length:Int))=false:=by simp
    have hlt2:decide (lg.length<lg.length)=false:=by simp
    clear hat
    (repeat'(first|(go_big_may;(first|((with_reducible apply Zc hs);exact Ii;rfl;(with_reducible repeat first|exact Qh|apply Qk);rfl;rfl;(simp only[Uc,Uz]))|((with_reducible apply ZC hs);exact Ii;rfl;(with_reducible repeat first|exact Qh|apply Qk);rfl;(simp only[Uc,Uz]))))|go_step))
    (go_ret)
    exact⟨rfl,by ((with_reducible apply Sat.fin hs);(with_reducible repeat first|exact Ql|exact Qh|apply Qb|apply Qk))⟩
   ·have hil:i<lg.length:=by omega
    have hlt:decide ((i:Int)<(lg.length:Int))=true:=by simp;omega
    have hlt2:decide (i<lg.length)=true:=by simp;omega
    have hiw:i+1<4294967296:=by omega
    obtain⟨x,hx⟩:∃x,lg[i]? = some x:=⟨_,Yd hil⟩
    have HX:=Lh hx
    have HA:=Lh (hat.out x hx)
    obtain⟨x1,x2,x3,x4,x5,x6,x7⟩:=x
    have hg:(lg.map Acc.e)[i]? = some [.int .i64 x1,.int .i64 x2,.int .i64 x3,.int .i64 x4,.int .u64 x5,.int .u64 x6,.int .u64 x7]:=by simp[hx]
    have hin:i<(lg.map Acc.e).length:=by simpa using hil
    have HK:=Lh hil
    clear hkr hil hx hat
    simp only[]at HA
    (repeat'(first|(go_big_may;(first|((show wpList _ _ _ (Oper.mk (some 12) _ _ _ _ _::_) _ _);(with_reducible apply Zv hs);exact Ii;rfl;clear hs;intro w bA hs;(simp only[Uc,Uz]))|(first|((with_reducible apply Zc hs);exact Ii;rfl;(with_reducible repeat first|exact Qh|apply Qk);rfl;rfl;(simp only[Uc,Uz]))|((with_reducible apply ZR hs);exact Ii;rfl;rfl;(with_reducible exact Qh);rfl;rfl;rfl;rfl;clear hs;intro w hs)|((with_reducible apply wl_ldSN (k:=0) hs);exact Ii;rfl;assumption;(with_reducible repeat first|exact Qh|apply Qk);(exact(Nat.add_zero _).symm);(assumption);(exact Vb rfl);rfl;rfl;(simp only[Uc,Uz]))|((with_reducible apply ZS hs);exact Ii;exact Ii;rfl;rfl;(with_reducible repeat first|exact Qh|apply Qk);(rfl);(assumption);rfl;intro b off hat;(simp only[Uc,Uz]))|((with_reducible apply ZC hs);exact Ii;rfl;(with_reducible repeat first|exact Qh|apply Qk);rfl;(simp only[Uc,Uz])))))|go_step))
    go_loopw [10] (fun l10 wr=>∃(k:Nat),k≤sh.length∧l10=.int .i64 (k:Int)∧Hid (∀d∈sh.take k,d.move<x1)∧Sat O wr (sl 3 1 ((stL sh S0 k).map eI) (.slice b8 S0 m8)*(pt bA (.cells #[.int .i64 x1,.int .i64 x2,.int .i64 x3,.int .i64 x4,.int .u64 x5,.int .u64 x6,.int .u64 x7] 49)*(pt bR (.cells #[.slice a1 cs.length k1,.slice a2 lg.length k2,.slice a3 sh.length k3,.slice a4 ws.length k4] 32)*(sl 49 7 (lg.map Acc.e) (.slice a2 lg.length k2)*(sl 52 5 (sh.map Shf.e) (.slice a3 sh.length k3)*(pt bC (.cells #[.int .i64 d1,.int .i64 d2,.int .i64 d3,.int .i64 d4,.int .i64 d5,.int .i64 (S0:Int),.int .i64 d7] 23)*(A*F)))))))) (fun q _=>sh.length+1-(intOf q).toNat)
    case atStart=>exact⟨k,kk,rfl,HA,by ((with_reducible apply Sat.fin hs);(focus((repeat(first|with_reducible exact Ql|with_reducible exact Qh|with_reducible apply Qb|exact Qh|with_reducible apply Qk));done)))⟩
    case round=>
     clear HA kk
     obtain⟨k,kk,rfl,hA,hs⟩:=hrel
     have hcase:(k=sh.length∧decide ((k:Int)<(sh.length:Int))=false∧Hid (∀d,sh[k]? = some d→¬d.move<x1))∨(∃d,sh[k]? = some d∧d.move<x1)∨(∃d,sh[k]? = some d∧¬d.move<x1∧Hid (∀d,sh[k]? = some d→¬d.move<x1)):=by
      by_cases h:k=sh.length
      ·exact .inl ⟨h,by simp;omega,Lh (fun d hd=>by rw[List.getElem?_eq_none (by omega)]at hd;cases hd)⟩
      ·have he:sh[k]? = some sh[k]:=Yd (by omega)
       by_cases h2:sh[k].move<x1
       ·exact .inr (.inl ⟨_,he,h2⟩)
       ·exact .inr (.inr ⟨_,he,h2,Lh (fun d hd=>by rw[he]at hd;cases hd;exact h2)⟩)
     rcases hcase with⟨hkr,hlt3,hno⟩|⟨d,hd,hmv⟩|⟨d,hd,hmv,hno⟩
     case inr.inl=>
      have hkl:=(List.getElem?_eq_some_iff.1 hd).1
      have hlt3:decide ((k:Int)<(sh.length:Int))=true:=by simp;omega
      have hlt4:decide (k<sh.length)=true:=by simp;omega
      have hkn:k<(sh.map Shf.e).length:=by simpa using hkl
      have hnL:=Lh hkl
      have hkw:k+1<4294967296:=by omega
      have hA':Hid (∀z∈sh.take (k+1),z.move<x1):=Lh fun z hz=>by
       rw[List.take_add_one,hd]at hz
       rcases List.mem_append.1 hz with hz|hz
       ·exact hA.out z hz
       ·simp at hz;subst hz;exact hmv
      obtain⟨g1,g2⟩:=hq.out.srng d (Yc hd)
      obtain⟨s,hsl⟩:=Int.eq_ofNat_of_zero_le g1
      have hnx:=Lh (stL_next (S0:=S0) hd hsl)
      obtain⟨y1,y2,y3,y4,y5⟩:=d
      simp only[]at hsl hnx hmv g2
      subst hsl
      have hgv:(sh.map Shf.e)[k]? = some (Shf.e ⟨y1,y2,(s:Int),y4,y5⟩):=by rw[Ym,hd];rfl
      have c1:decide (y1<x1)=true:=by simpa using hmv
      have c2:decide ((s:Int)<0)=false:=by simp
      have c3:decide ((s:Int)≥(S0:Int))=false:=by simp;omega
      have c4:decide (S0≤s)=false:=by simp;omega
      have hsS:s<S0:=by omega
      have hsn:s<((stL sh S0 k).map eI).length:=by rw[List.length_map,stL_len];exact hsS
      obtain⟨z0,hz0⟩:∃z0,((stL sh S0 k).map eI)[s]? = some [.int .i64 z0]:=⟨_,by rw[Ym,stL_get hsS];rfl⟩
      clear hd hmv hkl hA g1 g2
      (repeat'(first|((with_reducible apply wl_pick);((simp only[ev,Ue,Uf]);rfl);((simp only[cond_true,cond_false,ev,Ue,Uf]);rfl);(with_reducible exact Q2);(simp only[Uc,Uz]))|(go_big_may;(first|(first|(first|(with_reducible refine NQ.mk ?_)|((with_reducible apply Zh);rfl;rfl)|((with_reducible apply Zr);rfl)|(with_reducible refine EQ.mk ?_ ?_)|(with_reducible exact Zg)|(with_reducible refine Zi ?_))|((with_reducible apply Zc hs);exact Ii;rfl;(with_reducible repeat first|exact Qh|apply Qk);rfl;rfl;(simp only[Uc,Uz]))|((with_reducible apply wl_ldS hs);exact Ii;rfl;assumption;(with_reducible repeat first|exact Qh|apply Qk);rfl;(assumption);rfl;rfl;(simp only[Uc,Uz]))|((with_reducible apply Zu hs);exact Ii;rfl;assumption;(with_reducible repeat first|exact Qh|apply Qk);rfl;(assumption);rfl;rfl;(simp only[Uc,Uz]))|((with_reducible apply QF hs);exact Ii;rfl;rfl;assumption;(with_reducible exact Qh);rfl;(assumption);(exact Vb rfl);(rfl);rfl;clear hs;intro w hs)|((with_reducible apply QZ hs);exact Ii;exact Ii;rfl;assumption;rfl;(with_reducible repeat first|exact Qh|apply Qk);(rfl);(assumption);rfl;(simp only[Uc,Uz]))|((with_reducible apply ZS hs);exact Ii;exact Ii;rfl;rfl;(with_reducible repeat first|exact Qh|apply Qk);(rfl);(assumption);rfl;intro b off hat;(simp only[Uc,Uz]))|((with_reducible apply ZC hs);exact Ii;rfl;(with_reducible repeat first|exact Qh|apply Qk);rfl;(simp only[Uc,Uz])))|((with_reducible refine Wp (id:=14) (Paz (Pbz (Pcz [.neu 15]))) hs rfl ?_ ?_);kernel_rfl;clear hs;intro w hs)|((with_reducible refine Wp (id:=15) (Paz (Pbz (Pcz [.neu 15,.neu 16,.neu 17]))) hs rfl ?_ ?_);kernel_rfl;clear hs;intro w hs)|((with_reducible refine Wp (id:=17) (Paz (Pbz [.neu 10,.neu 11,.neu 12,.neu 13,.eff 14 []])) hs rfl ?_ ?_);kernel_rfl;clear hs;intro w hs)))|go_guarded|go_step))
      have e9:((stL sh S0 k).map eI).set s [.int .i64 y5]=(stL sh S0 (k+1)).map eI:=by rw[hnx.out,Yk]
      try simp only[Uz]at hs
      rw[e9]at hs
      clear e9
      go_roundw
      case rel=>exact⟨k+1,by have:=hnL.out;omega,by simp,hA',by ((with_reducible apply Sat.fin hs);(with_reducible exact Ql))⟩
      case measure=>have:=hnL.out;simp[intOf];omega
     case' inr.inr=>
      have hkl:=(List.getElem?_eq_some_iff.1 hd).1
      have hlt3:decide ((k:Int)<(sh.length:Int))=true:=by simp;omega
      have hlt4:decide (k<sh.length)=true:=by simp;omega
      have hkn:k<(sh.map Shf.e).length:=by simpa using hkl
      obtain⟨y1,y2,y3,y4,y5⟩:=d
      have hgv:(sh.map Shf.e)[k]? = some (Shf.e ⟨y1,y2,y3,y4,y5⟩):=by rw[Ym,hd];rfl
      have c1:decide (y1<x1)=false:=by simpa using hmv
      clear hd hmv hkl
     case' inl=>
      have hlt4:decide (k<sh.length)=false:=by simp;omega
      clear hkr
     all_goals(
      have hAt:=Lh (AtI.next hq.out HX.out hA.out)
      by_cases hk1:x3=1
      ·subst hk1
       (repeat'(first|(((with_reducible apply QU);rfl;rfl;((simp only[ev,Ue,Uf]);rfl);rfl;(simp only[Uc,Uz]));(repeat(fail)))|((with_reducible apply wl_pick);((simp only[ev,Ue,Uf]);rfl);((simp only[cond_true,cond_false,ev,Ue,Uf]);rfl);(with_reducible exact Q2);(simp only[Uc,Uz]))|(go_big_may;(first|(first|(first|(with_reducible refine NQ.mk ?_)|((with_reducible apply Zh);rfl;rfl)|(with_reducible refine Zi ?_))|((with_reducible apply Zc hs);exact Ii;rfl;(with_reducible repeat first|exact Qh|apply Qk);rfl;rfl;(simp only[Uc,Uz]))|((with_reducible apply Zu hs);exact Ii;rfl;assumption;(with_reducible repeat first|exact Qh|apply Qk);rfl;(assumption);rfl;rfl;(simp only[Uc,Uz]))|((with_reducible apply ZS hs);exact Ii;exact Ii;rfl;rfl;(with_reducible repeat first|exact Qh|apply Qk);(rfl);(assumption);rfl;intro b off hat;(simp only[Uc,Uz]))|((with_reducible apply ZC hs);exact Ii;rfl;(with_reducible repeat first|exact Qh|apply Qk);rfl;(simp only[Uc,Uz])))|((with_reducible refine Wp (id:=14) (Paz (Pbz (Pcz [.neu 15]))) hs rfl ?_ ?_);kernel_rfl;clear hs;intro w hs)))|go_guarded|go_step))
       go_roundw
       case rel=>exact⟨i+1,k,by have:=HK.out;omega,kk,rfl,by simp,hAt,by ((with_reducible apply Sat.fin hs);(with_reducible repeat first|exact Ql|exact Qh|apply Qb|apply Qk))⟩
       case measure=>have:=HK.out;simp[intOf];omega
      ·have n3:(x3==1)=false:=by simpa using hk1
       have hAsk:=Lh (fun(s:Nat) (h1:s<S0) (h2:x4=V+s∨x4=LK+s)=>hq.out.ask HX.out hk1 h1 h2 hA.out hno.out)
       clear hk1 hno hA
       rcases st_case hVL x4 with⟨f1,f3⟩|⟨f1,f2,f3⟩|⟨f1,f2,f3,f4⟩|⟨s,hs0,ha,f1,f2,f3⟩|⟨s,hs0,ha,f1,f2,f3,f4⟩
       case' inl=>
        clear hAsk
        (repeat'(first|(((with_reducible apply QU);rfl;rfl;((simp only[ev,Ue,Uf]);rfl);rfl;(simp only[Uc,Uz]));(repeat((with_reducible apply QU);rfl;rfl;((simp only[ev,Ue,Uf]);rfl);rfl;(simp only[Uc,Uz]))))|((with_reducible apply wl_pick);((simp only[ev,Ue,Uf]);rfl);((simp only[cond_true,cond_false,ev,Ue,Uf]);rfl);(with_reducible exact Q2);(simp only[Uc,Uz]))|(go_big_may;(first|(first|(first|(with_reducible refine NQ.mk ?_)|((with_reducible apply Zh);rfl;rfl)|(with_reducible refine Zi ?_))|((with_reducible apply Zc hs);exact Ii;rfl;(with_reducible repeat first|exact Qh|apply Qk);rfl;rfl;(simp only[Uc,Uz]))|((with_reducible apply Zu hs);exact Ii;rfl;assumption;(with_reducible repeat first|exact Qh|apply Qk);rfl;(assumption);rfl;rfl;(simp only[Uc,Uz]))|((with_reducible apply ZS hs);exact Ii;exact Ii;rfl;rfl;(with_reducible repeat first|exact Qh|apply Qk);(rfl);(assumption);rfl;intro b off hat;(simp only[Uc,Uz]))|((with_reducible apply ZC hs);exact Ii;rfl;(with_reducible repeat first|exact Qh|apply Qk);rfl;(simp only[Uc,Uz])))|((with_reducible refine Wp (id:=14) (Paz (Pbz (Pcz [.neu 15]))) hs rfl ?_ ?_);kernel_rfl;clear hs;intro w hs)))|go_guarded|go_step))
        go_roundw
        case rel=>exact⟨i+1,k,by have:=HK.out;omega,kk,rfl,by simp,hAt,by ((with_reducible apply Sat.fin hs);(with_reducible repeat first|exact Ql|exact Qh|apply Qb|apply Qk))⟩
        case measure=>have:=HK.out;simp[intOf];omega
       case' inr.inl=>
        clear hAsk
        (repeat'(first|(((with_reducible apply QU);rfl;rfl;((simp only[ev,Ue,Uf]);rfl);rfl;(simp only[Uc,Uz]));(repeat((with_reducible apply QU);rfl;rfl;((simp only[ev,Ue,Uf]);rfl);rfl;(simp only[Uc,Uz]))))|((with_reducible apply wl_pick);((simp only[ev,Ue,Uf]);rfl);((simp only[cond_true,cond_false,ev,Ue,Uf]);rfl);(with_reducible exact Q2);(simp only[Uc,Uz]))|(go_big_may;(first|(first|(first|(with_reducible refine NQ.mk ?_)|((with_reducible apply Zh);rfl;rfl)|(with_reducible refine Zi ?_))|((with_reducible apply Zc hs);exact Ii;rfl;(with_reducible repeat first|exact Qh|apply Qk);rfl;rfl;(simp only[Uc,Uz]))|((with_reducible apply Zu hs);exact Ii;rfl;assumption;(with_reducible repeat first|exact Qh|apply Qk);rfl;(assumption);rfl;rfl;(simp only[Uc,Uz]))|((with_reducible apply ZS hs);exact Ii;exact Ii;rfl;rfl;(with_reducible repeat first|exact Qh|apply Qk);(rfl);(assumption);rfl;intro b off hat;(simp only[Uc,Uz]))|((with_reducible apply ZC hs);exact Ii;rfl;(with_reducible repeat first|exact Qh|apply Qk);rfl;(simp only[Uc,Uz])))|((with_reducible refine Wp (id:=14) (Paz (Pbz (Pcz [.neu 15]))) hs rfl ?_ ?_);kernel_rfl;clear hs;intro w hs)))|go_guarded|go_step))
        go_roundw
        case rel=>exact⟨i+1,k,by have:=HK.out;omega,kk,rfl,by simp,hAt,by ((with_reducible apply Sat.fin hs);(with_reducible repeat first|exact Ql|exact Qh|apply Qb|apply Qk))⟩
        case measure=>have:=HK.out;simp[intOf];omega
       case' inr.inr.inl=>
        clear hAsk
        (repeat'(first|(((with_reducible apply QU);rfl;rfl;((simp only[ev,Ue,Uf]);rfl);rfl;(simp only[Uc,Uz]));(repeat((with_reducible apply QU);rfl;rfl;((simp only[ev,Ue,Uf]);rfl);rfl;(simp only[Uc,Uz]))))|((with_reducible apply wl_pick);((simp only[ev,Ue,Uf]);rfl);((simp only[cond_true,cond_false,ev,Ue,Uf]);rfl);(with_reducible exact Q2);(simp only[Uc,Uz]))|(go_big_may;(first|(first|(first|(with_reducible refine NQ.mk ?_)|((with_reducible apply Zh);rfl;rfl)|(with_reducible refine Zi ?_))|((with_reducible apply Zc hs);exact Ii;rfl;(with_reducible repeat first|exact Qh|apply Qk);rfl;rfl;(simp only[Uc,Uz]))|((with_reducible apply Zu hs);exact Ii;rfl;assumption;(with_reducible repeat first|exact Qh|apply Qk);rfl;(assumption);rfl;rfl;(simp only[Uc,Uz]))|((with_reducible apply ZS hs);exact Ii;exact Ii;rfl;rfl;(with_reducible repeat first|exact Qh|apply Qk);(rfl);(assumption);rfl;intro b off hat;(simp only[Uc,Uz]))|((with_reducible apply ZC hs);exact Ii;rfl;(with_reducible repeat first|exact Qh|apply Qk);rfl;(simp only[Uc,Uz])))|((with_reducible refine Wp (id:=14) (Paz (Pbz (Pcz [.neu 15]))) hs rfl ?_ ?_);kernel_rfl;clear hs;intro w hs)))|go_guarded|go_step))
        go_roundw
        case rel=>exact⟨i+1,k,by have:=HK.out;omega,kk,rfl,by simp,hAt,by ((with_reducible apply Sat.fin hs);(with_reducible repeat first|exact Ql|exact Qh|apply Qb|apply Qk))⟩
        case measure=>have:=HK.out;simp[intOf];omega
       case' inr.inr.inr.inl=>have hsub:x4-V=(s:Int):=by omega
       case' inr.inr.inr.inr=>have hsub:x4-LK=(s:Int):=by omega
       all_goals(
        have hask:=hAsk.out s hs0 (by omega)
        have HS:=Lh hsub
        have hsn:s<((stL sh S0 k).map eI).length:=by rw[List.length_map,stL_len];exact hs0
        have hs1:decide ((s:Int)≥0)=true:=by simp
        have ha0:0≤x4:=by omega
        have ha1:x4<8589934592:=by omega
        clear hAsk ha hsub
        rcases hask with hz|⟨z,hz,hz2,i2,hT⟩
        ·have hgz:((stL sh S0 k).map eI)[s]? = some [.int .i64 2]:=by rw[Ym,hz];rfl
         clear hz
         (repeat'(first|(((with_reducible apply QU);rfl;rfl;((simp only[ev,Ue,Uf]);rfl);rfl;(simp only[Uc,Uz]));(repeat((with_reducible apply QU);rfl;rfl;((simp only[ev,Ue,Uf]);rfl);rfl;(simp only[Uc,Uz]))))|((with_reducible apply wl_pick);((simp only[ev,Ue,Uf]);rfl);((simp only[cond_true,cond_false,ev,Ue,Uf]);rfl);(with_reducible exact Q2);(simp only[Uc,Uz]))|(go_big_may;(first|(rw[HS.out])|(first|(first|(with_reducible refine NQ.mk ?_)|((with_reducible apply Zh);rfl;rfl)|(with_reducible refine Zi ?_))|((with_reducible apply Zc hs);exact Ii;rfl;(with_reducible repeat first|exact Qh|apply Qk);rfl;rfl;(simp only[Uc,Uz]))|((with_reducible apply Zu hs);exact Ii;rfl;assumption;(with_reducible repeat first|exact Qh|apply Qk);rfl;(assumption);rfl;rfl;(simp only[Uc,Uz]))|((with_reducible apply ZS hs);exact Ii;exact Ii;rfl;rfl;(with_reducible repeat first|exact Qh|apply Qk);(rfl);(assumption);rfl;intro b off hat;(simp only[Uc,Uz]))|((with_reducible apply ZC hs);exact Ii;rfl;(with_reducible repeat first|exact Qh|apply Qk);rfl;(simp only[Uc,Uz])))|((with_reducible refine Wp (id:=14) (Paz (Pbz (Pcz [.neu 15]))) hs rfl ?_ ?_);kernel_rfl;clear hs;intro w hs)))|go_guarded|go_step))
         go_roundw
         case rel=>exact⟨i+1,k,by have:=HK.out;omega,kk,rfl,by simp,hAt,by ((with_reducible apply Sat.fin hs);(with_reducible repeat first|exact Ql|exact Qh|apply Qb|apply Qk))⟩
         case measure=>have:=HK.out;simp[intOf];omega
        ·have hgz:((stL sh S0 k).map eI)[s]? = some [.int .i64 z]:=by rw[Ym,hz];rfl
         have HT:=Lh (law_taken sh (.slice a3 sh.length k3) hsc k i2 x1 s hT)
         clear hz hT
         (repeat'(first|(((with_reducible apply QU);rfl;rfl;((simp only[ev,Ue,Uf]);rfl);rfl;(simp only[Uc,Uz]));(repeat((with_reducible apply QU);rfl;rfl;((simp only[ev,Ue,Uf]);rfl);rfl;(simp only[Uc,Uz]))))|((with_reducible apply wl_pick);((simp only[ev,Ue,Uf]);rfl);((simp only[cond_true,cond_false,ev,Ue,Uf]);rfl);(with_reducible exact Q2);(simp only[Uc,Uz]))|(go_big_may;(first|(rw[HS.out])|(first|(first|(with_reducible refine NQ.mk ?_)|((with_reducible apply Zh);rfl;rfl)|(with_reducible refine Zi ?_))|((with_reducible apply Zc hs);exact Ii;rfl;(with_reducible repeat first|exact Qh|apply Qk);rfl;rfl;(simp only[Uc,Uz]))|((with_reducible apply Zu hs);exact Ii;rfl;assumption;(with_reducible repeat first|exact Qh|apply Qk);rfl;(assumption);rfl;rfl;(simp only[Uc,Uz]))|((with_reducible apply ZS hs);exact Ii;exact Ii;rfl;rfl;(with_reducible repeat first|exact Qh|apply Qk);(rfl);(assumption);rfl;intro b off hat;(simp only[Uc,Uz]))|((with_reducible apply ZC hs);exact Ii;rfl;(with_reducible repeat first|exact Qh|apply Qk);rfl;(simp only[Uc,Uz])))|(go_at_call 14;((refine(HT.out).at hs (by (with_reducible repeat first|exact Qh|apply Qk)) ?_);clear hs;intro w hs;(try simp only[Em,Ma]at hs)))|((with_reducible refine Wp (id:=14) (Paz (Pbz (Pcz [.neu 15]))) hs rfl ?_ ?_);kernel_rfl;clear hs;intro w hs)))|go_guarded|go_step|(dsimp only)))
         go_roundw
         case rel=>exact⟨i+1,k,by have:=HK.out;omega,kk,rfl,by simp,hAt,by ((with_reducible apply Sat.fin hs);(with_reducible repeat first|exact Ql|exact Qh|apply Qb|apply Qk))⟩
         case measure=>have:=HK.out;simp[intOf];omega))
 ·have hF:=Lh (law_fits_no c mvs v hfit A hRd)
  obtain⟨a0,c0,rfl⟩:=hRd.len
  simp only[List.length_map]at hF hs ⊢
  clear hRd hfit
  obtain⟨d1,d2,d3,d4,d5,d6,d7⟩:=c
  go_enter Tryz.func5,Tryz.ntmps5
  (repeat'(first|(go_big_may;(first|(first|((with_reducible apply Qg hs);exact Ii;rfl;(with_reducible exact Qh);rfl;rfl;(simp only[Uc,Uz]))|((with_reducible apply Zq hs);rfl;rfl;rfl;clear hs;intro w b hs;(simp only[Uc,Uz])))|(go_at_call 8;((refine(hF.out).at hs (by (with_reducible repeat first|exact Qh|apply Qk)) ?_);clear hs;intro w hs;(try simp only[Em,Ma]at hs)))|(go_at_call 9;((refine(hAw.out).at hs (by (focus((repeat(with_reducible exact Qn));done))) ?_);clear hs;intro w hs;(try simp only[Em,Ma]at hs)))))|go_step|(dsimp only)))
  (go_ret)
  exact⟨rfl,by ((with_reducible apply Sat.fin hs);(with_reducible repeat first|exact Ql|exact Qh|apply Qb|apply Qk))⟩
end Go.Proofs.YtjagadldibbbbaaGreat
