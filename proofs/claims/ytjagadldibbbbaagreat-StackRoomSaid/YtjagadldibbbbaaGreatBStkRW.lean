/-
  StackRoom, walked.
-/
import Derived.Test.YtjagadldibbbbaaGreatBCmp
set_option linter.all false
namespace Go.Proofs.YtjagadldibbbbaaGreat
open Go.RowKit Hp
set_option maxRecDepth 100000
set_option maxHeartbeats 4000000
attribute [local irreducible] Go.Calls Go.wpList
def rmL (T:Int)(lg:List Acc)(T0 k:Nat):List Int:=(List.range T0).map fun(th:Nat)=>(rmS T lg k).1 (th:Int)
theorem rmL_get {T:Int}{lg:List Acc}{T0 k th:Nat}(h:th<T0):(rmL T lg T0 k)[th]? = some ((rmS T lg k).1 th):=by
 simp[rmL,h]
theorem rm_case {T:Nat}{lg:List Acc}{T0 k:Nat}{e:Acc}(he:lg[k]? = some e)(h:RmOk T0 T lg k e):∃th:Nat,e.thread=(th:Int)∧th<T0 ∧
  (((e.addr != (T:Int))=true∧rmL T lg T0 (k+1)=rmL T lg T0 k∧(rmS T lg (k+1)).2=(rmS T lg k).2) ∨
   (e.addr=T∧e.kind=1∧rmL T lg T0 (k+1)=(rmL T lg T0 k).set th k∧(rmS T lg (k+1)).2=(rmS T lg k).2) ∨
   (e.addr=T∧e.kind=3∧e.saw=e.old∧rmL T lg T0 (k+1)=rmL T lg T0 k∧(rmS T lg (k+1)).2=k) ∨
   (e.addr=T∧e.kind=3∧(e.saw==e.old)=false∧decide ((rmS T lg k).2<(rmS T lg k).1 th)=false∧rmL T lg T0 (k+1)=rmL T lg T0 k∧(rmS T lg (k+1)).2=(rmS T lg k).2)):=by
 obtain⟨t0,t1,ht⟩:=h
 have hnx:rmS T lg (k+1)=rmNext T (rmS T lg k) k e:=by simp only[rmS,he]
 obtain⟨th,hth⟩:=Int.eq_ofNat_of_zero_le t0
 refine⟨th,hth,by omega,?_⟩
 by_cases ha:e.addr=T
 ·rcases ht ha with h1|⟨h3,hs|hl⟩
  ·refine .inr (.inl ⟨ha,h1,?_,?_⟩)
   ·unfold rmL
    rw[hnx]
    apply List.ext_getElem?
    intro j
    by_cases hj:j<T0
    ·rw[Ym,List.getElem?_range hj,List.getElem?_set]
     simp only[Option.map_some]
     unfold rmNext
     rw[if_neg (by simp[ha]),if_pos h1]
     simp only[hth]
     by_cases e1:th=j
     ·subst e1
      simp[hj]
     ·rw[if_neg (by omega),if_neg e1,Ym,List.getElem?_range hj]
      rfl
    ·rw[List.getElem?_eq_none (by simp;omega),List.getElem?_eq_none (by simp;omega)]
   ·rw[hnx]
    unfold rmNext
    rw[if_neg (by simp[ha]),if_pos h1]
  ·refine .inr (.inr (.inl ⟨ha,h3,hs,?_,?_⟩))
   ·unfold rmL
    rw[hnx]
    unfold rmNext
    rw[if_neg (by simp[ha]),if_neg (by omega),if_pos hs]
   ·rw[hnx]
    unfold rmNext
    rw[if_neg (by simp[ha]),if_neg (by omega),if_pos hs]
  ·by_cases hs:e.saw=e.old
   ·refine .inr (.inr (.inl ⟨ha,h3,hs,?_,?_⟩))
    ·unfold rmL
     rw[hnx]
     unfold rmNext
     rw[if_neg (by simp[ha]),if_neg (by omega),if_pos hs]
    ·rw[hnx]
     unfold rmNext
     rw[if_neg (by simp[ha]),if_neg (by omega),if_pos hs]
   ·refine .inr (.inr (.inr ⟨ha,h3,by simpa using hs,by rw[hth]at hl;simp;omega,?_,?_⟩))
    ·unfold rmL
     rw[hnx]
     unfold rmNext
     rw[if_neg (by simp[ha]),if_neg (by omega),if_neg hs]
    ·rw[hnx]
     unfold rmNext
     rw[if_neg (by simp[ha]),if_neg (by omega),if_neg hs]
 ·refine .inl ⟨by simpa using ha,?_,?_⟩
  ·unfold rmL
   rw[hnx]
   unfold rmNext
   rw[if_pos ha]
  ·rw[hnx]
   unfold rmNext
   rw[if_pos ha]
theorem stack_room (c:Cfg)(mvs:List Mv)(v:Value)(A:Za)(hRd:Rd A 4 (mvs.map Mv.e) v):Zf Tryz.prog 6 #[c.v,v] A (.bool true) A:=by
 intro O w F hs
 have hAw:=Lh law_awake
 by_cases hfit:SFit c mvs
 ·have hF:=Lh (law_fits c mvs v hfit A hRd)
  have hP:=Lh (law_played c mvs hfit v (RmJ c) (rm_start c) (rm_ok c) A hRd)
  have hB:=ref_base c hfit.1 3 (by omega) (by omega)
  have hTA:=adr_i hfit.1 3 (Int.le_refl 0)
  rw[show base c 3=((adr c 3 0:Nat):Int) by omega]at hB
  have hT1:=hfit.1.T1
  have hT2:=hfit.1.T2
  obtain⟨a0,c0,rfl⟩:=hRd.len
  simp only[List.length_map]at hF hP hs ⊢
  have hN2:=hfit.2
  clear hRd hfit hTA
  generalize mvs.length=N at *
  have hN2:=Lh hN2
  have hQ:Hid (∀y:GW ZK,PG (SI c) c N y∧RmJ c N y→∀j e,y.m.mem.log[j]? = some e→RmOk c.T (adr c 3 0:Nat) y.m.mem.log j e):=Lh (fun y hy=>hy.2.rm.ok)
  generalize adr c 3 0=TP at hQ hB
  have HB:=Lh hB
  clear hB
  obtain⟨d1,d2,d3,d4,d5,d6,d7⟩:=c
  simp only[]at hT1 hT2
  obtain⟨T0,hT0⟩:∃T0:Nat,d1=(T0:Int):=⟨d1.toNat,by omega⟩
  subst hT0
  go_enter Tryz.func6,Tryz.ntmps6
  go_wp2_with (first|((show wpList _ _ _ (Oper.mk (some 2) _ _ _ _ _::_) _ _);(with_reducible apply Zo hs);rfl;rfl;rfl;clear hs;intro w bC hs;(simp only[Uc,Uz]))|((show wpList _ _ _ (Oper.mk (some 5) _ _ _ _ _::_) _ _);(with_reducible apply Zr hs);exact Ii;rfl;clear hs;intro w bR hs;(simp only[Uc,Uz]))|(first|((with_reducible apply Zb hs);exact Ii;rfl;(with_reducible repeat first|exact Qh|apply Qk);rfl;rfl;(simp only[Uc,Uz]))|((with_reducible apply Z4 hs);exact Ii;rfl;(with_reducible repeat first|exact Qh|apply Qk);rfl;rfl;(simp only[Uc,Uz]))|((with_reducible apply ZJ hs);exact Ii;rfl;rfl;(with_reducible exact Qh);rfl;rfl;rfl;rfl;clear hs;intro w hs))|((with_reducible apply wl_mk hs);exact Ii;exact Ii;rfl;rfl;rfl;rfl;(rfl);omega;(exact Vb rfl);rfl;clear hs;intro w v hs;(simp only[Uc,Uz]))|(go_at_call 8;((refine(hF.out).at hs (by (with_reducible repeat first|exact Qh|apply Qk)) ?_);clear hs;intro w hs;(try simp only[Em,Ma]at hs)))|(go_at_call 13;((refine(HB.out).at hs (by (focus((repeat(with_reducible exact Qn));done))) ?_);clear hs;intro w hs;(try simp only[Em,Ma]at hs)))|(go_at_call 10;((refine(hP.out).at hs (by (with_reducible exact Qh)) ?_);clear hs;intro v w hs;(try simp only[Em,Ma]at hs));(unfold playedR RunR at hs);(simp only[ZB,Ma,Zx]at hs);(obtain⟨y,vr,⟨hy,rfl⟩,vc,vt,vs,vw,rfl,hs⟩:=hs);(obtain⟨a1,k1,rfl⟩:=Z6 (hs.pull (A:=sl 42 9 _ vc) (by (with_reducible exact Qh))));(obtain⟨a2,k2,rfl⟩:=Z6 (hs.pull (A:=sl 49 7 _ vt) (by (with_reducible repeat first|exact Qh|apply Qk))));(obtain⟨a3,k3,rfl⟩:=Z6 (hs.pull (A:=sl 52 5 _ vs) (by (with_reducible repeat first|exact Qh|apply Qk))));(obtain⟨a4,k4,rfl⟩:=Z6 (hs.pull (A:=sl 47 1 _ vw) (by (with_reducible repeat first|exact Qh|apply Qk))));(simp only[List.length_map]at hs ⊢)))
  obtain⟨b8,m8,rfl⟩:=Z6 (hs.pull (A:=sl 3 1 _ v) (by (with_reducible exact Qh)))
  simp only[List.length_replicate,Yo]at hs ⊢
  have hq:=hQ.out y hy
  have hlc:y.m.mem.log.length<4294967296:=by have:=hy.1.core.log;have:=hN2.out;omega
  clear hQ hP hF hy HB
  generalize y.m.calls=cs at hs ⊢
  generalize y.m.mem.log=lg at hs hq hlc ⊢
  generalize y.m.shifts=sh at hs ⊢
  generalize y.m.mem.words=ws at hs ⊢
  have hq:=Lh hq
  go_loopw [9,10] (fun l9 q wr=>∃(k:Nat) (ls:List Int),k≤lg.length∧l9=.int .i64 (rmS TP lg k).2∧q=.int .i64 (k:Int)∧Hid (ls=rmL TP lg T0 k)∧ls.length=T0∧Sat O wr (sl 3 1 (ls.map eI) (.slice b8 T0 m8)*(pt bR (.cells #[.slice a1 cs.length k1,.slice a2 lg.length k2,.slice a3 sh.length k3,.slice a4 ws.length k4] 32)*(sl 49 7 (lg.map Acc.e) (.slice a2 lg.length k2)*(pt bC (.cells #[.int .i64 (T0:Int),.int .i64 d2,.int .i64 d3,.int .i64 d4,.int .i64 d5,.int .i64 d6,.int .i64 d7] 23)*(A*F)))))) (fun _ q _=>lg.length+1-(intOf q).toNat)
  case atStart=>
   refine⟨0,List.replicate T0 0,by omega,rfl,rfl,Lh ?_,by simp,by rw[List.map_replicate];((with_reducible apply Sat.fin hs);(focus((repeat(first|with_reducible exact Ql|with_reducible exact Qh|with_reducible apply Qb|exact Qh|with_reducible apply Qk));done)))⟩
   apply List.ext_getElem?
   intro j
   by_cases hj:j<T0
   ·rw[rmL_get hj]
    simp[rmS,hj]
   ·rw[List.getElem?_eq_none (by simp;omega),List.getElem?_eq_none (by simp[rmL];omega)]
  case round=>
   obtain⟨k,ls,kl,rfl,rfl,hls,hll,hs⟩:=hrel
   by_cases hkr:k=lg.length
   ·subst hkr
    have hlt:decide ((lg.length:Int)<(lg.length:Int))=false:=by simp
    have hlt2:decide (lg.length<lg.length)=false:=by simp
    clear hll
    go_wp2_with (first|((with_reducible apply Zb hs);exact Ii;rfl;(with_reducible repeat first|exact Qh|apply Qk);rfl;rfl;(simp only[Uc,Uz]))|((with_reducible apply ZF hs);exact Ii;rfl;(with_reducible repeat first|exact Qh|apply Qk);rfl;(simp only[Uc,Uz])))
    (go_ret)
    exact⟨rfl,by ((with_reducible apply Sat.fin hs);(with_reducible repeat first|exact Ql|exact Qh|apply Qb|apply Qk))⟩
   ·have hkl:k<lg.length:=by omega
    have hlt:decide ((k:Int)<(lg.length:Int))=true:=by simp;omega
    have hlt2:decide (k<lg.length)=true:=by simp;omega
    have hkw:k+1<4294967296:=by omega
    obtain⟨x,hx⟩:∃x,lg[k]? = some x:=⟨_,Yd hkl⟩
    obtain⟨th,hth,hthl,hX⟩:=rm_case hx (hq.out k x hx)
    obtain⟨x1,x2,x3,x4,x5,x6,x7⟩:=x
    simp only[]at hth hX
    subst hth
    have hg:(lg.map Acc.e)[k]? = some [.int .i64 x1,.int .i64 (th:Int),.int .i64 x3,.int .i64 x4,.int .u64 x5,.int .u64 x6,.int .u64 x7]:=by simp[hx]
    have hil:k<(lg.map Acc.e).length:=by simpa using hkl
    have HK:=Lh hkl
    have hgl:ls[th]? = some ((rmS TP lg k).1 th):=by rw[hls.out];exact rmL_get hthl
    have hgm:(ls.map eI)[th]? = some [.int .i64 ((rmS TP lg k).1 th)]:=by rw[Ym,hgl];rfl
    have hlm:(ls.map eI).length=T0:=by simpa using hll
    have htl:th<(ls.map eI).length:=by omega
    have n1:decide ((th:Int)<0)=false:=by simp
    have n2:decide ((th:Int)≥(T0:Int))=false:=by simp;omega
    have n3:decide (T0≤th)=false:=by simp;omega
    have HL:=Lh hll
    clear hkr hkl hx hgl hll
    rcases hX with⟨h4,e1,e2⟩|⟨rfl,rfl,e1,e2⟩|⟨rfl,rfl,rfl,e1,e2⟩|⟨rfl,rfl,h7,h8,e1,e2⟩
    ·have E1:=Lh e1
     have E2:=Lh e2
     clear e1 e2
     go_wp2_with (first|((with_reducible apply Zb hs);exact Ii;rfl;(with_reducible repeat first|exact Qh|apply Qk);rfl;rfl;(simp only[Uc,Uz]))|((with_reducible apply ZJ hs);exact Ii;rfl;rfl;(with_reducible exact Qh);rfl;rfl;rfl;rfl;clear hs;intro w hs)|((with_reducible apply Zr hs);exact Ii;rfl;clear hs;intro w b hs;(simp only[Uc,Uz]))|((with_reducible apply wl_ldSN (k:=0) hs);exact Ii;rfl;assumption;(with_reducible repeat first|exact Qh|apply Qk);(exact(Nat.add_zero _).symm);(assumption);(exact Vb rfl);rfl;rfl;(simp only[Uc,Uz]))|((with_reducible apply ZS hs);exact Ii;exact Ii;rfl;rfl;(with_reducible repeat first|exact Qh|apply Qk);(rfl);(assumption);rfl;intro b off hat;(simp only[Uc,Uz]))|((with_reducible apply ZF hs);exact Ii;rfl;(with_reducible repeat first|exact Qh|apply Qk);rfl;(simp only[Uc,Uz])))
     go_roundw
     case rel=>exact⟨k+1,ls,by have:=HK.out;omega,by rw[E2.out],by simp,Lh (by rw[E1.out];exact hls.out),HL.out,by ((with_reducible apply Sat.fin hs);(with_reducible repeat first|exact Ql|exact Qh|apply Qb|apply Qk))⟩
     case measure=>have:=HK.out;simp[intOf];omega
    ·have E1:=Lh e1
     have E2:=Lh e2
     clear e1 e2
     go_wp2_with (first|((with_reducible apply Zb hs);exact Ii;rfl;(with_reducible repeat first|exact Qh|apply Qk);rfl;rfl;(simp only[Uc,Uz]))|((with_reducible apply ZJ hs);exact Ii;rfl;rfl;(with_reducible exact Qh);rfl;rfl;rfl;rfl;clear hs;intro w hs)|((with_reducible apply Zr hs);exact Ii;rfl;clear hs;intro w b hs;(simp only[Uc,Uz]))|((with_reducible apply Qp hs);exact Ii;rfl;rfl;assumption;(with_reducible repeat first|exact Qh|apply Qk);rfl;(assumption);(exact Vb rfl);(rfl);rfl;clear hs;intro w hs)|((with_reducible apply wl_ldSN (k:=0) hs);exact Ii;rfl;assumption;(with_reducible repeat first|exact Qh|apply Qk);(exact(Nat.add_zero _).symm);(assumption);(exact Vb rfl);rfl;rfl;(simp only[Uc,Uz]))|((with_reducible apply ZS hs);exact Ii;exact Ii;rfl;rfl;(with_reducible repeat first|exact Qh|apply Qk);(rfl);(assumption);rfl;intro b off hat;(simp only[Uc,Uz]))|((with_reducible apply ZF hs);exact Ii;rfl;(with_reducible repeat first|exact Qh|apply Qk);rfl;(simp only[Uc,Uz])))
     have e9:(ls.map eI).set th [.int .i64 (k:Int)]=(ls.set th (k:Int)).map eI:=by rw[Yk]
     simp only[Uz]at hs
     rw[e9]at hs
     clear e9
     go_roundw
     case rel=>exact⟨k+1,ls.set th (k:Int),by have:=HK.out;omega,by rw[E2.out],by simp,Lh (by rw[E1.out,hls.out]),by rw[List.length_set];exact HL.out,by ((with_reducible apply Sat.fin hs);(with_reducible repeat first|exact Ql|exact Qh|apply Qb|apply Qk))⟩
     case measure=>have:=HK.out;simp[intOf];omega
    ·have E1:=Lh e1
     have E2:=Lh e2
     clear e1 e2
     go_wp2_with (first|((with_reducible apply Zb hs);exact Ii;rfl;(with_reducible repeat first|exact Qh|apply Qk);rfl;rfl;(simp only[Uc,Uz]))|((with_reducible apply ZJ hs);exact Ii;rfl;rfl;(with_reducible exact Qh);rfl;rfl;rfl;rfl;clear hs;intro w hs)|((with_reducible apply Zr hs);exact Ii;rfl;clear hs;intro w b hs;(simp only[Uc,Uz]))|((with_reducible apply wl_ldSN (k:=0) hs);exact Ii;rfl;assumption;(with_reducible repeat first|exact Qh|apply Qk);(exact(Nat.add_zero _).symm);(assumption);(exact Vb rfl);rfl;rfl;(simp only[Uc,Uz]))|((with_reducible apply ZS hs);exact Ii;exact Ii;rfl;rfl;(with_reducible repeat first|exact Qh|apply Qk);(rfl);(assumption);rfl;intro b off hat;(simp only[Uc,Uz]))|((with_reducible apply ZF hs);exact Ii;rfl;(with_reducible repeat first|exact Qh|apply Qk);rfl;(simp only[Uc,Uz])))
     go_roundw
     case rel=>exact⟨k+1,ls,by have:=HK.out;omega,by rw[E2.out],by simp,Lh (by rw[E1.out];exact hls.out),HL.out,by ((with_reducible apply Sat.fin hs);(with_reducible repeat first|exact Ql|exact Qh|apply Qb|apply Qk))⟩
     case measure=>have:=HK.out;simp[intOf];omega
    ·have E1:=Lh e1
     have E2:=Lh e2
     clear e1 e2
     go_wp2_with (first|((with_reducible apply Zb hs);exact Ii;rfl;(with_reducible repeat first|exact Qh|apply Qk);rfl;rfl;(simp only[Uc,Uz]))|((with_reducible apply ZJ hs);exact Ii;rfl;rfl;(with_reducible exact Qh);rfl;rfl;rfl;rfl;clear hs;intro w hs)|((with_reducible apply Zr hs);exact Ii;rfl;clear hs;intro w b hs;(simp only[Uc,Uz]))|((with_reducible apply Zy hs);exact Ii;rfl;assumption;(with_reducible repeat first|exact Qh|apply Qk);rfl;(assumption);rfl;rfl;(simp only[Uc,Uz]))|((with_reducible apply wl_ldSN (k:=0) hs);exact Ii;rfl;assumption;(with_reducible repeat first|exact Qh|apply Qk);(exact(Nat.add_zero _).symm);(assumption);(exact Vb rfl);rfl;rfl;(simp only[Uc,Uz]))|((with_reducible apply ZS hs);exact Ii;exact Ii;rfl;rfl;(with_reducible repeat first|exact Qh|apply Qk);(rfl);(assumption);rfl;intro b off hat;(simp only[Uc,Uz]))|((with_reducible apply ZF hs);exact Ii;rfl;(with_reducible repeat first|exact Qh|apply Qk);rfl;(simp only[Uc,Uz])))
     go_roundw
     case rel=>exact⟨k+1,ls,by have:=HK.out;omega,by rw[E2.out],by simp,Lh (by rw[E1.out];exact hls.out),HL.out,by ((with_reducible apply Sat.fin hs);(with_reducible repeat first|exact Ql|exact Qh|apply Qb|apply Qk))⟩
     case measure=>have:=HK.out;simp[intOf];omega
 ·have hF:=Lh (law_fits_no c mvs v hfit A hRd)
  obtain⟨a0,c0,rfl⟩:=hRd.len
  simp only[List.length_map]at hF hs ⊢
  clear hRd hfit
  obtain⟨d1,d2,d3,d4,d5,d6,d7⟩:=c
  go_enter Tryz.func6,Tryz.ntmps6
  go_wp2_with (first|(first|((with_reducible apply Z4 hs);exact Ii;rfl;(with_reducible exact Qh);rfl;rfl;(simp only[Uc,Uz]))|((with_reducible apply Zo hs);rfl;rfl;rfl;clear hs;intro w b hs;(simp only[Uc,Uz])))|(go_at_call 8;((refine(hF.out).at hs (by (with_reducible repeat first|exact Qh|apply Qk)) ?_);clear hs;intro w hs;(try simp only[Em,Ma]at hs)))|(go_at_call 9;((refine(hAw.out).at hs (by (focus((repeat(with_reducible exact Qn));done))) ?_);clear hs;intro w hs;(try simp only[Em,Ma]at hs))))
  (go_ret)
  exact⟨rfl,by ((with_reducible apply Sat.fin hs);(with_reducible repeat first|exact Ql|exact Qh|apply Qb|apply Qk))⟩
end Go.Proofs.YtjagadldibbbbaaGreat
