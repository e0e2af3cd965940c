/-
  HazardBounds: the greatest number of steps in a row without an end, walked.
-/
import Derived.Test.YtegafhhdegnigaaGreatEBnd3
import Derived.Test.YtegafhhdegnigaaGreatENew3
import Derived.Test.YtegafhhdegnigaaGreatEInv5
import Derived.Test.YtegafhhdegnigaaGreatELst
import Derived.Test.YtegafhhdegnigaaGreatECen5
set_option linter.all false
namespace Go.Proofs.YtegafhhdegnigaaGreat
open Go.RowKit Hp
set_option maxRecDepth 100000
section
set_option maxHeartbeats 8000000
attribute [local irreducible] Go.Calls Go.wpList
theorem gp_gap {lg:List Acc}{cs:List Cll}{a:Nat}:∀ {b:Nat},a≤b→(∀k:Nat,a≤k→k<b→¬stpA lg cs k)→gp lg cs b=gp lg cs a
 | 0,h,_=>by
  have:a=0:=by omega
  subst this;rfl
 | b+1,h,hn=>by
  by_cases e:a=b+1
  ·subst e;rfl
  ·rw[gp_no (hn b (by omega) (by omega))]
   exact gp_gap (by omega) fun k h1 h2=>hn k h1 (by omega)
structure GapQ (lg:List Acc)(cs:List Cll)(N:Nat)(B:Int):Prop where
 gap:∀k,k≤N→gp lg cs k≤B
 b0:0≤B
 srt:lg.Pairwise (fun x y=>x.move<y.move)
 lm:∀e∈lg,0≤e.move∧e.move<N
 cm:∀x∈cs,x.end_ = -1∨0≤x.end_∧x.end_<N
structure LstI (lg:List Acc)(cs:List Cll)(N:Nat)(mv:Int)(i:Nat)(l:Int):Prop where
 no:l<0→l = -1∧(∀e∈lg,e.move≤mv)∧∀x∈cs.take i,x.end_≤mv
 yes:0≤l→mv<l∧l<N∧stpA lg cs l∧(∀e∈lg,mv<e.move→l≤e.move)∧∀x∈cs.take i,mv<x.end_→l≤x.end_
section
variable {lg:List Acc}{cs:List Cll}{N:Nat}{B mv l:Int}{i:Nat}
theorem LstI.start {a:Nat}(Q:GapQ lg cs N B)(ha:∀e∈lg.take a,e.move≤mv)(hm : -1≤mv){l:Int}(h:(lg.length≤a∧l = -1)∨∃e,lg[a]? = some e∧mv<e.move∧l=e.move):LstI lg cs N mv 0 l:=by
 rcases h with⟨h1,rfl⟩|⟨e,h1,h2,rfl⟩
 ·refine⟨fun _=>⟨rfl,fun e he=>ha e (by rw[List.take_of_length_le h1];exact he),by simp⟩,fun h=>by omega⟩
 ·have hm:=Yc h1
  obtain⟨b0,b1⟩:=Q.lm e hm
  refine⟨fun h=>by omega,fun _=>⟨h2,b1,.inl ⟨e,hm,rfl⟩,fun z hz hz2 => ?_,by simp⟩⟩
  obtain⟨j,hj⟩:=List.getElem?_of_mem hz
  by_cases hja:j<a
  ·have:=ha z (Yc (i:=j) (by rw[List.getElem?_take,if_pos hja];exact hj))
   omega
  ·by_cases e2:j=a
   ·subst e2;rw[h1]at hj;cases hj;exact Int.le_refl _
   ·obtain⟨g1,g2⟩:=List.getElem?_eq_some_iff.1 h1
    obtain⟨g3,g4⟩:=List.getElem?_eq_some_iff.1 hj
    have:=(List.pairwise_iff_getElem.1 Q.srt) a j g1 g3 (by omega)
    rw[g2,g4]at this
    omega
theorem LstI.skip {x:Cll}(H:LstI lg cs N mv i l)(hx:cs[i]? = some x)(h:x.end_≤mv∨(0≤l∧l≤x.end_)):LstI lg cs N mv (i+1) l:=by
 have ht:cs.take (i+1)=cs.take i++[x]:=by rw[List.take_add_one,hx];rfl
 refine⟨fun h0 => ?_,fun h0 => ?_⟩
 ·obtain⟨a,b,d⟩:=H.no h0
  refine⟨a,b,fun z hz => ?_⟩
  rw[ht]at hz
  rcases List.mem_append.1 hz with hz|hz
  ·exact d z hz
  ·simp at hz;subst hz;omega
 ·obtain⟨a,b,d,e,f⟩:=H.yes h0
  refine⟨a,b,d,e,fun z hz h1 => ?_⟩
  rw[ht]at hz
  rcases List.mem_append.1 hz with hz|hz
  ·exact f z hz h1
  ·simp at hz;subst hz;omega
theorem LstI.take {x:Cll}(H:LstI lg cs N mv i l)(Q:GapQ lg cs N B)(hm : -1≤mv)(hx:cs[i]? = some x)(h:mv<x.end_)(hl:l<0∨x.end_≤l):LstI lg cs N mv (i+1) x.end_:=by
 have ht:cs.take (i+1)=cs.take i++[x]:=by rw[List.take_add_one,hx];rfl
 have hxm:=Yc hx
 have hc:=Q.cm x hxm
 refine⟨fun h0=>by omega,fun h0=>⟨h,by omega,.inr ⟨x,hxm,rfl⟩,fun z hz h1 => ?_,fun z hz h1 => ?_⟩⟩
 ·by_cases h2:l<0
  ·have:=(H.no h2).2.1 z hz;omega
  ·have:=(H.yes (by omega)).2.2.2.1 z hz h1;omega
 ·rw[ht]at hz
  rcases List.mem_append.1 hz with hz|hz
  ·by_cases h2:l<0
   ·have:=(H.no h2).2.2 z hz;omega
   ·have:=(H.yes (by omega)).2.2.2.2 z hz h1;omega
  ·simp at hz;subst hz;exact Int.le_refl _
theorem LstI.fin (H:LstI lg cs N mv cs.length l)(Q:GapQ lg cs N B)(hm : -1≤mv)(h0:0≤l):mv<l∧l<N∧gp lg cs (l+1).toNat≤B∧(endA cs l→gp lg cs (l+1).toNat=0)∧(¬endA cs l→gp lg cs (l+1).toNat=gp lg cs (mv+1).toNat+1):=by
 obtain⟨a,b,d,e,f⟩:=H.yes h0
 rw[List.take_length]at f
 have hn:(l+1).toNat=l.toNat+1:=by omega
 have hl:((l.toNat:Nat):Int)=l:=by omega
 refine⟨a,b,Q.gap _ (by omega),fun he => ?_,fun he => ?_⟩
 ·rw[hn];exact gp_end (by rw[hl];exact he)
 ·rw[hn]
  have g1:gp lg cs l.toNat=gp lg cs (mv+1).toNat:=gp_gap (by omega) fun k k1 k2 hs=>by
   rcases hs with⟨z,hz,h⟩|⟨z,hz,h⟩
   ·have:=e z hz (by omega);omega
   ·have:=f z hz (by omega);omega
  rw[←g1]
  simp only[gp]
  rw[if_neg (by rw[hl];exact he),if_pos (by rw[hl];exact d)]
end
theorem cen_gap (cs:List Cll)(lg:List Acc)(sh:List Shf)(ws:List Int)(u:Value)(hl:RunLen cs lg sh ws)(N:Nat)(hN:N≤65536)(B:Int)(hB:B<4294967296)(Q:GapQ lg cs N B) :
  Does Tryz.prog 84 #[u] (RunR cs lg sh ws u) (fun v=>(ex fun q:Int=>pu (v=.int .i64 q∧(0≤q∧q≤B)))*RunR cs lg sh ws u):=by
 intro O w F hs
 have hg:=Jj hs
 clear hs
 obtain⟨a1,k1,a2,k2,a3,k3,a4,k4,rfl,hs⟩:=hg
 obtain⟨g1,g2,g3,g4⟩:=hl
 replace Q:=Lh Q
 go_enter Tryz.func84,Tryz.ntmps84
 (repeat'(first|(go_big_may;((show wpList _ _ _ (Oper.mk (some 1) _ _ _ _ _::_) _ _);(with_reducible apply Zv hs);rfl;rfl;rfl;clear hs;intro w bR hs;(simp only[Uc,Uz])))|go_step))
 go_loopw [3,4,5,6,7,8,9,10,11] (fun M W A q _ _ _ _ _ wr=>∃(m w mv:Int) (a:Nat),M=.int .i64 m∧W=.int .i64 w∧A=.int .i64 (a:Int)∧q=.int .i64 mv∧a≤lg.length∧(-1≤mv∧mv<N)∧(0≤m∧m≤B)∧Hid (w=gp lg cs (mv+1).toNat)∧Hid (∀e∈lg.take a,e.move≤mv) ∧
  Sat O wr (pt bR (.cells #[.slice a1 cs.length k1,.slice a2 lg.length k2,.slice a3 sh.length k3,.slice a4 ws.length k4] 32)*(sl 50 9 (cs.map Cll.e) (.slice a1 cs.length k1)*(sl 138 7 (lg.map Acc.e) (.slice a2 lg.length k2)*(sl 127 5 (sh.map Shf.e) (.slice a3 sh.length k3)*(sl 57 1 (ws.map eU) (.slice a4 ws.length k4)*F)))))) (fun _ _ _ q _ _ _ _ _ _=>((N:Int)+1-intOf q).toNat)
 case atStart=>exact⟨0,0,-1,0,rfl,rfl,rfl,rfl,by omega,⟨by omega,by omega⟩,⟨by omega,Q.out.b0⟩,Lh rfl,Lh (by simp),by ((with_reducible apply Sat.fin hs);(with_reducible exact Ql))⟩
 case round=>
  obtain⟨m,ww,mv,a,rfl,rfl,rfl,rfl,ka,hmv,hm,hw,ha,hs⟩:=hrel
  (repeat'(go_step))
  go_loopw [5] (fun q wr=>∃a:Nat,a≤lg.length∧q=.int .i64 (a:Int)∧Hid (∀e∈lg.take a,e.move≤mv)∧Sat O wr (pt bR (.cells #[.slice a1 cs.length k1,.slice a2 lg.length k2,.slice a3 sh.length k3,.slice a4 ws.length k4] 32)*(sl 50 9 (cs.map Cll.e) (.slice a1 cs.length k1)*(sl 138 7 (lg.map Acc.e) (.slice a2 lg.length k2)*(sl 127 5 (sh.map Shf.e) (.slice a3 sh.length k3)*(sl 57 1 (ws.map eU) (.slice a4 ws.length k4)*F)))))) (fun q _=>lg.length+1-(intOf q).toNat)
  case atStart=>exact⟨a,ka,rfl,ha,by ((with_reducible apply Sat.fin hs);(with_reducible exact Ql))⟩
  case round=>
   clear ka ha
   obtain⟨a,ka,rfl,ha,hs⟩:=hrel
   have ha65:a<4294967296:=by omega
   have hcase:(a=lg.length∧decide ((a:Int)<(lg.length:Int))=false∧Hid (LstI lg cs N mv 0 (-1)))∨(∃e,lg[a]? = some e∧e.move≤mv)∨(∃e,lg[a]? = some e∧¬e.move≤mv∧Hid (LstI lg cs N mv 0 e.move)):=by
    by_cases h:a=lg.length
    ·exact .inl ⟨h,by simp;omega,Lh (LstI.start Q.out ha.out hmv.1 (.inl ⟨by omega,rfl⟩))⟩
    ·have he:lg[a]? = some lg[a]:=Yd (by omega)
     by_cases h2:lg[a].move≤mv
     ·exact .inr (.inl ⟨_,he,h2⟩)
     ·exact .inr (.inr ⟨_,he,h2,Lh (LstI.start Q.out ha.out hmv.1 (.inr ⟨_,he,by omega,rfl⟩))⟩)
   rcases hcase with⟨hkr,hlt,hL⟩|⟨e,he,h2⟩|⟨e,he,h2,hL⟩
   case inr.inl=>
    have hil:=(List.getElem?_eq_some_iff.1 he).1
    have hlt:decide ((a:Int)<(lg.length:Int))=true:=by simp;omega
    have hlt2:decide (a<lg.length)=true:=by simp;omega
    have hln:a<(lg.map Acc.e).length:=by simp;omega
    have hnL:=Lh hil
    have ha':Hid (∀z∈lg.take (a+1),z.move≤mv):=Lh fun z hz=>by
     rw[List.take_add_one,he]at hz
     rcases List.mem_append.1 hz with hz|hz
     ·exact ha.out z hz
     ·simp at hz;subst hz;exact h2
    obtain⟨e1,e2,e3,e4,e5,e6,e7⟩:=e
    have hgv:(lg.map Acc.e)[a]? = some (Acc.e ⟨e1,e2,e3,e4,e5,e6,e7⟩):=by rw[Ym,he];rfl
    have c1:decide (e1≤mv)=true:=by simpa using h2
    clear he h2 hil ha
    (repeat'(first|((with_reducible apply Z4);((simp only[ev,Ue,Uf]);rfl);((simp only[cond_true,cond_false,ev,Ue,Uf]);rfl);(with_reducible exact ZG);(simp only[Uc,Uz]))|(go_big_may;(first|((with_reducible apply Zc hs);exact Ii;rfl;(with_reducible repeat first|exact Qh|apply Qk);rfl;rfl;(simp only[Uc,Uz]))|((with_reducible apply Zt hs);exact Ii;rfl;assumption;(with_reducible repeat first|exact Qh|apply Qk);rfl;(assumption);rfl;rfl;(simp only[Uc,Uz]))|((with_reducible apply ZN hs);exact Ii;exact Ii;rfl;rfl;(with_reducible repeat first|exact Qh|apply Qk);(rfl);(assumption);rfl;intro b off hat;(simp only[Uc,Uz]))|((with_reducible apply Zp hs);exact Ii;rfl;(with_reducible repeat first|exact Qh|apply Qk);rfl;(simp only[Uc,Uz]))))|go_guarded|go_step))
    go_roundw
    case rel=>exact⟨a+1,hnL.out,by simp,ha',by ((with_reducible apply Sat.fin hs);(with_reducible exact Ql))⟩
    case measure=>have:=hnL.out;simp[intOf];omega
   case' inr.inr=>
    have hil:=(List.getElem?_eq_some_iff.1 he).1
    have hlt:decide ((a:Int)<(lg.length:Int))=true:=by simp;omega
    have hlt2:decide (a<lg.length)=true:=by simp;omega
    have hln:a<(lg.map Acc.e).length:=by simp;omega
    obtain⟨e1,e2,e3,e4,e5,e6,e7⟩:=e
    have hgv:(lg.map Acc.e)[a]? = some (Acc.e ⟨e1,e2,e3,e4,e5,e6,e7⟩):=by rw[Ym,he];rfl
    have c1:decide (e1≤mv)=false:=by simpa using h2
    simp only[]at hL
    clear he h2 hil
   case' inl=>
    have hlt2:decide (a<lg.length)=false:=by simp;omega
    clear hkr
   all_goals(
    (repeat'(first|(((with_reducible apply Z6);rfl;rfl;((simp only[ev,Ue,Uf]);rfl);rfl;(simp only[Uc,Uz]));(repeat((with_reducible apply Z6);rfl;rfl;((simp only[ev,Ue,Uf]);rfl);rfl;(simp only[Uc,Uz]))))|((with_reducible apply Z4);((simp only[ev,Ue,Uf]);rfl);((simp only[cond_true,cond_false,ev,Ue,Uf]);rfl);(with_reducible exact ZG);(simp only[Uc,Uz]))|(go_big_may;(first|((with_reducible apply Zc hs);exact Ii;rfl;(with_reducible repeat first|exact Qh|apply Qk);rfl;rfl;(simp only[Uc,Uz]))|((with_reducible apply Zt hs);exact Ii;rfl;assumption;(with_reducible repeat first|exact Qh|apply Qk);rfl;(assumption);rfl;rfl;(simp only[Uc,Uz]))|((with_reducible apply Z7 hs);exact Ii;exact Ii;rfl;assumption;rfl;(with_reducible repeat first|exact Qh|apply Qk);(rfl);(assumption);rfl;(simp only[Uc,Uz]))|((with_reducible apply ZN hs);exact Ii;exact Ii;rfl;rfl;(with_reducible repeat first|exact Qh|apply Qk);(rfl);(assumption);rfl;intro b off hat;(simp only[Uc,Uz]))|((with_reducible apply Zp hs);exact Ii;rfl;(with_reducible repeat first|exact Qh|apply Qk);rfl;(simp only[Uc,Uz]))))|go_guarded|go_step))
    go_loopw [7,9,10] (fun Lv q _ wr=>∃(l:Int) (i:Nat),i≤cs.length∧Lv=.int .i64 l∧q=.int .i64 (i:Int)∧Hid (LstI lg cs N mv i l)∧Sat O wr (pt bR (.cells #[.slice a1 cs.length k1,.slice a2 lg.length k2,.slice a3 sh.length k3,.slice a4 ws.length k4] 32)*(sl 50 9 (cs.map Cll.e) (.slice a1 cs.length k1)*(sl 138 7 (lg.map Acc.e) (.slice a2 lg.length k2)*(sl 127 5 (sh.map Shf.e) (.slice a3 sh.length k3)*(sl 57 1 (ws.map eU) (.slice a4 ws.length k4)*F)))))) (fun _ q _ _=>cs.length+1-(intOf q).toNat)
    case atStart=>exact⟨_,0,by omega,rfl,rfl,hL,by ((with_reducible apply Sat.fin hs);(with_reducible exact Ql))⟩
    case round=>
     clear hL
     obtain⟨l,i,ki,rfl,rfl,hL,hs⟩:=hrel
     have hi65:i<4294967296:=by omega
     by_cases hkr:i=cs.length
     ·subst hkr
      have hlt:decide ((cs.length:Int)<(cs.length:Int))=false:=by simp
      by_cases hl0:l<0
      ·have f1:decide (l<0)=true:=by simpa using hl0
       clear hl0
       (repeat'(first|(go_big_may;(first|((with_reducible apply Zc hs);exact Ii;rfl;(with_reducible exact Qh);rfl;rfl;(simp only[Uc,Uz]))|((with_reducible apply Zp hs);exact Ii;rfl;(with_reducible repeat first|exact Qh|apply Qk);rfl;(simp only[Uc,Uz]))))|go_step))
       (go_ret)
       refine⟨_,rfl,?_⟩
       simp only[ZM,Ma,ZH]
       exact⟨_,⟨rfl,hm⟩,runR_mk (by ((with_reducible apply Sat.fin hs);(with_reducible repeat first|exact Ql|exact Qh|apply Qb|apply Qk)))⟩
      ·have f1:decide (l<0)=false:=by simpa using hl0
       have hF:=hL.out.fin Q.out hmv.1 (by omega)
       have hw0:=gp_nn lg cs (mv+1).toNat
       have hw1:=Q.out.gap (mv+1).toNat (by omega)
       rw[←hw.out]at hw0 hw1
       have hlN:l<N:=hF.2.1
       have hwB:ww<4294967296:=by omega
       replace hF:=Lh hF
       clear ki
       (repeat'(first|(go_big_may;(first|((with_reducible apply Zc hs);exact Ii;rfl;(with_reducible exact Qh);rfl;rfl;(simp only[Uc,Uz]))|((with_reducible apply Zp hs);exact Ii;rfl;(with_reducible repeat first|exact Qh|apply Qk);rfl;(simp only[Uc,Uz]))))|go_step))
       go_loopw [8,11] (fun Ev q wr=>∃(b:Bool) (i:Nat),i≤cs.length∧Ev=.bool b∧q=.int .i64 (i:Int)∧Hid (b=true↔∃x∈cs.take i,x.end_=l)∧Sat O wr (pt bR (.cells #[.slice a1 cs.length k1,.slice a2 lg.length k2,.slice a3 sh.length k3,.slice a4 ws.length k4] 32)*(sl 50 9 (cs.map Cll.e) (.slice a1 cs.length k1)*(sl 138 7 (lg.map Acc.e) (.slice a2 lg.length k2)*(sl 127 5 (sh.map Shf.e) (.slice a3 sh.length k3)*(sl 57 1 (ws.map eU) (.slice a4 ws.length k4)*F)))))) (fun _ q _=>cs.length+1-(intOf q).toNat)
       case atStart=>exact⟨false,0,by omega,rfl,rfl,Lh (by simp),by ((with_reducible apply Sat.fin hs);(with_reducible exact Ql))⟩
       case round=>
        obtain⟨b,i,ki,rfl,rfl,hbI,hs⟩:=hrel
        have hi65:i<4294967296:=by omega
        by_cases hkr:i=cs.length
        ·subst hkr
         have hlt:decide ((cs.length:Int)<(cs.length:Int))=false:=by simp
         have hbE:b=true↔endA cs l:=by
          have:=hbI.out
          rw[List.take_length]at this
          exact this
         cases b
         ·have hne:¬endA cs l:=fun h=>by have:=hbE.2 h;cases this
          have hgw:Hid (ww+1=gp lg cs (l+1).toNat∧ww+1≤B):=Lh (by have:=hF.out.2.2.2.2 hne;rw[hw.out,this];exact⟨rfl,by have:=hF.out.2.2.1;omega⟩)
          clear hbE hne hbI
          (repeat'(first|(go_big_may;(first|(first|((with_reducible apply Zc hs);exact Ii;rfl;(with_reducible exact Qh);rfl;rfl;(simp only[Uc,Uz]))|((with_reducible apply Zp hs);exact Ii;rfl;(with_reducible repeat first|exact Qh|apply Qk);rfl;(simp only[Uc,Uz])))|((with_reducible apply wl_max);rfl;rfl;rfl;(simp only[Uc,Uz]))))|go_step))
          go_roundw
          case rel=>exact⟨_,_,l,a,rfl,rfl,rfl,rfl,ka,⟨by have:=hF.out.1;omega,hlN⟩,⟨by unfold mx;split<;>omega,by unfold mx;split<;>(have:=hgw.out;omega)⟩,Lh hgw.out.1,Lh fun e he=>by have:=ha.out e he;have:=hF.out.1;omega,by ((with_reducible apply Sat.fin hs);(with_reducible exact Ql))⟩
          case measure=>have:=hF.out.1;simp[intOf];omega
         ·have hye:endA cs l:=hbE.1 rfl
          have hgw:Hid ((0:Int)=gp lg cs (l+1).toNat):=Lh (hF.out.2.2.2.1 hye).symm
          clear hbE hye hbI
          (repeat'(first|(go_big_may;(first|(first|((with_reducible apply Zc hs);exact Ii;rfl;(with_reducible exact Qh);rfl;rfl;(simp only[Uc,Uz]))|((with_reducible apply Zp hs);exact Ii;rfl;(with_reducible repeat first|exact Qh|apply Qk);rfl;(simp only[Uc,Uz])))|((with_reducible apply wl_max);rfl;rfl;rfl;(simp only[Uc,Uz]))))|go_step))
          go_roundw
          case rel=>exact⟨_,_,l,a,rfl,rfl,rfl,rfl,ka,⟨by have:=hF.out.1;omega,hlN⟩,⟨by unfold mx;split<;>omega,by unfold mx;split<;>omega⟩,hgw,Lh fun e he=>by have:=ha.out e he;have:=hF.out.1;omega,by ((with_reducible apply Sat.fin hs);(with_reducible exact Ql))⟩
          case measure=>have:=hF.out.1;simp[intOf];omega
        ·have hlt:decide ((i:Int)<(cs.length:Int))=true:=by simp;omega
         have hlt2:decide (i<cs.length)=true:=by simp;omega
         have hln:i<(cs.map Cll.e).length:=by simp;omega
         obtain⟨x,hx⟩:∃x,cs[i]? = some x:=⟨_,Yd (by omega)⟩
         have hnL:=Lh (show i+1≤cs.length by omega)
         have hnx:∀b':Bool,(b'=true↔b=true∨x.end_=l)→Hid (b'=true↔∃x∈cs.take (i+1),x.end_=l):=fun b' hb'=>Lh (by
          rw[hb',hbI.out,List.take_add_one,hx]
          constructor
          ·rintro(⟨z,hz,h⟩|h)
           ·exact⟨z,List.mem_append_left _ hz,h⟩
           ·exact⟨x,by simp,h⟩
          ·rintro⟨z,hz,h⟩
           rcases List.mem_append.1 hz with hz|hz
           ·exact .inl ⟨z,hz,h⟩
           ·simp at hz;subst hz;exact .inr h)
         have hcase:(b=true∧Hid (true=true↔∃x∈cs.take (i+1),x.end_=l))∨(b=false∧∃b',(x.end_==l)=b'∧Hid (b'=true↔∃x∈cs.take (i+1),x.end_=l)):=by
          cases b
          ·exact .inr ⟨rfl,_,rfl,hnx _ (by simp)⟩
          ·exact .inl ⟨rfl,hnx _ (by simp)⟩
         obtain⟨x1,x2,x3,x4,x5,x6,x7,x8,x9⟩:=x
         have hgv:(cs.map Cll.e)[i]? = some (Cll.e ⟨x1,x2,x3,x4,x5,x6,x7,x8,x9⟩):=by rw[Ym,hx];rfl
         clear hnx hx hkr hbI
         rcases hcase with⟨rfl,hb2⟩|⟨rfl,b',f2,hb2⟩
         all_goals(
          (repeat'(first|(((with_reducible apply Z6);rfl;rfl;((simp only[ev,Ue,Uf]);rfl);rfl;(simp only[Uc,Uz]));(repeat((with_reducible apply Z6);rfl;rfl;((simp only[ev,Ue,Uf]);rfl);rfl;(simp only[Uc,Uz]))))|((with_reducible apply Z4);((simp only[ev,Ue,Uf]);rfl);((simp only[cond_true,cond_false,ev,Ue,Uf]);rfl);(with_reducible exact ZG);(simp only[Uc,Uz]))|(go_big_may;(first|((with_reducible apply Zc hs);exact Ii;rfl;(with_reducible repeat first|exact Qh|apply Qk);rfl;rfl;(simp only[Uc,Uz]))|((with_reducible apply QI hs);exact Ii;rfl;assumption;(with_reducible repeat first|exact Qh|apply Qk);rfl;(assumption);rfl;rfl;(simp only[Uc,Uz]))|((with_reducible apply ZN hs);exact Ii;exact Ii;rfl;rfl;(with_reducible repeat first|exact Qh|apply Qk);(rfl);(assumption);rfl;intro b off hat;(simp only[Uc,Uz]))|((with_reducible apply Zp hs);exact Ii;rfl;(with_reducible repeat first|exact Qh|apply Qk);rfl;(simp only[Uc,Uz]))))|go_guarded|go_step))
          go_roundw
          case rel=>exact⟨_,i+1,hnL.out,rfl,by simp,hb2,by ((with_reducible apply Sat.fin hs);(with_reducible exact Ql))⟩
          case measure=>have:=hnL.out;simp[intOf];omega)
     ·have hlt:decide ((i:Int)<(cs.length:Int))=true:=by simp;omega
      have hlt2:decide (i<cs.length)=true:=by simp;omega
      have hln:i<(cs.map Cll.e).length:=by simp;omega
      obtain⟨x,hx⟩:∃x,cs[i]? = some x:=⟨_,Yd (by omega)⟩
      have hnL:=Lh (show i+1≤cs.length by omega)
      have hcase:(decide (x.end_>mv)=false∧decide (mv<x.end_)=false∧Hid (LstI lg cs N mv (i+1) l))∨(decide (x.end_>mv)=true∧decide (mv<x.end_)=true∧decide (l<0)=true∧Hid (LstI lg cs N mv (i+1) x.end_)) ∨
        (decide (x.end_>mv)=true∧decide (mv<x.end_)=true∧decide (l<0)=false∧decide (x.end_≤l)=true∧Hid (LstI lg cs N mv (i+1) x.end_))∨(decide (x.end_>mv)=true∧decide (mv<x.end_)=true∧decide (l<0)=false∧decide (x.end_≤l)=false∧Hid (LstI lg cs N mv (i+1) l)):=by
       simp only[decide_eq_true_eq,decide_eq_false_iff_not]
       by_cases h1:mv<x.end_
       ·by_cases h2:l<0
        ·exact .inr (.inl ⟨h1,h1,h2,Lh (hL.out.take Q.out hmv.1 hx h1 (.inl h2))⟩)
        ·by_cases h3:x.end_≤l
         ·exact .inr (.inr (.inl ⟨h1,h1,h2,h3,Lh (hL.out.take Q.out hmv.1 hx h1 (.inr h3))⟩))
         ·exact .inr (.inr (.inr ⟨h1,h1,h2,h3,Lh (hL.out.skip hx (.inr ⟨by omega,by omega⟩))⟩))
       ·exact .inl ⟨h1,h1,Lh (hL.out.skip hx (.inl (by omega)))⟩
      obtain⟨x1,x2,x3,x4,x5,x6,x7,x8,x9⟩:=x
      have hgv:(cs.map Cll.e)[i]? = some (Cll.e ⟨x1,x2,x3,x4,x5,x6,x7,x8,x9⟩):=by rw[Ym,hx];rfl
      simp only[]at hcase
      clear hx hkr hL
      rcases hcase with⟨f1,f2,hL⟩|⟨f1,f2,f3,hL⟩|⟨f1,f2,f3,f4,hL⟩|⟨f1,f2,f3,f4,hL⟩
      all_goals(
       (repeat'(first|(((with_reducible apply Z6);rfl;rfl;((simp only[ev,Ue,Uf]);rfl);rfl;(simp only[Uc,Uz]));(repeat(first|((with_reducible apply Z6);rfl;rfl;((simp only[ev,Ue,Uf]);rfl);rfl;(simp only[Uc,Uz]))|((with_reducible apply wl_pass3);rfl;rfl;(simp only[Ue,Uf]);(simp only[Uc,Uz])))))|((with_reducible apply Z4);((simp only[ev,Ue,Uf]);rfl);((simp only[cond_true,cond_false,ev,Ue,Uf]);rfl);(first|(with_reducible exact ZG)|((with_reducible apply QJ);rfl;rfl;(simp only[Ue,Uf])));(simp only[Uc,Uz]))|(go_big_may;(first|((with_reducible apply Zc hs);exact Ii;rfl;(with_reducible repeat first|exact Qh|apply Qk);rfl;rfl;(simp only[Uc,Uz]))|((with_reducible apply QI hs);exact Ii;rfl;assumption;(with_reducible repeat first|exact Qh|apply Qk);rfl;(assumption);rfl;rfl;(simp only[Uc,Uz]))|((with_reducible apply ZN hs);exact Ii;exact Ii;rfl;rfl;(with_reducible repeat first|exact Qh|apply Qk);(rfl);(assumption);rfl;intro b off hat;(simp only[Uc,Uz]))|((with_reducible apply Zp hs);exact Ii;rfl;(with_reducible repeat first|exact Qh|apply Qk);rfl;(simp only[Uc,Uz]))))|go_guarded|go_step))
       go_roundw
       case rel=>exact⟨_,i+1,hnL.out,rfl,by simp,hL,by ((with_reducible apply Sat.fin hs);(with_reducible exact Ql))⟩
       case measure=>have:=hnL.out;simp[intOf];omega))
end
section
set_option maxHeartbeats 1000000
attribute [local irreducible] Go.Calls
theorem ref_many (c:Cfg)(h:c.Ok)(r:Nat)(h1:1≤r)(h2:r≤13):ZB Tryz.prog 73 #[c.v,.int .i64 (r:Int)] emp (.int .i64 (many c r)) emp:=by
 intro O w F hs
 obtain⟨g1,g2⟩:=h.rh
 have hw:wrap64 (c.R*c.Hz)=c.R*c.Hz:=by unfold wrap64;omega
 have hr:r=1∨r=2∨r=3∨r=4∨r=5∨r=6∨r=7∨r=8∨r=9∨r=10∨r=11∨r=12∨r=13:=by omega
 rcases hr with rfl|rfl|rfl|rfl|rfl|rfl|rfl|rfl|rfl|rfl|rfl|rfl|rfl
 all_goals
  go_enter Tryz.func73,Tryz.ntmps73
  go_wp2_with (first|((with_reducible apply Zc hs);exact Ii;rfl;(with_reducible exact Qh);rfl;rfl;(simp only[Uc,Uz]))|((with_reducible apply Zv hs);rfl;rfl;rfl;clear hs;intro w b hs;(simp only[Uc,Uz])))
  (go_ret)
  exact⟨by simp[many,hw],by ((with_reducible apply Sat.fin hs);(focus with_reducible (repeat first|exact Ql|exact Qn|apply Qb|apply Qk);done))⟩
theorem ref_base (c:Cfg)(h:c.Ok)(r:Nat)(h1:1≤r)(h2:r≤13):ZB Tryz.prog 23 #[c.v,.int .i64 (r:Int)] emp (.int .i64 (base c r)) emp:=by
 intro O w F hs
 have hM:=Lh (ref_many c h)
 go_enter Tryz.func23,Tryz.ntmps23
 go_wp2_with ((with_reducible apply Zv hs);rfl;rfl;rfl;clear hs;intro w b hs;(simp only[Uc,Uz]))
 (obtain⟨A,hA,hsn⟩:∃A,Hid (A=_)∧Sat O w A:=⟨_,Lh rfl,hs⟩;clear hs;have hs:=hsn;clear hsn)
 go_loopw [5,6] (fun a q wr=>∃k:Nat,1≤k∧k≤r∧q=.int .i64 (k:Int)∧a=.int .i64 (base c k)∧Sat O wr A) (fun _ q _=>15-(intOf q).toNat)
 case atStart=>exact⟨1,by omega,by omega,rfl,rfl,hs⟩
 case round=>
  obtain⟨k,k1,k2,rfl,rfl,hs⟩:=hrel
  have hb:=ZS h k
  have hmk:=many_le h k
  have e1:=base_succ c _ k1
  rw[hA.out]at hs
  by_cases hkr:k=r
  ·subst hkr
   have hlt:decide ((k:Int)<(k:Int))=false:=by simp
   have hlt2:decide (k<k)=false:=by simp
   go_wp2_with (fail)
   (go_ret)
   exact⟨rfl,by ((with_reducible apply Sat.fin hs);(focus with_reducible (repeat first|exact Ql|exact Qn|apply Qb|apply Qk);done))⟩
  ·have hlt:decide ((k:Int)<(r:Int))=true:=by simp;omega
   have hlt2:decide (k<r)=true:=by simp;omega
   have hM1:=Lh (hM.out k k1 (by omega))
   go_wp2_with (first|((with_reducible apply Z5 hs);exact Ii;rfl;(with_reducible exact Qh);rfl;rfl;(simp only[Uc,Uz]))|(go_at_call 73;((refine(hM1.out).at hs (by (focus((repeat(with_reducible exact Qn));done))) ?_);clear hs;intro w hs;(try simp only[Em,Ma]at hs))))
   go_roundw
   case rel=>exact⟨k+1,by omega,by omega,by simp,by rw[e1],by rw[hA.out];((with_reducible apply Sat.fin hs);(focus with_reducible (repeat first|exact Ql|exact Qh|exact Qn|apply Qb);done))⟩
   case measure=>simp[intOf];omega
theorem ref_size (c:Cfg)(h:c.Ok):ZB Tryz.prog 22 #[c.v] emp (.int .i64 (base c 14)) emp:=by
 intro O w F hs
 have hB:=Lh (ref_base c h 13 (by omega) (by omega))
 have hb:=ZS h 13
 have h2:=h.S1;have h3:=h.S2
 have e:base c 14=base c 13+c.Sl:=rfl
 have hw:wrap64 (base c 13+c.Sl)=base c 14:=by unfold wrap64;omega
 go_enter Tryz.func22,Tryz.ntmps22
 go_wp2_with (first|(first|(first|(with_reducible refine NQ.mk ?_)|((with_reducible apply Zl);rfl;rfl)|((with_reducible apply ZF);rfl)|(with_reducible refine EQ.mk ?_ ?_)|(first|(with_reducible exact Zo)|((with_reducible refine ZJ ?_ ?_);(focus((with_reducible apply Qd);rfl;rfl))))|(with_reducible refine Zm ?_)|(show QD _ _ _;rfl))|((with_reducible apply Zc hs);exact Ii;rfl;(with_reducible exact Qh);rfl;rfl;(simp only[Uc,Uz]))|((with_reducible apply Z5 hs);exact Ii;rfl;(with_reducible exact Qh);rfl;rfl;(simp only[Uc,Uz]))|((with_reducible apply Zv hs);rfl;rfl;rfl;clear hs;intro w b hs;(simp only[Uc,Uz])))|(go_at_call 23;((refine(hB.out).at hs (by (focus((repeat(with_reducible exact Qn));done))) ?_);clear hs;intro w hs;(try simp only[Em,Ma]at hs)))|((with_reducible refine Wp (id:=1) [.neu 0,.neu 2,.neu 3,.eff 1 [2,3],.neu 4,.neu 5] hs rfl ?_ ?_);kernel_rfl;clear hs;intro w hs))
 (go_ret)
 exact⟨by simp[e],by ((with_reducible apply Sat.fin hs);(focus with_reducible (repeat first|exact Ql|exact Qn|apply Qb|apply Qk);done))⟩
theorem ref_packLink (s:Int)(h0 : -1≤s)(h1:s≤2147483646):ZB Tryz.prog 54 #[.int .i64 s,.bool false] emp (.int .u64 (s+1)) emp:=by
 intro O w F hs
 go_enter Tryz.func54,Tryz.ntmps54
 go_wp2_with (fail)
 (go_ret)
 exact⟨rfl,by ((with_reducible apply Sat.fin hs);(with_reducible exact Ql))⟩
theorem ref_packHead (t s:Int)(t0:0≤t)(h0 : -1≤s)(h1:s≤2147483646):ZB Tryz.prog 92 #[.int .u64 t,.int .i64 s] emp (.int .u64 (t%4294967296*4294967296+(s+1))) emp:=by
 intro O w F hs
 go_enter Tryz.func92,Tryz.ntmps92
 go_wp2_with (fail)
 (go_ret)
 exact⟨rfl,by ((with_reducible apply Sat.fin hs);(with_reducible exact Ql))⟩
theorem ref_first0 (c:Cfg)(h:c.Ok):Does Tryz.prog 39 #[c.v,.int .i64 0] emp (fun v=>sl 57 1 ((Jg c 0).map eU) v):=by
 intro O w F hs
 have hS:=Lh (ref_size c h)
 have hb10:=ZS h 10
 have hA:=Lh (ref_base c h 10 (by omega) (by omega))
 have hPH:=ref_packHead 0 0 (by omega) (by omega) (by omega)
 rw[show(0%4294967296*4294967296+(0+1):Int)=1 from rfl]at hPH
 have hPH:=Lh hPH
 obtain⟨hc1,hc2⟩:=base_cells h
 have hb14:=ZS h 14
 have hs1:=h.S1
 have hs2:=h.S2
 have n2:decide (0<c.Sl)=true:=by simp;omega
 obtain⟨W0,hW0⟩:∃W0:List Int,W0=List.replicate (base c 14).toNat 0:=⟨_,rfl⟩
 have hrep:List.replicate (base c 14).toNat (Value.int .u64 0).cells.toList=W0.map eU:=by rw[hW0,List.map_replicate];rfl
 have hlen:W0.length=(base c 14).toNat:=by rw[hW0];simp
 have hl0:0<W0.length:=by omega
 have hg0:W0[0]? = some 0:=by rw[hW0];simp[List.getElem?_replicate];omega
 have hfin:Jg c 0=QU (W0.set 0 1) (base c 10) 0 (c.Sl.toNat-1):=by
  simp only[Jg]
  rw[if_neg (by omega),if_pos (by show(0:Int)<c.Sl;omega),←hW0]
  rfl
 have hfin:=Lh hfin
 have hW0:=Lh hW0
 go_enter Tryz.func39,Tryz.ntmps39
 go_wp2_with (first|(first|((with_reducible apply Zc hs);exact Ii;rfl;(with_reducible repeat first|exact Qh|apply Qk);rfl;rfl;(simp only[Uc,Uz]))|((with_reducible apply Z5 hs);exact Ii;rfl;(with_reducible exact Qh);rfl;rfl;(simp only[Uc,Uz]))|((with_reducible apply Zv hs);rfl;rfl;rfl;clear hs;intro w b hs;(simp only[Uc,Uz]))|((with_reducible apply Qe hs);exact Ii;rfl;rfl;assumption;(with_reducible exact Qh);rfl;(exact Ze (by assumption));(exact Vb rfl);(rfl);rfl;clear hs;intro w hs)|((with_reducible apply ZN hs);exact Ii;exact Ii;rfl;rfl;(with_reducible exact Qh);(rfl);(simp only[Wm,Ws,Wa,Wc,Wn,Wr]at *;omega);rfl;intro b off hat;(simp only[Uc,Uz])))|(((with_reducible apply wl_mk hs);exact Ii;exact Ii;rfl;rfl;rfl;rfl;(exact(Int.toNat_of_nonneg (by omega)).symm);omega;(exact Vb rfl);rfl;clear hs;intro w v hs;(simp only[Uc,Uz]));rw[hrep]at hs)|(go_at_call 22;((refine(hS.out).at hs (by (focus((repeat(with_reducible exact Qn));done))) ?_);clear hs;intro w hs;(try simp only[Em,Ma]at hs)))|(go_at_call 92;((refine(hPH.out).at hs (by (focus((repeat(with_reducible exact Qn));done))) ?_);clear hs;intro w hs;(try simp only[Em,Ma]at hs))))
 have e0:(List.map eU W0).set 0 ((eU 0).set 0 (Value.int IntKind.u64 1))=(QU (W0.set 0 1) (base c 10) 0 0).map eU:=by simp[QU,Yk]
 rw[e0]at hs
 have hlW:∀n,(QU (W0.set 0 1) (base c 10) 0 n).length=(base c 14).toNat:=fun n=>by rw[fillW_len,List.length_set,hlen]
 obtain⟨T,hT,hs⟩:∃T,Hid (T=_)∧Sat O w (sl 57 1 ((QU (W0.set 0 1) (base c 10) 0 0).map eU) v*T):=⟨_,Lh rfl,hs.pull (by (with_reducible exact Qh))⟩
 clear hg0 hl0 e0 n2
 simp only[Nat.zero_mul,Nat.add_zero]
 go_loopw [6] (fun q wr=>∃n:Nat,(n:Int)+1≤c.Sl∧q=.int .i64 (n:Int)∧Sat O wr (sl 57 1 ((QU (W0.set 0 1) (base c 10) 0 n).map eU) v*T)) (fun q _=>1025-(intOf q).toNat)
 case atStart=>exact⟨0,by omega,rfl,hs⟩
 case round=>
  obtain⟨n,k1,rfl,hs⟩:=hrel
  rw[hT.out]at hs
  have hl:=hlW n
  by_cases hkr:(n:Int)+1=c.Sl
  ·have hlt:decide ((n:Int)+1<c.Sl)=false:=by simp;omega
   go_wp2_with ((with_reducible apply Zc hs);exact Ii;rfl;(with_reducible repeat first|exact Qh|apply Qk);rfl;rfl;(simp only[Uc,Uz]))
   (go_ret)
   refine⟨_,rfl,?_⟩
   rw[hfin.out,show c.Sl.toNat-1=n by omega]
   ((with_reducible apply Sat.fin hs);(focus((repeat(first|with_reducible exact Ql|with_reducible apply Qb|exact Qh|with_reducible apply Qk));done)))
  ·have hlt:decide ((n:Int)+1<c.Sl)=true:=by simp;omega
   have hPL:=Lh (ref_packLink ((n:Int)+1) (by omega) (by omega))
   have hix:base c 10+(n:Int)<((QU (W0.set 0 1) (base c 10) 0 n).length:Int):=by rw[hl];omega
   have hi2:(base c 10+(n:Int)).toNat<(QU (W0.set 0 1) (base c 10) 0 n).length:=by omega
   obtain⟨x,hx⟩:∃x,(QU (W0.set 0 1) (base c 10) 0 n)[(base c 10+(n:Int)).toNat]? = some x:=⟨_,Yd hi2⟩
   have hw1:wrap64 (base c 10+(n:Int))=base c 10+(n:Int):=by unfold wrap64;omega
   have hw2:wrap64 ((n:Int)+1)=(n:Int)+1:=by unfold wrap64;omega
   go_wp2_with (first|(first|((with_reducible apply Zc hs);exact Ii;rfl;(with_reducible repeat first|exact Qh|apply Qk);rfl;rfl;(simp only[Uc,Uz]))|((with_reducible apply Z5 hs);exact Ii;rfl;(with_reducible repeat first|exact Qh|apply Qk);rfl;rfl;(simp only[Uc,Uz]))|((with_reducible apply Qe hs);exact Ii;rfl;rfl;assumption;(with_reducible exact Qh);rfl;(exact Ze (by assumption));(exact Vb rfl);(rfl);rfl;clear hs;intro w hs)|((with_reducible apply Z7 hs);exact Ii;exact Ii;rfl;assumption;rfl;(with_reducible exact Qh);(exact(Int.toNat_of_nonneg (by omega)).symm);(simp only[Wm,Ws,Wa,Wc,Wn,Wr]at *;omega);rfl;(simp only[Uc,Uz])))|(go_at_call 23;((refine(hA.out).at hs (by (focus((repeat(with_reducible exact Qn));done))) ?_);clear hs;intro w hs;(try simp only[Em,Ma]at hs)))|(go_at_call 54;((refine(hPL.out).at hs (by (focus((repeat(with_reducible exact Qn));done))) ?_);clear hs;intro w hs;(try simp only[Em,Ma]at hs))))
   have e1:(List.map eU (QU (W0.set 0 1) (base c 10) 0 n)).set (base c 10+(n:Int)).toNat ((eU x).set 0 (Value.int IntKind.u64 ((n:Int)+1+1)))=(QU (W0.set 0 1) (base c 10) 0 (n+1)).map eU:=by simp[QU,Yk];rfl
   rw[e1]at hs
   go_roundw
   case rel=>exact⟨n+1,by omega,by simp,by rw[hT.out];((with_reducible apply Sat.fin hs);(with_reducible exact Ql))⟩
   case measure=>simp[intOf];omega
end
section
set_option maxHeartbeats 1000000
attribute [local irreducible] Go.Calls
section
variable {c:Cfg}{a:Are}{m:Mch}
theorem shfs_rng:∀ {ds:List Shf} {sl sl':List Slt},shfs sl ds=some sl'→∀d∈ds,0≤d.slot∧d.slot<sl.length
 | [],_,_,_,d,hd=>by simp at hd
 | z::r,sl,sl',h,d,hd=>by
  simp only[shfs]at h
  cases h1:shf1 sl z with
  | none=>rw[h1]at h;cases h
  | some s1=>
   rw[h1]at h
   unfold shf1 at h1
   split at h1
   ·rename_i hc
    cases h1
    rcases List.mem_cons.1 hd with rfl|hd
    ·exact hc.1
    ·have:=shfs_rng (ds:=r) h d hd
     simpa using this
   ·cases h1
theorem s0_len (hok:c.Ok):((s0 c).length:Int)=c.Sl:=by have:=hok.S1;simp[s0,are0];omega
end
end
section
set_option maxHeartbeats 8000000
attribute [local irreducible] Go.Calls Go.wpList

end
section
set_option maxHeartbeats 8000000
attribute [local irreducible] Go.Calls Go.wpList
theorem runR_mkP {O w:World}{S R:Zd}{cs:List Cll}{lg:List Acc}{sh:List Shf}{ws:List Int}(a1:Option Addr)(k1:Nat)(a2:Option Addr)(k2:Nat)(a3:Option Addr)(k3:Nat)(a4:Option Addr)(k4:Nat)(hs:Sat O w S)
  (h:Pull S (sl 50 9 (cs.map Cll.e) (.slice a1 cs.length k1)*(sl 138 7 (lg.map Acc.e) (.slice a2 lg.length k2)*(sl 127 5 (sh.map Shf.e) (.slice a3 sh.length k3)*sl 57 1 (ws.map eU) (.slice a4 ws.length k4)))) R) :
  Sat O w (RunR cs lg sh ws (.agg #[.slice a1 cs.length k1,.slice a2 lg.length k2,.slice a3 sh.length k3,.slice a4 ws.length k4])*R):=
 runR_mk ((hs.pull h).cast (by simp only[Ma]))
theorem runR_open {O w:World}{S R:Zd}{cs:List Cll}{lg:List Acc}{sh:List Shf}{ws:List Int}{v1 v2 v3 v4:Value}(hs:Sat O w S)(h:Pull S (RunR cs lg sh ws (.agg #[v1,v2,v3,v4])) R) :
  Sat O w (sl 50 9 (cs.map Cll.e) v1*(sl 138 7 (lg.map Acc.e) v2*(sl 127 5 (sh.map Shf.e) v3*(sl 57 1 (ws.map eU) v4*R)))):=by
 have hs:=hs.pull h
 unfold RunR at hs
 simp only[ZM,Ma,ZH]at hs
 obtain⟨w1,w2,w3,w4,e,hs⟩:=hs
 injection e with e
 injection e with e
 simp only[List.cons.injEq,and_true]at e
 obtain⟨rfl,rfl,rfl,rfl⟩:=e
 exact hs
end
section
set_option maxHeartbeats 8000000
attribute [local irreducible] Go.Calls Go.wpList
theorem map_put_st (sl:List Slt)(x:Shf):putS (sl.map Slt.state) x=(put sl x).map Slt.state:=by simp[putS,put,Yk]
theorem map_put_ho (sl:List Slt)(x:Shf):putH (sl.map Slt.holder) x=(put sl x).map Slt.holder:=by simp[putH,put,Yk]
theorem puts_snoc (sl:List Slt)(l:List Shf)(x:Shf):puts sl (l++[x])=put (puts sl l) x:=by rw[Q9];rfl
theorem take_filter_yes {α:Type}{p:α→Bool}{l:List α}{k:Nat}{e:α}(he:l[k]? = some e)(h:p e=true):(l.take (k+1)).filter p=(l.take k).filter p++[e]:=by
 rw[List.take_add_one,he,List.filter_append];simp[h]
theorem take_filter_no {α:Type}{p:α→Bool}{l:List α}{k:Nat}{e:α}(he:l[k]? = some e)(h:p e=false):(l.take (k+1)).filter p=(l.take k).filter p:=by
 rw[List.take_add_one,he,List.filter_append];simp[h]
theorem s0_st (c:Cfg):(s0 c).map Slt.state=List.replicate c.Sl.toNat 0:=by simp[s0,are0]
theorem s0_ho (c:Cfg):(s0 c).map Slt.holder=List.replicate c.Sl.toNat (-1):=by simp[s0,are0]
theorem cen_states (c:Cfg)(hok:c.Ok)(cs:List Cll)(lg:List Acc)(sh:List Shf)(ws:List Int)(u:Value)(hl:RunLen cs lg sh ws)(n:Int)(hr:∀d∈sh,∃i:Nat,d.slot=(i:Int)∧(i:Int)<c.Sl) :
  Does Tryz.prog 75 #[c.v,.int .i64 0,u,.int .i64 n] (RunR cs lg sh ws u) (fun v=>(ex fun v1=>ex fun v2=>pu (v=.tuple #[v1,v2])*(stR ((puts (s0 c) (sh.filter (fun x=>decide (x.move<n)))).map Slt.state) v1*hoR ((puts (s0 c) (sh.filter (fun x=>decide (x.move<n)))).map Slt.holder) v2))*RunR cs lg sh ws u):=by
 intro O w F hs
 have hg:=Jj hs
 clear hs
 obtain⟨a1,k1,a2,k2,a3,k3,a4,k4,rfl,hs⟩:=hg
 obtain⟨g1,g2,g3,g4⟩:=hl
 have hB:=Lh (cen_begin c hok)
 have hS1:=hok.S1
 have hS2:=hok.S2
 have hLen:=s0_len hok
 rw[←s0_st,←s0_ho]at hB
 obtain⟨Z0,hZ0⟩:∃Z,Z=s0 c:=⟨_,rfl⟩
 rw[←hZ0]at hB hLen ⊢
 clear hZ0 hok
 obtain⟨S0,hS0⟩:∃S0:Nat,c.Sl=(S0:Int):=⟨c.Sl.toNat,by omega⟩
 obtain⟨c1,c2,c3,c4,c5,c6,c7⟩:=c
 simp only[]at hS0 hS1 hS2 hr hLen
 subst hS0
 have hSl:S0≤1024:=by omega
 have hLen:Z0.length=S0:=by omega
 clear hS1 hS2
 have hr:=Lh hr
 go_enter Tryz.func75,Tryz.ntmps75
 (repeat'(first|(go_big_may;(first|((show wpList _ _ _ (Oper.mk (some 4) _ _ _ _ _::_) _ _);(with_reducible apply Zv hs);rfl;rfl;rfl;clear hs;intro w bC hs;(simp only[Uc,Uz]))|((show wpList _ _ _ (Oper.mk (some 6) _ _ _ _ _::_) _ _);(with_reducible apply Zv hs);rfl;rfl;rfl;clear hs;intro w bR hs;(simp only[Uc,Uz]))|((with_reducible apply Z5 hs);exact Ii;rfl;(with_reducible repeat first|exact Qh|apply Qk);rfl;rfl;(simp only[Uc,Uz]))|(go_at_call 82;((refine(hB.out).at hs (by (focus((repeat(with_reducible exact Qn));done))) ?_);clear hs;intro v w hs;(try simp only[Em,Ma]at hs));(simp only[ZM,Ma,ZH]at hs);(obtain⟨v1,v2,rfl,hs⟩:=hs))))|go_step|(dsimp only)))
 go_loopw [12] (fun q wr=>∃(k:Nat) (sn:List Slt),k≤sh.length∧q=.int .i64 (k:Int)∧Hid (sn=puts Z0 ((sh.take k).filter (fun x=>decide (x.move<n))))∧Sat O wr (stR (sn.map Slt.state) v1*(hoR (sn.map Slt.holder) v2*(pt bR (.cells #[.slice a1 cs.length k1,.slice a2 lg.length k2,.slice a3 sh.length k3,.slice a4 ws.length k4] 32)*(pt bC (.cells #[.int .i64 c1,.int .i64 c2,.int .i64 c3,.int .i64 c4,.int .i64 c5,.int .i64 (S0:Int),.int .i64 c7] 23)*(sl 50 9 (cs.map Cll.e) (.slice a1 cs.length k1)*(sl 138 7 (lg.map Acc.e) (.slice a2 lg.length k2)*(sl 127 5 (sh.map Shf.e) (.slice a3 sh.length k3)*(sl 57 1 (ws.map eU) (.slice a4 ws.length k4)*F))))))))) (fun q _=>sh.length+1-(intOf q).toNat)
 case atStart=>exact⟨0,Z0,by omega,rfl,Lh rfl,by ((with_reducible apply Sat.fin hs);(with_reducible exact Ql))⟩
 case round=>
  obtain⟨k,sn,kk,rfl,hsn,hs⟩:=hrel
  have hsnl:sn.length=S0:=by rw[hsn.out,puts_len];exact hLen
  by_cases hkr:k=sh.length
  ·subst hkr
   have hlt:decide ((sh.length:Int)<(sh.length:Int))=false:=by simp
   clear hsnl
   (repeat'(first|(go_big_may;(first|((with_reducible apply Zc hs);exact Ii;rfl;(with_reducible repeat first|exact Qh|apply Qk);rfl;rfl;(simp only[Uc,Uz]))|((with_reducible apply Zp hs);exact Ii;rfl;(with_reducible repeat first|exact Qh|apply Qk);rfl;(simp only[Uc,Uz]))))|go_step))
   (go_ret2)
   refine⟨_,rfl,?_⟩
   simp only[ZM,Ma,ZH]
   have hsn:=hsn.out
   rw[List.take_length]at hsn
   rw[←hsn]
   refine⟨v1,v2,rfl,?_⟩
   have hs:Sat O _ (RunR cs lg sh ws (.agg #[.slice a1 cs.length k1,.slice a2 lg.length k2,.slice a3 sh.length k3,.slice a4 ws.length k4])*(stR (sn.map Slt.state) v1*(hoR (sn.map Slt.holder) v2*F))):=runR_mk (by ((with_reducible apply Sat.fin hs);(with_reducible repeat first|exact Ql|exact Qh|apply Qb|apply Qk)))
   ((with_reducible apply Sat.fin hs);(with_reducible repeat first|exact Ql|exact Qh|apply Qb|apply Qk))
  ·have hlt:decide ((k:Int)<(sh.length:Int))=true:=by simp;omega
   have hlt2:decide (k<sh.length)=true:=by simp;omega
   have hln:k<(sh.map Shf.e).length:=by simp;omega
   obtain⟨e,he⟩:∃e,sh[k]? = some e:=⟨_,Yd (by omega)⟩
   obtain⟨i,hi,hiS⟩:=hr.out e (Yc he)
   have hnL:=Lh (show k<sh.length by omega)
   have hPut:=Lh (cen_put (sn.map Slt.state) (sn.map Slt.holder) e v1 v2 i hi (by simp;omega) (by simp;omega) (by simp;omega) (by simp;omega))
   rw[map_put_st,map_put_ho]at hPut
   have hyes:=Lh (fun h:decide (e.move<n)=true=>show put sn e=puts Z0 ((sh.take (k+1)).filter (fun x=>decide (x.move<n))) by rw[take_filter_yes he h,puts_snoc,←hsn.out])
   have hno:=Lh (fun h:decide (e.move<n)=false=>show sn=puts Z0 ((sh.take (k+1)).filter (fun x=>decide (x.move<n))) by rw[take_filter_no he h];exact hsn.out)
   generalize put sn e=sn' at hPut hyes
   obtain⟨e1,e2,e3,e4,e5⟩:=e
   have hgv:(sh.map Shf.e)[k]? = some (Shf.e ⟨e1,e2,e3,e4,e5⟩):=by rw[Ym,he];rfl
   simp only[]at hyes hno
   clear he hkr hlt hsn hsnl hi hiS
   by_cases hd:e1<n
   ·have hd':decide (e1<n)=true:=by simpa using hd
    have hyes:=Lh (hyes.out hd')
    clear hno hd
    (repeat'(first|(go_big_may;(first|(first|((with_reducible apply Zc hs);exact Ii;rfl;(with_reducible repeat first|exact Qh|apply Qk);rfl;rfl;(simp only[Uc,Uz]))|((with_reducible apply Zt hs);exact Ii;rfl;assumption;(with_reducible repeat first|exact Qh|apply Qk);rfl;(assumption);rfl;rfl;(simp only[Uc,Uz]))|((with_reducible apply Qu (k:=0) hs);exact Ii;rfl;assumption;(with_reducible repeat first|exact Qh|apply Qk);(exact(Nat.add_zero _).symm);(assumption);(exact Vb rfl);rfl;rfl;(simp only[Uc,Uz]))|((with_reducible apply Z7 hs);exact Ii;exact Ii;rfl;assumption;rfl;(with_reducible repeat first|exact Qh|apply Qk);(rfl);(assumption);rfl;(simp only[Uc,Uz]))|((with_reducible apply ZN hs);exact Ii;exact Ii;rfl;rfl;(with_reducible repeat first|exact Qh|apply Qk);(rfl);(assumption);rfl;intro b off hat;(simp only[Uc,Uz]))|((with_reducible apply Zp hs);exact Ii;rfl;(with_reducible repeat first|exact Qh|apply Qk);rfl;(simp only[Uc,Uz])))|(go_at_call 81;((refine(hPut.out).at hs (by (focus with_reducible (repeat first|exact Qh|apply Qb);done)) ?_);clear hs;intro w hs;(try simp only[Em,Ma]at hs)))))|go_step|(dsimp only)))
    go_roundw
    case rel=>exact⟨k+1,sn',(by have:=hnL.out;omega),by simp,hyes,by ((with_reducible apply Sat.fin hs);(with_reducible exact Ql))⟩
    case measure=>have:=hnL.out;simp[intOf];omega
   ·have hd':decide (e1<n)=false:=by simpa using hd
    have hno:=Lh (hno.out hd')
    clear hyes hd
    (repeat'(first|(go_big_may;(first|((with_reducible apply Zc hs);exact Ii;rfl;(with_reducible repeat first|exact Qh|apply Qk);rfl;rfl;(simp only[Uc,Uz]))|((with_reducible apply Zt hs);exact Ii;rfl;assumption;(with_reducible repeat first|exact Qh|apply Qk);rfl;(assumption);rfl;rfl;(simp only[Uc,Uz]))|((with_reducible apply ZN hs);exact Ii;exact Ii;rfl;rfl;(with_reducible repeat first|exact Qh|apply Qk);(rfl);(assumption);rfl;intro b off hat;(simp only[Uc,Uz]))|((with_reducible apply Zp hs);exact Ii;rfl;(with_reducible repeat first|exact Qh|apply Qk);rfl;(simp only[Uc,Uz]))))|go_step))
    go_roundw
    case rel=>exact⟨k+1,sn,(by have:=hnL.out;omega),by simp,hno,by ((with_reducible apply Sat.fin hs);(with_reducible exact Ql))⟩
    case measure=>have:=hnL.out;simp[intOf];omega
end
end Go.Proofs.YtegafhhdegnigaaGreat
