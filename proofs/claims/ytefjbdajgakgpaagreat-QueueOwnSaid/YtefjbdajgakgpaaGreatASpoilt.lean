/-
  What is left of a run that was spoilt (written by genspoilt.py).
-/
import Derived.Test.YtefjbdajgakgpaaGreatASpoil
import Derived.Test.YtefjbdajgakgpaaGreatAQueW
import Derived.Deep.Light
set_option linter.all false
namespace Go.Proofs.YtefjbdajgakgpaaGreat
open Go.RowKit Hp
set_option maxRecDepth 100000
set_option maxHeartbeats 1000000
attribute [local irreducible] Go.Calls Go.wpList
namespace Hp
theorem wl_neqI {P:Program}{ops:Array Oper}{Q:Exit→Act→World→Prop}{w:World}{rest:List Oper}{l:List Value}{ds:List Deferred}{T T' ty:TypeId}{pos:String}{after:Array Edge}{gd:Option (Nat×Bool)}{d:Nat}{x y:Operand}{K:IntKind}{a b:Int}{r:Bool}
  (hx:ev l x=some (.int K a)) (hy:ev l y=some (.int K b)) (hr:(a != b)=r)
  (hg:Region.wanted { dst:=some d,op:=.binOp .neq T x y T',type:=ty,pos,after,guard:=gd } (yielded ops l.toArray)=true)
  (kk:wpList P ops Q rest ⟨(l.set d (.bool r)).toArray,ds⟩ w) :
  wpList P ops Q ({ dst:=some d,op:=.binOp .neq T x y T',type:=ty,pos,after,guard:=gd }::rest) ⟨l.toArray,ds⟩ w:=by
 refine Qa (v:=.bool r) (w':=w) hg ?_ (ZK▸kk)
 have h1:=Zk (ds:=ds) hx
 have h2:=Zk (ds:=ds) hy
 subst hr
 simp[execOp,h1,h2,binOp,Op.intCmp,eqGuard]
end Hp
theorem spl2_lo {α:Type}(f g:Nat→α)(n k i:Nat)(h:i<n):(spl2 f g n k)[i]? = some (f i):=by
 unfold spl2
 rw[List.getElem?_append_left (by simp;omega)]
 simp[h]
theorem spl2_hi {α:Type}(f g:Nat→α)(n k i:Nat)(h:¬i<n)(h2:i<n+k):(spl2 f g n k)[i]? = some (g (i-n)):=by
 unfold spl2
 rw[List.getElem?_append_right (by simp;omega)]
 have:i-n<k:=by omega
 simp[this]
set_option maxHeartbeats 16000000 in
theorem spoilt_run (cs:List Cll)(lg:List Acc)(sh:List Shf)(ws:List Int)(u v:Value)(m:Int)(hl:RunLen cs lg sh ws)(m0:0≤m)(m1:m≤100000) :
  Zh Tryz.prog 26 #[u,v,.int .i64 m] (RunR (spl2 (fC m) (gC m) cs.length 70) (spl2 (fA m) (gA m) lg.length 70) (spl2 (fS m) (gS m) sh.length 70) (spl2 (fW m) (gW m) ws.length 70) u*RunR cs lg sh ws v) (.bool true)
   (RunR (spl2 (fC m) (gC m) cs.length 70) (spl2 (fA m) (gA m) lg.length 70) (spl2 (fS m) (gS m) sh.length 70) (spl2 (fW m) (gW m) ws.length 70) u*RunR cs lg sh ws v):=by
 intro O w F hs
 simp only[Ma]at hs
 have hg:=runR_get hs
 clear hs
 obtain⟨a1,k1,a2,k2,a3,k3,a4,k4,rfl,hs⟩:=hg
 replace hs:=hs.pull (A:=RunR cs lg sh ws v) (by (with_reducible repeat first|exact Qh|apply Qk))
 have hg:=runR_get hs
 clear hs
 obtain⟨b1,l1,b2,l2,b3,l3,b4,l4,rfl,hs⟩:=hg
 simp only[Qf]at hs ⊢
 generalize hL1:cs.length+70=L1 at hs ⊢
 generalize hL2:lg.length+70=L2 at hs ⊢
 generalize hL3:sh.length+70=L3 at hs ⊢
 generalize hL4:ws.length+70=L4 at hs ⊢
 have hL1:=Lh hL1
 have hL2:=Lh hL2
 have hL3:=Lh hL3
 have hL4:=Lh hL4
 obtain⟨g1,g2,g3,g4⟩:=hl
 have hng:wrap64 (-m) = -m:=by unfold wrap64;omega
 have hcv:m%18446744073709551616=m:=by omega
 go_enter Tryz.func26,Tryz.ntmps26
 (repeat'(first|(go_big_may;(first|((show wpList _ _ _ (Oper.mk (some 3) _ _ _ _ _::_) _ _);(with_reducible apply Zo hs);rfl;rfl;rfl;clear hs;intro w q1 hs;(simp only[Uc,Uz]))|((show wpList _ _ _ (Oper.mk (some 4) _ _ _ _ _::_) _ _);(with_reducible apply Zo hs);rfl;rfl;rfl;clear hs;intro w q2 hs;(simp only[Uc,Uz]))))|go_step))
 go_loopw [7] (fun q wr=>∃n:Nat,n≤L1∧q=.int .i64 (n:Int)∧Sat O wr (pt q2 (.cells #[.slice b1 cs.length l1,.slice b2 lg.length l2,.slice b3 sh.length l3,.slice b4 ws.length l4] 30)*(pt q1 (.cells #[.slice a1 L1 k1,.slice a2 L2 k2,.slice a3 L3 k3,.slice a4 L4 k4] 30)*(sl 59 9 ((spl2 (fC m) (gC m) cs.length 70).map Cll.e) (.slice a1 L1 k1)*(sl 87 7 ((spl2 (fA m) (gA m) lg.length 70).map Acc.e) (.slice a2 L2 k2)*(sl 102 5 ((spl2 (fS m) (gS m) sh.length 70).map Shf.e) (.slice a3 L3 k3)*(sl 79 1 ((spl2 (fW m) (gW m) ws.length 70).map eU) (.slice a4 L4 k4)*(sl 59 9 ((cs).map Cll.e) (.slice b1 cs.length l1)*(sl 87 7 ((lg).map Acc.e) (.slice b2 lg.length l2)*(sl 102 5 ((sh).map Shf.e) (.slice b3 sh.length l3)*(sl 79 1 ((ws).map eU) (.slice b4 ws.length l4)*F))))))))))) (fun q _=>L1+1-(intOf q).toNat)
 case atStart=>exact⟨0,by omega,rfl,by ((with_reducible apply Sat.fin hs);(with_reducible repeat first|exact Ql|exact Qh|apply Qb|apply Qk))⟩
 case round=>
  obtain⟨n,kk,rfl,hs⟩:=hrel
  by_cases hkr:n=L1
  ·have hkr:=hkr.symm
   subst hkr
   have hlt:decide ((L1:Int)<(L1:Int))=false:=by simp
   have hq1:¬L1<(spl2 (fC m) (gC m) cs.length 70).length:=by rw[Qf];exact(by have:=hL1.out;have:=hL2.out;have:=hL3.out;have:=hL4.out;omega)
   have hq2:decide (L1<(spl2 (fC m) (gC m) cs.length 70).length)=false:=by simpa using hq1
   have hq3:decide ((L1:Int)<((spl2 (fC m) (gC m) cs.length 70).length:Int))=false:=by simpa using hq1
   clear hq1
   (repeat'(first|(go_big_may;(first|((with_reducible apply Za hs);exact Ii;rfl;(with_reducible repeat first|exact Qh|apply Qk);rfl;rfl;(simp only[Uc,Uz]))|((with_reducible apply Zs hs);exact Ii;rfl;(with_reducible repeat first|exact Qh|apply Qk);rfl;(simp only[Uc,Uz]))))|go_step))
   go_loopw [8] (fun q wr=>∃n:Nat,n≤L2∧q=.int .i64 (n:Int)∧Sat O wr (pt q2 (.cells #[.slice b1 cs.length l1,.slice b2 lg.length l2,.slice b3 sh.length l3,.slice b4 ws.length l4] 30)*(pt q1 (.cells #[.slice a1 L1 k1,.slice a2 L2 k2,.slice a3 L3 k3,.slice a4 L4 k4] 30)*(sl 59 9 ((spl2 (fC m) (gC m) cs.length 70).map Cll.e) (.slice a1 L1 k1)*(sl 87 7 ((spl2 (fA m) (gA m) lg.length 70).map Acc.e) (.slice a2 L2 k2)*(sl 102 5 ((spl2 (fS m) (gS m) sh.length 70).map Shf.e) (.slice a3 L3 k3)*(sl 79 1 ((spl2 (fW m) (gW m) ws.length 70).map eU) (.slice a4 L4 k4)*(sl 59 9 ((cs).map Cll.e) (.slice b1 cs.length l1)*(sl 87 7 ((lg).map Acc.e) (.slice b2 lg.length l2)*(sl 102 5 ((sh).map Shf.e) (.slice b3 sh.length l3)*(sl 79 1 ((ws).map eU) (.slice b4 ws.length l4)*F))))))))))) (fun q _=>L2+1-(intOf q).toNat)
   case atStart=>exact⟨0,by omega,rfl,by ((with_reducible apply Sat.fin hs);(with_reducible exact Ql))⟩
   case round=>
    obtain⟨n,kk,rfl,hs⟩:=hrel
    by_cases hkr:n=L2
    ·have hkr:=hkr.symm
     subst hkr
     have hlt:decide ((L2:Int)<(L2:Int))=false:=by simp
     have hq1:¬L2<(spl2 (fA m) (gA m) lg.length 70).length:=by rw[Qf];exact(by have:=hL1.out;have:=hL2.out;have:=hL3.out;have:=hL4.out;omega)
     have hq2:decide (L2<(spl2 (fA m) (gA m) lg.length 70).length)=false:=by simpa using hq1
     have hq3:decide ((L2:Int)<((spl2 (fA m) (gA m) lg.length 70).length:Int))=false:=by simpa using hq1
     clear hq1
     (repeat'(first|(go_big_may;(first|((with_reducible apply Za hs);exact Ii;rfl;(with_reducible repeat first|exact Qh|apply Qk);rfl;rfl;(simp only[Uc,Uz]))|((with_reducible apply Zs hs);exact Ii;rfl;(with_reducible repeat first|exact Qh|apply Qk);rfl;(simp only[Uc,Uz]))))|go_step))
     go_loopw [9] (fun q wr=>∃n:Nat,n≤L3∧q=.int .i64 (n:Int)∧Sat O wr (pt q2 (.cells #[.slice b1 cs.length l1,.slice b2 lg.length l2,.slice b3 sh.length l3,.slice b4 ws.length l4] 30)*(pt q1 (.cells #[.slice a1 L1 k1,.slice a2 L2 k2,.slice a3 L3 k3,.slice a4 L4 k4] 30)*(sl 59 9 ((spl2 (fC m) (gC m) cs.length 70).map Cll.e) (.slice a1 L1 k1)*(sl 87 7 ((spl2 (fA m) (gA m) lg.length 70).map Acc.e) (.slice a2 L2 k2)*(sl 102 5 ((spl2 (fS m) (gS m) sh.length 70).map Shf.e) (.slice a3 L3 k3)*(sl 79 1 ((spl2 (fW m) (gW m) ws.length 70).map eU) (.slice a4 L4 k4)*(sl 59 9 ((cs).map Cll.e) (.slice b1 cs.length l1)*(sl 87 7 ((lg).map Acc.e) (.slice b2 lg.length l2)*(sl 102 5 ((sh).map Shf.e) (.slice b3 sh.length l3)*(sl 79 1 ((ws).map eU) (.slice b4 ws.length l4)*F))))))))))) (fun q _=>L3+1-(intOf q).toNat)
     case atStart=>exact⟨0,by omega,rfl,by ((with_reducible apply Sat.fin hs);(with_reducible exact Ql))⟩
     case round=>
      obtain⟨n,kk,rfl,hs⟩:=hrel
      by_cases hkr:n=L3
      ·have hkr:=hkr.symm
       subst hkr
       have hlt:decide ((L3:Int)<(L3:Int))=false:=by simp
       have hq1:¬L3<(spl2 (fS m) (gS m) sh.length 70).length:=by rw[Qf];exact(by have:=hL1.out;have:=hL2.out;have:=hL3.out;have:=hL4.out;omega)
       have hq2:decide (L3<(spl2 (fS m) (gS m) sh.length 70).length)=false:=by simpa using hq1
       have hq3:decide ((L3:Int)<((spl2 (fS m) (gS m) sh.length 70).length:Int))=false:=by simpa using hq1
       clear hq1
       (repeat'(first|(go_big_may;(first|((with_reducible apply Za hs);exact Ii;rfl;(with_reducible repeat first|exact Qh|apply Qk);rfl;rfl;(simp only[Uc,Uz]))|((with_reducible apply Zs hs);exact Ii;rfl;(with_reducible repeat first|exact Qh|apply Qk);rfl;(simp only[Uc,Uz]))))|go_step))
       go_loopw [10] (fun q wr=>∃n:Nat,n≤L4∧q=.int .i64 (n:Int)∧Sat O wr (pt q2 (.cells #[.slice b1 cs.length l1,.slice b2 lg.length l2,.slice b3 sh.length l3,.slice b4 ws.length l4] 30)*(pt q1 (.cells #[.slice a1 L1 k1,.slice a2 L2 k2,.slice a3 L3 k3,.slice a4 L4 k4] 30)*(sl 59 9 ((spl2 (fC m) (gC m) cs.length 70).map Cll.e) (.slice a1 L1 k1)*(sl 87 7 ((spl2 (fA m) (gA m) lg.length 70).map Acc.e) (.slice a2 L2 k2)*(sl 102 5 ((spl2 (fS m) (gS m) sh.length 70).map Shf.e) (.slice a3 L3 k3)*(sl 79 1 ((spl2 (fW m) (gW m) ws.length 70).map eU) (.slice a4 L4 k4)*(sl 59 9 ((cs).map Cll.e) (.slice b1 cs.length l1)*(sl 87 7 ((lg).map Acc.e) (.slice b2 lg.length l2)*(sl 102 5 ((sh).map Shf.e) (.slice b3 sh.length l3)*(sl 79 1 ((ws).map eU) (.slice b4 ws.length l4)*F))))))))))) (fun q _=>L4+1-(intOf q).toNat)
       case atStart=>exact⟨0,by omega,rfl,by ((with_reducible apply Sat.fin hs);(with_reducible exact Ql))⟩
       case round=>
        obtain⟨n,kk,rfl,hs⟩:=hrel
        by_cases hkr:n=L4
        ·have hkr:=hkr.symm
         subst hkr
         have hlt:decide ((L4:Int)<(L4:Int))=false:=by simp
         have hq1:¬L4<(spl2 (fW m) (gW m) ws.length 70).length:=by rw[Qf];exact(by have:=hL1.out;have:=hL2.out;have:=hL3.out;have:=hL4.out;omega)
         have hq2:decide (L4<(spl2 (fW m) (gW m) ws.length 70).length)=false:=by simpa using hq1
         have hq3:decide ((L4:Int)<((spl2 (fW m) (gW m) ws.length 70).length:Int))=false:=by simpa using hq1
         clear hq1
         (repeat'(first|(go_big_may;(first|((with_reducible apply Za hs);exact Ii;rfl;(with_reducible repeat first|exact Qh|apply Qk);rfl;rfl;(simp only[Uc,Uz]))|((with_reducible apply Zs hs);exact Ii;rfl;(with_reducible repeat first|exact Qh|apply Qk);rfl;(simp only[Uc,Uz]))))|go_step))
         (go_ret)
         refine⟨rfl,?_⟩
         simp only[Ma]
         apply runR_mk
         have hs2:=hs.pull (A:=sl 59 9 ((cs).map Cll.e) (.slice b1 cs.length l1)*(sl 87 7 ((lg).map Acc.e) (.slice b2 lg.length l2)*(sl 102 5 ((sh).map Shf.e) (.slice b3 sh.length l3)*(sl 79 1 ((ws).map eU) (.slice b4 ws.length l4))))) (by (with_reducible repeat first|exact Qh|apply Qb|apply Qk))
         simp only[Ma]at hs2
         have hs:=runR_mk hs2
         ((with_reducible apply Sat.fin hs);(with_reducible repeat first|exact Ql|exact Qh|apply Qb|apply Qk))
        ·have hnL:Hid (n<L4):=Lh (by omega)
         have hlt:decide ((n:Int)<(L4:Int))=true:=by simp;omega
         have hlt2:decide (n<L4)=true:=by simp;omega
         have hq1:n<(spl2 (fW m) (gW m) ws.length 70).length:=by rw[Qf];exact(by have:=hL1.out;have:=hL2.out;have:=hL3.out;have:=hL4.out;omega)
         have hq2:decide (n<(spl2 (fW m) (gW m) ws.length 70).length)=true:=by simpa using hq1
         have hln:n<((spl2 (fW m) (gW m) ws.length 70).map eU).length:=by rw[List.length_map,Qf];exact(by have:=hL1.out;have:=hL2.out;have:=hL3.out;have:=hL4.out;omega)
         by_cases hlo:n<ws.length
         ·have d1:decide ((n:Int)<(ws.length:Int))=true:=by simp;omega
          have d2:decide ((n:Int)≥(ws.length:Int))=false:=by simp;omega
          have d3:decide (n<ws.length)=true:=by simp;omega
          have d4:decide (ws.length≤n)=false:=by simp;omega
          have hw1:wrap64 (m+(n:Int))=m+(n:Int):=by unfold wrap64;omega
          have hcn:(n:Int)%18446744073709551616=(n:Int):=by omega
          have hcm:(m+(n:Int))%18446744073709551616=m+(n:Int):=by omega
          have hgv:((spl2 (fW m) (gW m) ws.length 70).map eU)[n]? = some (eU (m+(n:Int))):=by rw[Ym,spl2_lo _ _ _ _ _ hlo];rfl
          clear hlo hkr hq1
          go_light
          (repeat'(first|(((with_reducible apply QH);rfl;rfl;((simp only[ev,Ue,Uf]);rfl);rfl;(simp only[Uc,Uz]));(repeat((with_reducible apply QH);rfl;rfl;((simp only[ev,Ue,Uf]);rfl);rfl;(simp only[Uc,Uz]))))|((with_reducible apply Q5);((simp only[ev,Ue,Uf]);rfl);((simp only[cond_true,cond_false,ev,Ue,Uf]);rfl);(first|(with_reducible exact Qc)|((with_reducible apply want_some);rfl;rfl;(simp only[Ue,Uf])));(simp only[Uc,Uz]))|(go_big_may;(first|((with_reducible apply wl_neqI);rfl;rfl;(exact bne_self_eq_false _);rfl;(simp only[Uc,Uz]))|(first|((with_reducible apply Za hs);exact Ii;rfl;(with_reducible repeat first|exact Qh|apply Qk);rfl;rfl;(simp only[Uc,Uz]))|((with_reducible apply Zx hs);exact Ii;rfl;assumption;(with_reducible repeat first|exact Qh|apply Qk);rfl;(assumption);rfl;rfl;(simp only[Uc,Uz]))|((with_reducible apply ZH hs);exact Ii;exact Ii;rfl;rfl;(with_reducible repeat first|exact Qh|apply Qk);(rfl);(assumption);rfl;intro b off hat;(simp only[Uc,Uz]))|((with_reducible apply Zs hs);exact Ii;rfl;(with_reducible repeat first|exact Qh|apply Qk);rfl;(simp only[Uc,Uz])))))|go_guarded|go_step))
          go_roundw
          case rel=>exact⟨n+1,(by have:=hnL.out;omega),by simp,by ((with_reducible apply Sat.fin hs);(with_reducible exact Ql))⟩
          case measure=>have:=hnL.out;simp[intOf];omega
         ·have d1:decide ((n:Int)<(ws.length:Int))=false:=by simp;omega
          have d2:decide ((n:Int)≥(ws.length:Int))=true:=by simp;omega
          have d3:decide (n<ws.length)=false:=by simp;omega
          have d4:decide (ws.length≤n)=true:=by simp;omega
          have hw1:wrap64 ((n:Int)-(ws.length:Int))=(n:Int)-(ws.length:Int):=by unfold wrap64;omega
          have hw2:wrap64 (-m-((n:Int)-(ws.length:Int))) = -m-((n:Int)-(ws.length:Int)):=by unfold wrap64;omega
          have hcm:(m+1000000)%18446744073709551616=m+1000000:=by omega
          have hcast:((n-ws.length:Nat):Int)=(n:Int)-(ws.length:Int):=by omega
          have hgv:((spl2 (fW m) (gW m) ws.length 70).map eU)[n]? = some (eU (m+1000000)):=by rw[Ym,spl2_hi _ _ _ _ _ hlo (by have:=hL1.out;have:=hL2.out;have:=hL3.out;have:=hL4.out;omega)];simp only[gW,hcast,Option.map_some]
          clear hcast hlo hkr hq1
          go_light
          (repeat'(first|(((with_reducible apply QH);rfl;rfl;((simp only[ev,Ue,Uf]);rfl);rfl;(simp only[Uc,Uz]));(repeat((with_reducible apply QH);rfl;rfl;((simp only[ev,Ue,Uf]);rfl);rfl;(simp only[Uc,Uz]))))|((with_reducible apply Q5);((simp only[ev,Ue,Uf]);rfl);((simp only[cond_true,cond_false,ev,Ue,Uf]);rfl);(first|(with_reducible exact Qc)|((with_reducible apply want_some);rfl;rfl;(simp only[Ue,Uf])));(simp only[Uc,Uz]))|(go_big_may;(first|((with_reducible apply wl_neqI);rfl;rfl;(exact bne_self_eq_false _);rfl;(simp only[Uc,Uz]))|(first|((with_reducible apply Za hs);exact Ii;rfl;(with_reducible repeat first|exact Qh|apply Qk);rfl;rfl;(simp only[Uc,Uz]))|((with_reducible apply Zx hs);exact Ii;rfl;assumption;(with_reducible repeat first|exact Qh|apply Qk);rfl;(assumption);rfl;rfl;(simp only[Uc,Uz]))|((with_reducible apply ZH hs);exact Ii;exact Ii;rfl;rfl;(with_reducible repeat first|exact Qh|apply Qk);(rfl);(assumption);rfl;intro b off hat;(simp only[Uc,Uz]))|((with_reducible apply Zs hs);exact Ii;rfl;(with_reducible repeat first|exact Qh|apply Qk);rfl;(simp only[Uc,Uz])))))|go_guarded|go_step))
          go_roundw
          case rel=>exact⟨n+1,(by have:=hnL.out;omega),by simp,by ((with_reducible apply Sat.fin hs);(with_reducible exact Ql))⟩
          case measure=>have:=hnL.out;simp[intOf];omega
      ·have hnL:Hid (n<L3):=Lh (by omega)
       have hlt:decide ((n:Int)<(L3:Int))=true:=by simp;omega
       have hlt2:decide (n<L3)=true:=by simp;omega
       have hq1:n<(spl2 (fS m) (gS m) sh.length 70).length:=by rw[Qf];exact(by have:=hL1.out;have:=hL2.out;have:=hL3.out;have:=hL4.out;omega)
       have hq2:decide (n<(spl2 (fS m) (gS m) sh.length 70).length)=true:=by simpa using hq1
       have hln:n<((spl2 (fS m) (gS m) sh.length 70).map Shf.e).length:=by rw[List.length_map,Qf];exact(by have:=hL1.out;have:=hL2.out;have:=hL3.out;have:=hL4.out;omega)
       by_cases hlo:n<sh.length
       ·have d1:decide ((n:Int)<(sh.length:Int))=true:=by simp;omega
        have d2:decide ((n:Int)≥(sh.length:Int))=false:=by simp;omega
        have d3:decide (n<sh.length)=true:=by simp;omega
        have d4:decide (sh.length≤n)=false:=by simp;omega
        have hw1:wrap64 (m+(n:Int))=m+(n:Int):=by unfold wrap64;omega
        have hcn:(n:Int)%18446744073709551616=(n:Int):=by omega
        have hcm:(m+(n:Int))%18446744073709551616=m+(n:Int):=by omega
        have hgv:((spl2 (fS m) (gS m) sh.length 70).map Shf.e)[n]? = some (Shf.e (⟨m+(n:Int),0,-m,0,0⟩)):=by rw[Ym,spl2_lo _ _ _ _ _ hlo];rfl
        clear hlo hkr hq1
        go_light
        (repeat'(first|(((with_reducible apply QH);rfl;rfl;((simp only[ev,Ue,Uf]);rfl);rfl;(simp only[Uc,Uz]));(repeat(fail)))|((with_reducible apply Q5);((simp only[ev,Ue,Uf]);rfl);((simp only[cond_true,cond_false,ev,Ue,Uf]);rfl);(first|(with_reducible exact Qc)|((with_reducible apply want_some);rfl;rfl;(simp only[Ue,Uf])));(simp only[Uc,Uz]))|(go_big_may;(first|(first|(first|(with_reducible refine NQ.mk ?_)|((with_reducible apply Zd);rfl;rfl)|(with_reducible refine Ze ?_))|((with_reducible apply Za hs);exact Ii;rfl;(with_reducible repeat first|exact Qh|apply Qk);rfl;rfl;(simp only[Uc,Uz]))|((with_reducible apply QV (k:=0) hs);exact Ii;rfl;assumption;(with_reducible repeat first|exact Qh|apply Qk);(exact(Nat.add_zero _).symm);(assumption);(exact Vb rfl);rfl;rfl;(simp only[Uc,Uz]))|((with_reducible apply ZH hs);exact Ii;exact Ii;rfl;rfl;(with_reducible repeat first|exact Qh|apply Qk);(rfl);(assumption);rfl;intro b off hat;(simp only[Uc,Uz]))|((with_reducible apply Zs hs);exact Ii;rfl;(with_reducible repeat first|exact Qh|apply Qk);rfl;(simp only[Uc,Uz])))|((with_reducible refine Wp (id:=14) (Paz (Pbz (Pcz (Pdz (Pez (Pfz (Pgz (Phz [.neu 40,.neu 41,.neu 42])))))))) hs rfl ?_ ?_);kernel_rfl;clear hs;intro w hs)))|go_guarded|go_step))
        go_roundw
        case rel=>exact⟨n+1,(by have:=hnL.out;omega),by simp,by ((with_reducible apply Sat.fin hs);(with_reducible exact Ql))⟩
        case measure=>have:=hnL.out;simp[intOf];omega
       ·have d1:decide ((n:Int)<(sh.length:Int))=false:=by simp;omega
        have d2:decide ((n:Int)≥(sh.length:Int))=true:=by simp;omega
        have d3:decide (n<sh.length)=false:=by simp;omega
        have d4:decide (sh.length≤n)=true:=by simp;omega
        have hw1:wrap64 ((n:Int)-(sh.length:Int))=(n:Int)-(sh.length:Int):=by unfold wrap64;omega
        have hw2:wrap64 (-m-((n:Int)-(sh.length:Int))) = -m-((n:Int)-(sh.length:Int)):=by unfold wrap64;omega
        have hcm:(m+1000000)%18446744073709551616=m+1000000:=by omega
        have hcast:((n-sh.length:Nat):Int)=(n:Int)-(sh.length:Int):=by omega
        have hgv:((spl2 (fS m) (gS m) sh.length 70).map Shf.e)[n]? = some (Shf.e (⟨-m-((n:Int)-(sh.length:Int)),0,0,0,0⟩)):=by rw[Ym,spl2_hi _ _ _ _ _ hlo (by have:=hL1.out;have:=hL2.out;have:=hL3.out;have:=hL4.out;omega)];simp only[gS,hcast,Option.map_some]
        clear hcast hlo hkr hq1
        go_light
        (repeat'(first|(((with_reducible apply QH);rfl;rfl;((simp only[ev,Ue,Uf]);rfl);rfl;(simp only[Uc,Uz]));(repeat(fail)))|((with_reducible apply Q5);((simp only[ev,Ue,Uf]);rfl);((simp only[cond_true,cond_false,ev,Ue,Uf]);rfl);(first|(with_reducible exact Qc)|((with_reducible apply want_some);rfl;rfl;(simp only[Ue,Uf])));(simp only[Uc,Uz]))|(go_big_may;(first|(first|(first|(with_reducible refine NQ.mk ?_)|((with_reducible apply Zd);rfl;rfl)|(with_reducible refine Ze ?_))|((with_reducible apply Za hs);exact Ii;rfl;(with_reducible repeat first|exact Qh|apply Qk);rfl;rfl;(simp only[Uc,Uz]))|((with_reducible apply QV (k:=0) hs);exact Ii;rfl;assumption;(with_reducible repeat first|exact Qh|apply Qk);(exact(Nat.add_zero _).symm);(assumption);(exact Vb rfl);rfl;rfl;(simp only[Uc,Uz]))|((with_reducible apply ZH hs);exact Ii;exact Ii;rfl;rfl;(with_reducible repeat first|exact Qh|apply Qk);(rfl);(assumption);rfl;intro b off hat;(simp only[Uc,Uz]))|((with_reducible apply Zs hs);exact Ii;rfl;(with_reducible repeat first|exact Qh|apply Qk);rfl;(simp only[Uc,Uz])))|((with_reducible refine Wp (id:=14) (Paz (Pbz (Pcz (Pdz (Pez (Pfz (Pgz (Phz [.neu 40,.neu 41,.neu 42])))))))) hs rfl ?_ ?_);kernel_rfl;clear hs;intro w hs)))|go_guarded|go_step))
        go_roundw
        case rel=>exact⟨n+1,(by have:=hnL.out;omega),by simp,by ((with_reducible apply Sat.fin hs);(with_reducible exact Ql))⟩
        case measure=>have:=hnL.out;simp[intOf];omega
    ·have hnL:Hid (n<L2):=Lh (by omega)
     have hlt:decide ((n:Int)<(L2:Int))=true:=by simp;omega
     have hlt2:decide (n<L2)=true:=by simp;omega
     have hq1:n<(spl2 (fA m) (gA m) lg.length 70).length:=by rw[Qf];exact(by have:=hL1.out;have:=hL2.out;have:=hL3.out;have:=hL4.out;omega)
     have hq2:decide (n<(spl2 (fA m) (gA m) lg.length 70).length)=true:=by simpa using hq1
     have hln:n<((spl2 (fA m) (gA m) lg.length 70).map Acc.e).length:=by rw[List.length_map,Qf];exact(by have:=hL1.out;have:=hL2.out;have:=hL3.out;have:=hL4.out;omega)
     by_cases hlo:n<lg.length
     ·have d1:decide ((n:Int)<(lg.length:Int))=true:=by simp;omega
      have d2:decide ((n:Int)≥(lg.length:Int))=false:=by simp;omega
      have d3:decide (n<lg.length)=true:=by simp;omega
      have d4:decide (lg.length≤n)=false:=by simp;omega
      have hw1:wrap64 (m+(n:Int))=m+(n:Int):=by unfold wrap64;omega
      have hcn:(n:Int)%18446744073709551616=(n:Int):=by omega
      have hcm:(m+(n:Int))%18446744073709551616=m+(n:Int):=by omega
      have hgv:((spl2 (fA m) (gA m) lg.length 70).map Acc.e)[n]? = some (Acc.e (⟨m+(n:Int),0,0,-m,0,0,0⟩)):=by rw[Ym,spl2_lo _ _ _ _ _ hlo];rfl
      clear hlo hkr hq1
      go_light
      (repeat'(first|(((with_reducible apply QH);rfl;rfl;((simp only[ev,Ue,Uf]);rfl);rfl;(simp only[Uc,Uz]));(repeat(fail)))|((with_reducible apply Q5);((simp only[ev,Ue,Uf]);rfl);((simp only[cond_true,cond_false,ev,Ue,Uf]);rfl);(first|(with_reducible exact Qc)|((with_reducible apply want_some);rfl;rfl;(simp only[Ue,Uf])));(simp only[Uc,Uz]))|(go_big_may;(first|(first|(first|(with_reducible refine NQ.mk ?_)|((with_reducible apply Zd);rfl;rfl)|(with_reducible refine Ze ?_))|((with_reducible apply Za hs);exact Ii;rfl;(with_reducible repeat first|exact Qh|apply Qk);rfl;rfl;(simp only[Uc,Uz]))|((with_reducible apply QV (k:=0) hs);exact Ii;rfl;assumption;(with_reducible repeat first|exact Qh|apply Qk);(exact(Nat.add_zero _).symm);(assumption);(exact Vb rfl);rfl;rfl;(simp only[Uc,Uz]))|((with_reducible apply ZH hs);exact Ii;exact Ii;rfl;rfl;(with_reducible repeat first|exact Qh|apply Qk);(rfl);(assumption);rfl;intro b off hat;(simp only[Uc,Uz]))|((with_reducible apply Zs hs);exact Ii;rfl;(with_reducible repeat first|exact Qh|apply Qk);rfl;(simp only[Uc,Uz])))|((with_reducible refine Wp (id:=9) (Paz (Pbz (Pcz (Pdz (Pez (Pfz (Pgz (Phz [.neu 40,.neu 41,.neu 42])))))))) hs rfl ?_ ?_);kernel_rfl;clear hs;intro w hs)))|go_guarded|go_step))
      go_roundw
      case rel=>exact⟨n+1,(by have:=hnL.out;omega),by simp,by ((with_reducible apply Sat.fin hs);(with_reducible exact Ql))⟩
      case measure=>have:=hnL.out;simp[intOf];omega
     ·have d1:decide ((n:Int)<(lg.length:Int))=false:=by simp;omega
      have d2:decide ((n:Int)≥(lg.length:Int))=true:=by simp;omega
      have d3:decide (n<lg.length)=false:=by simp;omega
      have d4:decide (lg.length≤n)=true:=by simp;omega
      have hw1:wrap64 ((n:Int)-(lg.length:Int))=(n:Int)-(lg.length:Int):=by unfold wrap64;omega
      have hw2:wrap64 (-m-((n:Int)-(lg.length:Int))) = -m-((n:Int)-(lg.length:Int)):=by unfold wrap64;omega
      have hcm:(m+1000000)%18446744073709551616=m+1000000:=by omega
      have hcast:((n-lg.length:Nat):Int)=(n:Int)-(lg.length:Int):=by omega
      have hgv:((spl2 (fA m) (gA m) lg.length 70).map Acc.e)[n]? = some (Acc.e (⟨-m-((n:Int)-(lg.length:Int)),0,0,0,0,0,0⟩)):=by rw[Ym,spl2_hi _ _ _ _ _ hlo (by have:=hL1.out;have:=hL2.out;have:=hL3.out;have:=hL4.out;omega)];simp only[gA,hcast,Option.map_some]
      clear hcast hlo hkr hq1
      go_light
      (repeat'(first|(((with_reducible apply QH);rfl;rfl;((simp only[ev,Ue,Uf]);rfl);rfl;(simp only[Uc,Uz]));(repeat(fail)))|((with_reducible apply Q5);((simp only[ev,Ue,Uf]);rfl);((simp only[cond_true,cond_false,ev,Ue,Uf]);rfl);(first|(with_reducible exact Qc)|((with_reducible apply want_some);rfl;rfl;(simp only[Ue,Uf])));(simp only[Uc,Uz]))|(go_big_may;(first|(first|(first|(with_reducible refine NQ.mk ?_)|((with_reducible apply Zd);rfl;rfl)|(with_reducible refine Ze ?_))|((with_reducible apply Za hs);exact Ii;rfl;(with_reducible repeat first|exact Qh|apply Qk);rfl;rfl;(simp only[Uc,Uz]))|((with_reducible apply QV (k:=0) hs);exact Ii;rfl;assumption;(with_reducible repeat first|exact Qh|apply Qk);(exact(Nat.add_zero _).symm);(assumption);(exact Vb rfl);rfl;rfl;(simp only[Uc,Uz]))|((with_reducible apply ZH hs);exact Ii;exact Ii;rfl;rfl;(with_reducible repeat first|exact Qh|apply Qk);(rfl);(assumption);rfl;intro b off hat;(simp only[Uc,Uz]))|((with_reducible apply Zs hs);exact Ii;rfl;(with_reducible repeat first|exact Qh|apply Qk);rfl;(simp only[Uc,Uz])))|((with_reducible refine Wp (id:=9) (Paz (Pbz (Pcz (Pdz (Pez (Pfz (Pgz (Phz [.neu 40,.neu 41,.neu 42])))))))) hs rfl ?_ ?_);kernel_rfl;clear hs;intro w hs)))|go_guarded|go_step))
      go_roundw
      case rel=>exact⟨n+1,(by have:=hnL.out;omega),by simp,by ((with_reducible apply Sat.fin hs);(with_reducible exact Ql))⟩
      case measure=>have:=hnL.out;simp[intOf];omega
  ·have hnL:Hid (n<L1):=Lh (by omega)
   have hlt:decide ((n:Int)<(L1:Int))=true:=by simp;omega
   have hlt2:decide (n<L1)=true:=by simp;omega
   have hq1:n<(spl2 (fC m) (gC m) cs.length 70).length:=by rw[Qf];exact(by have:=hL1.out;have:=hL2.out;have:=hL3.out;have:=hL4.out;omega)
   have hq2:decide (n<(spl2 (fC m) (gC m) cs.length 70).length)=true:=by simpa using hq1
   have hln:n<((spl2 (fC m) (gC m) cs.length 70).map Cll.e).length:=by rw[List.length_map,Qf];exact(by have:=hL1.out;have:=hL2.out;have:=hL3.out;have:=hL4.out;omega)
   by_cases hlo:n<cs.length
   ·have d1:decide ((n:Int)<(cs.length:Int))=true:=by simp;omega
    have d2:decide ((n:Int)≥(cs.length:Int))=false:=by simp;omega
    have d3:decide (n<cs.length)=true:=by simp;omega
    have d4:decide (cs.length≤n)=false:=by simp;omega
    have hw1:wrap64 (m+(n:Int))=m+(n:Int):=by unfold wrap64;omega
    have hcn:(n:Int)%18446744073709551616=(n:Int):=by omega
    have hcm:(m+(n:Int))%18446744073709551616=m+(n:Int):=by omega
    have hgv:((spl2 (fC m) (gC m) cs.length 70).map Cll.e)[n]? = some (Cll.e (⟨m+(n:Int),0,-m,0,0,0,0,0,0⟩)):=by rw[Ym,spl2_lo _ _ _ _ _ hlo];rfl
    clear hlo hkr hq1
    go_light
    (repeat'(first|(((with_reducible apply QH);rfl;rfl;((simp only[ev,Ue,Uf]);rfl);rfl;(simp only[Uc,Uz]));(repeat(fail)))|((with_reducible apply Q5);((simp only[ev,Ue,Uf]);rfl);((simp only[cond_true,cond_false,ev,Ue,Uf]);rfl);(first|(with_reducible exact Qc)|((with_reducible apply want_some);rfl;rfl;(simp only[Ue,Uf])));(simp only[Uc,Uz]))|(go_big_may;(first|(first|(first|(with_reducible refine NQ.mk ?_)|((with_reducible apply Zd);rfl;rfl)|(with_reducible refine Ze ?_))|((with_reducible apply Za hs);exact Ii;rfl;(with_reducible repeat first|exact Qh|apply Qk);rfl;rfl;(simp only[Uc,Uz]))|((with_reducible apply QV (k:=0) hs);exact Ii;rfl;assumption;(with_reducible repeat first|exact Qh|apply Qk);(exact(Nat.add_zero _).symm);(assumption);(exact Vb rfl);rfl;rfl;(simp only[Uc,Uz]))|((with_reducible apply ZH hs);exact Ii;exact Ii;rfl;rfl;(with_reducible repeat first|exact Qh|apply Qk);(rfl);(assumption);rfl;intro b off hat;(simp only[Uc,Uz]))|((with_reducible apply Zs hs);exact Ii;rfl;(with_reducible repeat first|exact Qh|apply Qk);rfl;(simp only[Uc,Uz])))|((with_reducible refine Wp (id:=4) (Paz (Pbz (Pcz (Pdz (Pez (Pfz (Pgz (Phz [.neu 40,.neu 41,.neu 42])))))))) hs rfl ?_ ?_);kernel_rfl;clear hs;intro w hs)))|go_guarded|go_step))
    go_roundw
    case rel=>exact⟨n+1,(by have:=hnL.out;omega),by simp,by ((with_reducible apply Sat.fin hs);(with_reducible exact Ql))⟩
    case measure=>have:=hnL.out;simp[intOf];omega
   ·have d1:decide ((n:Int)<(cs.length:Int))=false:=by simp;omega
    have d2:decide ((n:Int)≥(cs.length:Int))=true:=by simp;omega
    have d3:decide (n<cs.length)=false:=by simp;omega
    have d4:decide (cs.length≤n)=true:=by simp;omega
    have hw1:wrap64 ((n:Int)-(cs.length:Int))=(n:Int)-(cs.length:Int):=by unfold wrap64;omega
    have hw2:wrap64 (-m-((n:Int)-(cs.length:Int))) = -m-((n:Int)-(cs.length:Int)):=by unfold wrap64;omega
    have hcm:(m+1000000)%18446744073709551616=m+1000000:=by omega
    have hcast:((n-cs.length:Nat):Int)=(n:Int)-(cs.length:Int):=by omega
    have hgv:((spl2 (fC m) (gC m) cs.length 70).map Cll.e)[n]? = some (Cll.e (⟨-m-((n:Int)-(cs.length:Int)),0,0,0,0,0,0,0,0⟩)):=by rw[Ym,spl2_hi _ _ _ _ _ hlo (by have:=hL1.out;have:=hL2.out;have:=hL3.out;have:=hL4.out;omega)];simp only[gC,hcast,Option.map_some]
    clear hcast hlo hkr hq1
    go_light
    (repeat'(first|(((with_reducible apply QH);rfl;rfl;((simp only[ev,Ue,Uf]);rfl);rfl;(simp only[Uc,Uz]));(repeat(fail)))|((with_reducible apply Q5);((simp only[ev,Ue,Uf]);rfl);((simp only[cond_true,cond_false,ev,Ue,Uf]);rfl);(first|(with_reducible exact Qc)|((with_reducible apply want_some);rfl;rfl;(simp only[Ue,Uf])));(simp only[Uc,Uz]))|(go_big_may;(first|(first|(first|(with_reducible refine NQ.mk ?_)|((with_reducible apply Zd);rfl;rfl)|(with_reducible refine Ze ?_))|((with_reducible apply Za hs);exact Ii;rfl;(with_reducible repeat first|exact Qh|apply Qk);rfl;rfl;(simp only[Uc,Uz]))|((with_reducible apply QV (k:=0) hs);exact Ii;rfl;assumption;(with_reducible repeat first|exact Qh|apply Qk);(exact(Nat.add_zero _).symm);(assumption);(exact Vb rfl);rfl;rfl;(simp only[Uc,Uz]))|((with_reducible apply ZH hs);exact Ii;exact Ii;rfl;rfl;(with_reducible repeat first|exact Qh|apply Qk);(rfl);(assumption);rfl;intro b off hat;(simp only[Uc,Uz]))|((with_reducible apply Zs hs);exact Ii;rfl;(with_reducible repeat first|exact Qh|apply Qk);rfl;(simp only[Uc,Uz])))|((with_reducible refine Wp (id:=4) (Paz (Pbz (Pcz (Pdz (Pez (Pfz (Pgz (Phz [.neu 40,.neu 41,.neu 42])))))))) hs rfl ?_ ?_);kernel_rfl;clear hs;intro w hs)))|go_guarded|go_step))
    go_roundw
    case rel=>exact⟨n+1,(by have:=hnL.out;omega),by simp,by ((with_reducible apply Sat.fin hs);(with_reducible exact Ql))⟩
    case measure=>have:=hnL.out;simp[intOf];omega
end Go.Proofs.YtefjbdajgakgpaaGreat
