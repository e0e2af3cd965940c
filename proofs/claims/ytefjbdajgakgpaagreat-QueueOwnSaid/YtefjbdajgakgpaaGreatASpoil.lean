/-
  A run spoilt, and what is left of it (written by genspoil.py).
-/
import Derived.Test.YtefjbdajgakgpaaGreatACopy
set_option linter.all false
namespace Go.Proofs.YtefjbdajgakgpaaGreat
open Go.RowKit Hp
set_option maxRecDepth 100000
set_option maxHeartbeats 1000000
attribute [local irreducible] Go.Calls
def spo {α:Type}(f:Nat→α)(xs:List α)(n:Nat):List α:=(List.range n).map f++xs.drop n
theorem spo_zero {α:Type}(f:Nat→α)(xs:List α):spo f xs 0=xs:=by simp[spo]
theorem spo_len {α:Type}(f:Nat→α)(xs:List α)(n:Nat)(h:n≤xs.length):(spo f xs n).length=xs.length:=by simp[spo];omega
theorem spo_all {α:Type}(f:Nat→α)(xs:List α):spo f xs xs.length=(List.range xs.length).map f:=by simp[spo]
theorem spo_set {α:Type}(f:Nat→α)(xs:List α)(n:Nat)(h:n<xs.length):(spo f xs n).set n (f n)=spo f xs (n+1):=by
 have hl:((List.range n).map f).length=n:=by simp
 unfold spo
 rw[List.set_append,hl,if_neg (by omega),Nat.sub_self,List.drop_eq_getElem_cons h,Uz,List.range_succ,Yh,List.append_assoc]
 rfl
def fC (m:Int)(i:Nat):Cll:=⟨m+i,0,-m,0,0,0,0,0,0⟩
def fA (m:Int)(i:Nat):Acc:=⟨m+i,0,0,-m,0,0,0⟩
def fS (m:Int)(i:Nat):Shf:=⟨m+i,0,-m,0,0⟩
def fW (m:Int)(i:Nat):Int:=m+i
def gC (m:Int)(i:Nat):Cll:=⟨-m-i,0,0,0,0,0,0,0,0⟩
def gA (m:Int)(i:Nat):Acc:=⟨-m-i,0,0,0,0,0,0⟩
def gS (m:Int)(i:Nat):Shf:=⟨-m-i,0,0,0,0⟩
def gW (m:Int)(_i:Nat):Int:=m+1000000
def spl2 {α:Type}(f g:Nat→α)(n k:Nat):List α:=(List.range n).map f++(List.range k).map g
theorem Qf {α:Type}(f g:Nat→α)(n k:Nat):(spl2 f g n k).length=n+k:=by simp[spl2]
theorem spl2_succ {α:Type}(f g:Nat→α)(n k:Nat):spl2 f g n (k+1)=spl2 f g n k++[g k]:=by simp[spl2,List.range_succ]
theorem spl2_zero {α:Type}(f g:Nat→α)(n:Nat):spl2 f g n 0=(List.range n).map f:=by simp[spl2]
set_option maxHeartbeats 8000000 in
theorem spoil_run (cs:List Cll)(lg:List Acc)(sh:List Shf)(ws:List Int)(u:Value)(m:Int)(hl:RunLen cs lg sh ws)(m0:0≤m)(m1:m≤100000) :
  Does Tryz.prog 25 #[u,.int .i64 m] (RunR cs lg sh ws u) (fun v=>RunR (spl2 (fC m) (gC m) cs.length 70) (spl2 (fA m) (gA m) lg.length 70) (spl2 (fS m) (gS m) sh.length 70) (spl2 (fW m) (gW m) ws.length 70) v):=by
 intro O w F hs
 have hg:=runR_get hs
 clear hs
 obtain⟨a1,k1,a2,k2,a3,k3,a4,k4,rfl,hs⟩:=hg
 obtain⟨g1,g2,g3,g4⟩:=hl
 have hng:wrap64 (-m) = -m:=by unfold wrap64;omega
 have hcv:m%18446744073709551616=m:=by omega
 go_enter Tryz.func25,Tryz.ntmps25
 go_wp2_with (first|((show wpList _ _ _ (Oper.mk (some 2) _ _ _ _ _::_) _ _);(with_reducible apply Zo hs);rfl;rfl;rfl;clear hs;intro w b1 hs;(simp only[Uc,Uz]))|((show wpList _ _ _ (Oper.mk (some 4) _ _ _ _ _::_) _ _);(with_reducible apply Zu hs);exact Ii;rfl;clear hs;intro w b2 hs;(simp only[Uc,Uz])))
 go_loopw [5] (fun q wr=>∃n:Nat,n≤cs.length∧q=.int .i64 (n:Int)∧Sat O wr (pt b2 (.cells #[.slice none 0 0,.slice none 0 0,.slice none 0 0,.slice none 0 0] 30)*(pt b1 (.cells #[.slice a1 cs.length k1,.slice a2 lg.length k2,.slice a3 sh.length k3,.slice a4 ws.length k4] 30)*(sl 59 9 ((spo (fC m) cs n).map Cll.e) (.slice a1 cs.length k1)*(sl 87 7 ((lg).map Acc.e) (.slice a2 lg.length k2)*(sl 102 5 ((sh).map Shf.e) (.slice a3 sh.length k3)*(sl 79 1 ((ws).map eU) (.slice a4 ws.length k4)*F))))))) (fun q _=>cs.length+1-(intOf q).toNat)
 case atStart=>exact⟨0,by omega,rfl,by rw[spo_zero];((with_reducible apply Sat.fin hs);(with_reducible exact Ql))⟩
 case round=>
  obtain⟨n,kk,rfl,hs⟩:=hrel
  by_cases hkr:n=cs.length
  ·subst hkr
   rw[spo_all]at hs
   have hlt:decide ((cs.length:Int)<(cs.length:Int))=false:=by simp
   go_wp2_with (first|((with_reducible apply Za hs);exact Ii;rfl;(with_reducible repeat first|exact Qh|apply Qk);rfl;rfl;(simp only[Uc,Uz]))|((with_reducible apply Zs hs);exact Ii;rfl;(with_reducible repeat first|exact Qh|apply Qk);rfl;(simp only[Uc,Uz])))
   go_loopw [6] (fun q wr=>∃n:Nat,n≤lg.length∧q=.int .i64 (n:Int)∧Sat O wr (pt b2 (.cells #[.slice none 0 0,.slice none 0 0,.slice none 0 0,.slice none 0 0] 30)*(pt b1 (.cells #[.slice a1 cs.length k1,.slice a2 lg.length k2,.slice a3 sh.length k3,.slice a4 ws.length k4] 30)*(sl 59 9 (((List.range cs.length).map (fC m)).map Cll.e) (.slice a1 cs.length k1)*(sl 87 7 ((spo (fA m) lg n).map Acc.e) (.slice a2 lg.length k2)*(sl 102 5 ((sh).map Shf.e) (.slice a3 sh.length k3)*(sl 79 1 ((ws).map eU) (.slice a4 ws.length k4)*F))))))) (fun q _=>lg.length+1-(intOf q).toNat)
   case atStart=>exact⟨0,by omega,rfl,by rw[spo_zero];((with_reducible apply Sat.fin hs);(with_reducible exact Ql))⟩
   case round=>
    obtain⟨n,kk,rfl,hs⟩:=hrel
    by_cases hkr:n=lg.length
    ·subst hkr
     rw[spo_all]at hs
     have hlt:decide ((lg.length:Int)<(lg.length:Int))=false:=by simp
     go_wp2_with (first|((with_reducible apply Za hs);exact Ii;rfl;(with_reducible repeat first|exact Qh|apply Qk);rfl;rfl;(simp only[Uc,Uz]))|((with_reducible apply Zs hs);exact Ii;rfl;(with_reducible repeat first|exact Qh|apply Qk);rfl;(simp only[Uc,Uz])))
     go_loopw [7] (fun q wr=>∃n:Nat,n≤sh.length∧q=.int .i64 (n:Int)∧Sat O wr (pt b2 (.cells #[.slice none 0 0,.slice none 0 0,.slice none 0 0,.slice none 0 0] 30)*(pt b1 (.cells #[.slice a1 cs.length k1,.slice a2 lg.length k2,.slice a3 sh.length k3,.slice a4 ws.length k4] 30)*(sl 59 9 (((List.range cs.length).map (fC m)).map Cll.e) (.slice a1 cs.length k1)*(sl 87 7 (((List.range lg.length).map (fA m)).map Acc.e) (.slice a2 lg.length k2)*(sl 102 5 ((spo (fS m) sh n).map Shf.e) (.slice a3 sh.length k3)*(sl 79 1 ((ws).map eU) (.slice a4 ws.length k4)*F))))))) (fun q _=>sh.length+1-(intOf q).toNat)
     case atStart=>exact⟨0,by omega,rfl,by rw[spo_zero];((with_reducible apply Sat.fin hs);(with_reducible exact Ql))⟩
     case round=>
      obtain⟨n,kk,rfl,hs⟩:=hrel
      by_cases hkr:n=sh.length
      ·subst hkr
       rw[spo_all]at hs
       have hlt:decide ((sh.length:Int)<(sh.length:Int))=false:=by simp
       go_wp2_with (first|((with_reducible apply Za hs);exact Ii;rfl;(with_reducible repeat first|exact Qh|apply Qk);rfl;rfl;(simp only[Uc,Uz]))|((with_reducible apply Zs hs);exact Ii;rfl;(with_reducible repeat first|exact Qh|apply Qk);rfl;(simp only[Uc,Uz])))
       go_loopw [8] (fun q wr=>∃n:Nat,n≤ws.length∧q=.int .i64 (n:Int)∧Sat O wr (pt b2 (.cells #[.slice none 0 0,.slice none 0 0,.slice none 0 0,.slice none 0 0] 30)*(pt b1 (.cells #[.slice a1 cs.length k1,.slice a2 lg.length k2,.slice a3 sh.length k3,.slice a4 ws.length k4] 30)*(sl 59 9 (((List.range cs.length).map (fC m)).map Cll.e) (.slice a1 cs.length k1)*(sl 87 7 (((List.range lg.length).map (fA m)).map Acc.e) (.slice a2 lg.length k2)*(sl 102 5 (((List.range sh.length).map (fS m)).map Shf.e) (.slice a3 sh.length k3)*(sl 79 1 ((spo (fW m) ws n).map eU) (.slice a4 ws.length k4)*F))))))) (fun q _=>ws.length+1-(intOf q).toNat)
       case atStart=>exact⟨0,by omega,rfl,by rw[spo_zero];((with_reducible apply Sat.fin hs);(with_reducible exact Ql))⟩
       case round=>
        obtain⟨n,kk,rfl,hs⟩:=hrel
        by_cases hkr:n=ws.length
        ·subst hkr
         rw[spo_all]at hs
         have hlt:decide ((ws.length:Int)<(ws.length:Int))=false:=by simp
         go_wp2_with (first|((with_reducible apply Za hs);exact Ii;rfl;(with_reducible repeat first|exact Qh|apply Qk);rfl;rfl;(simp only[Uc,Uz]))|((with_reducible apply Zs hs);exact Ii;rfl;(with_reducible repeat first|exact Qh|apply Qk);rfl;(simp only[Uc,Uz])))
         go_loopw [9] (fun q wr=>∃(n:Nat) (v1 v2 v3 v4:Value),n≤70∧q=.int .i64 (n:Int)∧Sat O wr (pt b2 (.cells #[.slice none 0 0,.slice none 0 0,.slice none 0 0,.slice none 0 0] 30)*(pt b1 (.cells #[v1,v2,v3,v4] 30)*(sl 59 9 ((spl2 (fC m) (gC m) cs.length n).map Cll.e) v1*(sl 87 7 ((spl2 (fA m) (gA m) lg.length n).map Acc.e) v2*(sl 102 5 ((spl2 (fS m) (gS m) sh.length n).map Shf.e) v3*(sl 79 1 ((spl2 (fW m) (gW m) ws.length n).map eU) v4*F))))))) (fun q _=>71-(intOf q).toNat)
         case atStart=>exact⟨0,_,_,_,_,by omega,rfl,by rw[spl2_zero,spl2_zero,spl2_zero,spl2_zero];((with_reducible apply Sat.fin hs);(with_reducible exact Ql))⟩
         case round=>
          obtain⟨n,v1,v2,v3,v4,kk,rfl,hs⟩:=hrel
          obtain⟨_,_,rfl⟩:=ZQ (hs.pull (A:=sl 59 9 _ v1) (by (with_reducible repeat first|exact Qh|apply Qk)))
          obtain⟨_,_,rfl⟩:=ZQ (hs.pull (A:=sl 87 7 _ v2) (by (with_reducible repeat first|exact Qh|apply Qk)))
          obtain⟨_,_,rfl⟩:=ZQ (hs.pull (A:=sl 102 5 _ v3) (by (with_reducible repeat first|exact Qh|apply Qk)))
          obtain⟨_,_,rfl⟩:=ZQ (hs.pull (A:=sl 79 1 _ v4) (by (with_reducible repeat first|exact Qh|apply Qk)))
          simp only[List.length_map,Qf]at hs ⊢
          by_cases hkr:n=70
          ·subst hkr
           have hlt:decide ((70:Int)<70)=false:=rfl
           go_wp2_with (first|((with_reducible apply Qg hs);exact Ii;rfl;(with_reducible repeat first|exact Qh|apply Qk);rfl;rfl;(simp only[Uc,Uz]))|((with_reducible apply ZJ hs);exact Ii;rfl;rfl;(with_reducible exact Qh);rfl;rfl;rfl;rfl;clear hs;intro w hs))
           ((try simp only[Exit.inBlock,Exit.then]);(with_reducible apply bodyPost_ret);((with_reducible apply results_c);rfl;rfl;(with_reducible apply loadF hs);exact Ii;(with_reducible exact Qh);rfl;rfl))
           refine⟨_,rfl,?_⟩
           apply runR_mk
           ((with_reducible apply Sat.fin hs);(with_reducible repeat first|exact Ql|exact Qh|apply Qb|apply Qk))
          ·have hlt:decide ((n:Int)<70)=true:=by simp;omega
           have hlt2:decide (n<70)=true:=by simp;omega
           have hw2:wrap64 (-m-(n:Int)) = -m-(n:Int):=by unfold wrap64;omega
           have hcm:(m+1000000)%18446744073709551616=m+1000000:=by omega
           have e0:(spl2 (fC m) (gC m) cs.length (n+1)).map Cll.e=(spl2 (fC m) (gC m) cs.length n).map Cll.e++[Cll.e (gC m n)]:=by rw[spl2_succ,Yh];rfl
           have q0:((spl2 (fC m) (gC m) cs.length n).map Cll.e).length=cs.length+n:=by rw[List.length_map,Qf]
           have e1:(spl2 (fA m) (gA m) lg.length (n+1)).map Acc.e=(spl2 (fA m) (gA m) lg.length n).map Acc.e++[Acc.e (gA m n)]:=by rw[spl2_succ,Yh];rfl
           have q1:((spl2 (fA m) (gA m) lg.length n).map Acc.e).length=lg.length+n:=by rw[List.length_map,Qf]
           have e2:(spl2 (fS m) (gS m) sh.length (n+1)).map Shf.e=(spl2 (fS m) (gS m) sh.length n).map Shf.e++[Shf.e (gS m n)]:=by rw[spl2_succ,Yh];rfl
           have q2:((spl2 (fS m) (gS m) sh.length n).map Shf.e).length=sh.length+n:=by rw[List.length_map,Qf]
           have e3:(spl2 (fW m) (gW m) ws.length (n+1)).map eU=(spl2 (fW m) (gW m) ws.length n).map eU++[eU (gW m n)]:=by rw[spl2_succ,Yh];rfl
           have q3:((spl2 (fW m) (gW m) ws.length n).map eU).length=ws.length+n:=by rw[List.length_map,Qf]
           go_wp2_with (first|((with_reducible apply Za hs);exact Ii;rfl;(with_reducible repeat first|exact Qh|apply Qk);rfl;rfl;(simp only[Uc,Uz]))|((with_reducible apply Zt hs);exact Ii;rfl;rfl;(with_reducible repeat first|exact Qh|apply Qk);(apply Qs;apply hs.pull;(with_reducible exact Qh));(exact Vb rfl);rfl;clear hs;intro w hs;simp only[Yg,Uc,Uz]at hs)|((with_reducible apply wl_bs hs);exact Ii;exact Ii;rfl;rfl;rfl;rfl;(exact Vb rfl);rfl;clear hs;intro w v hs;(simp only[Uc,Uz]))|((with_reducible apply QY hs);exact Ii;exact Ii;rfl;rfl;(focus with_reducible (repeat first|exact Qh|apply Qk);done);(with_reducible exact Qh);(simp only[Wm,Ws,Wa,Wc,Wn,Wr]at *;omega);(exact Vb rfl);rfl;clear hs;intro w v hs;(simp only[Uc,Uz])))
           go_roundw
           case rel=>exact⟨n+1,_,_,_,_,by omega,by simp,by rw[e0,e1,e2,e3];((with_reducible apply Sat.fin hs);(focus((repeat(first|with_reducible exact Ql|with_reducible exact Qh|with_reducible apply Qb|exact Qh|with_reducible apply Qk));done)))⟩
           case measure=>simp[intOf];omega
        ·have hlt:decide ((n:Int)<(ws.length:Int))=true:=by simp;omega
         have hlt2:decide (n<ws.length)=true:=by simp;omega
         have hw1:wrap64 (m+(n:Int))=m+(n:Int):=by unfold wrap64;omega
         have hcn:(n:Int)%18446744073709551616=(n:Int):=by omega
         have hcm:(m+(n:Int))%18446744073709551616=m+(n:Int):=by omega
         have hln:n<((spo (fW m) ws n).map eU).length:=by rw[List.length_map,spo_len _ _ _ kk];omega
         have hln2:n<(spo (fW m) ws n).length:=by rw[spo_len _ _ _ kk];omega
         have hln3:decide (n<(spo (fW m) ws n).length)=true:=by simpa using hln2
         obtain⟨x,hx⟩:∃x,(spo (fW m) ws n)[n]? = some x:=⟨_,Yd (by rw[spo_len _ _ _ kk];omega)⟩
         have hgv:((spo (fW m) ws n).map eU)[n]? = some (eU x):=by rw[Ym,hx];rfl
         have e:(spo (fW m) ws (n+1)).map eU=((spo (fW m) ws n).map eU).set n (eU (fW m n)):=by rw[←spo_set _ _ _ (by omega),Yk]
         go_wp2_with (first|((with_reducible apply Za hs);exact Ii;rfl;(with_reducible repeat first|exact Qh|apply Qk);rfl;rfl;(simp only[Uc,Uz]))|((with_reducible apply Qi hs);exact Ii;rfl;rfl;assumption;(with_reducible repeat first|exact Qh|apply Qk);rfl;(assumption);(exact Vb rfl);(rfl);rfl;clear hs;intro w hs)|((with_reducible apply ZH hs);exact Ii;exact Ii;rfl;rfl;(with_reducible repeat first|exact Qh|apply Qk);(rfl);(assumption);rfl;intro b off hat;(simp only[Uc,Uz]))|((with_reducible apply Zs hs);exact Ii;rfl;(with_reducible repeat first|exact Qh|apply Qk);rfl;(simp only[Uc,Uz])))
         go_roundw
         case rel=>exact⟨n+1,by omega,by simp,by rw[e];((with_reducible apply Sat.fin hs);(focus((repeat(first|with_reducible exact Ql|with_reducible exact Qh|with_reducible apply Qb|exact Qh|with_reducible apply Qk));done)))⟩
         case measure=>simp[intOf];omega
      ·have hlt:decide ((n:Int)<(sh.length:Int))=true:=by simp;omega
       have hlt2:decide (n<sh.length)=true:=by simp;omega
       have hw1:wrap64 (m+(n:Int))=m+(n:Int):=by unfold wrap64;omega
       have hcn:(n:Int)%18446744073709551616=(n:Int):=by omega
       have hcm:(m+(n:Int))%18446744073709551616=m+(n:Int):=by omega
       have hln:n<((spo (fS m) sh n).map Shf.e).length:=by rw[List.length_map,spo_len _ _ _ kk];omega
       have hln2:n<(spo (fS m) sh n).length:=by rw[spo_len _ _ _ kk];omega
       have hln3:decide (n<(spo (fS m) sh n).length)=true:=by simpa using hln2
       obtain⟨x,hx⟩:∃x,(spo (fS m) sh n)[n]? = some x:=⟨_,Yd (by rw[spo_len _ _ _ kk];omega)⟩
       have hgv:((spo (fS m) sh n).map Shf.e)[n]? = some (Shf.e x):=by rw[Ym,hx];rfl
       have e:(spo (fS m) sh (n+1)).map Shf.e=((spo (fS m) sh n).map Shf.e).set n (Shf.e (fS m n)):=by rw[←spo_set _ _ _ (by omega),Yk]
       go_wp2_with (first|((with_reducible apply Za hs);exact Ii;rfl;(with_reducible repeat first|exact Qh|apply Qk);rfl;rfl;(simp only[Uc,Uz]))|((with_reducible apply Q4 (k:=0) hs);exact Ii;rfl;rfl;assumption;(with_reducible repeat first|exact Qh|apply Qk);(exact(Nat.add_zero _).symm);(assumption);(exact Vb rfl);rfl;rfl;rfl;rfl;clear hs;intro w hs;simp only[List.take_succ_cons,List.take_zero,List.drop_succ_cons,List.drop_zero,List.cons_append,List.nil_append,List.append_nil]at hs)|((with_reducible apply ZH hs);exact Ii;exact Ii;rfl;rfl;(with_reducible repeat first|exact Qh|apply Qk);(rfl);(assumption);rfl;intro b off hat;(simp only[Uc,Uz]))|((with_reducible apply Zs hs);exact Ii;rfl;(with_reducible repeat first|exact Qh|apply Qk);rfl;(simp only[Uc,Uz])))
       go_roundw
       case rel=>exact⟨n+1,by omega,by simp,by rw[e];((with_reducible apply Sat.fin hs);(focus((repeat(first|with_reducible exact Ql|with_reducible exact Qh|with_reducible apply Qb|exact Qh|with_reducible apply Qk));done)))⟩
       case measure=>simp[intOf];omega
    ·have hlt:decide ((n:Int)<(lg.length:Int))=true:=by simp;omega
     have hlt2:decide (n<lg.length)=true:=by simp;omega
     have hw1:wrap64 (m+(n:Int))=m+(n:Int):=by unfold wrap64;omega
     have hcn:(n:Int)%18446744073709551616=(n:Int):=by omega
     have hcm:(m+(n:Int))%18446744073709551616=m+(n:Int):=by omega
     have hln:n<((spo (fA m) lg n).map Acc.e).length:=by rw[List.length_map,spo_len _ _ _ kk];omega
     have hln2:n<(spo (fA m) lg n).length:=by rw[spo_len _ _ _ kk];omega
     have hln3:decide (n<(spo (fA m) lg n).length)=true:=by simpa using hln2
     obtain⟨x,hx⟩:∃x,(spo (fA m) lg n)[n]? = some x:=⟨_,Yd (by rw[spo_len _ _ _ kk];omega)⟩
     have hgv:((spo (fA m) lg n).map Acc.e)[n]? = some (Acc.e x):=by rw[Ym,hx];rfl
     have e:(spo (fA m) lg (n+1)).map Acc.e=((spo (fA m) lg n).map Acc.e).set n (Acc.e (fA m n)):=by rw[←spo_set _ _ _ (by omega),Yk]
     go_wp2_with (first|((with_reducible apply Za hs);exact Ii;rfl;(with_reducible repeat first|exact Qh|apply Qk);rfl;rfl;(simp only[Uc,Uz]))|((with_reducible apply Q4 (k:=0) hs);exact Ii;rfl;rfl;assumption;(with_reducible repeat first|exact Qh|apply Qk);(exact(Nat.add_zero _).symm);(assumption);(exact Vb rfl);rfl;rfl;rfl;rfl;clear hs;intro w hs;simp only[List.take_succ_cons,List.take_zero,List.drop_succ_cons,List.drop_zero,List.cons_append,List.nil_append,List.append_nil]at hs)|((with_reducible apply ZH hs);exact Ii;exact Ii;rfl;rfl;(with_reducible repeat first|exact Qh|apply Qk);(rfl);(assumption);rfl;intro b off hat;(simp only[Uc,Uz]))|((with_reducible apply Zs hs);exact Ii;rfl;(with_reducible repeat first|exact Qh|apply Qk);rfl;(simp only[Uc,Uz])))
     go_roundw
     case rel=>exact⟨n+1,by omega,by simp,by rw[e];((with_reducible apply Sat.fin hs);(focus((repeat(first|with_reducible exact Ql|with_reducible exact Qh|with_reducible apply Qb|exact Qh|with_reducible apply Qk));done)))⟩
     case measure=>simp[intOf];omega
  ·have hlt:decide ((n:Int)<(cs.length:Int))=true:=by simp;omega
   have hlt2:decide (n<cs.length)=true:=by simp;omega
   have hw1:wrap64 (m+(n:Int))=m+(n:Int):=by unfold wrap64;omega
   have hcn:(n:Int)%18446744073709551616=(n:Int):=by omega
   have hcm:(m+(n:Int))%18446744073709551616=m+(n:Int):=by omega
   have hln:n<((spo (fC m) cs n).map Cll.e).length:=by rw[List.length_map,spo_len _ _ _ kk];omega
   have hln2:n<(spo (fC m) cs n).length:=by rw[spo_len _ _ _ kk];omega
   have hln3:decide (n<(spo (fC m) cs n).length)=true:=by simpa using hln2
   obtain⟨x,hx⟩:∃x,(spo (fC m) cs n)[n]? = some x:=⟨_,Yd (by rw[spo_len _ _ _ kk];omega)⟩
   have hgv:((spo (fC m) cs n).map Cll.e)[n]? = some (Cll.e x):=by rw[Ym,hx];rfl
   have e:(spo (fC m) cs (n+1)).map Cll.e=((spo (fC m) cs n).map Cll.e).set n (Cll.e (fC m n)):=by rw[←spo_set _ _ _ (by omega),Yk]
   go_wp2_with (first|((with_reducible apply Za hs);exact Ii;rfl;(with_reducible repeat first|exact Qh|apply Qk);rfl;rfl;(simp only[Uc,Uz]))|((with_reducible apply Q4 (k:=0) hs);exact Ii;rfl;rfl;assumption;(with_reducible repeat first|exact Qh|apply Qk);(exact(Nat.add_zero _).symm);(assumption);(exact Vb rfl);rfl;rfl;rfl;rfl;clear hs;intro w hs;simp only[List.take_succ_cons,List.take_zero,List.drop_succ_cons,List.drop_zero,List.cons_append,List.nil_append,List.append_nil]at hs)|((with_reducible apply ZH hs);exact Ii;exact Ii;rfl;rfl;(with_reducible repeat first|exact Qh|apply Qk);(rfl);(assumption);rfl;intro b off hat;(simp only[Uc,Uz]))|((with_reducible apply Zs hs);exact Ii;rfl;(with_reducible repeat first|exact Qh|apply Qk);rfl;(simp only[Uc,Uz])))
   go_roundw
   case rel=>exact⟨n+1,by omega,by simp,by rw[e];((with_reducible apply Sat.fin hs);(focus((repeat(first|with_reducible exact Ql|with_reducible exact Qh|with_reducible apply Qb|exact Qh|with_reducible apply Qk));done)))⟩
   case measure=>simp[intOf];omega
end Go.Proofs.YtefjbdajgakgpaaGreat
