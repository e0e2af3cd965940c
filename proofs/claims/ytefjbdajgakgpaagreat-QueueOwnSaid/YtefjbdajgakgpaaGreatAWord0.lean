import Derived.Test.YtefjbdajgakgpaaGreatATypes
import Derived.Outline
set_option linter.all false
namespace Go.Proofs.YtefjbdajgakgpaaGreat
open Go.RowKit Hp
def CfgOk (T R Hz Rt Ca Sl Bu:Int):Prop:=
 (1≤T∧T≤16)∧(1≤R∧R≤16)∧(3≤Hz∧Hz≤8)∧(1≤Rt∧Rt≤1024)∧(0≤Ca∧Ca≤64)∧(1≤Sl∧Sl≤1024)∧(1≤Bu∧Bu≤64)
def Upto (T R Hz Rt Ca Sl Bu:Int)(k:Nat):Prop:=
 (0<k→1≤T∧T≤16)∧(1<k→1≤R∧R≤16)∧(2<k→3≤Hz∧Hz≤8)∧(3<k→1≤Rt∧Rt≤1024)∧(4<k→0≤Ca∧Ca≤64)∧(5<k→1≤Sl∧Sl≤1024)∧(6<k→1≤Bu∧Bu≤64)
def cfgV (T R Hz Rt Ca Sl Bu:Int):Array Value := #[.int .i64 T,.int .i64 R,.int .i64 Hz,.int .i64 Rt,.int .i64 Ca,.int .i64 Sl,.int .i64 Bu]
set_option maxHeartbeats 2000000 in
set_option maxRecDepth 100000 in
theorem check_any (T R Hz Rt Ca Sl Bu:Int)(z:Int)(hz:z=0∧CfgOk T R Hz Rt Ca Sl Bu∨z=1∧¬CfgOk T R Hz Rt Ca Sl Bu) :
  Zh Tryz.prog 82 #[.agg (cfgV T R Hz Rt Ca Sl Bu)] emp (.int .i64 z) emp:=by
 intro O w F hs
 have HZ:=Lh hz;clear hz
 go_enter Tryz.func82,Tryz.ntmps82
 go_wp2_with (first|((with_reducible apply Za hs);exact Ii;rfl;(repeat(exact Qh));rfl;rfl;simp only[Uc,Uz])|((with_reducible apply Qg hs);exact Ii;rfl;(repeat(exact Qh));rfl;rfl;simp only[Uc,Uz])|((with_reducible apply ZJ hs);exact Ii;rfl;rfl;(repeat(exact Qh));rfl;rfl;rfl;rfl;clear hs;intro w hs)|((with_reducible apply Zu hs);exact Ii;rfl;clear hs;intro w b hs;simp only[Uc,Uz])|((with_reducible apply Zo hs);rfl;rfl;rfl;clear hs;intro w b hs;simp only[Uc,Uz]))
 have hs:=hs.right
 go_loopw [29] (fun i wr=>∃(k:Nat) (ki:Int),k≤7∧i=.int .i64 ki∧Hid (ki=k)∧Hid (Upto T R Hz Rt Ca Sl Bu k)∧Sat O wr (emp*F)) (fun i _=>7-(intOf i).toNat)
 case atStart=>
  exact⟨0,0,by omega,rfl,rfl,by unfold Hid Upto;simp,hs.right⟩
 case round=>
  obtain⟨k,ki,hk,rfl,HK,HU,hs⟩:=hrel
  unfold Hid Upto at HU
  obtain⟨u0,u1,u2,u3,u4,u5,u6⟩:=HU
  by_cases h7:k=7
  ·subst h7
   have e:=HK.out;clear HK;obtain rfl:ki=7:=e
   have H0:=Lh u0;have H1:=Lh u1;have H2:=Lh u2;have H3:=Lh u3;have H4:=Lh u4;have H5:=Lh u5;have H6:=Lh u6
   clear u0 u1 u2 u3 u4 u5 u6
   go_wp2_with (fail)
   go_ret
   rcases HZ.out with⟨hz,_⟩|⟨_,hn⟩
   ·subst hz;exact⟨rfl,hs⟩
   ·exact absurd ⟨H0.out (by omega),H1.out (by omega),H2.out (by omega),H3.out (by omega),H4.out (by omega),H5.out (by omega),H6.out (by omega)⟩ hn
  have hk6:k≤6:=by omega
  clear hk h7
  by_cases k0:k=0
  ·subst k0
   have e:=HK.out;clear HK;obtain rfl:ki=0:=e
   have H0:=Lh u0;have H1:=Lh u1;have H2:=Lh u2;have H3:=Lh u3;have H4:=Lh u4;have H5:=Lh u5;have H6:=Lh u6
   clear u0 u1 u2 u3 u4 u5 u6
   by_cases h:1≤T∧T≤16
   ·obtain⟨g1,g2⟩:=h
    have hd:decide (T<1)=false:=by simp;omega
    go_wp2_with (first|((with_reducible apply Za hs);exact Ii;rfl;(repeat(exact Qh));rfl;rfl;simp only[Uc,Uz])|((with_reducible apply ZJ hs);exact Ii;rfl;rfl;(repeat(exact Qh));rfl;rfl;rfl;rfl;clear hs;intro w hs)|((with_reducible apply Zu hs);exact Ii;rfl;clear hs;intro w b hs;simp only[Uc,Uz])|((with_reducible apply QX hs);exact Ii;exact Ii;rfl;rfl;omega;omega;rfl;rfl;simp only[ZV,List.drop_succ_cons,List.drop_zero,List.take_succ_cons,List.take_zero,Int.reduceToNat,Nat.reduceMul,Nat.reduceAdd,Nat.reduceSub,Uc,Uz]))
    go_roundw
    case rel=>exact⟨1,1,by omega,rfl,rfl,⟨by intro _;exact⟨g1,g2⟩,by omega,by omega,by omega,by omega,by omega,by omega⟩,hs.right⟩
    case measure=>simp[intOf]
   ·by_cases g1:1≤T
    ·have g2:¬T≤16:=fun x=>h ⟨g1,x⟩
     have hd:decide (T<1)=false:=by simp;omega
     clear h
     go_wp2_with (first|((with_reducible apply Za hs);exact Ii;rfl;(repeat(exact Qh));rfl;rfl;simp only[Uc,Uz])|((with_reducible apply ZJ hs);exact Ii;rfl;rfl;(repeat(exact Qh));rfl;rfl;rfl;rfl;clear hs;intro w hs)|((with_reducible apply Zu hs);exact Ii;rfl;clear hs;intro w b hs;simp only[Uc,Uz])|((with_reducible apply QX hs);exact Ii;exact Ii;rfl;rfl;omega;omega;rfl;rfl;simp only[ZV,List.drop_succ_cons,List.drop_zero,List.take_succ_cons,List.take_zero,Int.reduceToNat,Nat.reduceMul,Nat.reduceAdd,Nat.reduceSub,Uc,Uz]))
     go_ret
     rcases HZ.out with⟨_,hc⟩|⟨hz,_⟩
     ·have:=hc.1.2;omega
     ·subst hz;exact⟨rfl,hs.right⟩
    ·clear h
     go_wp2_with (first|((with_reducible apply Za hs);exact Ii;rfl;(repeat(exact Qh));rfl;rfl;simp only[Uc,Uz])|((with_reducible apply ZJ hs);exact Ii;rfl;rfl;(repeat(exact Qh));rfl;rfl;rfl;rfl;clear hs;intro w hs)|((with_reducible apply Zu hs);exact Ii;rfl;clear hs;intro w b hs;simp only[Uc,Uz])|((with_reducible apply QX hs);exact Ii;exact Ii;rfl;rfl;omega;omega;rfl;rfl;simp only[ZV,List.drop_succ_cons,List.drop_zero,List.take_succ_cons,List.take_zero,Int.reduceToNat,Nat.reduceMul,Nat.reduceAdd,Nat.reduceSub,Uc,Uz]))
     go_ret
     rcases HZ.out with⟨_,hc⟩|⟨hz,_⟩
     ·have:=hc.1.1;omega
     ·subst hz;exact⟨rfl,hs.right⟩
  by_cases k1:k=1
  ·subst k1
   have e:=HK.out;clear HK;obtain rfl:ki=1:=e
   have H0:=Lh u0;have H1:=Lh u1;have H2:=Lh u2;have H3:=Lh u3;have H4:=Lh u4;have H5:=Lh u5;have H6:=Lh u6
   clear u0 u1 u2 u3 u4 u5 u6
   by_cases h:1≤R∧R≤16
   ·obtain⟨g1,g2⟩:=h
    have hd:decide (R<1)=false:=by simp;omega
    go_wp2_with (first|((with_reducible apply Za hs);exact Ii;rfl;(repeat(exact Qh));rfl;rfl;simp only[Uc,Uz])|((with_reducible apply ZJ hs);exact Ii;rfl;rfl;(repeat(exact Qh));rfl;rfl;rfl;rfl;clear hs;intro w hs)|((with_reducible apply Zu hs);exact Ii;rfl;clear hs;intro w b hs;simp only[Uc,Uz])|((with_reducible apply QX hs);exact Ii;exact Ii;rfl;rfl;omega;omega;rfl;rfl;simp only[ZV,List.drop_succ_cons,List.drop_zero,List.take_succ_cons,List.take_zero,Int.reduceToNat,Nat.reduceMul,Nat.reduceAdd,Nat.reduceSub,Uc,Uz]))
    go_roundw
    case rel=>exact⟨2,2,by omega,rfl,rfl,⟨by intro _;exact H0.out (by omega),by intro _;exact⟨g1,g2⟩,by omega,by omega,by omega,by omega,by omega⟩,hs.right⟩
    case measure=>simp[intOf]
   ·by_cases g1:1≤R
    ·have g2:¬R≤16:=fun x=>h ⟨g1,x⟩
     have hd:decide (R<1)=false:=by simp;omega
     clear h
     go_wp2_with (first|((with_reducible apply Za hs);exact Ii;rfl;(repeat(exact Qh));rfl;rfl;simp only[Uc,Uz])|((with_reducible apply ZJ hs);exact Ii;rfl;rfl;(repeat(exact Qh));rfl;rfl;rfl;rfl;clear hs;intro w hs)|((with_reducible apply Zu hs);exact Ii;rfl;clear hs;intro w b hs;simp only[Uc,Uz])|((with_reducible apply QX hs);exact Ii;exact Ii;rfl;rfl;omega;omega;rfl;rfl;simp only[ZV,List.drop_succ_cons,List.drop_zero,List.take_succ_cons,List.take_zero,Int.reduceToNat,Nat.reduceMul,Nat.reduceAdd,Nat.reduceSub,Uc,Uz]))
     go_ret
     rcases HZ.out with⟨_,hc⟩|⟨hz,_⟩
     ·have:=hc.2.1.2;omega
     ·subst hz;exact⟨rfl,hs.right⟩
    ·clear h
     go_wp2_with (first|((with_reducible apply Za hs);exact Ii;rfl;(repeat(exact Qh));rfl;rfl;simp only[Uc,Uz])|((with_reducible apply ZJ hs);exact Ii;rfl;rfl;(repeat(exact Qh));rfl;rfl;rfl;rfl;clear hs;intro w hs)|((with_reducible apply Zu hs);exact Ii;rfl;clear hs;intro w b hs;simp only[Uc,Uz])|((with_reducible apply QX hs);exact Ii;exact Ii;rfl;rfl;omega;omega;rfl;rfl;simp only[ZV,List.drop_succ_cons,List.drop_zero,List.take_succ_cons,List.take_zero,Int.reduceToNat,Nat.reduceMul,Nat.reduceAdd,Nat.reduceSub,Uc,Uz]))
     go_ret
     rcases HZ.out with⟨_,hc⟩|⟨hz,_⟩
     ·have:=hc.2.1.1;omega
     ·subst hz;exact⟨rfl,hs.right⟩
  by_cases k2:k=2
  ·subst k2
   have e:=HK.out;clear HK;obtain rfl:ki=2:=e
   have H0:=Lh u0;have H1:=Lh u1;have H2:=Lh u2;have H3:=Lh u3;have H4:=Lh u4;have H5:=Lh u5;have H6:=Lh u6
   clear u0 u1 u2 u3 u4 u5 u6
   by_cases h:3≤Hz∧Hz≤8
   ·obtain⟨g1,g2⟩:=h
    have hd:decide (Hz<3)=false:=by simp;omega
    go_wp2_with (first|((with_reducible apply Za hs);exact Ii;rfl;(repeat(exact Qh));rfl;rfl;simp only[Uc,Uz])|((with_reducible apply ZJ hs);exact Ii;rfl;rfl;(repeat(exact Qh));rfl;rfl;rfl;rfl;clear hs;intro w hs)|((with_reducible apply Zu hs);exact Ii;rfl;clear hs;intro w b hs;simp only[Uc,Uz])|((with_reducible apply QX hs);exact Ii;exact Ii;rfl;rfl;omega;omega;rfl;rfl;simp only[ZV,List.drop_succ_cons,List.drop_zero,List.take_succ_cons,List.take_zero,Int.reduceToNat,Nat.reduceMul,Nat.reduceAdd,Nat.reduceSub,Uc,Uz]))
    go_roundw
    case rel=>exact⟨3,3,by omega,rfl,rfl,⟨by intro _;exact H0.out (by omega),by intro _;exact H1.out (by omega),by intro _;exact⟨g1,g2⟩,by omega,by omega,by omega,by omega⟩,hs.right⟩
    case measure=>simp[intOf]
   ·by_cases g1:3≤Hz
    ·have g2:¬Hz≤8:=fun x=>h ⟨g1,x⟩
     have hd:decide (Hz<3)=false:=by simp;omega
     clear h
     go_wp2_with (first|((with_reducible apply Za hs);exact Ii;rfl;(repeat(exact Qh));rfl;rfl;simp only[Uc,Uz])|((with_reducible apply ZJ hs);exact Ii;rfl;rfl;(repeat(exact Qh));rfl;rfl;rfl;rfl;clear hs;intro w hs)|((with_reducible apply Zu hs);exact Ii;rfl;clear hs;intro w b hs;simp only[Uc,Uz])|((with_reducible apply QX hs);exact Ii;exact Ii;rfl;rfl;omega;omega;rfl;rfl;simp only[ZV,List.drop_succ_cons,List.drop_zero,List.take_succ_cons,List.take_zero,Int.reduceToNat,Nat.reduceMul,Nat.reduceAdd,Nat.reduceSub,Uc,Uz]))
     go_ret
     rcases HZ.out with⟨_,hc⟩|⟨hz,_⟩
     ·have:=hc.2.2.1.2;omega
     ·subst hz;exact⟨rfl,hs.right⟩
    ·clear h
     go_wp2_with (first|((with_reducible apply Za hs);exact Ii;rfl;(repeat(exact Qh));rfl;rfl;simp only[Uc,Uz])|((with_reducible apply ZJ hs);exact Ii;rfl;rfl;(repeat(exact Qh));rfl;rfl;rfl;rfl;clear hs;intro w hs)|((with_reducible apply Zu hs);exact Ii;rfl;clear hs;intro w b hs;simp only[Uc,Uz])|((with_reducible apply QX hs);exact Ii;exact Ii;rfl;rfl;omega;omega;rfl;rfl;simp only[ZV,List.drop_succ_cons,List.drop_zero,List.take_succ_cons,List.take_zero,Int.reduceToNat,Nat.reduceMul,Nat.reduceAdd,Nat.reduceSub,Uc,Uz]))
     go_ret
     rcases HZ.out with⟨_,hc⟩|⟨hz,_⟩
     ·have:=hc.2.2.1.1;omega
     ·subst hz;exact⟨rfl,hs.right⟩
  by_cases k3:k=3
  ·subst k3
   have e:=HK.out;clear HK;obtain rfl:ki=3:=e
   have H0:=Lh u0;have H1:=Lh u1;have H2:=Lh u2;have H3:=Lh u3;have H4:=Lh u4;have H5:=Lh u5;have H6:=Lh u6
   clear u0 u1 u2 u3 u4 u5 u6
   by_cases h:1≤Rt∧Rt≤1024
   ·obtain⟨g1,g2⟩:=h
    have hd:decide (Rt<1)=false:=by simp;omega
    go_wp2_with (first|((with_reducible apply Za hs);exact Ii;rfl;(repeat(exact Qh));rfl;rfl;simp only[Uc,Uz])|((with_reducible apply ZJ hs);exact Ii;rfl;rfl;(repeat(exact Qh));rfl;rfl;rfl;rfl;clear hs;intro w hs)|((with_reducible apply Zu hs);exact Ii;rfl;clear hs;intro w b hs;simp only[Uc,Uz])|((with_reducible apply QX hs);exact Ii;exact Ii;rfl;rfl;omega;omega;rfl;rfl;simp only[ZV,List.drop_succ_cons,List.drop_zero,List.take_succ_cons,List.take_zero,Int.reduceToNat,Nat.reduceMul,Nat.reduceAdd,Nat.reduceSub,Uc,Uz]))
    go_roundw
    case rel=>exact⟨4,4,by omega,rfl,rfl,⟨by intro _;exact H0.out (by omega),by intro _;exact H1.out (by omega),by intro _;exact H2.out (by omega),by intro _;exact⟨g1,g2⟩,by omega,by omega,by omega⟩,hs.right⟩
    case measure=>simp[intOf]
   ·by_cases g1:1≤Rt
    ·have g2:¬Rt≤1024:=fun x=>h ⟨g1,x⟩
     have hd:decide (Rt<1)=false:=by simp;omega
     clear h
     go_wp2_with (first|((with_reducible apply Za hs);exact Ii;rfl;(repeat(exact Qh));rfl;rfl;simp only[Uc,Uz])|((with_reducible apply ZJ hs);exact Ii;rfl;rfl;(repeat(exact Qh));rfl;rfl;rfl;rfl;clear hs;intro w hs)|((with_reducible apply Zu hs);exact Ii;rfl;clear hs;intro w b hs;simp only[Uc,Uz])|((with_reducible apply QX hs);exact Ii;exact Ii;rfl;rfl;omega;omega;rfl;rfl;simp only[ZV,List.drop_succ_cons,List.drop_zero,List.take_succ_cons,List.take_zero,Int.reduceToNat,Nat.reduceMul,Nat.reduceAdd,Nat.reduceSub,Uc,Uz]))
     go_ret
     rcases HZ.out with⟨_,hc⟩|⟨hz,_⟩
     ·have:=hc.2.2.2.1.2;omega
     ·subst hz;exact⟨rfl,hs.right⟩
    ·clear h
     go_wp2_with (first|((with_reducible apply Za hs);exact Ii;rfl;(repeat(exact Qh));rfl;rfl;simp only[Uc,Uz])|((with_reducible apply ZJ hs);exact Ii;rfl;rfl;(repeat(exact Qh));rfl;rfl;rfl;rfl;clear hs;intro w hs)|((with_reducible apply Zu hs);exact Ii;rfl;clear hs;intro w b hs;simp only[Uc,Uz])|((with_reducible apply QX hs);exact Ii;exact Ii;rfl;rfl;omega;omega;rfl;rfl;simp only[ZV,List.drop_succ_cons,List.drop_zero,List.take_succ_cons,List.take_zero,Int.reduceToNat,Nat.reduceMul,Nat.reduceAdd,Nat.reduceSub,Uc,Uz]))
     go_ret
     rcases HZ.out with⟨_,hc⟩|⟨hz,_⟩
     ·have:=hc.2.2.2.1.1;omega
     ·subst hz;exact⟨rfl,hs.right⟩
  by_cases k4:k=4
  ·subst k4
   have e:=HK.out;clear HK;obtain rfl:ki=4:=e
   have H0:=Lh u0;have H1:=Lh u1;have H2:=Lh u2;have H3:=Lh u3;have H4:=Lh u4;have H5:=Lh u5;have H6:=Lh u6
   clear u0 u1 u2 u3 u4 u5 u6
   by_cases h:0≤Ca∧Ca≤64
   ·obtain⟨g1,g2⟩:=h
    have hd:decide (Ca<0)=false:=by simp;omega
    go_wp2_with (first|((with_reducible apply Za hs);exact Ii;rfl;(repeat(exact Qh));rfl;rfl;simp only[Uc,Uz])|((with_reducible apply ZJ hs);exact Ii;rfl;rfl;(repeat(exact Qh));rfl;rfl;rfl;rfl;clear hs;intro w hs)|((with_reducible apply Zu hs);exact Ii;rfl;clear hs;intro w b hs;simp only[Uc,Uz])|((with_reducible apply QX hs);exact Ii;exact Ii;rfl;rfl;omega;omega;rfl;rfl;simp only[ZV,List.drop_succ_cons,List.drop_zero,List.take_succ_cons,List.take_zero,Int.reduceToNat,Nat.reduceMul,Nat.reduceAdd,Nat.reduceSub,Uc,Uz]))
    go_roundw
    case rel=>exact⟨5,5,by omega,rfl,rfl,⟨by intro _;exact H0.out (by omega),by intro _;exact H1.out (by omega),by intro _;exact H2.out (by omega),by intro _;exact H3.out (by omega),by intro _;exact⟨g1,g2⟩,by omega,by omega⟩,hs.right⟩
    case measure=>simp[intOf]
   ·by_cases g1:0≤Ca
    ·have g2:¬Ca≤64:=fun x=>h ⟨g1,x⟩
     have hd:decide (Ca<0)=false:=by simp;omega
     clear h
     go_wp2_with (first|((with_reducible apply Za hs);exact Ii;rfl;(repeat(exact Qh));rfl;rfl;simp only[Uc,Uz])|((with_reducible apply ZJ hs);exact Ii;rfl;rfl;(repeat(exact Qh));rfl;rfl;rfl;rfl;clear hs;intro w hs)|((with_reducible apply Zu hs);exact Ii;rfl;clear hs;intro w b hs;simp only[Uc,Uz])|((with_reducible apply QX hs);exact Ii;exact Ii;rfl;rfl;omega;omega;rfl;rfl;simp only[ZV,List.drop_succ_cons,List.drop_zero,List.take_succ_cons,List.take_zero,Int.reduceToNat,Nat.reduceMul,Nat.reduceAdd,Nat.reduceSub,Uc,Uz]))
     go_ret
     rcases HZ.out with⟨_,hc⟩|⟨hz,_⟩
     ·have:=hc.2.2.2.2.1.2;omega
     ·subst hz;exact⟨rfl,hs.right⟩
    ·clear h
     go_wp2_with (first|((with_reducible apply Za hs);exact Ii;rfl;(repeat(exact Qh));rfl;rfl;simp only[Uc,Uz])|((with_reducible apply ZJ hs);exact Ii;rfl;rfl;(repeat(exact Qh));rfl;rfl;rfl;rfl;clear hs;intro w hs)|((with_reducible apply Zu hs);exact Ii;rfl;clear hs;intro w b hs;simp only[Uc,Uz])|((with_reducible apply QX hs);exact Ii;exact Ii;rfl;rfl;omega;omega;rfl;rfl;simp only[ZV,List.drop_succ_cons,List.drop_zero,List.take_succ_cons,List.take_zero,Int.reduceToNat,Nat.reduceMul,Nat.reduceAdd,Nat.reduceSub,Uc,Uz]))
     go_ret
     rcases HZ.out with⟨_,hc⟩|⟨hz,_⟩
     ·have:=hc.2.2.2.2.1.1;omega
     ·subst hz;exact⟨rfl,hs.right⟩
  by_cases k5:k=5
  ·subst k5
   have e:=HK.out;clear HK;obtain rfl:ki=5:=e
   have H0:=Lh u0;have H1:=Lh u1;have H2:=Lh u2;have H3:=Lh u3;have H4:=Lh u4;have H5:=Lh u5;have H6:=Lh u6
   clear u0 u1 u2 u3 u4 u5 u6
   by_cases h:1≤Sl∧Sl≤1024
   ·obtain⟨g1,g2⟩:=h
    have hd:decide (Sl<1)=false:=by simp;omega
    go_wp2_with (first|((with_reducible apply Za hs);exact Ii;rfl;(repeat(exact Qh));rfl;rfl;simp only[Uc,Uz])|((with_reducible apply ZJ hs);exact Ii;rfl;rfl;(repeat(exact Qh));rfl;rfl;rfl;rfl;clear hs;intro w hs)|((with_reducible apply Zu hs);exact Ii;rfl;clear hs;intro w b hs;simp only[Uc,Uz])|((with_reducible apply QX hs);exact Ii;exact Ii;rfl;rfl;omega;omega;rfl;rfl;simp only[ZV,List.drop_succ_cons,List.drop_zero,List.take_succ_cons,List.take_zero,Int.reduceToNat,Nat.reduceMul,Nat.reduceAdd,Nat.reduceSub,Uc,Uz]))
    go_roundw
    case rel=>exact⟨6,6,by omega,rfl,rfl,⟨by intro _;exact H0.out (by omega),by intro _;exact H1.out (by omega),by intro _;exact H2.out (by omega),by intro _;exact H3.out (by omega),by intro _;exact H4.out (by omega),by intro _;exact⟨g1,g2⟩,by omega⟩,hs.right⟩
    case measure=>simp[intOf]
   ·by_cases g1:1≤Sl
    ·have g2:¬Sl≤1024:=fun x=>h ⟨g1,x⟩
     have hd:decide (Sl<1)=false:=by simp;omega
     clear h
     go_wp2_with (first|((with_reducible apply Za hs);exact Ii;rfl;(repeat(exact Qh));rfl;rfl;simp only[Uc,Uz])|((with_reducible apply ZJ hs);exact Ii;rfl;rfl;(repeat(exact Qh));rfl;rfl;rfl;rfl;clear hs;intro w hs)|((with_reducible apply Zu hs);exact Ii;rfl;clear hs;intro w b hs;simp only[Uc,Uz])|((with_reducible apply QX hs);exact Ii;exact Ii;rfl;rfl;omega;omega;rfl;rfl;simp only[ZV,List.drop_succ_cons,List.drop_zero,List.take_succ_cons,List.take_zero,Int.reduceToNat,Nat.reduceMul,Nat.reduceAdd,Nat.reduceSub,Uc,Uz]))
     go_ret
     rcases HZ.out with⟨_,hc⟩|⟨hz,_⟩
     ·have:=hc.2.2.2.2.2.1.2;omega
     ·subst hz;exact⟨rfl,hs.right⟩
    ·clear h
     go_wp2_with (first|((with_reducible apply Za hs);exact Ii;rfl;(repeat(exact Qh));rfl;rfl;simp only[Uc,Uz])|((with_reducible apply ZJ hs);exact Ii;rfl;rfl;(repeat(exact Qh));rfl;rfl;rfl;rfl;clear hs;intro w hs)|((with_reducible apply Zu hs);exact Ii;rfl;clear hs;intro w b hs;simp only[Uc,Uz])|((with_reducible apply QX hs);exact Ii;exact Ii;rfl;rfl;omega;omega;rfl;rfl;simp only[ZV,List.drop_succ_cons,List.drop_zero,List.take_succ_cons,List.take_zero,Int.reduceToNat,Nat.reduceMul,Nat.reduceAdd,Nat.reduceSub,Uc,Uz]))
     go_ret
     rcases HZ.out with⟨_,hc⟩|⟨hz,_⟩
     ·have:=hc.2.2.2.2.2.1.1;omega
     ·subst hz;exact⟨rfl,hs.right⟩
  by_cases k6:k=6
  ·subst k6
   have e:=HK.out;clear HK;obtain rfl:ki=6:=e
   have H0:=Lh u0;have H1:=Lh u1;have H2:=Lh u2;have H3:=Lh u3;have H4:=Lh u4;have H5:=Lh u5;have H6:=Lh u6
   clear u0 u1 u2 u3 u4 u5 u6
   by_cases h:1≤Bu∧Bu≤64
   ·obtain⟨g1,g2⟩:=h
    have hd:decide (Bu<1)=false:=by simp;omega
    go_wp2_with (first|((with_reducible apply Za hs);exact Ii;rfl;(repeat(exact Qh));rfl;rfl;simp only[Uc,Uz])|((with_reducible apply ZJ hs);exact Ii;rfl;rfl;(repeat(exact Qh));rfl;rfl;rfl;rfl;clear hs;intro w hs)|((with_reducible apply Zu hs);exact Ii;rfl;clear hs;intro w b hs;simp only[Uc,Uz])|((with_reducible apply QX hs);exact Ii;exact Ii;rfl;rfl;omega;omega;rfl;rfl;simp only[ZV,List.drop_succ_cons,List.drop_zero,List.take_succ_cons,List.take_zero,Int.reduceToNat,Nat.reduceMul,Nat.reduceAdd,Nat.reduceSub,Uc,Uz]))
    go_roundw
    case rel=>exact⟨7,7,by omega,rfl,rfl,⟨by intro _;exact H0.out (by omega),by intro _;exact H1.out (by omega),by intro _;exact H2.out (by omega),by intro _;exact H3.out (by omega),by intro _;exact H4.out (by omega),by intro _;exact H5.out (by omega),by intro _;exact⟨g1,g2⟩⟩,hs.right⟩
    case measure=>simp[intOf]
   ·by_cases g1:1≤Bu
    ·have g2:¬Bu≤64:=fun x=>h ⟨g1,x⟩
     have hd:decide (Bu<1)=false:=by simp;omega
     clear h
     go_wp2_with (first|((with_reducible apply Za hs);exact Ii;rfl;(repeat(exact Qh));rfl;rfl;simp only[Uc,Uz])|((with_reducible apply ZJ hs);exact Ii;rfl;rfl;(repeat(exact Qh));rfl;rfl;rfl;rfl;clear hs;intro w hs)|((with_reducible apply Zu hs);exact Ii;rfl;clear hs;intro w b hs;simp only[Uc,Uz])|((with_reducible apply QX hs);exact Ii;exact Ii;rfl;rfl;omega;omega;rfl;rfl;simp only[ZV,List.drop_succ_cons,List.drop_zero,List.take_succ_cons,List.take_zero,Int.reduceToNat,Nat.reduceMul,Nat.reduceAdd,Nat.reduceSub,Uc,Uz]))
     go_ret
     rcases HZ.out with⟨_,hc⟩|⟨hz,_⟩
     ·have:=hc.2.2.2.2.2.2.2;omega
     ·subst hz;exact⟨rfl,hs.right⟩
    ·clear h
     go_wp2_with (first|((with_reducible apply Za hs);exact Ii;rfl;(repeat(exact Qh));rfl;rfl;simp only[Uc,Uz])|((with_reducible apply ZJ hs);exact Ii;rfl;rfl;(repeat(exact Qh));rfl;rfl;rfl;rfl;clear hs;intro w hs)|((with_reducible apply Zu hs);exact Ii;rfl;clear hs;intro w b hs;simp only[Uc,Uz])|((with_reducible apply QX hs);exact Ii;exact Ii;rfl;rfl;omega;omega;rfl;rfl;simp only[ZV,List.drop_succ_cons,List.drop_zero,List.take_succ_cons,List.take_zero,Int.reduceToNat,Nat.reduceMul,Nat.reduceAdd,Nat.reduceSub,Uc,Uz]))
     go_ret
     rcases HZ.out with⟨_,hc⟩|⟨hz,_⟩
     ·have:=hc.2.2.2.2.2.2.1;omega
     ·subst hz;exact⟨rfl,hs.right⟩
  omega
end Go.Proofs.YtefjbdajgakgpaaGreat
