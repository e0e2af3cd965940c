import Derived.Outline
import Derived.Test.YtefjbdajgakgpaaGreatDDesk
set_option linter.all false
namespace Go.Proofs.YtefjbdajgakgpaaGreat
open Go.RowKit Hp
section
def CfgOk (T R Hz Rt Ca Sl Bu:Int):Prop:=
 (1≤T∧T≤16)∧(1≤R∧R≤16)∧(3≤Hz∧Hz≤8)∧(1≤Rt∧Rt≤1024)∧(0≤Ca∧Ca≤64)∧(1≤Sl∧Sl≤1024)∧(1≤Bu∧Bu≤64)
def Upto (T R Hz Rt Ca Sl Bu:Int)(k:Nat):Prop:=
 (0<k→1≤T∧T≤16)∧(1<k→1≤R∧R≤16)∧(2<k→3≤Hz∧Hz≤8)∧(3<k→1≤Rt∧Rt≤1024)∧(4<k→0≤Ca∧Ca≤64)∧(5<k→1≤Sl∧Sl≤1024)∧(6<k→1≤Bu∧Bu≤64)
def cfgV (T R Hz Rt Ca Sl Bu:Int):Array Value := #[.int .i64 T,.int .i64 R,.int .i64 Hz,.int .i64 Rt,.int .i64 Ca,.int .i64 Sl,.int .i64 Bu]
set_option maxHeartbeats 2000000 in
set_option maxRecDepth 100000 in
theorem check_any (T R Hz Rt Ca Sl Bu:Int)(z:Int)(hz:z=0∧CfgOk T R Hz Rt Ca Sl Bu∨z=1∧¬CfgOk T R Hz Rt Ca Sl Bu) :
  Zk Tryz.prog 82 #[.agg (cfgV T R Hz Rt Ca Sl Bu)] emp (.int .i64 z) emp:=by
 intro O w F hs
 have HZ:=Lh hz;clear hz
 go_enter Tryz.func82,Tryz.ntmps82
 go_wp2_with (first|((with_reducible apply Zb hs);exact Ii;rfl;(repeat(exact Qh));rfl;rfl;simp only[Uc,Uz])|((with_reducible apply Qy hs);exact Ii;rfl;(repeat(exact Qh));rfl;rfl;simp only[Uc,Uz])|((with_reducible apply ZN hs);exact Ii;rfl;rfl;(repeat(exact Qh));rfl;rfl;rfl;rfl;clear hs;intro w hs)|((with_reducible apply Zw hs);exact Ii;rfl;clear hs;intro w b hs;simp only[Uc,Uz])|((with_reducible apply Zt hs);rfl;rfl;rfl;clear hs;intro w b hs;simp only[Uc,Uz]))
 have hs:=hs.right
 go_loopw [29] (fun i wr=>∃(k:Nat) (ki:Int),k≤7∧i=.int .i64 ki∧Hid (ki=k)∧Hid (Upto T R Hz Rt Ca Sl Bu k)∧Sat O wr (emp*F)) (fun i _=>7-(intOf i).toNat)
 case atStart=>
  exact⟨0,0,by omega,rfl,rfl,by unfold Hid Upto;simp,hs.right⟩
 case round=>
  obtain⟨k,ki,hk,rfl,HK,HU,hs⟩:=hrel
  unfold Hid Upto at HU
  obtain⟨u0,u1,u2,u3,u4,u5,u6⟩:=HU
  by_cases h7:k=7
  ·subst h7
   have e:=HK.out;clear HK;obtain rfl:ki=7:=e
   have H0:=Lh u0;have H1:=Lh u1;have H2:=Lh u2;have H3:=Lh u3;have H4:=Lh u4;have H5:=Lh u5;have H6:=Lh u6
   clear u0 u1 u2 u3 u4 u5 u6
   go_wp2_with (fail)
   go_ret
   rcases HZ.out with⟨hz,_⟩|⟨_,hn⟩
   ·subst hz;exact⟨rfl,hs⟩
   ·exact absurd ⟨H0.out (by omega),H1.out (by omega),H2.out (by omega),H3.out (by omega),H4.out (by omega),H5.out (by omega),H6.out (by omega)⟩ hn
  have hk6:k≤6:=by omega
  clear hk h7
  by_cases k0:k=0
  ·subst k0
   have e:=HK.out;clear HK;obtain rfl:ki=0:=e
   have H0:=Lh u0;have H1:=Lh u1;have H2:=Lh u2;have H3:=Lh u3;have H4:=Lh u4;have H5:=Lh u5;have H6:=Lh u6
   clear u0 u1 u2 u3 u4 u5 u6
   by_cases h:1≤T∧T≤16
   ·obtain⟨g1,g2⟩:=h
    have hd:decide (T<1)=false:=by simp;omega
    go_wp2_with (first|((with_reducible apply Zb hs);exact Ii;rfl;(repeat(exact Qh));rfl;rfl;simp only[Uc,Uz])|((with_reducible apply ZN hs);exact Ii;rfl;rfl;(repeat(exact Qh));rfl;rfl;rfl;rfl;clear hs;intro w hs)|((with_reducible apply Zw hs);exact Ii;rfl;clear hs;intro w b hs;simp only[Uc,Uz])|((with_reducible apply Jh hs);exact Ii;exact Ii;rfl;rfl;omega;omega;rfl;rfl;simp only[Qa,List.drop_succ_cons,List.drop_zero,List.take_succ_cons,List.take_zero,Int.reduceToNat,Nat.reduceMul,Nat.reduceAdd,Nat.reduceSub,Uc,Uz]))
    go_roundw
    case rel=>exact⟨1,1,by omega,rfl,rfl,⟨by intro _;exact⟨g1,g2⟩,by omega,by omega,by omega,by omega,by omega,by omega⟩,hs.right⟩
    case measure=>simp[intOf]
   ·by_cases g1:1≤T
    ·have g2:¬T≤16:=fun x=>h ⟨g1,x⟩
     have hd:decide (T<1)=false:=by simp;omega
     clear h
     go_wp2_with (first|((with_reducible apply Zb hs);exact Ii;rfl;(repeat(exact Qh));rfl;rfl;simp only[Uc,Uz])|((with_reducible apply ZN hs);exact Ii;rfl;rfl;(repeat(exact Qh));rfl;rfl;rfl;rfl;clear hs;intro w hs)|((with_reducible apply Zw hs);exact Ii;rfl;clear hs;intro w b hs;simp only[Uc,Uz])|((with_reducible apply Jh hs);exact Ii;exact Ii;rfl;rfl;omega;omega;rfl;rfl;simp only[Qa,List.drop_succ_cons,List.drop_zero,List.take_succ_cons,List.take_zero,Int.reduceToNat,Nat.reduceMul,Nat.reduceAdd,Nat.reduceSub,Uc,Uz]))
     go_ret
     rcases HZ.out with⟨_,hc⟩|⟨hz,_⟩
     ·have:=hc.1.2;omega
     ·subst hz;exact⟨rfl,hs.right⟩
    ·clear h
     go_wp2_with (first|((with_reducible apply Zb hs);exact Ii;rfl;(repeat(exact Qh));rfl;rfl;simp only[Uc,Uz])|((with_reducible apply ZN hs);exact Ii;rfl;rfl;(repeat(exact Qh));rfl;rfl;rfl;rfl;clear hs;intro w hs)|((with_reducible apply Zw hs);exact Ii;rfl;clear hs;intro w b hs;simp only[Uc,Uz])|((with_reducible apply Jh hs);exact Ii;exact Ii;rfl;rfl;omega;omega;rfl;rfl;simp only[Qa,List.drop_succ_cons,List.drop_zero,List.take_succ_cons,List.take_zero,Int.reduceToNat,Nat.reduceMul,Nat.reduceAdd,Nat.reduceSub,Uc,Uz]))
     go_ret
     rcases HZ.out with⟨_,hc⟩|⟨hz,_⟩
     ·have:=hc.1.1;omega
     ·subst hz;exact⟨rfl,hs.right⟩
  by_cases k1:k=1
  ·subst k1
   have e:=HK.out;clear HK;obtain rfl:ki=1:=e
   have H0:=Lh u0;have H1:=Lh u1;have H2:=Lh u2;have H3:=Lh u3;have H4:=Lh u4;have H5:=Lh u5;have H6:=Lh u6
   clear u0 u1 u2 u3 u4 u5 u6
   by_cases h:1≤R∧R≤16
   ·obtain⟨g1,g2⟩:=h
    have hd:decide (R<1)=false:=by simp;omega
    go_wp2_with (first|((with_reducible apply Zb hs);exact Ii;rfl;(repeat(exact Qh));rfl;rfl;simp only[Uc,Uz])|((with_reducible apply ZN hs);exact Ii;rfl;rfl;(repeat(exact Qh));rfl;rfl;rfl;rfl;clear hs;intro w hs)|((with_reducible apply Zw hs);exact Ii;rfl;clear hs;intro w b hs;simp only[Uc,Uz])|((with_reducible apply Jh hs);exact Ii;exact Ii;rfl;rfl;omega;omega;rfl;rfl;simp only[Qa,List.drop_succ_cons,List.drop_zero,List.take_succ_cons,List.take_zero,Int.reduceToNat,Nat.reduceMul,Nat.reduceAdd,Nat.reduceSub,Uc,Uz]))
    go_roundw
    case rel=>exact⟨2,2,by omega,rfl,rfl,⟨by intro _;exact H0.out (by omega),by intro _;exact⟨g1,g2⟩,by omega,by omega,by omega,by omega,by omega⟩,hs.right⟩
    case measure=>simp[intOf]
   ·by_cases g1:1≤R
    ·have g2:¬R≤16:=fun x=>h ⟨g1,x⟩
     have hd:decide (R<1)=false:=by simp;omega
     clear h
     go_wp2_with (first|((with_reducible apply Zb hs);exact Ii;rfl;(repeat(exact Qh));rfl;rfl;simp only[Uc,Uz])|((with_reducible apply ZN hs);exact Ii;rfl;rfl;(repeat(exact Qh));rfl;rfl;rfl;rfl;clear hs;intro w hs)|((with_reducible apply Zw hs);exact Ii;rfl;clear hs;intro w b hs;simp only[Uc,Uz])|((with_reducible apply Jh hs);exact Ii;exact Ii;rfl;rfl;omega;omega;rfl;rfl;simp only[Qa,List.drop_succ_cons,List.drop_zero,List.take_succ_cons,List.take_zero,Int.reduceToNat,Nat.reduceMul,Nat.reduceAdd,Nat.reduceSub,Uc,Uz]))
     go_ret
     rcases HZ.out with⟨_,hc⟩|⟨hz,_⟩
     ·have:=hc.2.1.2;omega
     ·subst hz;exact⟨rfl,hs.right⟩
    ·clear h
     go_wp2_with (first|((with_reducible apply Zb hs);exact Ii;rfl;(repeat(exact Qh));rfl;rfl;simp only[Uc,Uz])|((with_reducible apply ZN hs);exact Ii;rfl;rfl;(repeat(exact Qh));rfl;rfl;rfl;rfl;clear hs;intro w hs)|((with_reducible apply Zw hs);exact Ii;rfl;clear hs;intro w b hs;simp only[Uc,Uz])|((with_reducible apply Jh hs);exact Ii;exact Ii;rfl;rfl;omega;omega;rfl;rfl;simp only[Qa,List.drop_succ_cons,List.drop_zero,List.take_succ_cons,List.take_zero,Int.reduceToNat,Nat.reduceMul,Nat.reduceAdd,Nat.reduceSub,Uc,Uz]))
     go_ret
     rcases HZ.out with⟨_,hc⟩|⟨hz,_⟩
     ·have:=hc.2.1.1;omega
     ·subst hz;exact⟨rfl,hs.right⟩
  by_cases k2:k=2
  ·subst k2
   have e:=HK.out;clear HK;obtain rfl:ki=2:=e
   have H0:=Lh u0;have H1:=Lh u1;have H2:=Lh u2;have H3:=Lh u3;have H4:=Lh u4;have H5:=Lh u5;have H6:=Lh u6
   clear u0 u1 u2 u3 u4 u5 u6
   by_cases h:3≤Hz∧Hz≤8
   ·obtain⟨g1,g2⟩:=h
    have hd:decide (Hz<3)=false:=by simp;omega
    go_wp2_with (first|((with_reducible apply Zb hs);exact Ii;rfl;(repeat(exact Qh));rfl;rfl;simp only[Uc,Uz])|((with_reducible apply ZN hs);exact Ii;rfl;rfl;(repeat(exact Qh));rfl;rfl;rfl;rfl;clear hs;intro w hs)|((with_reducible apply Zw hs);exact Ii;rfl;clear hs;intro w b hs;simp only[Uc,Uz])|((with_reducible apply Jh hs);exact Ii;exact Ii;rfl;rfl;omega;omega;rfl;rfl;simp only[Qa,List.drop_succ_cons,List.drop_zero,List.take_succ_cons,List.take_zero,Int.reduceToNat,Nat.reduceMul,Nat.reduceAdd,Nat.reduceSub,Uc,Uz]))
    go_roundw
    case rel=>exact⟨3,3,by omega,rfl,rfl,⟨by intro _;exact H0.out (by omega),by intro _;exact H1.out (by omega),by intro _;exact⟨g1,g2⟩,by omega,by omega,by omega,by omega⟩,hs.right⟩
    case measure=>simp[intOf]
   ·by_cases g1:3≤Hz
    ·have g2:¬Hz≤8:=fun x=>h ⟨g1,x⟩
     have hd:decide (Hz<3)=false:=by simp;omega
     clear h
     go_wp2_with (first|((with_reducible apply Zb hs);exact Ii;rfl;(repeat(exact Qh));rfl;rfl;simp only[Uc,Uz])|((with_reducible apply ZN hs);exact Ii;rfl;rfl;(repeat(exact Qh));rfl;rfl;rfl;rfl;clear hs;intro w hs)|((with_reducible apply Zw hs);exact Ii;rfl;clear hs;intro w b hs;simp only[Uc,Uz])|((with_reducible apply Jh hs);exact Ii;exact Ii;rfl;rfl;omega;omega;rfl;rfl;simp only[Qa,List.drop_succ_cons,List.drop_zero,List.take_succ_cons,List.take_zero,Int.reduceToNat,Nat.reduceMul,Nat.reduceAdd,Nat.reduceSub,Uc,Uz]))
     go_ret
     rcases HZ.out with⟨_,hc⟩|⟨hz,_⟩
     ·have:=hc.2.2.1.2;omega
     ·subst hz;exact⟨rfl,hs.right⟩
    ·clear h
     go_wp2_with (first|((with_reducible apply Zb hs);exact Ii;rfl;(repeat(exact Qh));rfl;rfl;simp only[Uc,Uz])|((with_reducible apply ZN hs);exact Ii;rfl;rfl;(repeat(exact Qh));rfl;rfl;rfl;rfl;clear hs;intro w hs)|((with_reducible apply Zw hs);exact Ii;rfl;clear hs;intro w b hs;simp only[Uc,Uz])|((with_reducible apply Jh hs);exact Ii;exact Ii;rfl;rfl;omega;omega;rfl;rfl;simp only[Qa,List.drop_succ_cons,List.drop_zero,List.take_succ_cons,List.take_zero,Int.reduceToNat,Nat.reduceMul,Nat.reduceAdd,Nat.reduceSub,Uc,Uz]))
     go_ret
     rcases HZ.out with⟨_,hc⟩|⟨hz,_⟩
     ·have:=hc.2.2.1.1;omega
     ·subst hz;exact⟨rfl,hs.right⟩
  by_cases k3:k=3
  ·subst k3
   have e:=HK.out;clear HK;obtain rfl:ki=3:=e
   have H0:=Lh u0;have H1:=Lh u1;have H2:=Lh u2;have H3:=Lh u3;have H4:=Lh u4;have H5:=Lh u5;have H6:=Lh u6
   clear u0 u1 u2 u3 u4 u5 u6
   by_cases h:1≤Rt∧Rt≤1024
   ·obtain⟨g1,g2⟩:=h
    have hd:decide (Rt<1)=false:=by simp;omega
    go_wp2_with (first|((with_reducible apply Zb hs);exact Ii;rfl;(repeat(exact Qh));rfl;rfl;simp only[Uc,Uz])|((with_reducible apply ZN hs);exact Ii;rfl;rfl;(repeat(exact Qh));rfl;rfl;rfl;rfl;clear hs;intro w hs)|((with_reducible apply Zw hs);exact Ii;rfl;clear hs;intro w b hs;simp only[Uc,Uz])|((with_reducible apply Jh hs);exact Ii;exact Ii;rfl;rfl;omega;omega;rfl;rfl;simp only[Qa,List.drop_succ_cons,List.drop_zero,List.take_succ_cons,List.take_zero,Int.reduceToNat,Nat.reduceMul,Nat.reduceAdd,Nat.reduceSub,Uc,Uz]))
    go_roundw
    case rel=>exact⟨4,4,by omega,rfl,rfl,⟨by intro _;exact H0.out (by omega),by intro _;exact H1.out (by omega),by intro _;exact H2.out (by omega),by intro _;exact⟨g1,g2⟩,by omega,by omega,by omega⟩,hs.right⟩
    case measure=>simp[intOf]
   ·by_cases g1:1≤Rt
    ·have g2:¬Rt≤1024:=fun x=>h ⟨g1,x⟩
     have hd:decide (Rt<1)=false:=by simp;omega
     clear h
     go_wp2_with (first|((with_reducible apply Zb hs);exact Ii;rfl;(repeat(exact Qh));rfl;rfl;simp only[Uc,Uz])|((with_reducible apply ZN hs);exact Ii;rfl;rfl;(repeat(exact Qh));rfl;rfl;rfl;rfl;clear hs;intro w hs)|((with_reducible apply Zw hs);exact Ii;rfl;clear hs;intro w b hs;simp only[Uc,Uz])|((with_reducible apply Jh hs);exact Ii;exact Ii;rfl;rfl;omega;omega;rfl;rfl;simp only[Qa,List.drop_succ_cons,List.drop_zero,List.take_succ_cons,List.take_zero,Int.reduceToNat,Nat.reduceMul,Nat.reduceAdd,Nat.reduceSub,Uc,Uz]))
     go_ret
     rcases HZ.out with⟨_,hc⟩|⟨hz,_⟩
     ·have:=hc.2.2.2.1.2;omega
     ·subst hz;exact⟨rfl,hs.right⟩
    ·clear h
     go_wp2_with (first|((with_reducible apply Zb hs);exact Ii;rfl;(repeat(exact Qh));rfl;rfl;simp only[Uc,Uz])|((with_reducible apply ZN hs);exact Ii;rfl;rfl;(repeat(exact Qh));rfl;rfl;rfl;rfl;clear hs;intro w hs)|((with_reducible apply Zw hs);exact Ii;rfl;clear hs;intro w b hs;simp only[Uc,Uz])|((with_reducible apply Jh hs);exact Ii;exact Ii;rfl;rfl;omega;omega;rfl;rfl;simp only[Qa,List.drop_succ_cons,List.drop_zero,List.take_succ_cons,List.take_zero,Int.reduceToNat,Nat.reduceMul,Nat.reduceAdd,Nat.reduceSub,Uc,Uz]))
     go_ret
     rcases HZ.out with⟨_,hc⟩|⟨hz,_⟩
     ·have:=hc.2.2.2.1.1;omega
     ·subst hz;exact⟨rfl,hs.right⟩
  by_cases k4:k=4
  ·subst k4
   have e:=HK.out;clear HK;obtain rfl:ki=4:=e
   have H0:=Lh u0;have H1:=Lh u1;have H2:=Lh u2;have H3:=Lh u3;have H4:=Lh u4;have H5:=Lh u5;have H6:=Lh u6
   clear u0 u1 u2 u3 u4 u5 u6
   by_cases h:0≤Ca∧Ca≤64
   ·obtain⟨g1,g2⟩:=h
    have hd:decide (Ca<0)=false:=by simp;omega
    go_wp2_with (first|((with_reducible apply Zb hs);exact Ii;rfl;(repeat(exact Qh));rfl;rfl;simp only[Uc,Uz])|((with_reducible apply ZN hs);exact Ii;rfl;rfl;(repeat(exact Qh));rfl;rfl;rfl;rfl;clear hs;intro w hs)|((with_reducible apply Zw hs);exact Ii;rfl;clear hs;intro w b hs;simp only[Uc,Uz])|((with_reducible apply Jh hs);exact Ii;exact Ii;rfl;rfl;omega;omega;rfl;rfl;simp only[Qa,List.drop_succ_cons,List.drop_zero,List.take_succ_cons,List.take_zero,Int.reduceToNat,Nat.reduceMul,Nat.reduceAdd,Nat.reduceSub,Uc,Uz]))
    go_roundw
    case rel=>exact⟨5,5,by omega,rfl,rfl,⟨by intro _;exact H0.out (by omega),by intro _;exact H1.out (by omega),by intro _;exact H2.out (by omega),by intro _;exact H3.out (by omega),by intro _;exact⟨g1,g2⟩,by omega,by omega⟩,hs.right⟩
    case measure=>simp[intOf]
   ·by_cases g1:0≤Ca
    ·have g2:¬Ca≤64:=fun x=>h ⟨g1,x⟩
     have hd:decide (Ca<0)=false:=by simp;omega
     clear h
     go_wp2_with (first|((with_reducible apply Zb hs);exact Ii;rfl;(repeat(exact Qh));rfl;rfl;simp only[Uc,Uz])|((with_reducible apply ZN hs);exact Ii;rfl;rfl;(repeat(exact Qh));rfl;rfl;rfl;rfl;clear hs;intro w hs)|((with_reducible apply Zw hs);exact Ii;rfl;clear hs;intro w b hs;simp only[Uc,Uz])|((with_reducible apply Jh hs);exact Ii;exact Ii;rfl;rfl;omega;omega;rfl;rfl;simp only[Qa,List.drop_succ_cons,List.drop_zero,List.take_succ_cons,List.take_zero,Int.reduceToNat,Nat.reduceMul,Nat.reduceAdd,Nat.reduceSub,Uc,Uz]))
     go_ret
     rcases HZ.out with⟨_,hc⟩|⟨hz,_⟩
     ·have:=hc.2.2.2.2.1.2;omega
     ·subst hz;exact⟨rfl,hs.right⟩
    ·clear h
     go_wp2_with (first|((with_reducible apply Zb hs);exact Ii;rfl;(repeat(exact Qh));rfl;rfl;simp only[Uc,Uz])|((with_reducible apply ZN hs);exact Ii;rfl;rfl;(repeat(exact Qh));rfl;rfl;rfl;rfl;clear hs;intro w hs)|((with_reducible apply Zw hs);exact Ii;rfl;clear hs;intro w b hs;simp only[Uc,Uz])|((with_reducible apply Jh hs);exact Ii;exact Ii;rfl;rfl;omega;omega;rfl;rfl;simp only[Qa,List.drop_succ_cons,List.drop_zero,List.take_succ_cons,List.take_zero,Int.reduceToNat,Nat.reduceMul,Nat.reduceAdd,Nat.reduceSub,Uc,Uz]))
     go_ret
     rcases HZ.out with⟨_,hc⟩|⟨hz,_⟩
     ·have:=hc.2.2.2.2.1.1;omega
     ·subst hz;exact⟨rfl,hs.right⟩
  by_cases k5:k=5
  ·subst k5
   have e:=HK.out;clear HK;obtain rfl:ki=5:=e
   have H0:=Lh u0;have H1:=Lh u1;have H2:=Lh u2;have H3:=Lh u3;have H4:=Lh u4;have H5:=Lh u5;have H6:=Lh u6
   clear u0 u1 u2 u3 u4 u5 u6
   by_cases h:1≤Sl∧Sl≤1024
   ·obtain⟨g1,g2⟩:=h
    have hd:decide (Sl<1)=false:=by simp;omega
    go_wp2_with (first|((with_reducible apply Zb hs);exact Ii;rfl;(repeat(exact Qh));rfl;rfl;simp only[Uc,Uz])|((with_reducible apply ZN hs);exact Ii;rfl;rfl;(repeat(exact Qh));rfl;rfl;rfl;rfl;clear hs;intro w hs)|((with_reducible apply Zw hs);exact Ii;rfl;clear hs;intro w b hs;simp only[Uc,Uz])|((with_reducible apply Jh hs);exact Ii;exact Ii;rfl;rfl;omega;omega;rfl;rfl;simp only[Qa,List.drop_succ_cons,List.drop_zero,List.take_succ_cons,List.take_zero,Int.reduceToNat,Nat.reduceMul,Nat.reduceAdd,Nat.reduceSub,Uc,Uz]))
    go_roundw
    case rel=>exact⟨6,6,by omega,rfl,rfl,⟨by intro _;exact H0.out (by omega),by intro _;exact H1.out (by omega),by intro _;exact H2.out (by omega),by intro _;exact H3.out (by omega),by intro _;exact H4.out (by omega),by intro _;exact⟨g1,g2⟩,by omega⟩,hs.right⟩
    case measure=>simp[intOf]
   ·by_cases g1:1≤Sl
    ·have g2:¬Sl≤1024:=fun x=>h ⟨g1,x⟩
     have hd:decide (Sl<1)=false:=by simp;omega
     clear h
     go_wp2_with (first|((with_reducible apply Zb hs);exact Ii;rfl;(repeat(exact Qh));rfl;rfl;simp only[Uc,Uz])|((with_reducible apply ZN hs);exact Ii;rfl;rfl;(repeat(exact Qh));rfl;rfl;rfl;rfl;clear hs;intro w hs)|((with_reducible apply Zw hs);exact Ii;rfl;clear hs;intro w b hs;simp only[Uc,Uz])|((with_reducible apply Jh hs);exact Ii;exact Ii;rfl;rfl;omega;omega;rfl;rfl;simp only[Qa,List.drop_succ_cons,List.drop_zero,List.take_succ_cons,List.take_zero,Int.reduceToNat,Nat.reduceMul,Nat.reduceAdd,Nat.reduceSub,Uc,Uz]))
     go_ret
     rcases HZ.out with⟨_,hc⟩|⟨hz,_⟩
     ·have:=hc.2.2.2.2.2.1.2;omega
     ·subst hz;exact⟨rfl,hs.right⟩
    ·clear h
     go_wp2_with (first|((with_reducible apply Zb hs);exact Ii;rfl;(repeat(exact Qh));rfl;rfl;simp only[Uc,Uz])|((with_reducible apply ZN hs);exact Ii;rfl;rfl;(repeat(exact Qh));rfl;rfl;rfl;rfl;clear hs;intro w hs)|((with_reducible apply Zw hs);exact Ii;rfl;clear hs;intro w b hs;simp only[Uc,Uz])|((with_reducible apply Jh hs);exact Ii;exact Ii;rfl;rfl;omega;omega;rfl;rfl;simp only[Qa,List.drop_succ_cons,List.drop_zero,List.take_succ_cons,List.take_zero,Int.reduceToNat,Nat.reduceMul,Nat.reduceAdd,Nat.reduceSub,Uc,Uz]))
     go_ret
     rcases HZ.out with⟨_,hc⟩|⟨hz,_⟩
     ·have:=hc.2.2.2.2.2.1.1;omega
     ·subst hz;exact⟨rfl,hs.right⟩
  by_cases k6:k=6
  ·subst k6
   have e:=HK.out;clear HK;obtain rfl:ki=6:=e
   have H0:=Lh u0;have H1:=Lh u1;have H2:=Lh u2;have H3:=Lh u3;have H4:=Lh u4;have H5:=Lh u5;have H6:=Lh u6
   clear u0 u1 u2 u3 u4 u5 u6
   by_cases h:1≤Bu∧Bu≤64
   ·obtain⟨g1,g2⟩:=h
    have hd:decide (Bu<1)=false:=by simp;omega
    go_wp2_with (first|((with_reducible apply Zb hs);exact Ii;rfl;(repeat(exact Qh));rfl;rfl;simp only[Uc,Uz])|((with_reducible apply ZN hs);exact Ii;rfl;rfl;(repeat(exact Qh));rfl;rfl;rfl;rfl;clear hs;intro w hs)|((with_reducible apply Zw hs);exact Ii;rfl;clear hs;intro w b hs;simp only[Uc,Uz])|((with_reducible apply Jh hs);exact Ii;exact Ii;rfl;rfl;omega;omega;rfl;rfl;simp only[Qa,List.drop_succ_cons,List.drop_zero,List.take_succ_cons,List.take_zero,Int.reduceToNat,Nat.reduceMul,Nat.reduceAdd,Nat.reduceSub,Uc,Uz]))
    go_roundw
    case rel=>exact⟨7,7,by omega,rfl,rfl,⟨by intro _;exact H0.out (by omega),by intro _;exact H1.out (by omega),by intro _;exact H2.out (by omega),by intro _;exact H3.out (by omega),by intro _;exact H4.out (by omega),by intro _;exact H5.out (by omega),by intro _;exact⟨g1,g2⟩⟩,hs.right⟩
    case measure=>simp[intOf]
   ·by_cases g1:1≤Bu
    ·have g2:¬Bu≤64:=fun x=>h ⟨g1,x⟩
     have hd:decide (Bu<1)=false:=by simp;omega
     clear h
     go_wp2_with (first|((with_reducible apply Zb hs);exact Ii;rfl;(repeat(exact Qh));rfl;rfl;simp only[Uc,Uz])|((with_reducible apply ZN hs);exact Ii;rfl;rfl;(repeat(exact Qh));rfl;rfl;rfl;rfl;clear hs;intro w hs)|((with_reducible apply Zw hs);exact Ii;rfl;clear hs;intro w b hs;simp only[Uc,Uz])|((with_reducible apply Jh hs);exact Ii;exact Ii;rfl;rfl;omega;omega;rfl;rfl;simp only[Qa,List.drop_succ_cons,List.drop_zero,List.take_succ_cons,List.take_zero,Int.reduceToNat,Nat.reduceMul,Nat.reduceAdd,Nat.reduceSub,Uc,Uz]))
     go_ret
     rcases HZ.out with⟨_,hc⟩|⟨hz,_⟩
     ·have:=hc.2.2.2.2.2.2.2;omega
     ·subst hz;exact⟨rfl,hs.right⟩
    ·clear h
     go_wp2_with (first|((with_reducible apply Zb hs);exact Ii;rfl;(repeat(exact Qh));rfl;rfl;simp only[Uc,Uz])|((with_reducible apply ZN hs);exact Ii;rfl;rfl;(repeat(exact Qh));rfl;rfl;rfl;rfl;clear hs;intro w hs)|((with_reducible apply Zw hs);exact Ii;rfl;clear hs;intro w b hs;simp only[Uc,Uz])|((with_reducible apply Jh hs);exact Ii;exact Ii;rfl;rfl;omega;omega;rfl;rfl;simp only[Qa,List.drop_succ_cons,List.drop_zero,List.take_succ_cons,List.take_zero,Int.reduceToNat,Nat.reduceMul,Nat.reduceAdd,Nat.reduceSub,Uc,Uz]))
     go_ret
     rcases HZ.out with⟨_,hc⟩|⟨hz,_⟩
     ·have:=hc.2.2.2.2.2.2.1;omega
     ·subst hz;exact⟨rfl,hs.right⟩
  omega
end
section
set_option maxRecDepth 100000
set_option maxHeartbeats 1000000
def lookV:Nat→Array Value
 | 1 => #[.string ⟨#[102,114,101,101]⟩,.int .i64 1,.int .i64 0]
 | 2 => #[.string ⟨#[99,101,108,108]⟩,.int .i64 2,.int .i64 0]
 | 3 => #[.string ⟨#[116,111,112]⟩,.int .i64 2,.int .i64 0]
 | 4 => #[.string ⟨#[104,101,97,100]⟩,.int .i64 2,.int .i64 0]
 | 5 => #[.string ⟨#[116,97,105,108]⟩,.int .i64 2,.int .i64 0]
 | 6 => #[.string ⟨#[114,111,111,116]⟩,.int .i64 2,.int .i64 0]
 | 7 => #[.string ⟨#[98,117,99,107,101,116]⟩,.int .i64 2,.int .i64 1]
 | 8 => #[.string ⟨#[97,99,116,105,118,101]⟩,.int .i64 4,.int .i64 1]
 | 9 => #[.string ⟨#[104,97,122,97,114,100]⟩,.int .i64 2,.int .i64 2]
 | 10 => #[.string ⟨#[115,112,97,114,101]⟩,.int .i64 2,.int .i64 1]
 | 11 => #[.string ⟨#[118,97,108,117,101]⟩,.int .i64 5,.int .i64 1]
 | 12 => #[.string ⟨#[100,97,116,97]⟩,.int .i64 5,.int .i64 1]
 | 13 => #[.string ⟨#[108,105,110,107]⟩,.int .i64 3,.int .i64 1]
 | _ => #[]
theorem word_look (r:Nat)(h1:1≤r)(h2:r≤13):Zk Tryz.prog 100 #[.int .i64 (r:Int)] emp (.tuple #[.agg (lookV r),.bool true]) emp:=by
 intro O w F hs
 have h0:decide ((r:Int)<1)=false:=by simp;omega
 go_enter Tryz.func100,Tryz.ntmps100
 go_wp2_with (first|((show wpList _ _ _ (Oper.mk (some 29) _ _ _ _ _::_) _ _);apply stuckMark)|(first|((with_reducible apply ZN hs);exact Ii;rfl;rfl;(with_reducible exact Qh);rfl;rfl;rfl;rfl;clear hs;intro w hs)|((with_reducible apply Zw hs);exact Ii;rfl;clear hs;intro w b hs;simp only[Uc,Uz])))
 constructor
 have hr:r=1∨r=2∨r=3∨r=4∨r=5∨r=6∨r=7∨r=8∨r=9∨r=10∨r=11∨r=12∨r=13:=by omega
 rcases hr with rfl|rfl|rfl|rfl|rfl|rfl|rfl|rfl|rfl|rfl|rfl|rfl|rfl
 all_goals
  go_wp2_with (first|((with_reducible apply wl_ldN hs);exact Ii;rfl;(with_reducible exact Qh);(simp only[List.size_toArray,List.length_cons,List.length_nil];omega);rfl;rfl;simp only[Uc,Uz])|((with_reducible apply ZN hs);exact Ii;rfl;rfl;(with_reducible repeat first|exact Qh|apply Qk);rfl;rfl;rfl;rfl;clear hs;intro w hs))
  ((try simp only[Exit.inBlock,Exit.then]);(with_reducible apply bodyPost_ret);((with_reducible apply results_ct);rfl;rfl;(with_reducible apply loadF hs);exact Ii;(with_reducible exact Qh);rfl;rfl))
  exact⟨rfl,by ((with_reducible apply Sat.fin hs);(focus with_reducible (repeat first|exact Ql|exact Qn|apply Qb|apply Qk);done))⟩
structure Cfg where
 T:Int
 R:Int
 Hz:Int
 Rt:Int
 Ca:Int
 Sl:Int
 Bu:Int
abbrev Cfg.v (c:Cfg):Value:=.agg #[.int .i64 c.T,.int .i64 c.R,.int .i64 c.Hz,.int .i64 c.Rt,.int .i64 c.Ca,.int .i64 c.Sl,.int .i64 c.Bu]
structure Cfg.Ok (c:Cfg):Prop where
 T1:1≤c.T
 T2:c.T≤16
 R1:1≤c.R
 R2:c.R≤16
 H1:3≤c.Hz
 H2:c.Hz≤8
 Rt1:1≤c.Rt
 Rt2:c.Rt≤1024
 C1:0≤c.Ca
 C2:c.Ca≤64
 S1:1≤c.Sl
 S2:c.Sl≤1024
 B1:1≤c.Bu
 B2:c.Bu≤64
theorem Cfg.ok_iff (c:Cfg):c.Ok↔CfgOk c.T c.R c.Hz c.Rt c.Ca c.Sl c.Bu:=by
 constructor
 ·rintro⟨h1,h2,h3,h4,h5,h6,h7,h8,h9,h10,h11,h12,h13,h14⟩
  exact⟨⟨h1,h2⟩,⟨h3,h4⟩,⟨h5,h6⟩,⟨h7,h8⟩,⟨h9,h10⟩,⟨h11,h12⟩,⟨h13,h14⟩⟩
 ·rintro⟨⟨h1,h2⟩,⟨h3,h4⟩,⟨h5,h6⟩,⟨h7,h8⟩,⟨h9,h10⟩,⟨h11,h12⟩,⟨h13,h14⟩⟩
  exact⟨h1,h2,h3,h4,h5,h6,h7,h8,h9,h10,h11,h12,h13,h14⟩
theorem word_check (c:Cfg)(h:c.Ok):Zk Tryz.prog 82 #[c.v] emp (.int .i64 0) emp:=
 check_any c.T c.R c.Hz c.Rt c.Ca c.Sl c.Bu 0 (.inl ⟨rfl,c.ok_iff.1 h⟩)
def many (c:Cfg):Nat→Int
 | 7=>c.Bu
 | 8=>c.R
 | 9=>c.R*c.Hz
 | 10=>c.Sl
 | 11=>c.Sl
 | 12=>c.Sl
 | 13=>c.Sl
 | _=>1
def base (c:Cfg):Nat→Int
 | 0=>0
 | 1=>0
 | r+1=>base c r+many c r
theorem Cfg.Ok.rh {c:Cfg}(h:c.Ok):0≤c.R*c.Hz∧c.R*c.Hz≤128:=by
 have:=h.R1;have:=h.R2;have:=h.H1;have:=h.H2
 constructor
 ·exact Int.mul_nonneg (by omega) (by omega)
 ·calc c.R*c.Hz≤16*8:=Int.mul_le_mul (by omega) (by omega) (by omega) (by omega)
   _=128:=rfl
theorem many_le {c:Cfg}(h:c.Ok)(r:Nat):0≤many c r∧many c r≤1024:=by
 obtain⟨h1,h2⟩:=h.rh
 have:=h.R1;have:=h.R2;have:=h.B1;have:=h.B2;have:=h.S1;have:=h.S2
 unfold many
 split<;>omega
theorem word_many (c:Cfg)(h:c.Ok)(r:Nat):Zk Tryz.prog 101 #[c.v,.int .i64 (r:Int)] emp (.int .i64 (many c r)) emp:=by
 intro O w F hs
 obtain⟨g1,g2⟩:=h.rh
 have hw:wrap64 (c.R*c.Hz)=c.R*c.Hz:=by unfold wrap64;omega
 by_cases hr:7≤r∧r≤13
 ·have hr:r=7∨r=8∨r=9∨r=10∨r=11∨r=12∨r=13:=by omega
  rcases hr with rfl|rfl|rfl|rfl|rfl|rfl|rfl
  all_goals
   go_enter Tryz.func101,Tryz.ntmps101
   go_wp2_with (first|((with_reducible apply Zb hs);exact Ii;rfl;(with_reducible exact Qh);rfl;rfl;simp only[Uc,Uz])|((with_reducible apply Zt hs);rfl;rfl;rfl;clear hs;intro w b hs;simp only[Uc,Uz]))
   go_ret
   exact⟨rfl,by ((with_reducible apply Sat.fin hs);(focus with_reducible (repeat first|exact Ql|exact Qn|apply Qb|apply Qk);done))⟩
 ·have e:many c r=1:=by
   unfold many
   split<;>first|rfl|(exfalso;omega)
  rw[e]
  have h7:¬(r:Int)=7:=by omega
  have h8:¬(r:Int)=8:=by omega
  have h9:¬(r:Int)=9:=by omega
  have h10:¬(r:Int)=10:=by omega
  have h11:¬(r:Int)=11:=by omega
  have h12:¬(r:Int)=12:=by omega
  have h13:¬(r:Int)=13:=by omega
  go_enter Tryz.func101,Tryz.ntmps101
  go_wp2_with ((with_reducible apply Zt hs);rfl;rfl;rfl;clear hs;intro w b hs;simp only[Uc,Uz])
  go_ret
  exact⟨rfl,by ((with_reducible apply Sat.fin hs);(focus with_reducible (repeat first|exact Ql|exact Qn|apply Qb|apply Qk);done))⟩
end
section
set_option maxRecDepth 100000
set_option maxHeartbeats 1000000
def InReg (c:Cfg)(r:Nat)(i:Int):Prop:=0≤i∧(r=9→i<c.R)∧i<many c r
theorem ZD {c:Cfg}(h:c.Ok)(r:Nat):0≤base c r∧base c r≤1024*r:=by
 induction r with
 | zero=>simp[base]
 | succ k ih=>
  have:=many_le h k
  cases k with
  | zero=>simp[base]
  | succ j=>simp only[base]at ih ⊢;omega
theorem word_addr (c:Cfg)(h:c.Ok)(r:Nat)(h1:1≤r)(h2:r≤13)(i:Int)(hi:InReg c r i) :
  Zk Tryz.prog 67 #[c.v,.agg #[.int .i64 (r:Int),.int .i64 i,.int .i64 0]] emp (.tuple #[.int .i64 (base c r+(if r=9 then i*c.Hz else i)),.int .i64 0]) emp:=by
 intro O w F hs
 obtain⟨i0,i1,i2⟩:=hi
 have hC:=Lh (word_check c h)
 have hL:=Lh (word_look r h1 h2)
 have hM:=Lh (word_many c h)
 have hm:=many_le h r
 have n1:decide (i<0)=false:=by simp;omega
 by_cases h9:r=9
 ·subst h9
  rw[if_pos rfl]
  have n2:decide (i≥c.R)=false:=by simp;omega
  have n3:decide (i≥many c 9)=false:=by simp;omega
  have n4:decide (0≥c.Hz)=false:=by have:=h.H1;simp;omega
  have hR2:=h.R2
  have hH1:=h.H1
  have hH2:=h.H2
  have hiR:=i1 rfl
  have hmul:0≤i*c.Hz∧i*c.Hz≤128:=⟨Int.mul_nonneg i0 (by omega),by
   calc i*c.Hz≤16*8:=Int.mul_le_mul (by omega) (by omega) (by omega) (by omega)
    _=128:=rfl⟩
  have hwm:wrap64 (i*c.Hz)=i*c.Hz:=by unfold wrap64;omega
  go_enter Tryz.func67,Tryz.ntmps67
  go_wp2_with (first|(with_reducible first|apply NQ.mk|apply EQ.mk|exact Zg|apply Zj)|((with_reducible apply Zi);rfl;rfl)|((with_reducible apply Zo);rfl)|((with_reducible refine Zn ?_ ?_);focus((with_reducible apply ZI);rfl;rfl))|(show Qd _ _ _;rfl)|((with_reducible apply Zb hs);exact Ii;rfl;(with_reducible repeat first|exact Qh|apply Qk);rfl;rfl;simp only[Uc,Uz])|((with_reducible apply Qy hs);exact Ii;rfl;(with_reducible repeat first|exact Qh|apply Qk);rfl;rfl;simp only[Uc,Uz])|((with_reducible apply ZN hs);exact Ii;rfl;rfl;(with_reducible exact Qh);rfl;rfl;rfl;rfl;clear hs;intro w hs)|((with_reducible apply Zw hs);exact Ii;rfl;clear hs;intro w b hs;simp only[Uc,Uz])|((with_reducible apply Zt hs);rfl;rfl;rfl;clear hs;intro w b hs;simp only[Uc,Uz])|(go_at_call 82;((refine(hC.out).at hs (by (focus((repeat(with_reducible exact Qn));done))) ?_);clear hs;intro w hs;(try simp only[Em,Ma]at hs)))|(go_at_call 100;((refine(hL.out).at hs (by (focus((repeat(with_reducible exact Qn));done))) ?_);clear hs;intro w hs;(try simp only[Em,Ma]at hs)))|(go_at_call 101;((refine((hM.out 9)).at hs (by (focus((repeat(with_reducible exact Qn));done))) ?_);clear hs;intro w hs;(try simp only[Em,Ma]at hs)))|((with_reducible refine Wp (id:=7) (Paz (Pbz (Pcz (Pdz (Pez (Pfz [.neu 30,.neu 31,.neu 32,.eff 33 [28,29],.neu 34,.neu 35])))))) hs rfl ?_ ?_);kernel_rfl;clear hs;intro w hs))
  (obtain⟨A,hA,hsn⟩:∃A,Hid (A=_)∧Sat O w A:=⟨_,Lh rfl,hs⟩;clear hs;have hs:=hsn;clear hsn)
  go_loopw [9,10] (fun a q wr=>∃k:Nat,1≤k∧k≤9∧q=.int .i64 (k:Int)∧a=.int .i64 (base c k+i*c.Hz)∧Sat O wr A) (fun _ q _=>14-(intOf q).toNat)
  case atStart=>exact⟨1,by omega,h1,rfl,by simp[base],hs⟩
  case round=>
   obtain⟨k,k1,k2,rfl,rfl,hs⟩:=hrel
   have hb:=ZD h k
   have hmk:=many_le h k
   have e1:base c (k+1)=base c k+many c k:=by
    cases k with
    | zero=>omega
    | succ j=>rfl
   by_cases hkr:k=9
   ·subst hkr
    rw[hA.out]at hs
    go_wp2_with ((with_reducible apply Zb hs);exact Ii;rfl;(with_reducible repeat first|exact Qh|apply Qk);rfl;rfl;simp only[Uc,Uz])
    (go_ret2)
    exact⟨rfl,by ((with_reducible apply Sat.fin hs);(focus with_reducible (repeat first|exact Ql|exact Qn|apply Qb|apply Qk);done))⟩
   ·have hlt:decide ((k:Int)<9)=true:=by simp;omega
    rw[hA.out]at hs
    go_wp2_with (first|((with_reducible apply Zb hs);exact Ii;rfl;(with_reducible repeat first|exact Qh|apply Qk);rfl;rfl;simp only[Uc,Uz])|((with_reducible apply Qy hs);exact Ii;rfl;(with_reducible repeat first|exact Qh|apply Qk);rfl;rfl;simp only[Uc,Uz])|(go_at_call 101;((refine((hM.out k)).at hs (by (focus((repeat(with_reducible exact Qn));done))) ?_);clear hs;intro w hs;(try simp only[Em,Ma]at hs))))
    go_roundw
    case rel=>exact⟨k+1,by omega,by omega,by simp,by rw[e1];congr 1;omega,by rw[hA.out];((with_reducible apply Sat.fin hs);(with_reducible exact Ql))⟩
    case measure=>simp[intOf];omega
 ·rw[if_neg h9]
  have hk:∃s kd od,lookV r = #[.string s,.int .i64 kd,.int .i64 od]∧¬od=2:=by
   have hr:r=1∨r=2∨r=3∨r=4∨r=5∨r=6∨r=7∨r=8∨r=9∨r=10∨r=11∨r=12∨r=13:=by omega
   rcases hr with rfl|rfl|rfl|rfl|rfl|rfl|rfl|rfl|rfl|rfl|rfl|rfl|rfl
   all_goals first|(exact absurd rfl h9)|exact⟨_,_,_,rfl,by decide⟩
  obtain⟨s,kd,od,ek,ho⟩:=hk
  rw[ek]at hL
  have ho2:(od != 2)=true:=by simpa using ho
  have ho3:(od==2)=false:=by simpa using ho
  have n2:decide (i≥many c r)=false:=by simp;omega
  go_enter Tryz.func67,Tryz.ntmps67
  go_wp2_with (first|(with_reducible first|apply NQ.mk|apply EQ.mk|exact Zg|apply Zj)|((with_reducible apply Zi);rfl;rfl)|((with_reducible apply Zo);rfl)|((with_reducible refine Zn ?_ ?_);focus((with_reducible apply ZI);rfl;rfl))|(show Qd _ _ _;rfl)|((with_reducible apply Zb hs);exact Ii;rfl;(with_reducible repeat first|exact Qh|apply Qk);rfl;rfl;simp only[Uc,Uz])|((with_reducible apply Qy hs);exact Ii;rfl;(with_reducible repeat first|exact Qh|apply Qk);rfl;rfl;simp only[Uc,Uz])|((with_reducible apply ZN hs);exact Ii;rfl;rfl;(with_reducible exact Qh);rfl;rfl;rfl;rfl;clear hs;intro w hs)|((with_reducible apply Zw hs);exact Ii;rfl;clear hs;intro w b hs;simp only[Uc,Uz])|((with_reducible apply Zt hs);rfl;rfl;rfl;clear hs;intro w b hs;simp only[Uc,Uz])|(go_at_call 82;((refine(hC.out).at hs (by (focus((repeat(with_reducible exact Qn));done))) ?_);clear hs;intro w hs;(try simp only[Em,Ma]at hs)))|(go_at_call 100;((refine(hL.out).at hs (by (focus((repeat(with_reducible exact Qn));done))) ?_);clear hs;intro w hs;(try simp only[Em,Ma]at hs)))|(go_at_call 101;((refine((hM.out r)).at hs (by (focus((repeat(with_reducible exact Qn));done))) ?_);clear hs;intro w hs;(try simp only[Em,Ma]at hs)))|((with_reducible refine Wp (id:=7) (Paz (Pbz (Pcz (Pdz (Pez (Pfz [.neu 30,.neu 31,.neu 32,.eff 33 [28,29],.neu 34,.neu 35])))))) hs rfl ?_ ?_);kernel_rfl;clear hs;intro w hs))
  (obtain⟨A,hA,hsn⟩:∃A,Hid (A=_)∧Sat O w A:=⟨_,Lh rfl,hs⟩;clear hs;have hs:=hsn;clear hsn)
  go_loopw [9,10] (fun a q wr=>∃k:Nat,1≤k∧k≤r∧q=.int .i64 (k:Int)∧a=.int .i64 (base c k+i)∧Sat O wr A) (fun _ q _=>14-(intOf q).toNat)
  case atStart=>exact⟨1,by omega,h1,rfl,by simp[base],hs⟩
  case round=>
   obtain⟨k,k1,k2,rfl,rfl,hs⟩:=hrel
   have hb:=ZD h k
   have hmk:=many_le h k
   have e1:base c (k+1)=base c k+many c k:=by
    cases k with
    | zero=>omega
    | succ j=>rfl
   by_cases hkr:k=r
   ·subst hkr
    rw[hA.out]at hs
    go_wp2_with ((with_reducible apply Zb hs);exact Ii;rfl;(with_reducible repeat first|exact Qh|apply Qk);rfl;rfl;simp only[Uc,Uz])
    (go_ret2)
    exact⟨rfl,by ((with_reducible apply Sat.fin hs);(focus with_reducible (repeat first|exact Ql|exact Qn|apply Qb|apply Qk);done))⟩
   ·have hlt:decide ((k:Int)<(r:Int))=true:=by simp;omega
    rw[hA.out]at hs
    go_wp2_with (first|((with_reducible apply Zb hs);exact Ii;rfl;(with_reducible repeat first|exact Qh|apply Qk);rfl;rfl;simp only[Uc,Uz])|((with_reducible apply Qy hs);exact Ii;rfl;(with_reducible repeat first|exact Qh|apply Qk);rfl;rfl;simp only[Uc,Uz])|(go_at_call 101;((refine((hM.out k)).at hs (by (focus((repeat(with_reducible exact Qn));done))) ?_);clear hs;intro w hs;(try simp only[Em,Ma]at hs))))
    go_roundw
    case rel=>exact⟨k+1,by omega,by omega,by simp,by rw[e1];congr 1;omega,by rw[hA.out];((with_reducible apply Sat.fin hs);(with_reducible exact Ql))⟩
    case measure=>simp[intOf];omega
end
end Go.Proofs.YtefjbdajgakgpaaGreat
