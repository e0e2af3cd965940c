/-
  HazardBounds: whether whoever answered Full was right, walked.
-/
import Derived.Test.YtegafhhdegnigaaGreatEBnd9
import Derived.Test.YtegafhhdegnigaaGreatEBnd2
import Derived.Test.YtegafhhdegnigaaGreatEBnd3
set_option linter.all false
namespace Go.Proofs.YtegafhhdegnigaaGreat
open Go.RowKit Hp
set_option maxRecDepth 100000
section
set_option maxHeartbeats 8000000
attribute [local irreducible] Go.Calls Go.wpList
structure HonQ (c:Cfg)(cs:List Cll)(sh:List Shf):Prop where
 hon:∀x∈cs,x.kind=4→0≤x.point→FullAt c (puts (s0 c) (bef sh x.point)) x.thread
 op:∀x∈cs,x.op≠10
 rng:∀d∈sh,∃i:Nat,d.slot=(i:Int)∧(i:Int)<c.Sl
theorem cen_honest (c:Cfg)(hok:c.Ok)(cs:List Cll)(lg:List Acc)(sh:List Shf)(ws:List Int)(u:Value)(hl:RunLen cs lg sh ws)(Q:HonQ c cs sh) :
  ZB Tryz.prog 29 #[c.v,.int .i64 0,u] (RunR cs lg sh ws u) (.slice none 0 0) (RunR cs lg sh ws u):=by
 intro O w F hs
 have hSt:=Lh (fun u n=>cen_states c hok cs lg sh ws u hl n Q.rng)
 have hg:=Jj hs
 clear hs
 obtain⟨a1,k1,a2,k2,a3,k3,a4,k4,rfl,hs⟩:=hg
 obtain⟨g1,g2,g3,g4⟩:=hl
 have hS1:=hok.S1
 have hS2:=hok.S2
 have hLen:=s0_len hok
 obtain⟨q1,q2,q3⟩:=Q
 unfold bef FullAt at q1
 obtain⟨Z0,hZ0⟩:∃Z,Z=s0 c:=⟨_,rfl⟩
 rw[←hZ0]at hSt hLen q1
 clear hZ0 hok q3
 obtain⟨S0,hS0⟩:∃S0:Nat,c.Sl=(S0:Int):=⟨c.Sl.toNat,by omega⟩
 obtain⟨c1,c2,c3,c4,c5,c6,c7⟩:=c
 simp only[]at hS0 hS1 hS2 hLen q1
 subst hS0
 have hSl:S0≤1024:=by omega
 have hLen:Z0.length=S0:=by omega
 clear hS1 hS2
 replace q1:=Lh q1
 replace q2:=Lh q2
 go_enter Tryz.func29,Tryz.ntmps29
 (repeat'(first|(go_big_may;(first|((show wpList _ _ _ (Oper.mk (some 3) _ _ _ _ _::_) _ _);(with_reducible apply Zv hs);rfl;rfl;rfl;clear hs;intro w bC hs;(simp only[Uc,Uz]))|((show wpList _ _ _ (Oper.mk (some 5) _ _ _ _ _::_) _ _);(with_reducible apply Zv hs);rfl;rfl;rfl;clear hs;intro w bR hs;(simp only[Uc,Uz]))))|go_step))
 go_loopw [7,8,9,10,11,12,13] (fun l7 q _ _ _ _ _ wr=>∃j:Nat,l7=.slice none 0 0∧j≤cs.length∧q=.int .i64 (j:Int)∧Sat O wr (pt bR (.cells #[.slice a1 cs.length k1,.slice a2 lg.length k2,.slice a3 sh.length k3,.slice a4 ws.length k4] 32)*(pt bC (.cells #[.int .i64 c1,.int .i64 c2,.int .i64 c3,.int .i64 c4,.int .i64 c5,.int .i64 (S0:Int),.int .i64 c7] 23)*(sl 50 9 (cs.map Cll.e) (.slice a1 cs.length k1)*(sl 138 7 (lg.map Acc.e) (.slice a2 lg.length k2)*(sl 127 5 (sh.map Shf.e) (.slice a3 sh.length k3)*(sl 57 1 (ws.map eU) (.slice a4 ws.length k4)*F))))))) (fun _ q _ _ _ _ _ _=>cs.length+1-(intOf q).toNat)
 case atStart=>exact⟨0,rfl,by omega,rfl,by ((with_reducible apply Sat.fin hs);(with_reducible exact Ql))⟩
 case round=>
  obtain⟨j,rfl,kj,rfl,hs⟩:=hrel
  by_cases hkr:j=cs.length
  ·subst hkr
   have hlt:decide ((cs.length:Int)<(cs.length:Int))=false:=by simp
   (repeat'(first|(go_big_may;(first|((with_reducible apply Zc hs);exact Ii;rfl;(with_reducible exact Qh);rfl;rfl;(simp only[Uc,Uz]))|((with_reducible apply Zp hs);exact Ii;rfl;(with_reducible repeat first|exact Qh|apply Qk);rfl;(simp only[Uc,Uz]))))|go_step))
   (go_ret)
   exact⟨rfl,runR_mk (by ((with_reducible apply Sat.fin hs);(with_reducible repeat first|exact Ql|exact Qh|apply Qb|apply Qk)))⟩
  ·have hlt:decide ((j:Int)<(cs.length:Int))=true:=by simp;omega
   have hlt2:decide (j<cs.length)=true:=by simp;omega
   have hln:j<(cs.map Cll.e).length:=by simp;omega
   obtain⟨x,hx⟩:∃x,cs[j]? = some x:=⟨_,Yd (by omega)⟩
   have hxm:=Yc hx
   have hnL:=Lh (show j+1≤cs.length by omega)
   have hj65:j<4294967296:=by omega
   have hxo:=q2.out x hxm
   have hxq:=Lh (q1.out x hxm)
   obtain⟨x1,x2,x3,x4,x5,x6,x7,x8,x9⟩:=x
   have hgv:(cs.map Cll.e)[j]? = some (Cll.e ⟨x1,x2,x3,x4,x5,x6,x7,x8,x9⟩):=by rw[Ym,hx];rfl
   simp only[]at hxo hxq
   have f1:(x2 != 10)=true:=by simpa using hxo
   have f2:(x2==10)=false:=by simpa using hxo
   clear hx hxm hkr hxo
   by_cases h8:x8=4
   ·have f3:(x8 != 4)=false:=by simpa using h8
    by_cases h7:0≤x7
    ·have f4:decide (x7<0)=false:=by simp;omega
     have hFA:=hxq.out h8 h7
     have hStx:=Lh (fun u=>hSt.out u x7)
     have hsnl:(puts Z0 (sh.filter (fun x=>decide (x.move<x7)))).length=S0:=by rw[puts_len];exact hLen
     generalize puts Z0 (sh.filter (fun x=>decide (x.move<x7)))=sn at hFA hStx hsnl
     replace hFA:=Lh hFA
     clear h8 h7 hxq
     (repeat'(first|(((with_reducible apply Z6);rfl;rfl;((simp only[ev,Ue,Uf]);rfl);rfl;(simp only[Uc,Uz]));(repeat((with_reducible apply Z6);rfl;rfl;((simp only[ev,Ue,Uf]);rfl);rfl;(simp only[Uc,Uz]))))|((with_reducible apply Z4);((simp only[ev,Ue,Uf]);rfl);((simp only[cond_true,cond_false,ev,Ue,Uf]);rfl);(first|(with_reducible exact ZG)|((with_reducible apply QJ);rfl;rfl;(simp only[Ue,Uf])));(simp only[Uc,Uz]))|(go_big_may;(first|(first|((with_reducible apply Zc hs);exact Ii;rfl;(with_reducible exact Qh);rfl;rfl;(simp only[Uc,Uz]))|((with_reducible apply Z5 hs);exact Ii;rfl;(with_reducible repeat first|exact Qh|apply Qk);rfl;rfl;(simp only[Uc,Uz]))|((with_reducible apply ZR hs);exact Ii;rfl;rfl;(with_reducible exact Qh);rfl;rfl;rfl;rfl;clear hs;intro w hs)|((with_reducible apply Zw hs);exact Ii;rfl;clear hs;intro w b hs;(simp only[Uc,Uz]))|((with_reducible apply Qu (k:=0) hs);exact Ii;rfl;assumption;(with_reducible repeat first|exact Qh|apply Qk);(exact(Nat.add_zero _).symm);(assumption);(exact Vb rfl);rfl;rfl;(simp only[Uc,Uz]))|((with_reducible apply ZN hs);exact Ii;exact Ii;rfl;rfl;(with_reducible repeat first|exact Qh|apply Qk);(rfl);(assumption);rfl;intro b off hat;(simp only[Uc,Uz]))|((with_reducible apply Zp hs);exact Ii;rfl;(with_reducible repeat first|exact Qh|apply Qk);rfl;(simp only[Uc,Uz])))|(go_at_call 75;(replace hs:=runR_mkP a1 k1 a2 k2 a3 k3 a4 k4 (cs:=cs) (lg:=lg) (sh:=sh) (ws:=ws) hs (by (with_reducible repeat first|exact Qh|apply Qb|apply Qk)));((refine((hStx.out _)).at hs (by (with_reducible exact Qh)) ?_);clear hs;intro v w hs;(try simp only[Em,Ma]at hs));(simp only[ZM,Ma,ZH]at hs);(obtain⟨v1,v2,rfl,hs⟩:=hs);(replace hs:=runR_open hs (by (with_reducible repeat first|exact Qh|apply Qk))))))|go_guarded|go_step|(dsimp only)))
     obtain⟨bX,hbX⟩:∃x,x=b:=⟨_,rfl⟩
     subst hbX
     go_loopw [7,13] (fun l7 q wr=>∃s:Nat,l7=.slice none 0 0∧s≤S0∧q=.int .i64 (s:Int)∧Sat O wr (stR (sn.map Slt.state) v1*(hoR (sn.map Slt.holder) v2*(pt bX (.cells #[.int .i64 x1,.int .i64 x2,.int .i64 x3,.int .i64 x4,.int .i64 x5,.int .i64 x6,.int .i64 x7,.int .i64 x8,.int .i64 x9] 50)*(pt bR (.cells #[.slice a1 cs.length k1,.slice a2 lg.length k2,.slice a3 sh.length k3,.slice a4 ws.length k4] 32)*(pt bC (.cells #[.int .i64 c1,.int .i64 c2,.int .i64 c3,.int .i64 c4,.int .i64 c5,.int .i64 (S0:Int),.int .i64 c7] 23)*(sl 50 9 (cs.map Cll.e) (.slice a1 cs.length k1)*(sl 138 7 (lg.map Acc.e) (.slice a2 lg.length k2)*(sl 127 5 (sh.map Shf.e) (.slice a3 sh.length k3)*(sl 57 1 (ws.map eU) (.slice a4 ws.length k4)*F)))))))))) (fun _ q _=>S0+1-(intOf q).toNat)
     case atStart=>exact⟨0,rfl,by omega,rfl,by ((with_reducible apply Sat.fin hs);(focus((repeat(first|with_reducible exact Ql|with_reducible exact Qh|with_reducible apply Qb|exact Qh|with_reducible apply Qk));done)))⟩
     case round=>
      obtain⟨s,rfl,ks,rfl,hs⟩:=hrel
      by_cases hsr:s=S0
      ·subst hsr
       have hlt3:decide ((s:Int)<(s:Int))=false:=by simp
       clear hFA hsnl ks
       (repeat'(first|(go_big_may;((with_reducible apply Zc hs);exact Ii;rfl;(with_reducible repeat first|exact Qh|apply Qk);rfl;rfl;(simp only[Uc,Uz])))|go_step))
       go_roundw
       case rel=>exact⟨j+1,rfl,hnL.out,by simp,by ((with_reducible apply Sat.fin hs);(with_reducible repeat first|exact Ql|exact Qh|apply Qb|apply Qk))⟩
       case measure=>have:=hnL.out;simp[intOf];omega
      ·have hlt3:decide ((s:Int)<(S0:Int))=true:=by simp;omega
       have hlt4:decide (s<S0)=true:=by simp;omega
       have hs65:s<4294967296:=by omega
       have hsn1:s<((sn.map Slt.state).map eI).length:=by simp;omega
       have hsn2:s<((sn.map Slt.holder).map eI).length:=by simp;omega
       have hsL:=Lh (show s+1≤S0 by omega)
       obtain⟨z,hz⟩:∃z,sn[s]? = some z:=⟨_,Yd (by omega)⟩
       obtain⟨w1,w2⟩:=hFA.out s (by omega)
       rw[Yb,hz]at w1 w2
       simp only[Option.getD_some]at w1 w2
       obtain⟨z1,z2⟩:=z
       simp only[]at w1 w2
       have gs:((sn.map Slt.state).map eI)[s]? = some (eI z1):=by rw[Ym,Ym,hz];rfl
       have gh:((sn.map Slt.holder).map eI)[s]? = some (eI z2):=by rw[Ym,Ym,hz];rfl
       have hcase:(z1==0)=false∧((z1==1)=false∨((z1==1)=true∧(z2==x1)=false)):=by
        refine⟨by simpa using w1,?_⟩
        by_cases h1:z1=1
        ·exact .inr ⟨by simpa using h1,by simpa using fun h=>w2 ⟨h1,h⟩⟩
        ·exact .inl (by simpa using h1)
       clear hz w1 w2 hsr hFA hsnl
       obtain⟨f5,f6|⟨f6,f7⟩⟩:=hcase
       all_goals(
        (repeat'(first|(((with_reducible apply Z6);rfl;rfl;((simp only[ev,Ue,Uf]);rfl);rfl;(simp only[Uc,Uz]));(repeat(fail)))|((with_reducible apply Z4);((simp only[ev,Ue,Uf]);rfl);((simp only[cond_true,cond_false,ev,Ue,Uf]);rfl);(first|(with_reducible exact ZG)|((with_reducible apply QJ);rfl;rfl;(simp only[Ue,Uf])));(simp only[Uc,Uz]))|(go_big_may;(first|(first|(first|(with_reducible refine NQ.mk ?_)|((with_reducible apply Zl);rfl;rfl)|(with_reducible refine Zm ?_))|((with_reducible apply Zc hs);exact Ii;rfl;(with_reducible repeat first|exact Qh|apply Qk);rfl;rfl;(simp only[Uc,Uz]))|((with_reducible apply Zt hs);exact Ii;rfl;assumption;(with_reducible repeat first|exact Qh|apply Qk);rfl;(assumption);rfl;rfl;(simp only[Uc,Uz]))|((with_reducible apply Z7 hs);exact Ii;exact Ii;rfl;assumption;rfl;(with_reducible exact Qh);(rfl);(assumption);rfl;(simp only[Uc,Uz]))|((with_reducible apply ZN hs);exact Ii;exact Ii;rfl;rfl;(with_reducible repeat first|exact Qh|apply Qk);(rfl);(assumption);rfl;intro b off hat;(simp only[Uc,Uz])))|((with_reducible refine Wp (id:=14) (Paz (Pbz (Pcz (Pdz [.neu 20])))) hs rfl ?_ ?_);kernel_rfl;clear hs;intro w hs)))|go_guarded|go_step))
        go_roundw
        case rel=>exact⟨s+1,rfl,hsL.out,by simp,by ((with_reducible apply Sat.fin hs);(with_reducible exact Ql))⟩
        case measure=>have:=hsL.out;simp[intOf];omega)
    ·have f4:decide (x7<0)=true:=by simp;omega
     clear h8 h7 hxq
     (repeat'(first|((with_reducible apply Z4);((simp only[ev,Ue,Uf]);rfl);((simp only[cond_true,cond_false,ev,Ue,Uf]);rfl);(first|(with_reducible exact ZG)|((with_reducible apply QJ);rfl;rfl;(simp only[Ue,Uf])));(simp only[Uc,Uz]))|(go_big_may;(first|((with_reducible apply Zc hs);exact Ii;rfl;(with_reducible exact Qh);rfl;rfl;(simp only[Uc,Uz]))|((with_reducible apply ZR hs);exact Ii;rfl;rfl;(with_reducible exact Qh);rfl;rfl;rfl;rfl;clear hs;intro w hs)|((with_reducible apply Zw hs);exact Ii;rfl;clear hs;intro w b hs;(simp only[Uc,Uz]))|((with_reducible apply Qu (k:=0) hs);exact Ii;rfl;assumption;(with_reducible repeat first|exact Qh|apply Qk);(exact(Nat.add_zero _).symm);(assumption);(exact Vb rfl);rfl;rfl;(simp only[Uc,Uz]))|((with_reducible apply ZN hs);exact Ii;exact Ii;rfl;rfl;(with_reducible repeat first|exact Qh|apply Qk);(rfl);(assumption);rfl;intro b off hat;(simp only[Uc,Uz]))|((with_reducible apply Zp hs);exact Ii;rfl;(with_reducible repeat first|exact Qh|apply Qk);rfl;(simp only[Uc,Uz]))))|go_guarded|go_step))
     go_roundw
     case rel=>exact⟨j+1,rfl,hnL.out,by simp,by ((with_reducible apply Sat.fin hs);(with_reducible repeat first|exact Ql|exact Qh|apply Qb|apply Qk))⟩
     case measure=>have:=hnL.out;simp[intOf];omega
   ·have f3:(x8 != 4)=true:=by simpa using h8
    clear h8 hxq
    (repeat'(first|(((with_reducible apply Z6);rfl;rfl;((simp only[ev,Ue,Uf]);rfl);rfl;(simp only[Uc,Uz]));(repeat(first|((with_reducible apply Z6);rfl;rfl;((simp only[ev,Ue,Uf]);rfl);rfl;(simp only[Uc,Uz]))|((with_reducible apply wl_pass3);rfl;rfl;(simp only[Ue,Uf]);(simp only[Uc,Uz])))))|((with_reducible apply Z4);((simp only[ev,Ue,Uf]);rfl);((simp only[cond_true,cond_false,ev,Ue,Uf]);rfl);(with_reducible exact ZG);(simp only[Uc,Uz]))|(go_big_may;(first|((with_reducible apply Zc hs);exact Ii;rfl;(with_reducible exact Qh);rfl;rfl;(simp only[Uc,Uz]))|((with_reducible apply ZR hs);exact Ii;rfl;rfl;(with_reducible exact Qh);rfl;rfl;rfl;rfl;clear hs;intro w hs)|((with_reducible apply Zw hs);exact Ii;rfl;clear hs;intro w b hs;(simp only[Uc,Uz]))|((with_reducible apply Qu (k:=0) hs);exact Ii;rfl;assumption;(with_reducible repeat first|exact Qh|apply Qk);(exact(Nat.add_zero _).symm);(assumption);(exact Vb rfl);rfl;rfl;(simp only[Uc,Uz]))|((with_reducible apply ZN hs);exact Ii;exact Ii;rfl;rfl;(with_reducible repeat first|exact Qh|apply Qk);(rfl);(assumption);rfl;intro b off hat;(simp only[Uc,Uz]))|((with_reducible apply Zp hs);exact Ii;rfl;(with_reducible repeat first|exact Qh|apply Qk);rfl;(simp only[Uc,Uz]))))|go_step))
    go_roundw
    case rel=>exact⟨j+1,rfl,hnL.out,by simp,by ((with_reducible apply Sat.fin hs);(with_reducible repeat first|exact Ql|exact Qh|apply Qb|apply Qk))⟩
    case measure=>have:=hnL.out;simp[intOf];omega
end
section
set_option maxHeartbeats 2000000
attribute [local irreducible] Go.Calls
section
variable {c:Cfg}{n:Nat}{y y':HW}
theorem getC_of {m:Mch}{i:Nat}{cl:Cll}(h:m.calls[i]? = some cl):getC m i=cl:=by simp[getC,Yb,h]
theorem getS_of {m:Mch}{t:Nat}{se:Sea}(h:m.seats[t]? = some se):getS m t=se:=by simp[getS,Yb,h]
theorem set_point {cs:List Cll}{i:Nat}{cl:Cll}{a b:Int}(hlt:i<cs.length)(h:cs.set i { cl with point:=a }=cs.set i { cl with point:=b }):a=b:=by
 have h2:(cs.set i { cl with point:=a })[i]? = (cs.set i { cl with point:=b })[i]? := by rw[h]
 rw[Ye hlt,Ye hlt]at h2
 injection h2 with h2
 injection h2
theorem set_kind {ss:List Sea}{t:Nat}{se:Sea}{a b u v:Int}(hlt:t<ss.length)(h:ss.set t { se with ready:=true,kind:=a,value:=u }=ss.set t { se with ready:=true,kind:=b,value:=v }):a=b∧u=v:=by
 have h2:(ss.set t { se with ready:=true,kind:=a,value:=u })[t]? = (ss.set t { se with ready:=true,kind:=b,value:=v })[t]? := by rw[h]
 rw[Ye hlt,Ye hlt]at h2
 injection h2 with h2
 injection h2 with _ _ _ h3 h4
 exact⟨h3,h4⟩
section
variable {pr:Int→Prop}{F:List Int}{t i:Nat}{cl:Cll}{se:Sea}{k:Zz}{Z Y:Int→Nat}{r1:RT}{pr1:Int→Prop}{F1:List Int}{r2:RT}{pr2:Int→Prop}{F2:List Int}
end
end
end
section
set_option maxHeartbeats 2000000
attribute [local irreducible] Go.Calls
section
variable {c:Cfg}{n:Nat}{y y':HW}
variable {pr:Int→Prop}{F:List Int}{t i:Nat}{cl:Cll}{se:Sea}{k:Zz}{Z Y:Int→Nat}{r1:RT}{pr1:Int→Prop}{F1:List Int}{r2:RT}{pr2:Int→Prop}{F2:List Int}
theorem pst_half {p:Pst}(P:PI c n y)(SO:StepO c n pr F y t i cl se (.pst p) Z Y r1 pr1 F1 r2 pr2 F2) :
  ((mv c r1.2.2.1).cell=(mv c y.m).cell∧∀s,(mv c r1.2.2.1).val s=(mv c y.m).val s) ∧
  ((r1.1=true∧p.stage≠4∧r1.2.2.1.calls=y.m.calls.set i { cl with point:=n }∧r1.2.2.1.seats=y.m.seats.set t { se with ready:=true,kind:=4,value:=0 }) ∨
   (r1.1=false∧∃p1,r1.2.2.2=.pst p1∧p1.value=p.value∧(p1.stage=4↔p.stage=4)∧r1.2.2.1.calls=y.m.calls∧r1.2.2.1.seats=y.m.seats.set t { se with ready:=true })):=by
 have hok:=P.core.ok
 have hmvM:mv c (QG y t i se)=mv c y.m:=QW rfl
 rcases SO.rdy with⟨hf,w⟩|⟨hf,w,_⟩
 ·obtain⟨i1,i2,i3,i4⟩:=(SO.i0:TI c t se.ready _ _ (.pst p))
  obtain⟨_,s0,_⟩:=i4 hf
  have hO:=pso_ready (t:=t) (i:=i) (a:=y.s.2) (m:=QG y t i se) (cl:=cl) (se:={ se with ready:=true }) hok s0
  have w:r1=((Zq y.s.2 (QG y t i se) i t cl { se with ready:=true } p).1,(y.s.1,(Zq y.s.2 (QG y t i se) i t cl { se with ready:=true } p).2.1),(Zq y.s.2 (QG y t i se) i t cl { se with ready:=true } p).2.2.1,.pst (Zq y.s.2 (QG y t i se) i t cl { se with ready:=true } p).2.2.2):=w
  generalize Zq y.s.2 (QG y t i se) i t cl { se with ready:=true } p=x at w hO
  obtain⟨b,a2,m2,p1⟩:=x
  subst w
  cases hO with
  | on h1 h2 h3 h4 h5 h6 h7=>
   simp only[]at h1 h2 h3 h4 h5 h6 h7 ⊢
   rw[hmvM]at h1 h2
   refine⟨⟨h1,fun s => ?_⟩,.inr ⟨?_,p1,rfl,h5,?_,h3,h4⟩⟩
   ·rcases h2 s with e|⟨e,_⟩
    ·exact e
    ·omega
   ·cases b
    ·rfl
    ·have:=h7 rfl;omega
   ·cases b
    ·exact h6 rfl
    ·have:=h7 rfl;omega
  | full h0 h1 h2 h3 h4 h5=>
   simp only[]at h0 h1 h2 h3 h4 h5 ⊢
   rw[hmvM]at h2 h3
   have hnow:(QG y t i se).now=n:=P.moves
   refine⟨⟨h2,h3⟩,.inl ⟨h1,by omega,by rw[h4,hnow];rfl,?_⟩⟩
   rw[h5]
   show(y.m.seats.set t _).set t _=_
   rw[Yl]
  | post h0=>omega
 ·subst w
  exact⟨⟨by rw[hmvM],fun s=>by rw[hmvM]⟩,.inr ⟨rfl,p,rfl,rfl,Iff.rfl,rfl,rfl⟩⟩
end
end
section
set_option maxHeartbeats 2000000
attribute [local irreducible] Go.Calls
section
variable {c:Cfg}{n:Nat}{y y':HW}
variable {pr:Int→Prop}{F:List Int}{t i:Nat}{cl:Cll}{se:Sea}{k:Zz}{Z Y:Int→Nat}{r1:RT}{pr1:Int→Prop}{F1:List Int}{r2:RT}{pr2:Int→Prop}{F2:List Int}
theorem pst_rdy1 {L S N:Nat}{h:Haz}{a:Are}{m:Mch}{p:Pst}(C:Core c L S N h a m)(ht:(t:Int)<c.T)(hth:p.thread=(t:Int))(h0:p.stage=0):(Zq a m i t cl se p).1=false∧((Zq a m i t cl se p).2.2.2.stage=0→a.caches.getD t []=[]∧(Zq a m i t cl se p).2.1=a):=by
 have hT:=takeReady_core (k:=⟨p.thread,1,0,0,0,false⟩) C (by simp only[];omega) (by simp only[];omega)
 unfold Zq
 simp only[]
 rcases hT with hT|⟨g1,_,g3,_⟩
 ·rw[hT]
  refine⟨rfl,fun _=>⟨?_,rfl⟩⟩
  have h1:(Zk a m ⟨p.thread,1,0,0,0,false⟩).1=false:=by rw[hT]
  unfold Zk at h1
  simp only[hth,Yo]at h1
  split at h1
  ·rename_i e;exact List.eq_nil_of_length_eq_zero e
  ·cases h1
 ·rw[if_pos g1]
  unfold ZE
  rw[if_neg (by omega)]
  exact⟨rfl,fun e=>by have e:(1:Int)=0:=e;omega⟩
theorem post_stage0 {h:Haz}{a:Are}{m:Mch}{p:Pst}(I:PoI c p)(hf:(Zj h a m i t cl se p).1=false)(h0':(Zj h a m i t cl se p).2.2.2.2.stage=0):p.stage=0∧(Zj h a m i t cl se p).2.2.1.caches=a.caches:=by
 obtain⟨⟨k,e1,t0,t1⟩,q1,q2,q3⟩:=I
 unfold Zj at hf h0' ⊢
 rw[e1]at hf h0' ⊢
 simp only[]at hf h0' ⊢
 by_cases h0:p.stage=0
 ·rw[if_pos h0]at hf h0' ⊢
  refine⟨h0,?_⟩
  have hc:(Zi a m k).2.1.caches=a.caches:=by
   unfold Zi
   split
   ·rfl
   ·split
    ·rfl
    ·simp only[]
     split<;>rfl
  split<;>exact hc
 rw[if_neg h0]at hf h0' ⊢
 exfalso
 by_cases h1:p.stage=1
 ·rw[if_pos h1]at h0';have h0':(2:Int)=0:=h0';omega
 rw[if_neg h1]at hf h0'
 by_cases h2:p.stage=2
 ·rw[if_pos h2]at h0';have h0':(3:Int)=0:=h0';omega
 rw[if_neg h2]at hf h0'
 by_cases h3:p.stage=3
 ·rw[if_pos h3]at hf h0'
  split at h0'
  ·rename_i hw
   rw[if_pos hw]at hf
   unfold ZY at hf h0'
   simp only[]at hf h0'
   split at h0'
   ·rename_i h5;rw[if_pos h5]at hf;cases hf
   ·have h0':(4:Int)=0:=h0';omega
  ·have h0':(2:Int)=0:=h0';omega
 rw[if_neg h3]at hf h0'
 split at h0'
 ·exact h0 h0'
 ·split at h0'
  ·exact h0 h0'
  ·exact h0 h0'
theorem hon_keep (J:HonJ c n y)(R:Q4 c n y){cs:List Cll}{sh ds:List Shf}(hcs:∀x∈cs,x∈y.m.calls)(hsh:sh=y.m.shifts++ds)(hd:∀d∈ds,d.move=(n:Int)):∀x∈cs,x.kind=4→0≤x.point→FullAt c (puts (s0 c) (bef sh x.point)) x.thread:=by
 intro x hx h4 h0
 have:=pt_lt R (hcs x hx)
 rw[hsh,bef_add fun d hd'=>by rw[hd d hd'];omega]
 exact J.hon x (hcs x hx) h4 h0
theorem honJ_ok (c:Cfg)(hok:c.Ok):JOk2 c (fun n _ y=>HonJ c n y):=by
 refine⟨fun km vs => ?_,fun n pr y hn P R D J=>⟨J.hon,J.npt,J.pk,J.ca⟩,fun n pr y mv t k v vc hn P R D J ht htT hop hk hK hmk => ?_,fun n pr F y t i cl se k Z Y r1 pr1 F1 r2 pr2 F2 hn P R D SO R' J => ?_⟩
 ·have hno:∀(t:Nat) (k:Zz),(wst0 c km vs).tasks[t]? ≠ some (some k):=by
   intro t k hk
   have hk:(List.replicate c.T.toNat (none:Option Zz))[t]? = some (some k):=hk
   have:=(List.mem_replicate.1 (Yc hk)).2
   cases this
  refine⟨fun x hx => ?_,fun t i k se cl hk=>absurd hk (hno t k),fun t p se hk=>absurd hk (hno t _),fun t p se hk=>absurd hk (hno t _)⟩
  have hx:x∈([]:List Cll):=hx
  simp at hx
 ·have hlt:=(List.getElem?_eq_some_iff.1 hk).1
  have hs:t<y.m.seats.length:=by rw[P.seats,←P.tasks];exact hlt
  refine⟨fun x hx h4 h0 => ?_,fun t' i' k' se' cl' g1 g2 g3 g4 n1 n2 => ?_,fun t' p se' g1 g2 => ?_,fun t' p se' g1 g2 hr h0 => ?_⟩
  ·rcases List.mem_append.1 hx with hx|hx
   ·exact J.hon x hx h4 h0
   ·simp at hx;subst hx;simp only[]at h0;omega
  ·simp only[ZD]at g1 g2 g4
   by_cases hj:t'=t
   ·subst hj
    rw[Ye hlt]at g1
    rw[Ye hs]at g2
    cases g1;cases g2
    simp only[]at g3
    have:i'=y.m.calls.length:=by omega
    subst this
    rw[List.getElem?_append_right (Nat.le_refl _),Nat.sub_self]at g4
    cases g4
    rfl
   ·rw[Zx hj]at g1 g2
    obtain⟨⟨i2,e1,e2⟩,_⟩:=P.task t' k' se' g1 g2
    have:i'=i2:=by omega
    subst this
    rw[List.getElem?_append_left e2]at g4
    exact J.npt t' i' k' se' cl' g1 g2 g3 g4 n1 n2
  ·simp only[ZD]at g1 g2
   by_cases hj:t'=t
   ·subst hj
    rw[Ye hs]at g2
    cases g2;rfl
   ·rw[Zx hj]at g1 g2
    exact J.pk t' p se' g1 g2
  ·simp only[ZD]at g1 g2
   by_cases hj:t'=t
   ·subst hj
    rw[Ye hs]at g2
    cases g2
    cases hr
   ·rw[Zx hj]at g1 g2
    exact J.ca t' p se' g1 g2 hr h0
 ·have htk:=(List.getElem?_eq_some_iff.1 SO.hk).1
  have hst:=(List.getElem?_eq_some_iff.1 SO.hse).1
  have hlt:=(List.getElem?_eq_some_iff.1 SO.hc).1
  have hmv:=P.moves
  obtain⟨z,q,v,c1,c2,c3,c4,c5',c6⟩:=SO.call
  have hcl:=R.cl cl (Yc SO.hc)
  have hk0:cl.kind=0:=by
   have h0:=hcl.b0
   have h1:=SO.end_
   rcases hcl.e with⟨_,h,h'⟩|⟨h,_⟩
   ·exact h
   ·omega
  have hshf:∃ds,(Qg y t i r2).m.shifts=y.m.shifts++ds∧∀d∈ds,d.move=(n:Int):=by
   obtain⟨l1,a1,a2⟩:=evo_shifts SO.ev1
   obtain⟨l2,a3,a4⟩:=evo_shifts SO.ev2
   have a5:=(evo_move SO.ev1).2
   have a6:(QG y t i se).now=y.m.moves:=rfl
   have a7:(QG y t i se).shifts=y.m.shifts:=rfl
   simp only[rst]at a1 a2 a3 a4 a5
   refine⟨l1++l2,?_,fun e he => ?_⟩
   ·show(ZC _ _ _ _ _ _ _).shifts=_
    have:∀x1 x2 x3 x4 x5 x6 x7,(ZC x1 x2 x3 x4 x5 x6 x7).shifts=x1.shifts:=by
     intro x1 x2 x3 x4 x5 x6 x7;unfold ZC;split<;>rfl
    rw[this,a3,a1,a7,List.append_assoc]
   ·rcases List.mem_append.1 he with h|h
    ·rw[a2 e h,a6,hmv]
    ·rw[a4 e h,a5,a6,hmv]
  obtain⟨ds,d1,d2⟩:=hshf
  have hself:∀k',(Qg y t i r2).tasks[t]? = some (some k')→r2.1=false∧k'=r2.2.2.2:=by
   intro k' h
   simp only[Qg]at h
   rw[Ye htk]at h
   split at h
   ·cases h
   ·rename_i hb
    cases h;exact⟨by simpa using hb,rfl⟩
  have hoth:∀(t':Nat) (k':Zz) (se':Sea),t'≠t→(Qg y t i r2).tasks[t']? = some (some k')→(Qg y t i r2).m.seats[t']? = some se'→y.tasks[t']? = some (some k')∧y.m.seats[t']? = some se':=by
   intro t' k' se' hj h1 h2
   simp only[Qg]at h1 h2
   rw[Zx hj]at h1
   refine⟨h1,?_⟩
   unfold ZC at h2
   split at h2
   ·simp only[]at h2
    rw[Zx hj,c3,Zx hj]at h2;exact h2
   ·rw[c3,Zx hj]at h2;exact h2
  have hcache:∀j,j≠t→(Qg y t i r2).s.2.caches.getD j []=y.s.2.caches.getD j []:=by
   intro j hj
   have g1:r1.2.1.2.caches[j]? = y.s.2.caches[j]? := SO.rl1.ca j hj
   have g2:r2.2.1.2.caches[j]? = r1.2.1.2.caches[j]? := SO.rl2.ca j hj
   show r2.2.1.2.caches.getD j []=_
   rw[Yb,Yb,g2,g1]
  have hsame:r2.2.2.1.calls=y.m.calls→z=cl.point:=by
   intro h2
   rw[c1]at h2
   have h3:(y.m.calls.set i { cl with point:=z })[i]? = y.m.calls[i]? := by rw[h2]
   rw[Ye hlt,SO.hc]at h3
   injection h3 with h3
   rw[←h3]
  have npt0:kd k≠22→kd k≠23→z = -1:=by
   intro n1 n2
   have hp:=J.npt t i k se cl SO.hk SO.hse SO.hl SO.hc n1 n2
   rw[←hp]
   apply hsame
   have hr1:r1.2.2.1.calls=y.m.calls:=by
    rcases SO.rdy with⟨_,w⟩|⟨_,w,_⟩
    ·rw[w,oth_rdy n1];rfl
    ·rw[w];rfl
   rcases SO.stp with⟨_,w,_⟩|⟨_,w⟩
   ·rw[w];exact hr1
   ·rw[w,oth_calls (by rw[SO.h1.kd];exact n1) (by rw[SO.h1.kd];exact n2)];exact hr1
  have ended:r2.1=true→q=4→0≤z→FullAt c (puts (s0 c) (bef (y.m.shifts++ds) z)) (t:Int):=by
   intro hb hq hz
   by_cases n1:kd k=22
   ·obtain⟨p,hp⟩:∃p,k=.pst p:=by cases k<;>simp[kd]at n1;exact⟨_,rfl⟩
    subst hp
    have hpk:=J.pk t p se SO.hk SO.hse
    have b1:r1.1=false:=by
     rcases SO.rdy with⟨hf,w⟩|⟨_,w,_⟩
     ·rw[w]
      obtain⟨i1,i2,i3,i4⟩:=(SO.i0:TI c t se.ready _ _ (.pst p))
      obtain⟨_,s0',_⟩:=i4 hf
      exact(pst_rdy1 (i:=i) (cl:=cl) (se:={ se with ready:=true }) SO.c0 SO.htT i1 s0').1
     ·rw[w]
    obtain⟨⟨m1,m2⟩,hh⟩:=pst_half P SO
    rcases hh with⟨b1',_⟩|⟨_,p1,b2,b3,b4,b5,b6⟩
    ·rw[b1]at b1';cases b1'
    have hti:=SO.h1.ti b1
    rw[b2]at hti
    have I:PoI c p1:=hti.2.2.1 rfl
    have e2:r2=Zn r1.2.1 r1.2.2.1 i t (getC r1.2.2.1 i) (getS r1.2.2.1 t) r1.2.2.2:=by
     rcases SO.stp with⟨w,_⟩|⟨_,w⟩
     ·rw[b1]at w;cases w
     ·exact w
    have hC:getC r1.2.2.1 i=cl:=getC_of (by rw[b5];exact SO.hc)
    have hSe:getS r1.2.2.1 t={ se with ready:=true }:=getS_of (by rw[b6,Ye hst])
    rw[b2,hC,hSe]at e2
    have hO:=pso_post (i:=i) (t:=t) (cl:=cl) (se:={ se with ready:=true }) SO.h1.core I
    have hr2:r2.1=(Zj r1.2.1.1 r1.2.1.2 r1.2.2.1 i t cl { se with ready:=true } p1).1:=by rw[e2];rfl
    have hr3:r2.2.2.1=(Zj r1.2.1.1 r1.2.1.2 r1.2.2.1 i t cl { se with ready:=true } p1).2.2.2.1:=by rw[e2];rfl
    rw[hr3]at c1 c3
    have hFu:=post_full (i:=i) (t:=t) (cl:=cl) (se:={ se with ready:=true }) (m:=r1.2.2.1) (h:=r1.2.1.1) (a:=r1.2.1.2) SO.h1.core.hc SO.h1.core.ac I
    rw[hr2]at hb
    cases hO with
    | on h1 h2 h3 h4 h5 h6 h7=>
     rw[b6,c3]at h4
     obtain⟨hq',_⟩:q=se.kind∧v=se.value:=set_kind (a:=q) (b:=se.kind) (u:=v) (v:=se.value) hst h4
     omega
    | post h0 h2 h3 h4 h5 h6 h7=>
     rw[b6,c3,Yl]at h5
     obtain⟨hq',_⟩:=set_kind hst h5
     omega
    | full h0 h1 h2 h3 h4 h5=>
     rw[b5,c1,SO.h1.now]at h4
     have hz:=set_point hlt h4
     obtain⟨w1,_⟩:=hFu h0 hb
     have hK:hS (.pst p1)=[]:=by
      unfold Go.Proofs.YtegafhhdegnigaaGreat.hS hP hO
      simp only[scOf]
      rw[if_neg (by omega),if_neg (by omega)]
      rfl
     have G1:=SO.h1.gd
     have hgS:rS r1=[]:=by unfold rS;rw[if_neg (by rw[b1];simp),b2];exact hK
     rw[hgS]at G1
     have hca:r1.2.1.2.caches.getD t []=[]∧r1.2.1.2.slots=y.s.2.slots:=by
      rcases SO.rdy with⟨hf,w⟩|⟨hf,w,_⟩
      ·obtain⟨i1,i2,i3,i4⟩:=(SO.i0:TI c t se.ready _ _ (.pst p))
       obtain⟨_,s0',_⟩:=i4 hf
       have g:=(pst_rdy1 (i:=i) (cl:=cl) (se:={ se with ready:=true }) SO.c0 SO.htT i1 s0').2
       have w2:r1.2.2.2=.pst (Zq y.s.2 (QG y t i se) i t cl { se with ready:=true } p).2.2.2:=by rw[w];rfl
       have w3:r1.2.1.2=(Zq y.s.2 (QG y t i se) i t cl { se with ready:=true } p).2.1:=by rw[w];rfl
       rw[b2]at w2
       injection w2 with w2
       rw[w2]at h0
       obtain⟨g1,g2⟩:=g h0
       rw[w3,g2]
       exact⟨g1,rfl⟩
      ·have w2:r1.2.2.2=.pst p:=by rw[w]
       rw[b2]at w2
       injection w2 with w2
       rw[w2]at h0
       have w3:r1.2.1.2=y.s.2:=by rw[w]
       rw[w3]
       exact⟨J.ca t p se SO.hk SO.hse hf h0,rfl⟩
     have hFA:=full_at (t:=t) SO.h1.core G1 (fun s hs=>by simp at hs) w1 hca.1
     rw[hca.2]at hFA
     rw[hz,bef_add fun d hd=>by rw[d2 d hd];omega,bef_all fun d hd=>R.slt d hd,show puts (s0 c) y.m.shifts=y.s.2.slots from(shfs_puts R.srep).symm]
     exact hFA
   ·by_cases n2:kd k=23
    ·exfalso
     obtain⟨r,hp⟩:∃r,k=.rdg r:=by cases k<;>simp[kd]at n2;exact⟨_,rfl⟩
     subst hp
     have hr1:r1=(false,y.s,QG y t i se,.rdg r):=by
      rcases SO.rdy with⟨_,w⟩|⟨_,w,_⟩<;>exact w
     have e2:r2=Zn r1.2.1 r1.2.2.1 i t (getC r1.2.2.1 i) (getS r1.2.2.1 t) r1.2.2.2:=by
      rcases SO.stp with⟨w,_⟩|⟨_,w⟩
      ·rw[hr1]at w;cases w
      ·exact w
     rw[hr1]at e2
     rw[getC_of (m:=QG y t i se) SO.hc,getS_of (m:=QG y t i se) (se:={ se with ready:=true }) (by show(y.m.seats.set t _)[t]? = _;rw[Ye hst])]at e2
     have I:RdI c r:=SO.i0
     have hO:=rdo_read (i:=i) (t:=t) (cl:=cl) (se:={ se with ready:=true }) (r:=r) SO.c0 I
     have hr2:r2.1=(ZT y.s.1 (QG y t i se) i t cl { se with ready:=true } r).1:=by rw[e2];rfl
     have hr3:r2.2.2.1=(ZT y.s.1 (QG y t i se) i t cl { se with ready:=true } r).2.1:=by rw[e2];rfl
     rw[hr3]at c3
     rw[hr2]at hb
     have hsm:(QG y t i se).seats=y.m.seats.set t { se with ready:=true }:=rfl
     cases hO with
     | on h1 h2 h3 h4=>rw[h1]at hb;cases hb
     | saw h1 h2 h3 h4 h5 h6 h7=>rw[h1]at hb;cases hb
     | empty h1 h2 h3 h4=>
      rw[hsm,c3,Yl]at h3
      obtain⟨hq',_⟩:=set_kind hst h3
      omega
     | got h0 h1 h2 h3=>
      rw[hsm,c3,Yl]at h3
      obtain⟨hq',_⟩:=set_kind hst h3
      omega
    ·have:=npt0 n1 n2
     omega
  refine⟨fun x hx h4 h0 => ?_,fun t' i' k' se' cl2 g1 g2 g3 g4 n1 n2 => ?_,fun t' p se' g1 g2 => ?_,fun t' p se' g1 g2 hr h0 => ?_⟩
  ·rw[d1]
   by_cases hb:r2.1=true
   ·rw[c4 hb]at hx
    rcases ZZ hx with rfl|⟨j,_,hj⟩
    ·have h4:q=4:=h4
     have h0:0≤z:=h0
     show FullAt c (puts (s0 c) (bef (y.m.shifts++ds) z)) cl.thread
     rw[SO.thr]
     exact ended hb h4 h0
    ·exact hon_keep J R (cs:=y.m.calls) (fun x h=>h) rfl d2 x (Yc hj) h4 h0
   ·rw[(c5' (by simpa using hb)).1]at hx
    rcases ZZ hx with rfl|⟨j,_,hj⟩
    ·have h4:cl.kind=4:=h4
     omega
    ·exact hon_keep J R (cs:=y.m.calls) (fun x h=>h) rfl d2 x (Yc hj) h4 h0
  ·by_cases hj:t'=t
   ·subst hj
    obtain⟨hl,hkd⟩:=SO.self g1 g2
    obtain⟨hb,_⟩:=hself k' g1
    have hi:i'=i:=by omega
    subst hi
    rw[(c5' hb).1,Ye hlt]at g4
    cases g4
    exact npt0 (by rw[←hkd];exact n1) (by rw[←hkd];exact n2)
   ·obtain⟨e1,e2,e3⟩:=SO.other R hj g1 g2 g3 g4
    exact J.npt t' i' k' se' cl2 e1 e2 g3 e3 n1 n2
  ·by_cases hj:t'=t
   ·subst hj
    obtain⟨hl,hkd⟩:=SO.self g1 g2
    obtain⟨hb,hk2⟩:=hself _ g1
    obtain⟨p0,hp0⟩:∃p0,k=.pst p0:=by
     have:kd k=22:=by rw[←hkd];rfl
     cases k<;>simp[kd]at this;exact⟨_,rfl⟩
    subst hp0
    rw[(c5' hb).2,Ye hst]at g2
    cases g2
    show q=1
    have hpk:=J.pk t' p0 se SO.hk SO.hse
    obtain⟨_,hh⟩:=pst_half P SO
    rcases SO.stp with⟨w,e,_⟩|⟨b1,e2⟩
    ·rw[e,w]at hb;cases hb
    rcases hh with⟨b1',_⟩|⟨_,p1,b2,b3,b4,b5,b6⟩
    ·rw[b1]at b1';cases b1'
    have hti:=SO.h1.ti b1
    rw[b2]at hti
    have I:PoI c p1:=hti.2.2.1 rfl
    have hC:getC r1.2.2.1 i=cl:=getC_of (by rw[b5];exact SO.hc)
    have hSe:getS r1.2.2.1 t'={ se with ready:=true }:=getS_of (by rw[b6,Ye hst])
    rw[b2,hC,hSe]at e2
    have hO:=pso_post (i:=i) (t:=t') (cl:=cl) (se:={ se with ready:=true }) SO.h1.core I
    have hr2:r2.1=(Zj r1.2.1.1 r1.2.1.2 r1.2.2.1 i t' cl { se with ready:=true } p1).1:=by rw[e2];rfl
    have hr3:r2.2.2.1=(Zj r1.2.1.1 r1.2.1.2 r1.2.2.1 i t' cl { se with ready:=true } p1).2.2.2.1:=by rw[e2];rfl
    rw[hr3]at c3
    rw[hr2]at hb
    cases hO with
    | on h1 h2 h3 h4 h5 h6 h7=>
     rw[b6,c3]at h4
     obtain⟨hq',_⟩:q=se.kind∧v=se.value:=set_kind (a:=q) (b:=se.kind) (u:=v) (v:=se.value) hst h4
     omega
    | post h0 h2 h3 h4 h5 h6 h7=>
     rw[b6,c3,Yl]at h5
     exact(set_kind hst h5).1
    | full h0 h1=>rw[h1]at hb;cases hb
   ·obtain⟨e1,e2⟩:=hoth t' _ se' hj g1 g2
    exact J.pk t' p se' e1 e2
  ·by_cases hj:t'=t
   ·subst hj
    obtain⟨hl,hkd⟩:=SO.self g1 g2
    obtain⟨hb,hk2⟩:=hself _ g1
    obtain⟨p0,hp0⟩:∃p0,k=.pst p0:=by
     have:kd k=22:=by rw[←hkd];rfl
     cases k<;>simp[kd]at this;exact⟨_,rfl⟩
    subst hp0
    obtain⟨_,hh⟩:=pst_half P SO
    rcases SO.stp with⟨w,e,_⟩|⟨b1,e2⟩
    ·rw[e,w]at hb;cases hb
    rcases hh with⟨b1',_⟩|⟨_,p1,b2,b3,b4,b5,b6⟩
    ·rw[b1]at b1';cases b1'
    have hti:=SO.h1.ti b1
    rw[b2]at hti
    have I:PoI c p1:=hti.2.2.1 rfl
    rw[b2]at e2
    have hr2:r2.1=(Zj r1.2.1.1 r1.2.1.2 r1.2.2.1 i t' (getC r1.2.2.1 i) (getS r1.2.2.1 t') p1).1:=by rw[e2];rfl
    have hr4:r2.2.1.2=(Zj r1.2.1.1 r1.2.1.2 r1.2.2.1 i t' (getC r1.2.2.1 i) (getS r1.2.2.1 t') p1).2.2.1:=by rw[e2];rfl
    have hr5:r2.2.2.2=.pst (Zj r1.2.1.1 r1.2.1.2 r1.2.2.1 i t' (getC r1.2.2.1 i) (getS r1.2.2.1 t') p1).2.2.2.2:=by rw[e2];rfl
    rw[hr5]at hk2
    injection hk2 with hk2
    rw[hk2]at h0
    rw[hr2]at hb
    obtain⟨s0',hcc⟩:=post_stage0 I hb h0
    show r2.2.1.2.caches.getD t' []=[]
    rw[hr4,hcc]
    rcases SO.rdy with⟨hf,w⟩|⟨hf,w,_⟩
    ·obtain⟨i1,i2,i3,i4⟩:=(SO.i0:TI c t' se.ready _ _ (.pst p0))
     obtain⟨_,s00,_⟩:=i4 hf
     have g:=(pst_rdy1 (i:=i) (cl:=cl) (se:={ se with ready:=true }) SO.c0 SO.htT i1 s00).2
     have w2:r1.2.2.2=.pst (Zq y.s.2 (QG y t' i se) i t' cl { se with ready:=true } p0).2.2.2:=by rw[w];rfl
     have w3:r1.2.1.2=(Zq y.s.2 (QG y t' i se) i t' cl { se with ready:=true } p0).2.1:=by rw[w];rfl
     rw[b2]at w2
     injection w2 with w2
     rw[w2]at s0'
     obtain⟨g1,g2⟩:=g s0'
     rw[w3,g2]
     exact g1
    ·have w2:r1.2.2.2=.pst p0:=by rw[w]
     rw[b2]at w2
     injection w2 with w2
     rw[w2]at s0'
     have w3:r1.2.1.2=y.s.2:=by rw[w]
     rw[w3]
     exact J.ca t' p0 se SO.hk SO.hse hf s0'
   ·obtain⟨e1,e2⟩:=hoth t' _ se' hj g1 g2
    rw[hcache t' hj]
    exact J.ca t' p se' e1 e2 hr h0
end
end
end Go.Proofs.YtegafhhdegnigaaGreat
