import Derived.Test.YtefjbdajgakgpaaGreatCQueMay
set_option linter.all false
namespace Go.Proofs.YtefjbdajgakgpaaGreat
open Go.RowKit Hp
set_option maxRecDepth 100000
set_option maxHeartbeats 8000000
attribute [local irreducible] Go.Calls Go.wpList
theorem runR_open {O w:World}{S R:Zb}{cs:List Cll}{lg:List Acc}{sh:List Shf}{ws:List Int}{v1 v2 v3 v4:Value}(hs:Sat O w S)(h:Pull S (RunR cs lg sh ws (.agg #[v1,v2,v3,v4])) R) :
  Sat O w (sl 59 9 (cs.map Cll.e) v1*(sl 87 7 (lg.map Acc.e) v2*(sl 102 5 (sh.map Shf.e) v3*(sl 79 1 (ws.map eU) v4*R)))):=by
 have hs:=hs.pull h
 unfold RunR at hs
 simp only[ZC,Ma,Zy]at hs
 obtain⟨w1,w2,w3,w4,e,hs⟩:=hs
 injection e with e
 injection e with e
 simp only[List.cons.injEq,and_true]at e
 obtain⟨rfl,rfl,rfl,rfl⟩:=e
 exact hs
theorem shfs_rng:∀ {l:List Shf} {sl sl':List Slt},shfs sl l=some sl'→∀d∈l,∃i:Nat,d.slot=(i:Int)∧i<sl.length
 | [],_,_,_,d,hd=>by simp at hd
 | z::r,sl,sl',h,d,hd=>by
  simp only[shfs]at h
  cases h1:shf1 sl z with
  | none=>rw[h1]at h;cases h
  | some s1=>
   rw[h1]at h
   rcases List.mem_cons.1 hd with rfl|hd
   ·obtain⟨i,g1,g2,_⟩:=shf1_put h1
    exact⟨i,g1,g2⟩
   ·obtain⟨i,g1,g2⟩:=shfs_rng (l:=r) h d hd
    exact⟨i,g1,by rw[←shf1_len h1];exact g2⟩
structure HonQ (c:Cfg)(cs:List Cll)(sh:List Shf):Prop where
 hon:∀x∈cs,x.kind=4→0≤x.point→FullAt c (puts (s0 c) (bef sh x.point)) x.thread
 op:∀x∈cs,x.op≠10
 rng:∀d∈sh,∃i:Nat,d.slot=(i:Int)∧(i:Int)<c.Sl
theorem cen_honest (c:Cfg)(hok:c.Ok)(cs:List Cll)(lg:List Acc)(sh:List Shf)(ws:List Int)(u:Value)(hl:RunLen cs lg sh ws)(Q:HonQ c cs sh) :
  Zl Tryz.prog 17 #[c.v,.int .i64 1,u] (RunR cs lg sh ws u) (.slice none 0 0) (RunR cs lg sh ws u):=by
 intro O w F hs
 have hSt:=Lh (fun u n=>cen_states c hok cs lg sh ws u hl n Q.rng)
 have hg:=runR_get hs
 clear hs
 obtain⟨a1,k1,a2,k2,a3,k3,a4,k4,rfl,hs⟩:=hg
 obtain⟨g1,g2,g3,g4⟩:=hl
 have hS1:=hok.S1
 have hS2:=hok.S2
 have hLen:=s0_len hok
 obtain⟨q1,q2,q3⟩:=Q
 unfold bef FullAt at q1
 obtain⟨Z0,hZ0⟩:∃Z,Z=s0 c:=⟨_,rfl⟩
 rw[←hZ0]at hSt hLen q1
 clear hZ0 hok q3
 obtain⟨S0,hS0⟩:∃S0:Nat,c.Sl=(S0:Int):=⟨c.Sl.toNat,by omega⟩
 obtain⟨c1,c2,c3,c4,c5,c6,c7⟩:=c
 simp only[]at hS0 hS1 hS2 hLen q1
 subst hS0
 have hSl:S0≤1024:=by omega
 have hLen:Z0.length=S0:=by omega
 clear hS1 hS2
 replace q1:=Lh q1
 replace q2:=Lh q2
 go_enter Tryz.func17,Tryz.ntmps17
 (repeat'(first|(go_big_may;(first|((show wpList _ _ _ (Oper.mk (some 3) _ _ _ _ _::_) _ _);(with_reducible apply Zq hs);rfl;rfl;rfl;clear hs;intro w bC hs;simp only[Uc,Uz])|((show wpList _ _ _ (Oper.mk (some 5) _ _ _ _ _::_) _ _);(with_reducible apply Zq hs);rfl;rfl;rfl;clear hs;intro w bR hs;simp only[Uc,Uz])))|go_step))
 go_loopw [7,8,9,10,11,12,13] (fun l7 q _ _ _ _ _ wr=>∃j:Nat,l7=.slice none 0 0∧j≤cs.length∧q=.int .i64 (j:Int)∧Sat O wr (pt bR (.cells #[.slice a1 cs.length k1,.slice a2 lg.length k2,.slice a3 sh.length k3,.slice a4 ws.length k4] 30)*(pt bC (.cells #[.int .i64 c1,.int .i64 c2,.int .i64 c3,.int .i64 c4,.int .i64 c5,.int .i64 (S0:Int),.int .i64 c7] 23)*(sl 59 9 (cs.map Cll.e) (.slice a1 cs.length k1)*(sl 87 7 (lg.map Acc.e) (.slice a2 lg.length k2)*(sl 102 5 (sh.map Shf.e) (.slice a3 sh.length k3)*(sl 79 1 (ws.map eU) (.slice a4 ws.length k4)*F))))))) (fun _ q _ _ _ _ _ _=>cs.length+1-(intOf q).toNat)
 case atStart=>exact⟨0,rfl,by omega,rfl,by ((with_reducible apply Sat.fin hs);(with_reducible exact Ql))⟩
 case round=>
  obtain⟨j,rfl,kj,rfl,hs⟩:=hrel
  by_cases hkr:j=cs.length
  ·subst hkr
   have hlt:decide ((cs.length:Int)<(cs.length:Int))=false:=by simp
   (repeat'(first|(go_big_may;(first|((with_reducible apply Za hs);exact Ii;rfl;(with_reducible exact Qh);rfl;rfl;simp only[Uc,Uz])|((with_reducible apply Zp hs);exact Ii;rfl;(with_reducible repeat first|exact Qh|apply Qk);rfl;simp only[Uc,Uz])))|go_step))
   go_ret
   exact⟨rfl,runR_mk (by (with_reducible apply Sat.fin hs;repeat first|exact Ql|exact Qh|apply Qb|apply Qk))⟩
  ·have hlt:decide ((j:Int)<(cs.length:Int))=true:=by simp;omega
   have hlt2:decide (j<cs.length)=true:=by simp;omega
   have hln:j<(cs.map Cll.e).length:=by simp;omega
   obtain⟨x,hx⟩:∃x,cs[j]? = some x:=⟨_,Yd (by omega)⟩
   have hxm:=Yc hx
   have hnL:=Lh (show j+1≤cs.length by omega)
   have hj65:j<4294967296:=by omega
   have hxo:=q2.out x hxm
   have hxq:=Lh (q1.out x hxm)
   obtain⟨x1,x2,x3,x4,x5,x6,x7,x8,x9⟩:=x
   have hgv:(cs.map Cll.e)[j]? = some (Cll.e ⟨x1,x2,x3,x4,x5,x6,x7,x8,x9⟩):=by rw[Ym,hx];rfl
   simp only[]at hxo hxq
   have f1:(x2 != 10)=true:=by simpa using hxo
   have f2:(x2==10)=false:=by simpa using hxo
   clear hx hxm hkr hxo
   by_cases h8:x8=4
   ·have f3:(x8 != 4)=false:=by simpa using h8
    by_cases h7:0≤x7
    ·have f4:decide (x7<0)=false:=by simp;omega
     have hFA:=hxq.out h8 h7
     have hStx:=Lh (fun u=>hSt.out u x7)
     have hsnl:(puts Z0 (sh.filter (fun x=>decide (x.move<x7)))).length=S0:=by rw[puts_len];exact hLen
     generalize puts Z0 (sh.filter (fun x=>decide (x.move<x7)))=sn at hFA hStx hsnl
     replace hFA:=Lh hFA
     clear h8 h7 hxq
     (repeat'(first|(((with_reducible apply Z8);rfl;rfl;((simp only[ev,Ue,Uf]);rfl);rfl;simp only[Uc,Uz]);(repeat((with_reducible apply Z8);rfl;rfl;((simp only[ev,Ue,Uf]);rfl);rfl;simp only[Uc,Uz])))|((with_reducible apply ZT);((simp only[ev,Ue,Uf]);rfl);((simp only[cond_true,cond_false,ev,Ue,Uf]);rfl);(first|(with_reducible exact Zv)|((with_reducible apply Q6);rfl;rfl;simp only[Ue,Uf]));simp only[Uc,Uz])|(go_big_may;(first|((with_reducible apply Za hs);exact Ii;rfl;(with_reducible exact Qh);rfl;rfl;simp only[Uc,Uz])|((with_reducible apply ZZ hs);exact Ii;rfl;(with_reducible repeat first|exact Qh|apply Qk);rfl;rfl;simp only[Uc,Uz])|((with_reducible apply ZG hs);exact Ii;rfl;rfl;(with_reducible exact Qh);rfl;rfl;rfl;rfl;clear hs;intro w hs)|((with_reducible apply Zo hs);exact Ii;rfl;clear hs;intro w b hs;simp only[Uc,Uz])|((with_reducible apply QE (k:=0) hs);exact Ii;rfl;assumption;(with_reducible repeat first|exact Qh|apply Qk);(exact(Nat.add_zero _).symm);(assumption);exact Vb rfl;rfl;rfl;simp only[Uc,Uz])|((with_reducible apply ZE hs);exact Ii;exact Ii;rfl;rfl;(with_reducible repeat first|exact Qh|apply Qk);rfl;(assumption);rfl;intro b off hat;simp only[Uc,Uz])|((with_reducible apply Zp hs);exact Ii;rfl;(with_reducible repeat first|exact Qh|apply Qk);rfl;simp only[Uc,Uz])|(go_at_call 40;(replace hs:=runR_mk2 a1 k1 a2 k2 a3 k3 a4 k4 (cs:=cs) (lg:=lg) (sh:=sh) (ws:=ws) hs (by (with_reducible repeat first|exact Qh|apply Qb|apply Qk)));((refine((hStx.out _)).at hs (by (with_reducible exact Qh)) ?_);clear hs;intro v w hs;(try simp only[Em,Ma]at hs));(simp only[ZC,Ma,Zy]at hs);(obtain⟨v1,v2,rfl,hs⟩:=hs);(replace hs:=runR_open hs (by (with_reducible repeat first|exact Qh|apply Qk))))))|go_guarded|go_step|(dsimp only)))
     obtain⟨bX,hbX⟩:∃x,x=b:=⟨_,rfl⟩
     subst hbX
     go_loopw [7,13] (fun l7 q wr=>∃s:Nat,l7=.slice none 0 0∧s≤S0∧q=.int .i64 (s:Int)∧Sat O wr (stR (sn.map Slt.state) v1*(hoR (sn.map Slt.holder) v2*(pt bX (.cells #[.int .i64 x1,.int .i64 x2,.int .i64 x3,.int .i64 x4,.int .i64 x5,.int .i64 x6,.int .i64 x7,.int .i64 x8,.int .i64 x9] 59)*(pt bR (.cells #[.slice a1 cs.length k1,.slice a2 lg.length k2,.slice a3 sh.length k3,.slice a4 ws.length k4] 30)*(pt bC (.cells #[.int .i64 c1,.int .i64 c2,.int .i64 c3,.int .i64 c4,.int .i64 c5,.int .i64 (S0:Int),.int .i64 c7] 23)*(sl 59 9 (cs.map Cll.e) (.slice a1 cs.length k1)*(sl 87 7 (lg.map Acc.e) (.slice a2 lg.length k2)*(sl 102 5 (sh.map Shf.e) (.slice a3 sh.length k3)*(sl 79 1 (ws.map eU) (.slice a4 ws.length k4)*F)))))))))) (fun _ q _=>S0+1-(intOf q).toNat)
     case atStart=>exact⟨0,rfl,by omega,rfl,by ((with_reducible apply Sat.fin hs);(focus((repeat(first|with_reducible exact Ql|with_reducible exact Qh|with_reducible apply Qb|exact Qh|with_reducible apply Qk));done)))⟩
     case round=>
      obtain⟨s,rfl,ks,rfl,hs⟩:=hrel
      by_cases hsr:s=S0
      ·subst hsr
       have hlt3:decide ((s:Int)<(s:Int))=false:=by simp
       clear hFA hsnl ks
       (repeat'(first|(go_big_may;((with_reducible apply Za hs);exact Ii;rfl;(with_reducible repeat first|exact Qh|apply Qk);rfl;rfl;simp only[Uc,Uz]))|go_step))
       go_roundw
       case rel=>exact⟨j+1,rfl,hnL.out,by simp,by (with_reducible apply Sat.fin hs;repeat first|exact Ql|exact Qh|apply Qb|apply Qk)⟩
       case measure=>have:=hnL.out;simp[intOf];omega
      ·have hlt3:decide ((s:Int)<(S0:Int))=true:=by simp;omega
       have hlt4:decide (s<S0)=true:=by simp;omega
       have hs65:s<4294967296:=by omega
       have hsn1:s<((sn.map Slt.state).map eI).length:=by simp;omega
       have hsn2:s<((sn.map Slt.holder).map eI).length:=by simp;omega
       have hsL:=Lh (show s+1≤S0 by omega)
       obtain⟨z,hz⟩:∃z,sn[s]? = some z:=⟨_,Yd (by omega)⟩
       obtain⟨w1,w2⟩:=hFA.out s (by omega)
       rw[Yb,hz]at w1 w2
       simp only[Option.getD_some]at w1 w2
       obtain⟨z1,z2⟩:=z
       simp only[]at w1 w2
       have gs:((sn.map Slt.state).map eI)[s]? = some (eI z1):=by rw[Ym,Ym,hz];rfl
       have gh:((sn.map Slt.holder).map eI)[s]? = some (eI z2):=by rw[Ym,Ym,hz];rfl
       have hcase:(z1==0)=false∧((z1==1)=false∨((z1==1)=true∧(z2==x1)=false)):=by
        refine⟨by simpa using w1,?_⟩
        by_cases h1:z1=1
        ·exact .inr ⟨by simpa using h1,by simpa using fun h=>w2 ⟨h1,h⟩⟩
        ·exact .inl (by simpa using h1)
       clear hz w1 w2 hsr hFA hsnl
       obtain⟨f5,f6|⟨f6,f7⟩⟩:=hcase
       all_goals(
        (repeat'(first|(((with_reducible apply Z8);rfl;rfl;((simp only[ev,Ue,Uf]);rfl);rfl;simp only[Uc,Uz]);(repeat(fail)))|((with_reducible apply ZT);((simp only[ev,Ue,Uf]);rfl);((simp only[cond_true,cond_false,ev,Ue,Uf]);rfl);(first|(with_reducible exact Zv)|((with_reducible apply Q6);rfl;rfl;simp only[Ue,Uf]));simp only[Uc,Uz])|(go_big_may;(first|(with_reducible refine NQ.mk ?_)|((with_reducible apply Zh);rfl;rfl)|(with_reducible refine Zi ?_)|((with_reducible apply Za hs);exact Ii;rfl;(with_reducible repeat first|exact Qh|apply Qk);rfl;rfl;simp only[Uc,Uz])|((with_reducible apply Zn hs);exact Ii;rfl;assumption;(with_reducible repeat first|exact Qh|apply Qk);rfl;(assumption);rfl;rfl;simp only[Uc,Uz])|((with_reducible apply ZU hs);exact Ii;exact Ii;rfl;assumption;rfl;(with_reducible exact Qh);rfl;(assumption);rfl;simp only[Uc,Uz])|((with_reducible apply ZE hs);exact Ii;exact Ii;rfl;rfl;(with_reducible repeat first|exact Qh|apply Qk);rfl;(assumption);rfl;intro b off hat;simp only[Uc,Uz])|((with_reducible refine Wp (id:=14) (Paz (Pbz (Pcz (Pdz [.neu 20])))) hs rfl ?_ ?_);kernel_rfl;clear hs;intro w hs)))|go_guarded|go_step))
        go_roundw
        case rel=>exact⟨s+1,rfl,hsL.out,by simp,by ((with_reducible apply Sat.fin hs);(with_reducible exact Ql))⟩
        case measure=>have:=hsL.out;simp[intOf];omega)
    ·have f4:decide (x7<0)=true:=by simp;omega
     clear h8 h7 hxq
     (repeat'(first|((with_reducible apply ZT);((simp only[ev,Ue,Uf]);rfl);((simp only[cond_true,cond_false,ev,Ue,Uf]);rfl);(first|(with_reducible exact Zv)|((with_reducible apply Q6);rfl;rfl;simp only[Ue,Uf]));simp only[Uc,Uz])|(go_big_may;(first|((with_reducible apply Za hs);exact Ii;rfl;(with_reducible exact Qh);rfl;rfl;simp only[Uc,Uz])|((with_reducible apply ZG hs);exact Ii;rfl;rfl;(with_reducible exact Qh);rfl;rfl;rfl;rfl;clear hs;intro w hs)|((with_reducible apply Zo hs);exact Ii;rfl;clear hs;intro w b hs;simp only[Uc,Uz])|((with_reducible apply QE (k:=0) hs);exact Ii;rfl;assumption;(with_reducible repeat first|exact Qh|apply Qk);(exact(Nat.add_zero _).symm);(assumption);exact Vb rfl;rfl;rfl;simp only[Uc,Uz])|((with_reducible apply ZE hs);exact Ii;exact Ii;rfl;rfl;(with_reducible repeat first|exact Qh|apply Qk);rfl;(assumption);rfl;intro b off hat;simp only[Uc,Uz])|((with_reducible apply Zp hs);exact Ii;rfl;(with_reducible repeat first|exact Qh|apply Qk);rfl;simp only[Uc,Uz])))|go_guarded|go_step))
     go_roundw
     case rel=>exact⟨j+1,rfl,hnL.out,by simp,by (with_reducible apply Sat.fin hs;repeat first|exact Ql|exact Qh|apply Qb|apply Qk)⟩
     case measure=>have:=hnL.out;simp[intOf];omega
   ·have f3:(x8 != 4)=true:=by simpa using h8
    clear h8 hxq
    (repeat'(first|(((with_reducible apply Z8);rfl;rfl;((simp only[ev,Ue,Uf]);rfl);rfl;simp only[Uc,Uz]);(repeat(first|((with_reducible apply Z8);rfl;rfl;((simp only[ev,Ue,Uf]);rfl);rfl;simp only[Uc,Uz])|((with_reducible apply wl_pass3);rfl;rfl;simp only[Ue,Uf];simp only[Uc,Uz]))))|((with_reducible apply ZT);((simp only[ev,Ue,Uf]);rfl);((simp only[cond_true,cond_false,ev,Ue,Uf]);rfl);(with_reducible exact Zv);simp only[Uc,Uz])|(go_big_may;(first|((with_reducible apply Za hs);exact Ii;rfl;(with_reducible exact Qh);rfl;rfl;simp only[Uc,Uz])|((with_reducible apply ZG hs);exact Ii;rfl;rfl;(with_reducible exact Qh);rfl;rfl;rfl;rfl;clear hs;intro w hs)|((with_reducible apply Zo hs);exact Ii;rfl;clear hs;intro w b hs;simp only[Uc,Uz])|((with_reducible apply QE (k:=0) hs);exact Ii;rfl;assumption;(with_reducible repeat first|exact Qh|apply Qk);(exact(Nat.add_zero _).symm);(assumption);exact Vb rfl;rfl;rfl;simp only[Uc,Uz])|((with_reducible apply ZE hs);exact Ii;exact Ii;rfl;rfl;(with_reducible repeat first|exact Qh|apply Qk);rfl;(assumption);rfl;intro b off hat;simp only[Uc,Uz])|((with_reducible apply Zp hs);exact Ii;rfl;(with_reducible repeat first|exact Qh|apply Qk);rfl;simp only[Uc,Uz])))|go_step))
    go_roundw
    case rel=>exact⟨j+1,rfl,hnL.out,by simp,by (with_reducible apply Sat.fin hs;repeat first|exact Ql|exact Qh|apply Qb|apply Qk)⟩
    case measure=>have:=hnL.out;simp[intOf];omega
structure HonR (c:Cfg)(cs:List Cll)(lg:List Acc)(sh:List Shf)(ws:List Int):Prop where
 rl:RunLen cs lg sh ws
 q:HonQ c cs sh
theorem QRun.honr {c:Cfg}{n:Nat}{y:GW Zu}(q:QRun c n (HonJ c) y)(hok:c.Ok)(hl:n≤65536):HonR c y.m.calls y.m.mem.log y.m.shifts y.m.mem.words:=by
 have hs0:=s0_len hok
 refine⟨run_lens hl q.pm,q.j.hon,q.j.op,fun d hd => ?_⟩
 obtain⟨i,g1,g2⟩:=shfs_rng q.ok.srep d hd
 have:(are1 c).slots.length=(s0 c).length:=rfl
 exact⟨i,g1,by omega⟩
theorem que_honest (c0:Cfg)(mvs0:List Mv)(v0:Value)(A:Zb)(hRd:Rd A 4 (mvs0.map Mv.e) v0):Zl Tryz.prog 6 #[c0.v,v0] A (.bool true) A:=by
 intro O w F hs
 have hP:=Lh (law_play c0 mvs0 v0 HonJ (fun c hok=>hon_start c hok) (fun c _=>hon_ok c) A hRd)
 have hok:=fitC_ok c0
 obtain⟨a0,k0,rfl⟩:=hRd.len
 clear hRd
 simp only[List.length_map]at hs hP ⊢
 generalize fitC c0=C at hP hok
 generalize (mvs0.take 65536)=MV at hP
 have hR:=Lh (fun(y:GW Zu) (h1:MV.length≤65536) (q:QRun C MV.length (HonJ C) y)=>q.honr hok h1)
 have hD:=Lh (fun cs lg sh ws (u:Value) (h:HonR C cs lg sh ws)=>cen_honest C hok cs lg sh ws u h.rl h.q)
 obtain⟨e1,e2,e3,e4,e5,e6,e7⟩:=c0
 obtain⟨d1,d2,d3,d4,d5,d6,d7⟩:=C
 go_enter Tryz.func6,Tryz.ntmps6
 (repeat'(first|((with_reducible apply ZT);((simp only[ev,Ue,Uf]);rfl);((simp only[cond_true,cond_false,ev,Ue,Uf]);rfl);(with_reducible exact Zv);simp only[Uc,Uz])|(go_big_may;(first|((show wpList _ _ _ (Oper.mk (some 2) _ _ _ _ _::_) _ _);(with_reducible apply Zq hs);rfl;rfl;rfl;clear hs;intro w bC hs;simp only[Uc,Uz])|((show wpList _ _ _ (Oper.mk (some 6) _ _ _ _ _::_) _ _);(with_reducible apply Zo hs);exact Ii;rfl;clear hs;intro w bR hs;simp only[Uc,Uz])|(first|((with_reducible apply ZZ hs);exact Ii;rfl;(with_reducible repeat first|exact Qh|apply Qk);rfl;rfl;simp only[Uc,Uz])|((with_reducible apply ZG hs);exact Ii;rfl;rfl;(with_reducible repeat first|exact Qh|apply Qk);rfl;rfl;rfl;rfl;clear hs;intro w hs))|(go_at_call 11;(refine(hP.out).at hs (by with_reducible repeat first|exact Qh|apply Qk) ?_;clear hs;intro v w hs;(try simp only[Em,Ma]at hs));(simp only[ZC,Ma,Zy]at hs);(obtain⟨y,vm,p1,p2,p3,p4,⟨_,hM,hq,rfl,_⟩,hs⟩:=hs);(have hRy:=hR.out y hM hq);(clear hq hM);(generalize y.m.calls=cs at hs hRy);(generalize y.m.mem.log=lg at hs hRy);(generalize y.m.shifts=sh at hs hRy);(generalize y.m.mem.words=ws at hs hRy);(have hRy:=Lh hRy);(have hDs:=Lh (fun u=>hD.out cs lg sh ws u hRy.out));(have hg:=runR_get hs);(clear hs);(obtain⟨a1,k1,a2,k2,a3,k3,a4,k4,hv,hs⟩:=hg);(injection hv with hv);(injection hv with hv);(simp only[List.cons.injEq,and_true]at hv);(obtain⟨rfl,rfl,rfl,rfl⟩:=hv))|(go_at_call 17;(replace hs:=runR_mk2 a1 k1 a2 k2 a3 k3 a4 k4 (cs:=cs) (lg:=lg) (sh:=sh) (ws:=ws) hs (by (with_reducible repeat first|exact Qh|apply Qb|apply Qk)));((refine((hDs.out _)).at hs (by (with_reducible exact Qh)) ?_);clear hs;intro w hs;(try simp only[Em,Ma]at hs)))))|go_guarded|go_step|(dsimp only)))
 go_ret
 exact⟨rfl,by (with_reducible apply Sat.fin hs;repeat first|exact Ql|exact Qh|apply Qb|apply Qk)⟩
end Go.Proofs.YtefjbdajgakgpaaGreat
