import Derived.BigQuiet
import Derived.Test.YtefjbdajgakgpaaGreatDRs4
set_option linter.all false
namespace Go.Proofs.YtefjbdajgakgpaaGreat
open Go.RowKit Hp
section
set_option maxHeartbeats 1000000 in
set_option maxRecDepth 100000 in
theorem config_yes (T R Hz Rt Ca Sl Bu:Int)(h:CfgOk T R Hz Rt Ca Sl Bu) :
  Zk Tryz.prog 51 #[.agg (cfgV T R Hz Rt Ca Sl Bu)] emp (.bool true) emp:=by
 intro O w F hs
 obtain⟨⟨a1,a2⟩,⟨b1,b2⟩,⟨c1,c2⟩,⟨d1,d2⟩,⟨e1,e2⟩,⟨f1,f2⟩,⟨g1,g2⟩⟩:=h
 go_enter Tryz.func51,Tryz.ntmps51
 simp only[List.append]
 go_wp2_with (first|((with_reducible apply Zb hs);exact Ii;rfl;(repeat(exact Qh));rfl;rfl;simp only[Uc,Uz])|((with_reducible apply Zt hs);rfl;rfl;rfl;clear hs;intro w b hs;simp only[Uc,Uz]))
 go_ret
 exact⟨rfl,hs.right⟩
set_option maxHeartbeats 4000000 in
set_option maxRecDepth 100000 in
theorem config_no (T R Hz Rt Ca Sl Bu:Int)(h:¬CfgOk T R Hz Rt Ca Sl Bu) :
  Zk Tryz.prog 51 #[.agg (cfgV T R Hz Rt Ca Sl Bu)] emp (.bool false) emp:=by
 intro O w F hs
 by_cases g0:1≤T
 case neg=>
  clear h
  have hd:decide (1≤T)=false:=by simpa using g0
  clear g0
  go_enter Tryz.func51,Tryz.ntmps51
  simp only[List.append]
  go_wp2_with (first|((with_reducible apply Zb hs);exact Ii;rfl;(repeat(exact Qh));rfl;rfl;simp only[Uc,Uz])|((with_reducible apply Zt hs);rfl;rfl;rfl;clear hs;intro w b hs;simp only[Uc,Uz]))
  go_ret
  exact⟨rfl,hs.right⟩
 by_cases g1:T≤16
 case neg=>
  clear h
  have hd:decide (T≤16)=false:=by simpa using g1
  clear g1
  go_enter Tryz.func51,Tryz.ntmps51
  simp only[List.append]
  go_wp2_with (first|((with_reducible apply Zb hs);exact Ii;rfl;(repeat(exact Qh));rfl;rfl;simp only[Uc,Uz])|((with_reducible apply Zt hs);rfl;rfl;rfl;clear hs;intro w b hs;simp only[Uc,Uz]))
  go_ret
  exact⟨rfl,hs.right⟩
 by_cases g2:1≤R
 case neg=>
  clear h
  have hd:decide (1≤R)=false:=by simpa using g2
  clear g2
  go_enter Tryz.func51,Tryz.ntmps51
  simp only[List.append]
  go_wp2_with (first|((with_reducible apply Zb hs);exact Ii;rfl;(repeat(exact Qh));rfl;rfl;simp only[Uc,Uz])|((with_reducible apply Zt hs);rfl;rfl;rfl;clear hs;intro w b hs;simp only[Uc,Uz]))
  go_ret
  exact⟨rfl,hs.right⟩
 by_cases g3:R≤16
 case neg=>
  clear h
  have hd:decide (R≤16)=false:=by simpa using g3
  clear g3
  go_enter Tryz.func51,Tryz.ntmps51
  simp only[List.append]
  go_wp2_with (first|((with_reducible apply Zb hs);exact Ii;rfl;(repeat(exact Qh));rfl;rfl;simp only[Uc,Uz])|((with_reducible apply Zt hs);rfl;rfl;rfl;clear hs;intro w b hs;simp only[Uc,Uz]))
  go_ret
  exact⟨rfl,hs.right⟩
 by_cases g4:3≤Hz
 case neg=>
  clear h
  have hd:decide (3≤Hz)=false:=by simpa using g4
  clear g4
  go_enter Tryz.func51,Tryz.ntmps51
  simp only[List.append]
  go_wp2_with (first|((with_reducible apply Zb hs);exact Ii;rfl;(repeat(exact Qh));rfl;rfl;simp only[Uc,Uz])|((with_reducible apply Zt hs);rfl;rfl;rfl;clear hs;intro w b hs;simp only[Uc,Uz]))
  go_ret
  exact⟨rfl,hs.right⟩
 by_cases g5:Hz≤8
 case neg=>
  clear h
  have hd:decide (Hz≤8)=false:=by simpa using g5
  clear g5
  go_enter Tryz.func51,Tryz.ntmps51
  simp only[List.append]
  go_wp2_with (first|((with_reducible apply Zb hs);exact Ii;rfl;(repeat(exact Qh));rfl;rfl;simp only[Uc,Uz])|((with_reducible apply Zt hs);rfl;rfl;rfl;clear hs;intro w b hs;simp only[Uc,Uz]))
  go_ret
  exact⟨rfl,hs.right⟩
 by_cases g6:1≤Rt
 case neg=>
  clear h
  have hd:decide (1≤Rt)=false:=by simpa using g6
  clear g6
  go_enter Tryz.func51,Tryz.ntmps51
  simp only[List.append]
  go_wp2_with (first|((with_reducible apply Zb hs);exact Ii;rfl;(repeat(exact Qh));rfl;rfl;simp only[Uc,Uz])|((with_reducible apply Zt hs);rfl;rfl;rfl;clear hs;intro w b hs;simp only[Uc,Uz]))
  go_ret
  exact⟨rfl,hs.right⟩
 by_cases g7:Rt≤1024
 case neg=>
  clear h
  have hd:decide (Rt≤1024)=false:=by simpa using g7
  clear g7
  go_enter Tryz.func51,Tryz.ntmps51
  simp only[List.append]
  go_wp2_with (first|((with_reducible apply Zb hs);exact Ii;rfl;(repeat(exact Qh));rfl;rfl;simp only[Uc,Uz])|((with_reducible apply Zt hs);rfl;rfl;rfl;clear hs;intro w b hs;simp only[Uc,Uz]))
  go_ret
  exact⟨rfl,hs.right⟩
 by_cases g8:0≤Ca
 case neg=>
  clear h
  have hd:decide (0≤Ca)=false:=by simpa using g8
  clear g8
  go_enter Tryz.func51,Tryz.ntmps51
  simp only[List.append]
  go_wp2_with (first|((with_reducible apply Zb hs);exact Ii;rfl;(repeat(exact Qh));rfl;rfl;simp only[Uc,Uz])|((with_reducible apply Zt hs);rfl;rfl;rfl;clear hs;intro w b hs;simp only[Uc,Uz]))
  go_ret
  exact⟨rfl,hs.right⟩
 by_cases g9:Ca≤64
 case neg=>
  clear h
  have hd:decide (Ca≤64)=false:=by simpa using g9
  clear g9
  go_enter Tryz.func51,Tryz.ntmps51
  simp only[List.append]
  go_wp2_with (first|((with_reducible apply Zb hs);exact Ii;rfl;(repeat(exact Qh));rfl;rfl;simp only[Uc,Uz])|((with_reducible apply Zt hs);rfl;rfl;rfl;clear hs;intro w b hs;simp only[Uc,Uz]))
  go_ret
  exact⟨rfl,hs.right⟩
 by_cases g10:1≤Sl
 case neg=>
  clear h
  have hd:decide (1≤Sl)=false:=by simpa using g10
  clear g10
  go_enter Tryz.func51,Tryz.ntmps51
  simp only[List.append]
  go_wp2_with (first|((with_reducible apply Zb hs);exact Ii;rfl;(repeat(exact Qh));rfl;rfl;simp only[Uc,Uz])|((with_reducible apply Zt hs);rfl;rfl;rfl;clear hs;intro w b hs;simp only[Uc,Uz]))
  go_ret
  exact⟨rfl,hs.right⟩
 by_cases g11:Sl≤1024
 case neg=>
  clear h
  have hd:decide (Sl≤1024)=false:=by simpa using g11
  clear g11
  go_enter Tryz.func51,Tryz.ntmps51
  simp only[List.append]
  go_wp2_with (first|((with_reducible apply Zb hs);exact Ii;rfl;(repeat(exact Qh));rfl;rfl;simp only[Uc,Uz])|((with_reducible apply Zt hs);rfl;rfl;rfl;clear hs;intro w b hs;simp only[Uc,Uz]))
  go_ret
  exact⟨rfl,hs.right⟩
 by_cases g12:1≤Bu
 case neg=>
  clear h
  have hd:decide (1≤Bu)=false:=by simpa using g12
  clear g12
  go_enter Tryz.func51,Tryz.ntmps51
  simp only[List.append]
  go_wp2_with (first|((with_reducible apply Zb hs);exact Ii;rfl;(repeat(exact Qh));rfl;rfl;simp only[Uc,Uz])|((with_reducible apply Zt hs);rfl;rfl;rfl;clear hs;intro w b hs;simp only[Uc,Uz]))
  go_ret
  exact⟨rfl,hs.right⟩
 by_cases g13:Bu≤64
 case neg=>
  clear h
  have hd:decide (Bu≤64)=false:=by simpa using g13
  clear g13
  go_enter Tryz.func51,Tryz.ntmps51
  simp only[List.append]
  go_wp2_with (first|((with_reducible apply Zb hs);exact Ii;rfl;(repeat(exact Qh));rfl;rfl;simp only[Uc,Uz])|((with_reducible apply Zt hs);rfl;rfl;rfl;clear hs;intro w b hs;simp only[Uc,Uz]))
  go_ret
  exact⟨rfl,hs.right⟩
 exact absurd ⟨⟨g0,g1⟩,⟨g2,g3⟩,⟨g4,g5⟩,⟨g6,g7⟩,⟨g8,g9⟩,⟨g10,g11⟩,⟨g12,g13⟩⟩ h
theorem ref_conf (c:Cfg)(h:c.Ok):Zk Tryz.prog 51 #[c.v] emp (.bool true) emp:=config_yes c.T c.R c.Hz c.Rt c.Ca c.Sl c.Bu (c.ok_iff.1 h)
theorem ref_conf_no (c:Cfg)(h:¬c.Ok):Zk Tryz.prog 51 #[c.v] emp (.bool false) emp:=config_no c.T c.R c.Hz c.Rt c.Ca c.Sl c.Bu (fun k=>h (c.ok_iff.2 k))
end
section
set_option maxRecDepth 100000
set_option maxHeartbeats 1000000
attribute [local irreducible] Go.Calls

end
section
set_option maxRecDepth 100000
set_option maxHeartbeats 1000000
attribute [local irreducible] Go.Calls
variable (h:Haz)(a:Are)(m:Mch)(i t:Nat)
theorem er_ptTaken (c:Cll)(s:Sea)(p:Pt):ZV m.er i t c s.er p=er2 (ZV m i t c s p):=by
 simp only[ZV,er_point,er_now,er_answer,er2_ite];rfl
theorem er_ptReady (c:Cll)(s:Sea)(p:Pt):ZW h a m.er i t c s.er p=er3 (ZW h a m i t c s p):=by
 simp only[ZW,er_takeReady,JF]
 simp only[er3,er_ptTaken];rfl
theorem er_ptTake (c:Cll)(s:Sea)(p:Pt):ptTake a m.er i t c s.er p=er3 (ptTake a m i t c s p):=by
 simp only[ptTake,er_take,JF]
 simp only[er3,er_ptTaken];rfl
theorem er_ptStep (c:Cll)(s:Sea)(p:Pt):Qc h a m.er i t c s.er p=er3 (Qc h a m i t c s p):=by
 simp only[Qc,er_ptTake,er_word,er_load,er_store,er_swap,er_point,er_now,er_shift,er_answer,er_thread,JF];rfl
theorem er_gtEnd (s:Sea)(p:Gt):gtEnd h a m.er t s.er p=er4 (gtEnd h a m t s p):=by
 unfold gtEnd
 simp only[er4_ite,er_word,er_store,er_answer,er_retire]
 rfl
theorem er_gtStep (c:Cll)(s:Sea)(p:Gt):Z6 h a m.er i t c s.er p=er4 (Z6 h a m i t c s p):=by
 unfold Z6
 simp only[er4_ite,er_word,er_load,er_store,er_swap,er_point,er_now,er_shift,er_answer,er_thread,er_gtEnd]
 congr 1
 congr 1
 congr 1
 congr 1
 congr 1
 congr 1
 congr 1
 congr 1
 congr 1
 congr 1
 congr 1
 split
 ·rfl
 ·split
  ·rfl
  ·rw[er_scan];rfl
theorem qk_er (bh ba:Nat)(cf:Cfg)(CX:Zc):ErOk (qkT bh ba cf CX):=by
 constructor
 ·intro s m i t c se k
  cases k with
  | hz k=>show((Qw s m.er i t c se.er k).1,_,_,_)=_;rw[er_rdy];rfl
  | put p=>show((ZW s.1 s.2 m.er i t c se.er p).1,_,_,_)=_;rw[er_ptReady];rfl
  | get p=>rfl
 ·intro s m i t c se k
  cases k with
  | hz k=>show((ZQ s m.er i t c se.er k).1,_,_,_)=_;rw[er_stp];rfl
  | put p=>show((Qc s.1 s.2 m.er i t c se.er p).1,_,_,_)=_;rw[er_ptStep];rfl
  | get p=>show((Z6 s.1 s.2 m.er i t c se.er p).1,_,_,_)=_;rw[er_gtStep];rfl
def qKnown (o:Int):Bool:=decide (20≤o∧o≤25)||decide (o=40∨o=41)
def qMove (y:GW Zx)(mv:Mv):GW Zx:=gMove Q6 Q5 qKnown qTask y mv
def qRun (c:Cfg)(mvs:List Mv):GW Zx:=mvs.foldl qMove (gEr (gsq0 c 0 .nilIface))
theorem qRun_take {c:Cfg}{mvs:List Mv}{k:Nat}{mv:Mv}(h:mvs[k]? = some mv):qRun c (mvs.take (k+1))=qMove (qRun c (mvs.take k)) mv:=by
 have e:mvs.take (k+1)=mvs.take k++[mv]:=by
  rw[List.take_add_one,h];rfl
 rw[e]
 simp only[qRun,List.foldl_append,List.foldl_cons,List.foldl_nil]
theorem qFn_known (x:Caps)(y:QCaps)(cf:Cfg)(o:Int):jFnQ x y o≠none↔qKnown o=true:=by
 rw[jFnQ_known]
 unfold qKnown
 simp
def RunQ (c:Cfg)(mvs:List Mv)(u:Value):Zc:=ex fun v=>pu (u=.tuple #[v,.int .i64 0])*RunR (qRun c mvs).m.calls (qRun c mvs).m.mem.log (qRun c mvs).m.shifts (qRun c mvs).m.mem.words v
theorem que_play_runR (c:Cfg)(h:c.Ok)(v:Value)(mvs:List Mv)(hl:mvs.length≤65536)(A:Zc)(hRd:Rd A 4 (mvs.map Mv.e) v) :
  Does Tryz.prog 21 #[c.v,v] A (fun u=>RunQ c mvs u*A):=by
 intro O w F hs
 refine(que_playJ c h v mvs hl (fun k y=>gEr y=qRun c (mvs.take k)) (fun km vs => ?_) ?_ A hRd O w F hs).mono ?_
 ·simp only[List.take_zero]
  rfl
 ·intro CX bh ba x z k y mv b y' hmv hP hj hm
  rw[qRun_take hmv,←hj];exact gMove_of (qk_er bh ba c CX) (qFn_known x z c) hm
 ·rintro e w' ⟨u,rfl,hs'⟩
  refine⟨u,rfl,?_⟩
  unfold gplayR at hs'
  unfold RunQ
  simp only[ZG,Ma,Zz]at hs' ⊢
  obtain⟨y,v',⟨⟨hP,hE⟩,hu⟩,hs'⟩:=hs'
  rw[List.take_length]at hE
  refine⟨v',hu,?_⟩
  rw[←hE]
  exact hs'
theorem que_play_run (c:Cfg)(h:c.Ok)(v:Value)(mvs:List Mv)(hl:mvs.length≤65536) :
  Does Tryz.prog 21 #[c.v,v] (sl 90 4 (mvs.map Mv.e) v) (fun u=>RunQ c mvs u*sl 90 4 (mvs.map Mv.e) v):=
 does_sl fun A hA=>que_play_runR c h v mvs hl A hA
def qSmall:Cfg:=⟨1,1,3,1,0,3,1⟩
abbrev qSteps (n:Nat):List Mv:=List.replicate n ⟨0,0,0,0⟩
abbrev qA1:List Mv:=[⟨0,20,0,0⟩]++qSteps 2
abbrev qA2:List Mv:=qA1++[⟨0,40,7,0⟩]++qSteps 12
abbrev qA3:List Mv:=qA2++[⟨0,41,0,0⟩]++qSteps 17
def qAw:List Mv:=qA3++[⟨0,41,0,0⟩]++qSteps 7
def qAwOk (y:GW Zx):Bool:=decide (y.m.calls.length=4)&&decide (y.m.mem.log.length=38) &&
 (match y.m.calls[1]? with|some c=>decide (c.point=13)|none=>false) &&
 (match y.m.calls[2]? with|some c=>decide (c.end_=33)&&(decide (c.kind=2)&&decide (c.value=7))|none=>false) &&
 (match y.m.calls[3]? with|some c=>decide (c.end_=41)&&(decide (c.kind=3)&&decide (c.point=39))|none=>false)
theorem qAw_ok:qAwOk (qRun qSmall qAw)=true:=by kernel_rfl
end
section
set_option maxRecDepth 100000
set_option maxHeartbeats 1000000
attribute [local irreducible] Go.Calls
abbrev stepsQ (t:Int)(n:Nat):List Mv:=List.replicate n ⟨t,0,0,0⟩
theorem law_small:Zk Tryz.prog 52 #[] emp qSmall.v emp:=by
 intro O w F hs
 go_enter Tryz.func52,Tryz.ntmps52
 go_wp2_with (first|((with_reducible apply ZN hs);exact Ii;rfl;rfl;(with_reducible exact Qh);rfl;rfl;rfl;rfl;clear hs;intro w hs)|((with_reducible apply Zw hs);exact Ii;rfl;clear hs;intro w b hs;simp only[Uc,Uz]))
 ((try simp only[Exit.inBlock,Exit.then]);(with_reducible apply bodyPost_ret);((with_reducible apply results_c);rfl;rfl;(with_reducible apply loadF hs);exact Ii;(with_reducible exact Qh);rfl;rfl))
 exact⟨rfl,by ((with_reducible apply Sat.fin hs);(focus with_reducible (repeat first|exact Ql|exact Qn|apply Qb|apply Qk);done))⟩
theorem law_steps (v:Value)(ms:List Mv)(t:Int)(n:Nat)(hn:n≤65536)(hl:ms.length≤1000000) :
  Does Tryz.prog 22 #[v,.int .i64 t,.int .i64 (n:Int)] (sl 90 4 (ms.map Mv.e) v) (fun u=>sl 90 4 ((ms++stepsQ t n).map Mv.e) u):=by
 intro O w F hs
 go_enter Tryz.func22,Tryz.ntmps22
 go_wp2_with (fail)
 go_loopw [0,7] (fun u q wr=>∃k:Nat,k≤n∧q=.int .i64 (k:Int)∧Sat O wr (sl 90 4 ((ms++stepsQ t k).map Mv.e) u*F)) (fun _ q _=>65537-(intOf q).toNat)
 case atStart=>exact⟨0,by omega,rfl,by simp only[stepsQ,List.replicate_zero,List.append_nil];exact hs⟩
 case round=>
  obtain⟨k,k1,rfl,hs⟩:=hrel
  by_cases hkr:k=n
  ·subst hkr
   have hlt:decide ((k:Int)<(k:Int))=false:=by simp
   go_wp2_with (fail)
   go_ret
   exact⟨_,rfl,by ((with_reducible apply Sat.fin hs);(focus((repeat(first|with_reducible exact Ql|with_reducible apply Qb|exact Qh));done)))⟩
  ·have hlt:decide ((k:Int)<(n:Int))=true:=by simp;omega
   have hlt2:decide (k<n)=true:=by simp;omega
   go_wp2_with (first|((with_reducible apply wl_bs hs);exact Ii;exact Ii;rfl;rfl;rfl;rfl;exact Vb rfl;rfl;clear hs;intro w v hs;simp only[Uc,Uz])|((with_reducible apply JA hs);exact Ii;exact Ii;rfl;rfl;(focus with_reducible (repeat first|exact Qh|apply Qk);done);(with_reducible exact Qh);(simp only[Wm,Ws,Wa,Wc,Wn,Wr]at *;omega);exact Vb rfl;rfl;clear hs;intro w v hs;simp only[Uc,Uz]))
   have e:(ms++stepsQ t (k+1)).map Mv.e=(ms++stepsQ t k).map Mv.e++[[.int .i64 t,.int .i64 0,.int .i64 0,.int .i64 0]]:=by
    simp only[stepsQ,List.replicate_succ',Yh,Yi,Yj,List.append_assoc]
   go_roundw
   case rel=>exact⟨k+1,by omega,by simp,by rw[e];(with_reducible apply Sat.fin hs;repeat first|exact Ql|exact Qh|apply Qb|apply Qk)⟩
   case measure=>simp[intOf];omega
end
section
set_option maxRecDepth 100000
set_option maxHeartbeats 1000000
attribute [local irreducible] Go.Calls

end
section
set_option maxRecDepth 100000
set_option maxHeartbeats 1000000
attribute [local irreducible] Go.Calls Go.wpList
theorem qSmallOk:qSmall.Ok:=by constructor<;>decide
theorem qAw_facts {y:GW Zx}(h:qAwOk y=true):y.m.calls.length=4∧y.m.mem.log.length=38 ∧
  (∃a1 a2 a3 a4 a5 a6 a8 a9,y.m.calls[1]? = some ⟨a1,a2,a3,a4,a5,a6,13,a8,a9⟩)∧(∃b1 b2 b3 b4 b5 b7,y.m.calls[2]? = some ⟨b1,b2,b3,b4,b5,33,b7,2,7⟩) ∧
  ∃d1 d2 d3 d4 d5 d9,y.m.calls[3]? = some ⟨d1,d2,d3,d4,d5,41,39,3,d9⟩:=by
 unfold qAwOk at h
 simp only[Bool.and_eq_true,decide_eq_true_eq]at h
 obtain⟨⟨⟨⟨h1,h2⟩,h3⟩,h4⟩,h5⟩:=h
 refine⟨h1,h2,?_,?_,?_⟩
 ·split at h3
  ·rename_i c hc
   obtain⟨a1,a2,a3,a4,a5,a6,a7,a8,a9⟩:=c
   simp only[decide_eq_true_eq]at h3
   subst h3
   exact⟨_,_,_,_,_,_,_,_,hc⟩
  ·cases h3
 ·split at h4
  ·rename_i c hc
   obtain⟨a1,a2,a3,a4,a5,a6,a7,a8,a9⟩:=c
   simp only[Bool.and_eq_true,decide_eq_true_eq]at h4
   obtain⟨rfl,rfl,rfl⟩:=h4
   exact⟨_,_,_,_,_,_,hc⟩
  ·cases h4
 ·split at h5
  ·rename_i c hc
   obtain⟨a1,a2,a3,a4,a5,a6,a7,a8,a9⟩:=c
   simp only[Bool.and_eq_true,decide_eq_true_eq]at h5
   obtain⟨rfl,rfl,rfl⟩:=h5
   exact⟨_,_,_,_,_,_,hc⟩
  ·cases h5
abbrev qa1:List Mv:=[⟨0,20,0,0⟩]
abbrev qa2:List Mv:=(qa1++stepsQ 0 2)++[⟨0,40,7,0⟩]
abbrev qa3:List Mv:=(qa2++stepsQ 0 12)++[⟨0,41,0,0⟩]
abbrev qa4:List Mv:=(qa3++stepsQ 0 17)++[⟨0,41,0,0⟩]
set_option maxHeartbeats 4000000 in
theorem law_awake:Zk Tryz.prog 19 #[] emp (.bool true) emp:=by
 intro O w F hs
 have hS:=Lh law_small
 have h1:=Lh (fun v=>law_steps v qa1 0 2 (by omega) (by decide))
 have h2:=Lh (fun v=>law_steps v qa2 0 12 (by omega) (by decide))
 have h3:=Lh (fun v=>law_steps v qa3 0 17 (by omega) (by decide))
 have h4:=Lh (fun v=>law_steps v qa4 0 7 (by omega) (by decide))
 have hP:=Lh (fun v=>que_play_run qSmall qSmallOk v (qa4++stepsQ 0 7) (by decide))
 obtain⟨l1,l2,⟨a1,a2,a3,a4,a5,a6,a8,a9,g1⟩,⟨b1,b2,b3,b4,b5,b7,g2⟩,d1,d2,d3,d4,d5,d9,g3⟩:=qAw_facts (show qAwOk (qRun qSmall (qa4++stepsQ 0 7))=true from qAw_ok)
 generalize hyy:qRun qSmall (qa4++stepsQ 0 7)=y at l1 l2 g1 g2 g3
 have hyy:=Lh hyy
 have i1:1<(y.m.calls.map Cll.e).length:=by simp[l1]
 have i2:2<(y.m.calls.map Cll.e).length:=by simp[l1]
 have i3:3<(y.m.calls.map Cll.e).length:=by simp[l1]
 go_enter Tryz.func19,Tryz.ntmps19
 (repeat'(first|((with_reducible apply wl_pick);((simp only[ev,Ue,Uf]);rfl);((simp only[cond_true,cond_false,ev,Ue,Uf]);rfl);(with_reducible exact QX);simp only[Uc,Uz])|(go_big_may;(first|((with_reducible apply Zb hs);exact Ii;rfl;(with_reducible repeat first|exact Qh|apply Qk);rfl;rfl;simp only[Uc,Uz])|((with_reducible apply ZN hs);exact Ii;rfl;rfl;(with_reducible exact Qh);rfl;rfl;rfl;rfl;clear hs;intro w hs)|((with_reducible apply Zw hs);exact Ii;rfl;clear hs;intro w b hs;simp only[Uc,Uz])|((with_reducible apply Jv hs);exact Ii;exact Ii;rfl;assumption;rfl;(with_reducible repeat first|exact Qh|apply Qk);rfl;(assumption);rfl;simp only[Uc,Uz])|((with_reducible apply Qe hs);exact Ii;exact Ii;rfl;rfl;(with_reducible repeat first|exact Qh|apply Qk);rfl;(assumption);rfl;intro b off hat;simp only[Uc,Uz])|((with_reducible apply ZS hs);exact Ii;rfl;(with_reducible repeat first|exact Qh|apply Qk);rfl;simp only[Uc,Uz])|((with_reducible apply wl_bs hs);exact Ii;exact Ii;rfl;rfl;rfl;rfl;exact Vb rfl;rfl;clear hs;intro w v hs;simp only[Uc,Uz])|((with_reducible apply JA hs);exact Ii;exact Ii;rfl;rfl;(focus with_reducible (repeat first|exact Qh|apply Qk);done);(with_reducible exact Qh);(simp only[Wm,Ws,Wa,Wc,Wn,Wr]at *;omega);exact Vb rfl;rfl;clear hs;intro w v hs;simp only[Uc,Uz])|((with_reducible apply wl_ldSN (i:=2) (k:=7) (c':=[.int .i64 2,.int .i64 7]) hs);exact Ii;rfl;assumption;(with_reducible repeat first|exact Qh|apply Qk);rfl;(exact Ze (by assumption));exact Vb rfl;rfl;rfl;simp only[Uc,Uz])|((with_reducible apply wl_ldS (i:=1) (k:=6) hs);exact Ii;rfl;assumption;(with_reducible repeat first|exact Qh|apply Qk);rfl;(exact Ze (by assumption));rfl;rfl;simp only[Uc,Uz])|((with_reducible apply wl_ldS (i:=2) (k:=5) hs);exact Ii;rfl;assumption;(with_reducible repeat first|exact Qh|apply Qk);rfl;(exact Ze (by assumption));rfl;rfl;simp only[Uc,Uz])|((with_reducible apply wl_ldS (i:=3) (k:=7) hs);exact Ii;rfl;assumption;(with_reducible repeat first|exact Qh|apply Qk);rfl;(exact Ze (by assumption));rfl;rfl;simp only[Uc,Uz])|((with_reducible apply wl_ldS (i:=3) (k:=5) hs);exact Ii;rfl;assumption;(with_reducible repeat first|exact Qh|apply Qk);rfl;(exact Ze (by assumption));rfl;rfl;simp only[Uc,Uz])|((with_reducible apply wl_ldS (i:=3) (k:=6) hs);exact Ii;rfl;assumption;(with_reducible repeat first|exact Qh|apply Qk);rfl;(exact Ze (by assumption));rfl;rfl;simp only[Uc,Uz])|(go_at_call 52;((refine(hS.out).at hs (by (focus((repeat(with_reducible exact Qn));done))) ?_);clear hs;intro w hs;(try simp only[Em,Ma]at hs)))|(go_at_call 22;((refine((h1.out _)).at hs (by (focus((repeat(first|exact Qh|with_reducible apply Qk));done))) ?_);clear hs;intro v w hs;(try simp only[Em,Ma]at hs)))|(go_at_call 22;((refine((h2.out _)).at hs (by (focus((repeat(first|exact Qh|with_reducible apply Qk));done))) ?_);clear hs;intro v w hs;(try simp only[Em,Ma]at hs)))|(go_at_call 22;((refine((h3.out _)).at hs (by (focus((repeat(first|exact Qh|with_reducible apply Qk));done))) ?_);clear hs;intro v w hs;(try simp only[Em,Ma]at hs)))|(go_at_call 22;((refine((h4.out _)).at hs (by (focus((repeat(exact Qh));done))) ?_);clear hs;intro v w hs;(try simp only[Em,Ma]at hs)))|(go_at_call 21;((refine((hP.out _)).at hs (by (with_reducible exact Qh)) ?_);clear hs;intro v w hs;(try simp only[Em,Ma]at hs));(unfold RunQ RunR at hs);(simp only[ZG,Ma,Zz,hyy.out]at hs);(obtain⟨vr,rfl,vc,vt,vs,vw,rfl,hs⟩:=hs);(obtain⟨_,_,rfl⟩:=QY (hs.pull (A:=sl 59 9 _ vc) (by (with_reducible exact Qh))));(obtain⟨_,_,rfl⟩:=QY (hs.pull (A:=sl 87 7 _ vt) (by (with_reducible repeat first|exact Qh|apply Qk))));(obtain⟨_,_,rfl⟩:=QY (hs.pull (A:=sl 102 5 _ vs) (by (with_reducible repeat first|exact Qh|apply Qk))));(obtain⟨_,_,rfl⟩:=QY (hs.pull (A:=sl 79 1 _ vw) (by (with_reducible repeat first|exact Qh|apply Qk))));(simp only[List.length_map,l1,l2]at hs ⊢))))|go_guarded|go_step|(dsimp only)))
 go_ret
 exact⟨rfl,by ((with_reducible apply Sat.fin hs);(focus with_reducible (repeat first|exact Ql|exact Qn|apply Qb|apply Qk);done))⟩
end
section
set_option maxRecDepth 100000
set_option maxHeartbeats 1000000
attribute [local irreducible] Go.Calls
open Classical in
noncomputable def fitC (c:Cfg):Cfg:=if c.Ok then c else qSmall
theorem fitC_ok (c:Cfg):(fitC c).Ok:=by
 unfold fitC
 split
 ·assumption
 ·exact qSmallOk
theorem fitM_len (mvs:List Mv):(mvs.take 65536).length≤65536:=by simp;omega
def fitR (c:Cfg)(mvs:List Mv)(A:Zc)(u:Value):Zc:=ex fun v=>pu (u=.tuple #[(fitC c).v,v]∧Rd A 4 ((mvs.take 65536).map Mv.e) v)*A
theorem law_fit (c:Cfg)(mvs:List Mv)(v:Value)(A:Zc)(hRd:Rd A 4 (mvs.map Mv.e) v) :
  Does Tryz.prog 18 #[c.v,v] A (fitR c mvs A):=by
 intro O w F hs
 have hS:=Lh law_small
 obtain⟨a0,c0,rfl⟩:=hRd.len
 have hRd':=hRd
 simp only[List.length_map]at hRd hs ⊢
 by_cases hl:65536<mvs.length
 ·have hR2:Rd A 4 ((mvs.take 65536).map Mv.e) (.slice a0 65536 c0):=by
   rw[List.map_take]
   have:=hRd'.resH (i:=65536) (by simp;omega)
   exact this
  have n1:decide ((mvs.length:Int)>65536)=true:=by simp;omega
  have n2:65536≤(mvs.map Mv.e).length:=by simp;omega
  have hRd:=Lh hRd
  clear hRd'
  by_cases hok:c.Ok
  ·have hC:=Lh (ref_conf c hok)
   have e:fitC c=c:=by unfold fitC;rw[if_pos hok]
   unfold fitR
   rw[e]
   go_enter Tryz.func18,Tryz.ntmps18
   go_wp2_with (first|((with_reducible apply Qy hs);exact Ii;rfl;(with_reducible repeat first|exact Qh|apply Qk);rfl;rfl;simp only[Uc,Uz])|((with_reducible apply ZN hs);exact Ii;rfl;rfl;(with_reducible exact Qh);rfl;rfl;rfl;rfl;clear hs;intro w hs)|((with_reducible apply Zw hs);exact Ii;rfl;clear hs;intro w b hs;simp only[Uc,Uz])|((with_reducible apply Zt hs);rfl;rfl;rfl;clear hs;intro w b hs;simp only[Uc,Uz])|(go_at_call 51;((refine(hC.out).at hs (by (focus((repeat(with_reducible exact Qn));done))) ?_);clear hs;intro w hs;(try simp only[Em,Ma]at hs)))|((with_reducible apply rd_reH (i:=65536) hRd.out);exact Ii;exact Ii;rfl;rfl;rfl;assumption;rfl;simp only[Uc,Uz]))
   ((try simp only[Exit.inBlock,Exit.then]);(with_reducible apply bodyPost_ret);((with_reducible apply results_ct);rfl;rfl;(with_reducible apply loadF hs);exact Ii;(with_reducible exact Qh);rfl;rfl))
   refine⟨_,rfl,?_⟩
   simp only[ZG,Ma,Zz]
   exact⟨_,⟨rfl,hR2⟩,by (with_reducible apply Sat.fin hs;repeat first|exact Ql|exact Qh|apply Qb|apply Qk)⟩
  ·have hC:=Lh (ref_conf_no c hok)
   have e:fitC c=qSmall:=by unfold fitC;rw[if_neg hok]
   unfold fitR
   rw[e]
   go_enter Tryz.func18,Tryz.ntmps18
   go_wp2_with (first|((with_reducible apply Qy hs);exact Ii;rfl;(with_reducible repeat first|exact Qh|apply Qk);rfl;rfl;simp only[Uc,Uz])|((with_reducible apply ZN hs);exact Ii;rfl;rfl;(with_reducible repeat first|exact Qh|apply Qk);rfl;rfl;rfl;rfl;clear hs;intro w hs)|((with_reducible apply Zw hs);exact Ii;rfl;clear hs;intro w b hs;simp only[Uc,Uz])|((with_reducible apply Zt hs);rfl;rfl;rfl;clear hs;intro w b hs;simp only[Uc,Uz])|(go_at_call 52;((refine(hS.out).at hs (by (focus((repeat(with_reducible exact Qn));done))) ?_);clear hs;intro w hs;(try simp only[Em,Ma]at hs)))|(go_at_call 51;((refine(hC.out).at hs (by (focus((repeat(with_reducible exact Qn));done))) ?_);clear hs;intro w hs;(try simp only[Em,Ma]at hs)))|((with_reducible apply rd_reH (i:=65536) hRd.out);exact Ii;exact Ii;rfl;rfl;rfl;assumption;rfl;simp only[Uc,Uz]))
   ((try simp only[Exit.inBlock,Exit.then]);(with_reducible apply bodyPost_ret);((with_reducible apply results_ct);rfl;rfl;(with_reducible apply loadF hs);exact Ii;(with_reducible exact Qh);rfl;rfl))
   refine⟨_,rfl,?_⟩
   simp only[ZG,Ma,Zz]
   exact⟨_,⟨rfl,hR2⟩,by (with_reducible apply Sat.fin hs;repeat first|exact Ql|exact Qh|apply Qb|apply Qk)⟩
 ·have hR2:Rd A 4 ((mvs.take 65536).map Mv.e) (.slice a0 mvs.length c0):=by
   rw[List.take_of_length_le (by omega)]
   exact hRd
  have n1:decide ((mvs.length:Int)>65536)=false:=by simp;omega
  have hRd:=Lh hRd
  clear hRd'
  by_cases hok:c.Ok
  ·have hC:=Lh (ref_conf c hok)
   have e:fitC c=c:=by unfold fitC;rw[if_pos hok]
   unfold fitR
   rw[e]
   go_enter Tryz.func18,Tryz.ntmps18
   go_wp2_with (first|((with_reducible apply Qy hs);exact Ii;rfl;(with_reducible repeat first|exact Qh|apply Qk);rfl;rfl;simp only[Uc,Uz])|((with_reducible apply ZN hs);exact Ii;rfl;rfl;(with_reducible exact Qh);rfl;rfl;rfl;rfl;clear hs;intro w hs)|((with_reducible apply Zw hs);exact Ii;rfl;clear hs;intro w b hs;simp only[Uc,Uz])|((with_reducible apply Zt hs);rfl;rfl;rfl;clear hs;intro w b hs;simp only[Uc,Uz])|(go_at_call 51;((refine(hC.out).at hs (by (focus((repeat(with_reducible exact Qn));done))) ?_);clear hs;intro w hs;(try simp only[Em,Ma]at hs))))
   ((try simp only[Exit.inBlock,Exit.then]);(with_reducible apply bodyPost_ret);((with_reducible apply results_ct);rfl;rfl;(with_reducible apply loadF hs);exact Ii;(with_reducible exact Qh);rfl;rfl))
   refine⟨_,rfl,?_⟩
   simp only[ZG,Ma,Zz]
   exact⟨_,⟨rfl,hR2⟩,by (with_reducible apply Sat.fin hs;repeat first|exact Ql|exact Qh|apply Qb|apply Qk)⟩
  ·have hC:=Lh (ref_conf_no c hok)
   have e:fitC c=qSmall:=by unfold fitC;rw[if_neg hok]
   unfold fitR
   rw[e]
   go_enter Tryz.func18,Tryz.ntmps18
   go_wp2_with (first|((with_reducible apply Qy hs);exact Ii;rfl;(with_reducible repeat first|exact Qh|apply Qk);rfl;rfl;simp only[Uc,Uz])|((with_reducible apply ZN hs);exact Ii;rfl;rfl;(with_reducible repeat first|exact Qh|apply Qk);rfl;rfl;rfl;rfl;clear hs;intro w hs)|((with_reducible apply Zw hs);exact Ii;rfl;clear hs;intro w b hs;simp only[Uc,Uz])|((with_reducible apply Zt hs);rfl;rfl;rfl;clear hs;intro w b hs;simp only[Uc,Uz])|(go_at_call 52;((refine(hS.out).at hs (by (focus((repeat(with_reducible exact Qn));done))) ?_);clear hs;intro w hs;(try simp only[Em,Ma]at hs)))|(go_at_call 51;((refine(hC.out).at hs (by (focus((repeat(with_reducible exact Qn));done))) ?_);clear hs;intro w hs;(try simp only[Em,Ma]at hs))))
   ((try simp only[Exit.inBlock,Exit.then]);(with_reducible apply bodyPost_ret);((with_reducible apply results_ct);rfl;rfl;(with_reducible apply loadF hs);exact Ii;(with_reducible exact Qh);rfl;rfl))
   refine⟨_,rfl,?_⟩
   simp only[ZG,Ma,Zz]
   exact⟨_,⟨rfl,hR2⟩,by (with_reducible apply Sat.fin hs;repeat first|exact Ql|exact Qh|apply Qb|apply Qk)⟩
end
end Go.Proofs.YtefjbdajgakgpaaGreat
