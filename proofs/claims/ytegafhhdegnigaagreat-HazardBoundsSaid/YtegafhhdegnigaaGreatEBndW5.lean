/-
  The census: whether a run's parts go together; what the statements play.
-/
import Derived.Test.YtegafhhdegnigaaGreatECen3
import Derived.Test.YtegafhhdegnigaaGreatECen4
import Derived.Test.YtegafhhdegnigaaGreatECen6
import Derived.Test.YtegafhhdegnigaaGreatEBndW3
import Derived.Test.YtegafhhdegnigaaGreatEAln2
import Derived.Test.YtegafhhdegnigaaGreatEBnd11
set_option linter.all false
namespace Go.Proofs.YtegafhhdegnigaaGreat
open Go.RowKit Hp
set_option maxRecDepth 100000
set_option maxHeartbeats 8000000
attribute [local irreducible] Go.Calls Go.wpList
section
theorem runR_agg {O w:World}{F:Zd}{cs:List Cll}{lg:List Acc}{sh:List Shf}{ws:List Int}{v:Value}(hs:Sat O w (RunR cs lg sh ws v*F)):∃v1 v2 v3 v4,v=.agg #[v1,v2,v3,v4]:=by
 obtain⟨_,_,_,_,_,_,_,_,e,_⟩:=Jj hs
 exact⟨_,_,_,_,e⟩
theorem runR_mk2 {O w:World}{S R:Zd}{cs:List Cll}{lg:List Acc}{sh:List Shf}{ws:List Int}(a1:Option Addr)(k1:Nat)(a2:Option Addr)(k2:Nat)(a3:Option Addr)(k3:Nat)(a4:Option Addr)(k4:Nat)(hs:Sat O w S)
  (h:Pull S (sl 50 9 (cs.map Cll.e) (.slice a1 cs.length k1)*(sl 138 7 (lg.map Acc.e) (.slice a2 lg.length k2)*(sl 127 5 (sh.map Shf.e) (.slice a3 sh.length k3)*sl 57 1 (ws.map eU) (.slice a4 ws.length k4)))) R) :
  Sat O w (RunR cs lg sh ws (.agg #[.slice a1 cs.length k1,.slice a2 lg.length k2,.slice a3 sh.length k3,.slice a4 ws.length k4])*R):=
 runR_mk ((hs.pull h).cast (by simp only[Ma]))
def RunV (cs:List Cll)(lg:List Acc)(sh:List Shf)(ws:List Int)(u:Value):Zd:=ex fun v1=>ex fun v2=>ex fun v3=>ex fun v4=>pu (u=.tuple #[.agg #[v1,v2,v3,v4],.int .i64 0])*RunR cs lg sh ws (.agg #[v1,v2,v3,v4])
theorem play_runV {c:Cfg}(h:c.Ok){mvs:List Mv}(hl:mvs.length≤65536){y:HW}(B:Beh c mvs y){A:Zd}(v:Value)(hRd:Rd A 4 (mvs.map Mv.e) v) :
  Does Tryz.prog 15 #[c.v,v] A (fun u=>RunV y.m.calls y.m.mem.log y.m.shifts y.m.mem.words u*A):=by
 intro O w F hs
 refine(haz_play_runR c h v mvs hl A hRd O w F hs).mono ?_
 rintro e w' ⟨u,rfl,hs'⟩
 refine⟨u,rfl,?_⟩
 unfold RunE at hs'
 unfold RunV
 simp only[ZM,Ma,ZH]at hs' ⊢
 obtain⟨v',rfl,hs'⟩:=hs'
 obtain⟨v1,v2,v3,v4,rfl⟩:=runR_agg hs'
 rw[B.calls,B.log,B.shifts,B.words]
 exact⟨v1,v2,v3,v4,rfl,hs'⟩
theorem Beh.lens {c:Cfg}{mvs:List Mv}{y:HW}(h:Beh c mvs y)(hl:mvs.length≤65536):RunLen y.m.calls y.m.mem.log y.m.shifts y.m.mem.words:=by
 have h1:=h.pi.calls
 have h2:=h.pi.core.log
 have h3:=h.pi.core.shifts
 have h4:=h.pi.core.words
 have h5:=base14_le h.pi.core.ok
 exact⟨by omega,by omega,by omega,by omega⟩
theorem cen_may {c:Cfg}(hok:c.Ok){mvs:List Mv}(hl:mvs.length≤65536){y:HW}(B:Beh c mvs y)(u:Value) :
  ZB Tryz.prog 69 #[c.v,.int .i64 0,u] (RunR y.m.calls y.m.mem.log y.m.shifts y.m.mem.words u) (.bool true) (RunR y.m.calls y.m.mem.log y.m.shifts y.m.mem.words u):=by
 intro O w F hs
 have hL:=B.lens hl
 have hC:=Lh (ref_conf c hok)
 have h1:=Lh (fun v=>cen_calls c hok y.m.calls v mvs.length (by omega) (by have:=hL.l1;omega) B.ok.cl B.ok.bsort B.ok.ord B.ok.ends B.ok.be)
 have h2:=Lh (fun u=>cen_trace c hok y.m.calls y.m.mem.log y.m.shifts y.m.mem.words u hL B.ok.lsort B.ok.lpl B.ok.lrep)
 have h3:=Lh (fun u=>cen_shifts c hok y.m.calls y.m.mem.log y.m.shifts y.m.mem.words u hL y.s.2.slots B.ok.ssort B.ok.spl B.ok.srep B.ok.cross)
 have hS1:=hok.S1
 have f1:decide ((0:Int)≥0)=true:=rfl
 have f2:decide ((0:Int)≤c.Sl)=true:=by simp;omega
 generalize y.m.calls=cs at *
 generalize y.m.mem.log=lg at *
 generalize y.m.shifts=sh at *
 generalize y.m.mem.words=ws at *
 clear hS1 hok B hL
 have hg:=Jj hs
 clear hs
 obtain⟨a1,k1,a2,k2,a3,k3,a4,k4,rfl,hs⟩:=hg
 go_enter Tryz.func69,Tryz.ntmps69
 (repeat'(first|((with_reducible apply Z4);((simp only[ev,Ue,Uf]);rfl);((simp only[cond_true,cond_false,ev,Ue,Uf]);rfl);(with_reducible exact ZG);(simp only[Uc,Uz]))|(go_big_may;(first|(first|((with_reducible apply Zc hs);exact Ii;rfl;(with_reducible repeat first|exact Qh|apply Qk);rfl;rfl;(simp only[Uc,Uz]))|((with_reducible apply Z5 hs);exact Ii;rfl;(with_reducible repeat first|exact Qh|apply Qk);rfl;rfl;(simp only[Uc,Uz]))|((with_reducible apply Zv hs);rfl;rfl;rfl;clear hs;intro w b hs;(simp only[Uc,Uz])))|(go_at_call 87;((refine(hC.out).at hs (by (focus((repeat(with_reducible exact Qn));done))) ?_);clear hs;intro w hs;(try simp only[Em,Ma]at hs)))|(go_at_call 118;((refine((h1.out _)).at hs (by (with_reducible repeat first|exact Qh|apply Qk)) ?_);clear hs;intro w hs;(try simp only[Em,Ma]at hs)))|(go_at_call 119;(replace hs:=runR_mk2 a1 k1 a2 k2 a3 k3 a4 k4 (cs:=cs) (lg:=lg) (sh:=sh) (ws:=ws) hs (by (with_reducible repeat first|exact Qh|apply Qb|apply Qk)));((refine((h2.out _)).at hs (by (with_reducible exact Qh)) ?_);clear hs;intro w hs;(try simp only[Em,Ma]at hs)))|(go_at_call 120;((refine((h3.out _)).at hs (by (with_reducible exact Qh)) ?_);clear hs;intro w hs;(try simp only[Em,Ma]at hs)))))|go_guarded|go_step|(dsimp only)))
 (go_ret)
 exact⟨rfl,by ((with_reducible apply Sat.fin hs);(with_reducible repeat first|exact Ql|exact Qh|apply Qb|apply Qk))⟩
theorem law_play (c:Cfg)(mvs0:List Mv)(v0:Value)(A:Zd)(hRd0:Rd A 4 (mvs0.map Mv.e) v0){y:HW}(B:Beh (fitC c) (mvs0.take 65536) y) :
  Does Tryz.prog 20 #[c.v,v0] A (fun u=>(ex fun v=>ex fun v1=>ex fun v2=>ex fun v3=>ex fun v4=>pu (u=.tuple #[(fitC c).v,v,.agg #[v1,v2,v3,v4],.bool true]∧Rd A 4 ((mvs0.take 65536).map Mv.e) v)*RunR y.m.calls y.m.mem.log y.m.shifts y.m.mem.words (.agg #[v1,v2,v3,v4]))*A):=by
 intro O w F hs
 have hok:=fitC_ok c
 have hl:=fitM_len mvs0
 have hFit:=Lh (law_fit c mvs0 v0 A hRd0)
 unfold fitR at hFit
 generalize fitC c=C at *
 generalize mvs0.take 65536=M at *
 clear hRd0
 have hP:=Lh (fun v=>play_runV (A:=A) hok hl B v)
 have hW:=Lh law_awake
 have hM:=Lh (fun u=>cen_may hok hl B u)
 generalize y.m.calls=cs at *
 generalize y.m.mem.log=lg at *
 generalize y.m.shifts=sh at *
 generalize y.m.mem.words=ws at *
 clear B hok hl
 go_enter Tryz.func20,Tryz.ntmps20
 (repeat'(first|((with_reducible apply Z4);((simp only[ev,Ue,Uf]);rfl);((simp only[cond_true,cond_false,ev,Ue,Uf]);rfl);(with_reducible exact ZG);(simp only[Uc,Uz]))|(go_big_may;(first|(first|(first|(with_reducible refine NQ.mk ?_)|((with_reducible apply Zl);rfl;rfl)|((with_reducible apply ZF);rfl)|(with_reducible refine EQ.mk ?_ ?_)|(first|(with_reducible exact Zo)|((with_reducible refine ZJ ?_ ?_);(focus((with_reducible apply Qd);rfl;rfl))))|(with_reducible refine Zm ?_)|(show QD _ _ _;rfl))|((with_reducible apply Z5 hs);exact Ii;rfl;(with_reducible repeat first|exact Qh|apply Qk);rfl;rfl;(simp only[Uc,Uz]))|((with_reducible apply ZR hs);exact Ii;rfl;rfl;(with_reducible repeat first|exact Qh|apply Qk);rfl;rfl;rfl;rfl;clear hs;intro w hs)|((with_reducible apply Zw hs);exact Ii;rfl;clear hs;intro w b hs;(simp only[Uc,Uz]))|((with_reducible apply Zv hs);rfl;rfl;rfl;clear hs;intro w b hs;(simp only[Uc,Uz])))|(go_at_call 30;((refine(hFit.out).at hs (by (with_reducible repeat first|exact Qh|apply Qk)) ?_);clear hs;intro v w hs;(try simp only[Em,Ma]at hs));(simp only[ZM,Ma,ZH]at hs);(obtain⟨vm,⟨rfl,hRd⟩,hs⟩:=hs);(have hRd:=Lh hRd))|(go_at_call 19;((refine(hW.out).at hs (by (focus((repeat(with_reducible exact Qn));done))) ?_);clear hs;intro w hs;(try simp only[Em,Ma]at hs)))|(go_at_call 15;((refine((hP.out _ hRd.out)).at hs (by (with_reducible repeat first|exact Qh|apply Qk)) ?_);clear hs;intro v w hs;(try simp only[Em,Ma]at hs));(unfold RunV at hs);(simp only[ZM,Ma,ZH]at hs);(obtain⟨p1,p2,p3,p4,rfl,hs⟩:=hs);(have hg:=Jj hs);(clear hs);(obtain⟨a1,k1,a2,k2,a3,k3,a4,k4,hv,hs⟩:=hg);(injection hv with hv);(injection hv with hv);(simp only[List.cons.injEq,and_true]at hv);(obtain⟨rfl,rfl,rfl,rfl⟩:=hv))|(go_at_call 69;(replace hs:=runR_mk2 a1 k1 a2 k2 a3 k3 a4 k4 (cs:=cs) (lg:=lg) (sh:=sh) (ws:=ws) hs (by (with_reducible repeat first|exact Qh|apply Qb|apply Qk)));((refine((hM.out _)).at hs (by (with_reducible exact Qh)) ?_);clear hs;intro w hs;(try simp only[Em,Ma]at hs)))|((with_reducible refine Wp (id:=3) (Paz [.neu 5,.eff 6 [0,1,2],.neu 7,.neu 8,.neu 9,.neu 10,.eff 11 [0,1,2],.neu 12,.eff 13 [1,2,12],.neu 14,.eff 15 [12],.neu 16]) hs rfl ?_ ?_);kernel_rfl;clear hs;intro w hs)))|go_guarded|go_step|(dsimp only)))
 ((try simp only[Exit.inBlock,Exit.then]);(with_reducible apply bodyPost_ret);((with_reducible apply results_ctct);rfl;rfl;(with_reducible apply loadF hs);exact Ii;(with_reducible repeat first|exact Qh|apply Qk);rfl;rfl;(with_reducible apply loadF hs);exact Ii;(with_reducible exact Qh);rfl;rfl))
 refine⟨_,rfl,?_⟩
 simp only[ZM,Ma,ZH]
 exact⟨_,_,_,_,_,⟨rfl,hRd.out⟩,by ((with_reducible apply Sat.fin hs);(with_reducible repeat first|exact Ql|exact Qh|apply Qb|apply Qk))⟩
end
section
theorem haz_bounds (c:Cfg)(mvs0:List Mv)(v0:Value)(A:Zd)(hRd0:Rd A 4 (mvs0.map Mv.e) v0) :
  ZB Tryz.prog 7 #[c.v,v0] A (.bool true) A:=by
 intro O w F hs
 have hok:=fitC_ok c
 obtain⟨y,hB,hK,_⟩:=ki_ex2 hok (bndJ_ok (fitC c) hok) (mvs0.take 65536) (fitM_len mvs0)
 have hPl:=Lh (law_play c mvs0 v0 A hRd0 hB)
 obtain⟨pr,F0,D,J1,J2,J3,J4⟩:=hK.ex
 have hw:=win_lt hok
 have hLn:=hB.lens (fitM_len mvs0)
 have hRt:=Lh (law_retired (fitC c) hok)
 have hWn:=Lh (law_window (fitC c) hok)
 have hPk:=Lh (fun u=>cen_peaks (fitC c) hok y.m.calls y.m.mem.log y.m.shifts y.m.mem.words u hLn _ (fitM_len mvs0) 1 _ (phB (fitC c)+1) hw.2 (gapQ hK.ok J1) (pkQ hok hK.pi hK.ok D J2))
 have hDs:=Lh (fun u=>cen_honest (fitC c) hok y.m.calls y.m.mem.log y.m.shifts y.m.mem.words u hLn ⟨J3.hon,J4,rngQ hok hK.ok⟩)
 have hT1:=hok.T1
 have hw:=hw.1
 clear hK hRd0 J1 J2 J3 J4 D hLn hB hok
 generalize QR (fitC c)=L at *
 generalize windowC (fitC c) L=W at *
 generalize phB (fitC c)=B at *
 generalize fitC c=C at *
 generalize y.m.calls=cs at *
 generalize y.m.mem.log=lg at *
 generalize y.m.shifts=sh at *
 generalize y.m.mem.words=ws at *
 generalize hX:C.R*L=X at *
 clear hX
 obtain⟨C1,C2,c3,c4,c5,c6,c7⟩:=C
 obtain⟨d1,d2,d3,d4,d5,d6,d7⟩:=c
 simp only[]at hT1
 go_enter Tryz.func7,Tryz.ntmps7
 (repeat'(first|((with_reducible apply Z4);((simp only[ev,Ue,Uf]);rfl);((simp only[cond_true,cond_false,ev,Ue,Uf]);rfl);(with_reducible exact ZG);(simp only[Uc,Uz]))|(go_big_may;(first|(first|(first|(with_reducible refine NQ.mk ?_)|((with_reducible apply Zl);rfl;rfl)|((with_reducible apply ZF);rfl)|(with_reducible refine EQ.mk ?_ ?_)|(first|(with_reducible exact Zo)|((with_reducible refine ZJ ?_ ?_);(focus((with_reducible apply Qd);rfl;rfl))))|(with_reducible refine Zm ?_)|(show QD _ _ _;rfl))|((with_reducible apply Zc hs);exact Ii;rfl;(with_reducible repeat first|exact Qh|apply Qk);rfl;rfl;(simp only[Uc,Uz]))|((with_reducible apply Z5 hs);exact Ii;rfl;(with_reducible repeat first|exact Qh|apply Qk);rfl;rfl;(simp only[Uc,Uz]))|((with_reducible apply ZR hs);exact Ii;rfl;rfl;(with_reducible repeat first|exact Qh|apply Qk);rfl;rfl;rfl;rfl;clear hs;intro w hs)|((with_reducible apply Zw hs);exact Ii;rfl;clear hs;intro w b hs;(simp only[Uc,Uz]))|((with_reducible apply Zv hs);rfl;rfl;rfl;clear hs;intro w b hs;(simp only[Uc,Uz])))|(go_at_call 20;((refine(hPl.out).at hs (by (with_reducible repeat first|exact Qh|apply Qk)) ?_);clear hs;intro v w hs;(try simp only[Em,Ma]at hs));(simp only[ZM,Ma,ZH]at hs);(obtain⟨vm,p1,p2,p3,p4,⟨rfl,hRd⟩,hs⟩:=hs);(have hg:=Jj hs);(clear hs hRd);(obtain⟨a1,k1,a2,k2,a3,k3,a4,k4,hv,hs⟩:=hg);(injection hv with hv);(injection hv with hv);(simp only[List.cons.injEq,and_true]at hv);(obtain⟨rfl,rfl,rfl,rfl⟩:=hv))|(go_at_call 26;(replace hs:=runR_mkP a1 k1 a2 k2 a3 k3 a4 k4 (cs:=cs) (lg:=lg) (sh:=sh) (ws:=ws) hs (by (with_reducible repeat first|exact Qh|apply Qb|apply Qk)));((refine((hPk.out _)).at hs (by (with_reducible exact Qh)) ?_);clear hs;intro v w hs;(try simp only[Em,Ma]at hs));(simp only[PkV,ZM,Ma,ZH]at hs);(obtain⟨q0,q1,q2,q3,q4,q5,q6,⟨rfl,hq3,hq4,hq5⟩,hs⟩:=hs);(replace hs:=runR_open hs (by (with_reducible exact Qh)));(have fa1:decide (q4≤X)=true:=by simpa using hq4);(have fa2:decide (q3≤C1)=true:=by simp;omega);(have fa3:decide (q5<W)=true:=by simp;omega);(clear hq3 hq4 hq5 hT1 hw))|(go_at_call 27;((refine(hRt.out).at hs (by (focus((repeat(with_reducible exact Qn));done))) ?_);clear hs;intro w hs;(try simp only[Em,Ma]at hs)))|(go_at_call 28;((refine(hWn.out).at hs (by (focus((repeat(with_reducible exact Qn));done))) ?_);clear hs;intro w hs;(try simp only[Em,Ma]at hs)))|(go_at_call 29;(replace hs:=runR_mkP a1 k1 a2 k2 a3 k3 a4 k4 (cs:=cs) (lg:=lg) (sh:=sh) (ws:=ws) hs (by (with_reducible repeat first|exact Qh|apply Qb|apply Qk)));((refine((hDs.out _)).at hs (by (with_reducible exact Qh)) ?_);clear hs;intro w hs;(try simp only[Em,Ma]at hs)))|((with_reducible refine Wp (id:=5) [.neu 0,.neu 1,.neu 2,.eff 3 [0,1],.neu 4,.neu 5,.neu 6,.neu 7,.neu 8,.neu 9,.neu 10,.neu 11,.neu 12,.neu 13,.neu 14,.neu 15,.eff 16 [13,14],.neu 17,.neu 18,.neu 19,.neu 20,.neu 21,.eff 22 [],.neu 23,.neu 24,.neu 25,.neu 26] hs rfl ?_ ?_);kernel_rfl;clear hs;intro w hs)))|go_guarded|go_step|(dsimp only)))
 (go_ret)
 exact⟨rfl,by ((with_reducible apply Sat.fin hs);(with_reducible repeat first|exact Ql|exact Qh|apply Qb|apply Qk))⟩
end
end Go.Proofs.YtegafhhdegnigaaGreat
