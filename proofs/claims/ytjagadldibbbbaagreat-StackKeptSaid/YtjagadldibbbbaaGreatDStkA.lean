/-
  stack.Play, by an invariant of the machine's states.
-/
import Derived.Test.YtjagadldibbbbaaGreatDStkK
import Derived.Test.YtjagadldibbbbaaGreatDRun
import Derived.Test.YtjagadldibbbbaaGreatDInv5
import Derived.KernelRfl
set_option linter.all false
namespace Go.Proofs.YtjagadldibbbbaaGreat
section
open Go.RowKit Hp
set_option maxRecDepth 100000
set_option maxHeartbeats 1000000
attribute [local irreducible] Go.Calls Go.wpList
def gst0 (τ:Type)(c:Cfg)(km:Nat)(vs:Value):GW τ:=⟨(haz0 c,are0 c),mch0 c.T.toNat (firstW c 0) (.map (some km)) vs,List.replicate c.T.toNat none⟩
theorem gwr0_eq {g ba bx bm:Nat}{CX:Zc}{K:Int→Option Value}{c:Cfg}{km:Nat}{vs:Value}:WR (skT g ba CX) bx bm K (gst0 Zm c km vs) =
  MchR bx bm (mch0 c.T.toNat (firstW c 0) (.map (some km)) vs)*(mp .i64 K (.map (some km))*(HazR g ba (haz0 c)*(AreR ba (are0 c)*(CX*tskR (stR g ba) (List.replicate c.T.toNat none) (List.replicate c.T.toNat sea0))))):=by
 unfold WR
 simp only[skT,Ma,gst0]
 rfl
def gplayR {τ:Type}(J:GW τ→Prop)(u:Value):Zc:=ex fun x=>ex fun v=>pu (J x∧u=.tuple #[v,.int .i64 0])*RunR x.m.calls x.m.mem.log x.m.shifts x.m.mem.words v
set_option maxHeartbeats 4000000 in
theorem stk_playR (c:Cfg)(h:c.Ok)(v:Value)(mvs:List Mv)(hl:mvs.length≤65536)(J:Nat→GW Zm→Prop)
  (J0:∀km vs,J 0 (gst0 Zm c km vs))
  (Jm:∀CX bh ba k y mv,mvs[k]? = some mv→J k y→MayMove (skT bh ba CX) (KOkS c.T.toNat) c.T.toNat y mv)
  (Js:∀CX bh ba x z k y mv b y',mvs[k]? = some mv→J k y→MoveTo (skT bh ba CX) (jFn x z) sTask y mv b y'→J (k+1) y')
  (Jr:∀y,J mvs.length y→y.m.calls.length<4294967296∧y.m.shifts.length<4294967296∧y.m.mem.words.length<4294967296∧y.m.mem.log.length<4294967295∧0<y.m.seats.length) (A:Zc) (hRd:Rd A 4 (mvs.map Mv.e) v) :
  Does Tryz.prog 17 #[c.v,v] A (fun u=>gplayR (J mvs.length) u*A):=by
 intro O w F hs
 have hA:=Lh (arena_new c h)
 have hF:=Lh (word_first0 c h)
 have hH:=Lh (fun ba=>hazard_new ba (are0 c) h)
 have hK:=Lh (fun bh ba=>haz_kit bh ba (haz0 c))
 have hK2:=Lh (fun bh ba=>stk_kit bh ba (haz0 c))
 have hM:=machine_new c.T.toNat
 have hT1:=h.T1
 have hT2:=h.T2
 have hTn:((c.T.toNat:Nat):Int)=c.T:=Int.toNat_of_nonneg (by omega)
 have hbl:=base14_le h
 rw[hTn]at hM
 have hM:=Lh (fun v km=>hM v km (firstW c 0) (by omega) (by omega) (by rw[firstW_len];omega))
 obtain⟨a0,c0,rfl⟩:=hRd.len
 simp only[List.length_map]at hRd hs ⊢
 have hRd:=Lh hRd
 have n1:decide ((mvs.length:Int)>65536)=false:=by simp;omega
 have J0:=Lh J0
 have Jm:=Lh Jm
 have Js:=Lh Js
 have Jr:=Lh Jr
 go_enter Tryz.func17,Tryz.ntmps17
 go_wp2_with (first|(first|(first|(with_reducible refine NQ.mk ?_)|((with_reducible apply Zh);rfl;rfl)|((with_reducible apply Zq);rfl)|(with_reducible refine EQ.mk ?_ ?_)|(first|(with_reducible exact Zf)|((with_reducible refine Zl ?_ ?_);(focus((with_reducible apply ZF);rfl;rfl))))|(with_reducible refine Zi ?_)|(show ZY _ _ _;rfl))|((with_reducible apply Zb hs);exact Ii;rfl;(with_reducible repeat first|exact Qh|apply Qk);rfl;rfl;(simp only[Uc,Uz]))|((with_reducible apply Z3 hs);exact Ii;rfl;(with_reducible repeat first|exact Qh|apply Qk);rfl;rfl;(simp only[Uc,Uz]))|((with_reducible apply Zn hs);exact Ii;rfl;clear hs;intro w b hs;(simp only[Uc,Uz]))|((with_reducible apply Zr hs);rfl;rfl;rfl;clear hs;intro w b hs;(simp only[Uc,Uz])))|(go_at_call 24;((refine(hA.out).at hs (by (focus((repeat(with_reducible exact Qn));done))) ?_);clear hs;intro v w hs;(try simp only[Em,Ma]at hs));(simp only[ZI,Ma,Zx]at hs);(obtain⟨ba,rfl,hs⟩:=hs))|(go_at_call 26;((refine(hF.out).at hs (by (focus((repeat(with_reducible exact Qn));done))) ?_);clear hs;intro v w hs;(try simp only[Em,Ma]at hs));(simp only[ZI,Ma,Zx]at hs);(obtain⟨vw,rfl,hs⟩:=hs))|(go_at_call 25;((refine((hH.out ba)).at hs (by (with_reducible exact Qh)) ?_);clear hs;intro g w hs;(try simp only[Em,Ma]at hs)))|(go_at_call 29;((refine((hK.out g ba)).at hs (by (focus((repeat(first|exact Qh|with_reducible apply Qk));done))) ?_);clear hs;intro v w hs;(try simp only[Em,Ma]at hs));(simp only[ZI,Ma]at hs);(obtain⟨x,hs⟩:=hs);(obtain⟨km1,rfl⟩:=mp_some hs))|(go_at_call 30;((refine((hK2.out g ba)).at hs (by (with_reducible repeat first|exact Qh|apply Qk)) ?_);clear hs;intro v w hs;(try simp only[Em,Ma]at hs));(simp only[ZI,Ma]at hs);(obtain⟨z,hs⟩:=hs);(obtain⟨km2,rfl⟩:=mp_some hs))|((with_reducible apply wl_bs2 hs);exact Ii;exact Ii;rfl;rfl;rfl;rfl;rfl;rfl;rfl;clear hs;intro w b2 hs;(simp only[Uc,Uz]))|(go_at_call 28;((refine((machine_join (.map (some km1)) (.map (some km2)) _ (kitFn x) (stkFn z))).at hs (by (with_reducible repeat first|exact Qh|apply Qb|apply Qk)) ?_);clear hs;intro v w hs;(try simp only[Em,Ma]at hs));(obtain⟨km,rfl⟩:=mp_some hs))|(go_at_call 27;((refine((hM.out vw km)).at hs (by (with_reducible repeat first|exact Qh|apply Qk)) ?_);clear hs;intro v w hs;(try simp only[Em,Ma]at hs));(simp only[ZI,Ma,Zx]at hs);(obtain⟨bx,bm,vs,rfl,hs⟩:=hs))|((with_reducible refine Wp (id:=8) [.neu 0,.neu 1,.neu 2,.neu 3,.neu 5,.eff 4 [0,1,2,5],.eff 6 [0,1,2],.eff 7 [0,1,2],.eff 8 [0,1,2],.eff 9 [],.neu 10,.neu 11,.neu 12,.neu 13,.neu 14] hs rfl ?_ ?_);kernel_rfl;clear hs;intro w hs))
 replace hs:=tsk_nones (R:=stR g ba) hs c.T.toNat
 have hs2:Sat O w (WR (skT g ba (capR g x*scapR g ba z)) bx bm (jFn x z) (gst0 Zm c km vs)*(pt b (.cells #[.slice none 0 0,.slice none 0 0,.slice none 0 0,.slice none 0 0] 32)*(A*F))):=by
  rw[gwr0_eq]
  unfold jFn
  simp only[Ma]
  ((with_reducible apply Sat.fin hs);(with_reducible repeat first|exact Ql|exact Qh|apply Qb|apply Qk))
 clear hs
 have hs:=hs2
 clear hs2
 have hGood:=Lh (skT_good g ba (capR g x*scapR g ba z))
 have hKO:=Lh (skT_kit g ba c.T.toNat x z)
 have hJ0:=J0.out km vs
 go_loopw [13,53] (fun _ q wr=>∃(n:Nat) (y:GW Zm),n≤mvs.length∧q=.int .i64 (n:Int)∧J n y∧Sat O wr (WR (skT g ba (capR g x*scapR g ba z)) bx bm (jFn x z) y*(pt b (.cells #[.slice none 0 0,.slice none 0 0,.slice none 0 0,.slice none 0 0] 32)*(A*F)))) (fun _ q _=>65537-(intOf q).toNat)
 case atStart=>exact⟨0,_,by omega,rfl,hJ0,hs⟩
 case round=>
  obtain⟨n,y,k1,rfl,hJ,hs⟩:=hrel
  by_cases hkr:n=mvs.length
  ·subst hkr
   obtain⟨r1,r2,r3,r4,r5⟩:=Jr.out y hJ
   have hR:=Lh (mach_run bx bm y.m r5 r1 r2 r3 r4)
   unfold WR at hs
   simp only[Ma]at hs
   have hlt:decide ((mvs.length:Int)<(mvs.length:Int))=false:=by simp
   have hJ:=Lh hJ
   go_wp2_with (first|((with_reducible apply ZH hs);exact Ii;rfl;rfl;(with_reducible repeat first|exact Qh|apply Qk);rfl;rfl;rfl;rfl;clear hs;intro w hs)|(go_at_call 32;((refine(hR.out).at hs (by (with_reducible exact Qh)) ?_);clear hs;intro v w hs;(try simp only[Em,Ma]at hs));(unfold RunR at hs);(simp only[ZI,Ma,Zx]at hs);(obtain⟨rc,rt,rs,rw_,rfl,hs⟩:=hs);(obtain⟨_,_,rfl⟩:=ZU (hs.pull (A:=sl 42 9 _ rc) (by (with_reducible exact Qh))));(obtain⟨_,_,rfl⟩:=ZU (hs.pull (A:=sl 49 7 _ rt) (by (with_reducible repeat first|exact Qh|apply Qk))));(obtain⟨_,_,rfl⟩:=ZU (hs.pull (A:=sl 52 5 _ rs) (by (with_reducible repeat first|exact Qh|apply Qk))));(obtain⟨_,_,rfl⟩:=ZU (hs.pull (A:=sl 47 1 _ rw_) (by (with_reducible repeat first|exact Qh|apply Qk))));(simp only[List.length_map]at hs ⊢)))
   ((try simp only[Exit.inBlock,Exit.then]);(with_reducible apply bodyPost_ret);((with_reducible apply results_ct);rfl;rfl;(with_reducible apply loadF hs);exact Ii;(with_reducible exact Qh);rfl;rfl))
   refine⟨_,rfl,?_⟩
   unfold gplayR RunR
   simp only[ZI,Ma,Zx]
   refine⟨y,_,⟨hJ.out,rfl⟩,_,_,_,_,rfl,?_⟩
   ((with_reducible apply Sat.fin hs);(with_reducible repeat first|exact Ql|exact Qh|apply Qb|apply Qk))
  ·have hlt:decide ((n:Int)<(mvs.length:Int))=true:=by simp;omega
   have hlt2:decide (n<mvs.length)=true:=by simp;omega
   have hln:n<(mvs.map Mv.e).length:=by simp;omega
   obtain⟨mv,hmv⟩:∃mv,mvs[n]? = some mv:=⟨_,Yd (by omega)⟩
   have hgv:(mvs.map Mv.e)[n]? = some (Mv.e mv):=by simp[hmv]
   have hD:=Lh (move_any (bx:=bx) (bm:=bm) hGood.out hKO.out y mv (Jm.out _ g ba n y mv hmv hJ))
   have hJ:=Lh hJ
   go_wp2_with (first|(first|((with_reducible apply Z3 hs);exact Ii;rfl;(with_reducible exact Qh);rfl;rfl;(simp only[Uc,Uz]))|((with_reducible apply ZH hs);exact Ii;rfl;rfl;(with_reducible exact Qh);rfl;rfl;rfl;rfl;clear hs;intro w hs)|((with_reducible apply Zn hs);exact Ii;rfl;clear hs;intro w b hs;(simp only[Uc,Uz])))|((with_reducible apply wl_ir hRd.out);exact Ii;exact Ii;rfl;rfl;(rfl);(assumption);rfl;intro ao hat;(simp only[Uc,Uz]))|((with_reducible apply wl_lr hs hRd.out);exact Ii;assumption;rfl;(with_reducible repeat first|exact Qh|apply Qk);(assumption);rfl;(simp only[Uc,Uz]))|(go_at_call 31;((refine(hD.out).at hs (by (with_reducible repeat first|exact Qh|apply Qk)) ?_);clear hs;intro v w hs;(try simp only[Em,Ma]at hs));(replace hs:=moved_iff.1 hs);(obtain⟨bb,y',⟨rfl,hmt⟩,hs⟩:=hs)))
   go_roundw
   case rel=>exact⟨n+1,y',by omega,by simp,Js.out _ g ba x z n y mv bb y' hmv hJ.out hmt,by ((with_reducible apply Sat.fin hs);(with_reducible repeat first|exact Ql|exact Qh|apply Qb|apply Qk))⟩
   case measure=>simp[intOf];omega
end
section
open Go.RowKit Hp
set_option maxRecDepth 100000
set_option maxHeartbeats 1000000
attribute [local irreducible] Go.Calls
theorem PG.start {τ:Type}(I:GI τ){c:Cfg}(hok:c.Ok)(km:Nat)(vs:Value):PG I c 0 (gst0 τ c km vs):=by
 obtain⟨p1,p2,p3,p4,p5,p6,p7⟩:=PI.start hok km vs
 refine⟨rfl,rfl,p3,by simp[gst0],p5,p6,?_⟩
 intro t k se hk
 simp only[gst0,List.getElem?_replicate]at hk
 split at hk<;>simp at hk
def sOps (o:Int):Prop:=(20≤o∧o≤25)∨o=30∨o=31
end
section
open Go.RowKit Hp
set_option maxRecDepth 100000
set_option maxHeartbeats 1000000
attribute [local irreducible] Go.Calls
variable (h:Haz)(a:Are)(m:Mch)(i t:Nat)
theorem er_puTaken (c:Cll)(s:Sea)(p:Pu):ZZ m.er i t c s.er p=er2 (ZZ m i t c s p):=by
 simp only[ZZ,er_point,er_now,er_answer,er2_ite];rfl
theorem er_puReady (c:Cll)(s:Sea)(p:Pu):QF a m.er i t c s.er p=er3 (QF a m i t c s p):=by
 simp only[QF,er_takeReady,Jj]
 simp only[er3,er_puTaken];rfl
theorem er_puTake (c:Cll)(s:Sea)(p:Pu):puTake a m.er i t c s.er p=er3 (puTake a m i t c s p):=by
 simp only[puTake,er_take,Jj]
 simp only[er3,er_puTaken];rfl
theorem er_puStep (c:Cll)(s:Sea)(p:Pu):Jf h a m.er i t c s.er p=er3 (Jf h a m i t c s p):=by
 simp only[Jf,er_puTake,er_word,er_load,er_store,er_swap,puDone,er_point,er_now,er_shift,er_answer,er_thread,Jj];rfl
theorem er_poSeen (c:Cll)(s:Sea)(p:Po):Z4 m.er i t c s.er p=er2 (Z4 m i t c s p):=by
 simp only[Z4,er_point,er_now,er_answer,er2_ite];rfl
theorem er_poStep (c:Cll)(s:Sea)(p:Po):QX h a m.er i t c s.er p=er4 (QX h a m i t c s p):=by
 unfold QX
 simp only[er4_ite,er_word,er_load,er_store,er_swap,er_poSeen,er_point,er_now,er_shift,er_answer,er_thread,er_retire]
 congr 1
 congr 1
 congr 1
 congr 1
 congr 1
 congr 1
 congr 1
 congr 1
 split
 ·rfl
 ·split
  ·rfl
  ·rw[er_scan];rfl
theorem sk_er (bh ba:Nat)(CX:Zc):ErOk (skT bh ba CX):=by
 constructor
 ·intro s m i t c se k
  cases k with
  | hz k=>show((Qw s m.er i t c se.er k).1,_,_,_)=_;rw[er_rdy];rfl
  | psh p=>show((QF s.2 m.er i t c se.er p).1,_,_,_)=_;rw[er_puReady];rfl
  | pop p=>rfl
 ·intro s m i t c se k
  cases k with
  | hz k=>show((Z8 s m.er i t c se.er k).1,_,_,_)=_;rw[er_stp];rfl
  | psh p=>show((Jf s.1 s.2 m.er i t c se.er p).1,_,_,_)=_;rw[er_puStep];rfl
  | pop p=>show((QX s.1 s.2 m.er i t c se.er p).1,_,_,_)=_;rw[er_poStep];rfl
def sKnown (o:Int):Bool:=decide (20≤o∧o≤25)||decide (o=30∨o=31)
def sMove (y:GW Zm)(mv:Mv):GW Zm:=gMove QV Qm sKnown sTask y mv
def sRun (c:Cfg)(mvs:List Mv):GW Zm:=mvs.foldl sMove (gEr (gst0 Zm c 0 .nilIface))
theorem sRun_take {c:Cfg}{mvs:List Mv}{k:Nat}{mv:Mv}(h:mvs[k]? = some mv):sRun c (mvs.take (k+1))=sMove (sRun c (mvs.take k)) mv:=by
 have e:mvs.take (k+1)=mvs.take k++[mv]:=by
  rw[List.take_add_one,h];rfl
 rw[e]
 simp only[sRun,List.foldl_append,List.foldl_cons,List.foldl_nil]
theorem jFn_sKnown (x:Caps)(y:SCaps)(o:Int):jFn x y o≠none↔sKnown o=true:=by
 rw[jFn_known]
 unfold sKnown
 simp
def RunS (c:Cfg)(mvs:List Mv)(u:Value):Zc:=ex fun v=>pu (u=.tuple #[v,.int .i64 0])*RunR (sRun c mvs).m.calls (sRun c mvs).m.mem.log (sRun c mvs).m.shifts (sRun c mvs).m.mem.words v
theorem stk_play_runR (c:Cfg)(h:c.Ok)(v:Value)(mvs:List Mv)(hl:mvs.length≤65536)(A:Zc)(hRd:Rd A 4 (mvs.map Mv.e) v) :
  Does Tryz.prog 17 #[c.v,v] A (fun u=>RunS c mvs u*A):=by
 intro O w F hs
 have hT2:=h.T2
 refine(stk_playR c h v mvs hl (fun k y=>PG (SI c) c k y∧gEr y=sRun c (mvs.take k)) (fun km vs=>⟨PG.start _ h km vs,?_⟩) ?_ ?_ ?_ A hRd O w F hs).mono ?_
 ·simp only[List.take_zero]
  rfl
 ·intro CX bh ba k y mv hmv hj
  have:=(List.getElem?_eq_some_iff.1 hmv).1
  exact hj.1.may core_kok (skT_good bh ba CX) (sk_inv c _ _) (by omega) mv
 ·intro CX bh ba x z k y mv b y' hmv hj hm
  have:=(List.getElem?_eq_some_iff.1 hmv).1
  exact⟨hj.1.move (skT_good bh ba CX) (sk_inv c _ _) (by omega) hm,by rw[sRun_take hmv,←hj.2];exact gMove_of (sk_er bh ba CX) (jFn_sKnown x z) hm⟩
 ·intro y hj
  obtain⟨p1,p2,p3,p4,p5,p6,p7⟩:=hj.1
  have:=p3.log
  have:=p3.shifts
  have:=p3.words
  have:=base14_le h
  have:=h.T1
  omega
 ·rintro e w' ⟨u,rfl,hs'⟩
  refine⟨u,rfl,?_⟩
  unfold gplayR at hs'
  unfold RunS
  simp only[ZI,Ma,Zx]at hs' ⊢
  obtain⟨y,v',⟨⟨hP,hE⟩,hu⟩,hs'⟩:=hs'
  rw[List.take_length]at hE
  refine⟨v',hu,?_⟩
  rw[←hE]
  exact hs'
theorem stk_play_run (c:Cfg)(h:c.Ok)(v:Value)(mvs:List Mv)(hl:mvs.length≤65536) :
  Does Tryz.prog 17 #[c.v,v] (sl 57 4 (mvs.map Mv.e) v) (fun u=>RunS c mvs u*sl 57 4 (mvs.map Mv.e) v):=
 does_sl fun A hA=>stk_play_runR c h v mvs hl A hA
def sSmall:Cfg:=⟨1,1,3,1,0,2,1⟩
abbrev sSteps (n:Nat):List Mv:=List.replicate n ⟨0,0,0,0⟩
def sAw:List Mv:=([⟨0,20,0,0⟩,⟨0,0,0,0⟩,⟨0,0,0,0⟩,⟨0,30,5,0⟩]++sSteps 7)++[⟨0,31,0,0⟩]++sSteps 13
def sAwOk (y:GW Zm):Bool:=decide (y.m.calls.length=3) &&
 (match y.m.calls[1]? with|some c=>decide (c.end_=10)|none=>false) &&
 (match y.m.calls[2]? with|some c=>decide (c.end_=24)&&(decide (c.kind=2)&&decide (c.value=5))|none=>false)
theorem sAw_ok:sAwOk (sRun sSmall sAw)=true:=by kernel_rfl
end
section
open Go.RowKit
namespace Hp
section
variable {P:Program}{ops:Array Oper}{Q:Exit→Act→World→Prop}{w w':World}{rest:List Oper}{O:World}{S R:Zc}
variable {l:List Value}{ds:List Deferred}{T E ty:TypeId}{pos:String}{after:Array Edge}{gd:Option (Nat×Bool)}{d n:Nat}{v:Value}
theorem sl_alloc {sz:Nat}{css:List (List Value)}(hs:Sat O w S)(h0:0<sz)(hw:∀c∈css,c.length=sz∧c.all Value.oneCell'=true):Sat O (w.alloc (.cells css.flatten.toArray E)) (sl E sz css (.slice (some ⟨w.heap.size,0,none⟩) css.length css.length)*S):=by
 refine QA.2 ⟨⟨hw,h0⟩,.inr ⟨w.heap.size,0,css.length,[],[],rfl,rfl,by simp,by simp,?_⟩⟩
 exact(hs.alloc (.cells css.flatten.toArray E)).cast (by simp)
theorem ev_parts:∀ {ps:List (Nat×Operand)} {vs:List (Nat×Value)},ps.map (fun p=>(p.1,ev l p.2))=vs.map (fun p=>(p.1,some p.2))→ps.map (fun p=>(p.1,(Act.mk l.toArray ds).eval p.2))=vs
 | [],[],_=>rfl
 | [],_::_,h=>by simp at h
 | _::_,[],h=>by simp at h
 | (a,x)::ps,(b,v)::vs,h=>by
  simp only[Yi,List.cons.injEq,Prod.mk.injEq]at h ⊢
  obtain⟨⟨rfl,h1⟩,h2⟩:=h
  exact⟨⟨rfl,Zo h1⟩,ev_parts h2⟩
theorem wl_bsS {sz:Nat}{css:List (List Value)}{ps:List (Nat×Operand)}{vs:List (Nat×Value)}(hs:Sat O w S)(hp:ps.map (fun p=>(p.1,ev l p.2))=vs.map (fun p=>(p.1,some p.2)))
  (hr:∀w,(Instr.buildSlice T n vs.toArray).run P w=.ok (.slice (some ⟨w.heap.size,0,none⟩) n n) (w.alloc (.cells css.flatten.toArray E))) (hn:css.length=n) (h0:0<sz) (hw:∀c∈css,c.length=sz∧c.all Value.oneCell'=true)
  (hg:Region.wanted { dst:=some d,op:=.buildSlice T n ps.toArray,type:=ty,pos,after,guard:=gd } (yielded ops l.toArray)=true)
  (kk:∀w' b,Sat O w' (sl E sz css (.slice (some ⟨b,0,none⟩) n n)*S)→wpList P ops Q rest ⟨(l.set d (.slice (some ⟨b,0,none⟩) n n)).toArray,ds⟩ w') :
  wpList P ops Q ({ dst:=some d,op:=.buildSlice T n ps.toArray,type:=ty,pos,after,guard:=gd }::rest) ⟨l.toArray,ds⟩ w:=by
 subst hn
 refine Qz (v:=.slice (some ⟨w.heap.size,0,none⟩) css.length css.length) (w':=w.alloc (.cells css.flatten.toArray E)) hg ?_ (ZW▸kk _ _ (sl_alloc hs h0 hw))
 have h1:=ev_parts (ds:=ds) hp
 have:=hr w
 rw[←h1]at this
 simp only[execOp]
 simp at this ⊢
 simp[this]
end
end Hp
open Hp
set_option maxRecDepth 100000
set_option maxHeartbeats 1000000
attribute [local irreducible] Go.Calls Go.wpList
theorem law_num (e:Int):Zk Tryz.prog 18 #[.int .i64 e] emp (.int .i64 e) emp:=by
 intro O w F hs
 go_enter Tryz.func18,Tryz.ntmps18
 go_wp2_with (fail)
 (go_ret)
 exact⟨rfl,by ((with_reducible apply Sat.fin hs);(with_reducible exact Ql))⟩
theorem sSmallOk:sSmall.Ok:=by constructor<;>decide
theorem sAw_facts {y:GW Zm}(h:sAwOk y=true):y.m.calls.length=3∧(∃a1 a2 a3 a4 a5 a7 a8 a9,y.m.calls[1]? = some ⟨a1,a2,a3,a4,a5,10,a7,a8,a9⟩)∧∃b1 b2 b3 b4 b5 b7,y.m.calls[2]? = some ⟨b1,b2,b3,b4,b5,24,b7,2,5⟩:=by
 unfold sAwOk at h
 simp only[Bool.and_eq_true,decide_eq_true_eq]at h
 obtain⟨⟨h1,h2⟩,h3⟩:=h
 refine⟨h1,?_,?_⟩
 ·split at h2
  ·rename_i c hc
   obtain⟨a1,a2,a3,a4,a5,a6,a7,a8,a9⟩:=c
   simp only[decide_eq_true_eq]at h2
   subst h2
   exact⟨_,_,_,_,_,_,_,_,hc⟩
  ·cases h2
 ·split at h3
  ·rename_i c hc
   obtain⟨a1,a2,a3,a4,a5,a6,a7,a8,a9⟩:=c
   simp only[Bool.and_eq_true,decide_eq_true_eq]at h3
   obtain⟨rfl,rfl,rfl⟩:=h3
   exact⟨_,_,_,_,_,_,hc⟩
  ·cases h3
abbrev sA1:List Mv:=[⟨0,20,0,0⟩,⟨0,0,0,0⟩,⟨0,0,0,0⟩,⟨0,30,5,0⟩]
abbrev sA2:List Mv:=(sA1++sSteps 7)++[⟨0,31,0,0⟩]
abbrev sM (o x:Int):Value:=.agg #[.int .i64 0,.int .i64 o,.int .i64 x,.int .i64 0]
theorem sA1_slice (w:World):(Instr.buildSlice 24 4 #[(0,sM 20 0),(1,sM 0 0),(2,sM 0 0),(3,sM 30 5)]).run Tryz.prog w=.ok (.slice (some ⟨w.heap.size,0,none⟩) 4 4) (w.alloc (.cells (sA1.map Mv.e).flatten.toArray 57)):=by kernel_rfl
theorem sA1_ok:∀c∈sA1.map Mv.e,c.length=4∧c.all Value.oneCell'=true:=by
 simp[sA1,Mv.e,Value.oneCell']
theorem law_awake:Zk Tryz.prog 9 #[] emp (.bool true) emp:=by
 intro O w F hs
 have hN:=Lh (law_num 0)
 have hP:=Lh (fun v=>stk_play_run sSmall sSmallOk v sAw (by decide))
 obtain⟨l1,⟨a1,a2,a3,a4,a5,a7,a8,a9,g1⟩,⟨b1,b2,b3,b4,b5,b7,g2⟩⟩:=sAw_facts sAw_ok
 have hAll:sAw=sA2++sSteps 13:=rfl
 generalize hM:sAw=mvs at l1 g1 g2 hAll hP
 have hAll:=Lh hAll
 generalize hY:sRun sSmall mvs=y at l1 g1 g2
 have hY:=Lh hY
 go_enter Tryz.func9,Tryz.ntmps9
 go_wp2_with (first|(first|((with_reducible apply ZH hs);exact Ii;rfl;rfl;(with_reducible exact Qh);rfl;rfl;rfl;rfl;clear hs;intro w hs)|((with_reducible apply Zn hs);exact Ii;rfl;clear hs;intro w b hs;(simp only[Uc,Uz])))|((with_reducible apply wl_bsS (sz:=4) (css:=sA1.map Mv.e) (E:=57) (vs:=[(0,sM 20 0),(1,sM 0 0),(2,sM 0 0),(3,sM 30 5)]) hs);rfl;(exact sA1_slice);rfl;omega;(exact sA1_ok);rfl;clear hs;intro w bs hs;(simp only[Uc,Uz])))
 simp only[Em]at hs ⊢
 have stp:∀(ms:List Mv) (k:Nat),(ms++sSteps (k+1)).map Mv.e=(ms++sSteps k).map Mv.e++[[.int .i64 0,.int .i64 0,.int .i64 0,.int .i64 0]]:=by
  intro ms k
  simp only[sSteps,List.replicate_succ',Yh,Yi,Yj,List.append_assoc]
 have stp:=Lh stp
 go_loopw [2,3] (fun u q wr=>∃k:Nat,k≤7∧q=.int .i64 (k:Int)∧Sat O wr (sl 57 4 ((sA1++sSteps k).map Mv.e) u*(pt b (.cells #[.int .i64 1,.int .i64 1,.int .i64 3,.int .i64 1,.int .i64 0,.int .i64 2,.int .i64 1] 23)*F))) (fun _ q _=>9-(intOf q).toNat)
 case atStart=>exact⟨0,by omega,rfl,by simp only[sSteps,List.replicate_zero,List.append_nil];exact hs⟩
 case round=>
  obtain⟨k,k1,rfl,hs⟩:=hrel
  by_cases hkr:k=7
  ·subst hkr
   have hlt:decide (((7:Nat):Int)<7)=false:=rfl
   go_wp2_with (first|((with_reducible apply wl_bs hs);exact Ii;exact Ii;rfl;rfl;rfl;rfl;(exact Vb rfl);rfl;clear hs;intro w v hs;(simp only[Uc,Uz]))|((with_reducible apply QM hs);exact Ii;exact Ii;rfl;rfl;(focus with_reducible (repeat first|exact Qh|apply Qk);done);(with_reducible exact Qh);(simp only[Wm,Ws,Wa,Wc,Wn,Wr]at *;omega);(exact Vb rfl);rfl;clear hs;intro w v hs;(simp only[Uc,Uz])))
   have e31:sA2.map Mv.e=(sA1++sSteps 7).map Mv.e++[[.int .i64 0,.int .i64 31,.int .i64 0,.int .i64 0]]:=by simp only[Yh,Yi,Yj]
   rw[←e31]at hs
   clear e31
   go_loopw [2,4] (fun u q wr=>∃k:Nat,k≤13∧q=.int .i64 (k:Int)∧Sat O wr (sl 57 4 ((sA2++sSteps k).map Mv.e) u*(pt b (.cells #[.int .i64 1,.int .i64 1,.int .i64 3,.int .i64 1,.int .i64 0,.int .i64 2,.int .i64 1] 23)*F))) (fun _ q _=>15-(intOf q).toNat)
   case atStart=>
    refine⟨0,by omega,rfl,?_⟩
    have e0:sA2++sSteps 0=sA2:=by simp only[sSteps,List.replicate_zero,List.append_nil]
    rw[e0]
    ((with_reducible apply Sat.fin hs);(with_reducible repeat first|exact Ql|exact Qh|apply Qb|apply Qk))
   case round=>
    obtain⟨k,k1,rfl,hs⟩:=hrel
    by_cases hkr:k=13
    ·subst hkr
     have hlt:decide (((13:Nat):Int)<13)=false:=rfl
     rw[←hAll.out]at hs
     have i1:1<(y.m.calls.map Cll.e).length:=by simp[l1]
     have i2:2<(y.m.calls.map Cll.e).length:=by simp[l1]
     go_wp2_with (first|(first|((with_reducible apply Zb hs);exact Ii;rfl;(with_reducible repeat first|exact Qh|apply Qk);rfl;rfl;(simp only[Uc,Uz]))|((with_reducible apply Z3 hs);exact Ii;rfl;(with_reducible repeat first|exact Qh|apply Qk);rfl;rfl;(simp only[Uc,Uz]))|((with_reducible apply ZH hs);exact Ii;rfl;rfl;(with_reducible exact Qh);rfl;rfl;rfl;rfl;clear hs;intro w hs)|((with_reducible apply Zn hs);exact Ii;rfl;clear hs;intro w b hs;(simp only[Uc,Uz]))|((with_reducible apply QH hs);exact Ii;exact Ii;rfl;assumption;rfl;(with_reducible repeat first|exact Qh|apply Qk);(rfl);(assumption);rfl;(simp only[Uc,Uz]))|((with_reducible apply ZP hs);exact Ii;exact Ii;rfl;rfl;(with_reducible repeat first|exact Qh|apply Qk);(rfl);(assumption);rfl;intro b off hat;(simp only[Uc,Uz]))|((with_reducible apply Zw hs);exact Ii;rfl;(with_reducible repeat first|exact Qh|apply Qk);rfl;(simp only[Uc,Uz])))|((with_reducible apply wl_ldS (i:=1) (k:=5) hs);exact Ii;rfl;assumption;(with_reducible repeat first|exact Qh|apply Qk);rfl;(exact Zd (by assumption));rfl;rfl;(simp only[Uc,Uz]))|((with_reducible apply wl_ldS (i:=2) (k:=5) hs);exact Ii;rfl;assumption;(with_reducible repeat first|exact Qh|apply Qk);rfl;(exact Zd (by assumption));rfl;rfl;(simp only[Uc,Uz]))|((with_reducible apply Qt (i:=2) (k:=7) (c':=[.int .i64 2,.int .i64 5]) hs);exact Ii;rfl;assumption;(with_reducible repeat first|exact Qh|apply Qk);rfl;(exact Zd (by assumption));(exact Vb rfl);rfl;rfl;(simp only[Uc,Uz]))|(go_at_call 18;((refine(hN.out).at hs (by (focus((repeat(with_reducible exact Qn));done))) ?_);clear hs;intro w hs;(try simp only[Em,Ma]at hs)))|(go_at_call 17;((refine((hP.out _)).at hs (by (with_reducible exact Qh)) ?_);clear hs;intro v w hs;(try simp only[Em,Ma]at hs));(unfold RunS RunR at hs);(simp only[ZI,Ma,Zx,hY.out]at hs);(obtain⟨vr,rfl,vc,vt,vs,vw,rfl,hs⟩:=hs);(obtain⟨_,_,rfl⟩:=ZU (hs.pull (A:=sl 42 9 _ vc) (by (with_reducible exact Qh))));(obtain⟨_,_,rfl⟩:=ZU (hs.pull (A:=sl 49 7 _ vt) (by (with_reducible repeat first|exact Qh|apply Qk))));(obtain⟨_,_,rfl⟩:=ZU (hs.pull (A:=sl 52 5 _ vs) (by (with_reducible repeat first|exact Qh|apply Qk))));(obtain⟨_,_,rfl⟩:=ZU (hs.pull (A:=sl 47 1 _ vw) (by (with_reducible repeat first|exact Qh|apply Qk))));(simp only[List.length_map,l1]at hs ⊢)))
     (go_ret)
     exact⟨rfl,by ((with_reducible apply Sat.fin hs);(focus with_reducible (repeat first|exact Ql|exact Qn|apply Qb|apply Qk);done))⟩
    ·have hlt:decide ((k:Int)<13)=true:=by simp;omega
     have hlt2:decide (k<13)=true:=by simp;omega
     go_wp2_with (first|((with_reducible apply wl_bs hs);exact Ii;exact Ii;rfl;rfl;rfl;rfl;(exact Vb rfl);rfl;clear hs;intro w v hs;(simp only[Uc,Uz]))|((with_reducible apply QM hs);exact Ii;exact Ii;rfl;rfl;(focus with_reducible (repeat first|exact Qh|apply Qk);done);(with_reducible exact Qh);(simp only[Wm,Ws,Wa,Wc,Wn,Wr]at *;omega);(exact Vb rfl);rfl;clear hs;intro w v hs;(simp only[Uc,Uz])))
     rw[←stp.out]at hs
     go_roundw
     case rel=>exact⟨k+1,by omega,by simp,by ((with_reducible apply Sat.fin hs);(with_reducible repeat first|exact Ql|exact Qh|apply Qb|apply Qk))⟩
     case measure=>simp[intOf];omega
  ·have hlt:decide ((k:Int)<7)=true:=by simp;omega
   have hlt2:decide (k<7)=true:=by simp;omega
   go_wp2_with (first|((with_reducible apply wl_bs hs);exact Ii;exact Ii;rfl;rfl;rfl;rfl;(exact Vb rfl);rfl;clear hs;intro w v hs;(simp only[Uc,Uz]))|((with_reducible apply QM hs);exact Ii;exact Ii;rfl;rfl;(focus with_reducible (repeat first|exact Qh|apply Qk);done);(with_reducible exact Qh);(simp only[Wm,Ws,Wa,Wc,Wn,Wr]at *;omega);(exact Vb rfl);rfl;clear hs;intro w v hs;(simp only[Uc,Uz])))
   rw[←stp.out]at hs
   go_roundw
   case rel=>exact⟨k+1,by omega,by simp,by ((with_reducible apply Sat.fin hs);(with_reducible repeat first|exact Ql|exact Qh|apply Qb|apply Qk))⟩
   case measure=>simp[intOf];omega
end
end Go.Proofs.YtjagadldibbbbaaGreat
