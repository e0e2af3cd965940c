/-
  What the stack's statements share.
-/
import Derived.Test.YtjagadldibbbbaaGreatBConf
import Derived.Test.YtjagadldibbbbaaGreatBGen
set_option linter.all false
namespace Go.Proofs.YtjagadldibbbbaaGreat
open Go.RowKit Hp
set_option maxRecDepth 100000
set_option maxHeartbeats 1000000
section
attribute [local irreducible] Go.Calls Go.wpList
def SFit (c:Cfg)(mvs:List Mv):Prop:=c.Ok∧mvs.length≤65536
theorem law_fits (c:Cfg)(mvs:List Mv)(v:Value)(h:SFit c mvs)(A:Za)(hRd:Rd A 4 (mvs.map Mv.e) v):Zf Tryz.prog 8 #[c.v,v] A (.bool true) A:=by
 intro O w F hs
 have hC:=Lh (ref_conf c h.1)
 obtain⟨a0,c0,rfl⟩:=hRd.len
 simp only[List.length_map]at hRd hs ⊢
 have hl:=h.2
 have n1:decide ((mvs.length:Int)≤65536)=true:=by simp;omega
 have n2:decide (mvs.length≤65536)=true:=by simp;omega
 clear h hl hRd
 obtain⟨d1,d2,d3,d4,d5,d6,d7⟩:=c
 go_enter Tryz.func8,Tryz.ntmps8
 go_wp2_with (first|(first|((with_reducible apply Z4 hs);exact Ii;rfl;(with_reducible exact Qh);rfl;rfl;(simp only[Uc,Uz]))|((with_reducible apply Zo hs);rfl;rfl;rfl;clear hs;intro w b hs;(simp only[Uc,Uz])))|(go_at_call 16;((refine(hC.out).at hs (by (focus((repeat(with_reducible exact Qn));done))) ?_);clear hs;intro w hs;(try simp only[Em,Ma]at hs))))
 (go_ret)
 exact⟨rfl,by ((with_reducible apply Sat.fin hs);(with_reducible repeat first|exact Ql|exact Qh|apply Qb|apply Qk))⟩
theorem law_fits_no (c:Cfg)(mvs:List Mv)(v:Value)(h:¬SFit c mvs)(A:Za)(hRd:Rd A 4 (mvs.map Mv.e) v):Zf Tryz.prog 8 #[c.v,v] A (.bool false) A:=by
 intro O w F hs
 obtain⟨a0,c0,rfl⟩:=hRd.len
 simp only[List.length_map]at hRd hs ⊢
 clear hRd
 by_cases hc:c.Ok
 ·have hC:=Lh (ref_conf c hc)
  have hl:¬mvs.length≤65536:=fun k=>h ⟨hc,k⟩
  have n1:decide ((mvs.length:Int)≤65536)=false:=by simp;omega
  have n2:decide (mvs.length≤65536)=false:=by simp;omega
  clear h hl hc
  obtain⟨d1,d2,d3,d4,d5,d6,d7⟩:=c
  go_enter Tryz.func8,Tryz.ntmps8
  go_wp2_with (first|(first|((with_reducible apply Z4 hs);exact Ii;rfl;(with_reducible exact Qh);rfl;rfl;(simp only[Uc,Uz]))|((with_reducible apply Zo hs);rfl;rfl;rfl;clear hs;intro w b hs;(simp only[Uc,Uz])))|(go_at_call 16;((refine(hC.out).at hs (by (focus((repeat(with_reducible exact Qn));done))) ?_);clear hs;intro w hs;(try simp only[Em,Ma]at hs))))
  (go_ret)
  exact⟨rfl,by ((with_reducible apply Sat.fin hs);(with_reducible repeat first|exact Ql|exact Qh|apply Qb|apply Qk))⟩
 ·have hC:=Lh (ref_conf_no c hc)
  clear h hc
  obtain⟨d1,d2,d3,d4,d5,d6,d7⟩:=c
  go_enter Tryz.func8,Tryz.ntmps8
  go_wp2_with (first|(first|((with_reducible apply Z4 hs);exact Ii;rfl;(with_reducible exact Qh);rfl;rfl;(simp only[Uc,Uz]))|((with_reducible apply Zo hs);rfl;rfl;rfl;clear hs;intro w b hs;(simp only[Uc,Uz])))|(go_at_call 16;((refine(hC.out).at hs (by (focus((repeat(with_reducible exact Qn));done))) ?_);clear hs;intro w hs;(try simp only[Em,Ma]at hs))))
  (go_ret)
  exact⟨rfl,by ((with_reducible apply Sat.fin hs);(with_reducible repeat first|exact Ql|exact Qh|apply Qb|apply Qk))⟩
def playedR (J:GW ZK→Prop)(u:Value):Za:=ex fun x=>ex fun v=>pu (J x∧u=.tuple #[v,.bool true])*RunR x.m.calls x.m.mem.log x.m.shifts x.m.mem.words v
theorem law_played (c:Cfg)(mvs:List Mv)(h:SFit c mvs)(v:Value)(J:Nat→GW ZK→Prop)(J0:∀km vs,J 0 (gst0 ZK c km vs))
  (hJ:∀bh ba CX,JG (skT bh ba CX) sTask (SI c) c sOps J) (A:Za) (hRd:Rd A 4 (mvs.map Mv.e) v) :
  Does Tryz.prog 10 #[c.v,v] A (fun u=>playedR (fun y=>PG (SI c) c mvs.length y∧J mvs.length y) u*A):=by
 intro O w F hs
 have hP:=Lh (stk_playJ c h.1 v mvs h.2 J J0 hJ A hRd)
 have hS:=Lh (ref_size c h.1)
 have hN:=Lh (law_num 0)
 have hA:=Lh law_awake
 have hb:=(ZE h.1 14).1
 obtain⟨a0,c0,rfl⟩:=hRd.len
 simp only[List.length_map]at hP hs ⊢
 have hW:∀y:GW ZK,PG (SI c) c mvs.length y→((y.m.mem.words.length:Int)==base c 14)=true:=fun y hy=>by
  have:=hy.core.words
  simp only[beq_iff_eq]
  omega
 have hW:=Lh hW
 clear hRd hJ J0 h hb
 generalize hB:base c 14=B at hS hW
 have hB:=Lh hB
 obtain⟨d1,d2,d3,d4,d5,d6,d7⟩:=c
 go_enter Tryz.func10,Tryz.ntmps10
 go_wp2_with (first|(first|(first|(with_reducible refine NQ.mk ?_)|((with_reducible apply Zg);rfl;rfl)|((with_reducible apply Zp);rfl)|(with_reducible refine EQ.mk ?_ ?_)|(first|(with_reducible exact Zd)|((with_reducible refine Zi ?_ ?_);(focus((with_reducible apply ZA);rfl;rfl))))|(with_reducible refine Zh ?_)|(show ZU _ _ _;rfl))|((with_reducible apply Zb hs);exact Ii;rfl;(with_reducible repeat first|exact Qh|apply Qk);rfl;rfl;(simp only[Uc,Uz]))|((with_reducible apply Z4 hs);exact Ii;rfl;(with_reducible repeat first|exact Qh|apply Qk);rfl;rfl;(simp only[Uc,Uz]))|((with_reducible apply ZJ hs);exact Ii;rfl;rfl;(with_reducible repeat first|exact Qh|apply Qk);rfl;rfl;rfl;rfl;clear hs;intro w hs)|((with_reducible apply Zr hs);exact Ii;rfl;clear hs;intro w b hs;(simp only[Uc,Uz]))|((with_reducible apply Zo hs);rfl;rfl;rfl;clear hs;intro w b hs;(simp only[Uc,Uz]))|((with_reducible apply ZF hs);exact Ii;rfl;(with_reducible repeat first|exact Qh|apply Qk);rfl;(simp only[Uc,Uz])))|((show ZU _ _ _);(simp only[List.length_map]);rfl)|(go_at_call 17;((refine(hP.out).at hs (by (with_reducible repeat first|exact Qh|apply Qk)) ?_);clear hs;intro v w hs;(try simp only[Em,Ma]at hs));(unfold gplayR RunR at hs);(simp only[ZB,Ma,Zx]at hs);(obtain⟨y,vr,⟨hy,rfl⟩,vc,vt,vs,vw,rfl,hs⟩:=hs);(obtain⟨_,_,rfl⟩:=Z6 (hs.pull (A:=sl 42 9 _ vc) (by (with_reducible exact Qh))));(obtain⟨_,_,rfl⟩:=Z6 (hs.pull (A:=sl 49 7 _ vt) (by (with_reducible repeat first|exact Qh|apply Qk))));(obtain⟨_,_,rfl⟩:=Z6 (hs.pull (A:=sl 52 5 _ vs) (by (with_reducible repeat first|exact Qh|apply Qk))));(obtain⟨_,_,rfl⟩:=Z6 (hs.pull (A:=sl 47 1 _ vw) (by (with_reducible repeat first|exact Qh|apply Qk))));(simp only[List.length_map]at hs ⊢);(have hwl:=hW.out y hy.1))|(go_at_call 19;((refine(hS.out).at hs (by (focus((repeat(with_reducible exact Qn));done))) ?_);clear hs;intro w hs;(try simp only[Em,Ma]at hs)))|(go_at_call 18;((refine(hN.out).at hs (by (focus((repeat(with_reducible exact Qn));done))) ?_);clear hs;intro w hs;(try simp only[Em,Ma]at hs)))|(go_at_call 9;((refine(hA.out).at hs (by (focus((repeat(with_reducible exact Qn));done))) ?_);clear hs;intro w hs;(try simp only[Em,Ma]at hs)))|((with_reducible refine Wp (id:=2) [.neu 0,.neu 1,.eff 2 [0],.neu 3,.neu 4,.eff 5 [0],.neu 6,.neu 7,.neu 8,.neu 9,.neu 10,.neu 11,.eff 12 [0,8,9,10],.neu 13,.neu 14,.eff 15 [8,9,10,13,14],.neu 16] hs rfl ?_ ?_);kernel_rfl;clear hs;intro w hs))
 ((try simp only[Exit.inBlock,Exit.then]);(with_reducible apply bodyPost_ret);((with_reducible apply results_ct);rfl;rfl;(with_reducible apply loadF hs);exact Ii;(with_reducible exact Qh);rfl;rfl))
 refine⟨_,rfl,?_⟩
 unfold playedR RunR
 simp only[ZB,Ma,Zx]
 refine⟨y,_,⟨hy,rfl⟩,_,_,_,_,rfl,?_⟩
 ((with_reducible apply Sat.fin hs);(with_reducible repeat first|exact Ql|exact Qh|apply Qb|apply Qk))
end
section
attribute [local irreducible] Go.Calls
section
variable {τ:Type}{T:Tasks (Haz×Are) τ}{mkr:Haz×Are→Nat→Mv→Option τ}{I:GI τ}{c:Cfg}{n:Nat}{y:GW τ}{t i:Nat}{cl:Cll}{se:Sea}{k:τ}{r1 r2:GR τ}
structure GOut (n:Nat)(y:GW τ)(t i:Nat)(cl:Cll)(se:Sea)(r:GR τ)(z q v:Int):Prop where
 cur:ZL r.2.2.1 i t { cl with point:=z } { se with ready:=true,kind:=q,value:=v }
 calls:(gStepY y t i r).m.calls=y.m.calls.set i (if r.1=true then { cl with point:=z,end_:=n,kind:=q,value:=v } else { cl with point:=z })
 seats:(gStepY y t i r).m.seats=y.m.seats.set t (if r.1=true then { se with ready:=true,kind:=q,value:=v,task:=.nilIface } else { se with ready:=true,kind:=q,value:=v })
 mem:(gStepY y t i r).m.mem=r.2.2.1.mem
 shifts:(gStepY y t i r).m.shifts=r.2.2.1.shifts
 thread:r.2.2.1.thread=(t:Int)
 now:r.2.2.1.now=(n:Int)
theorem GStep.out (P:PG I c n y)(G:GStep T I c n y t i cl se k r1 r2):∃z q v,GOut n y t i cl se r2 z q v:=by
 have hlt:=(List.getElem?_eq_some_iff.1 G.hse).1
 have hli:=(List.getElem?_eq_some_iff.1 G.hc).1
 have hci:ZL (QA y t i se) i t cl { se with ready:=true }:=⟨rfl,G.hc,by simp[QA,Mch.prep,Wst.tick,hlt]⟩
 have f:=G.h2.frame
 obtain⟨z,hz⟩:=f.calls
 obtain⟨q,v,hq⟩:=f.seats
 have hz:r2.2.2.1.calls=y.m.calls.set i { cl with point:=z }:=hz
 have hq:r2.2.2.1.seats=y.m.seats.set t { se with ready:=true,kind:=q,value:=v }:=by
  rw[hq]
  simp only[QA,Mch.prep,Wst.tick,Yl]
 have hcu:ZL r2.2.2.1 i t { cl with point:=z } { se with ready:=true,kind:=q,value:=v } :=
  ⟨by rw[f.cur];rfl,by rw[hz];exact Ye hli,by rw[hq];exact Ye hlt⟩
 have hn:y.m.moves=(n:Int):=P.moves
 refine⟨z,q,v,hcu,?_,?_,?_,?_,f.thread,by rw[f.now];exact hn⟩
 ·unfold gStepY Qz
  rw[hcu.getC,hcu.getS,hn]
  split
  ·simp only[hz,Yl]
  ·exact hz
 ·unfold gStepY Qz
  rw[hcu.getC,hcu.getS]
  split
  ·simp only[hq,Yl]
  ·exact hq
 ·unfold gStepY Qz
  split<;>rfl
 ·unfold gStepY Qz
  split<;>rfl
structure RunG (B:Nat→Cll→Sea→τ→Prop)(E:Cll→Prop)(y:GW τ):Prop where
 busy:∀(t:Nat) (k:τ) (se:Sea),y.tasks[t]? = some (some k)→y.m.seats[t]? = some se→∃(i:Nat) (cl:Cll),se.last=(i:Int)∧y.m.calls[i]? = some cl∧cl.thread=(t:Int)∧cl.end_ = -1∧B t cl se k
 ended:∀cl∈y.m.calls,cl.end_ ≠ -1→0≤cl.end_∧E cl
theorem RunG.tick {B:Nat→Cll→Sea→τ→Prop}{E:Cll→Prop}(R:RunG B E y):RunG B E y.tick:=⟨R.busy,R.ended⟩
theorem RunG.begin {B:Nat→Cll→Sea→τ→Prop}{E:Cll→Prop}(R:RunG B E y){mv:Mv}{v vc:Value}{k':τ}(ht:mv.thread=(t:Int))(hk:y.tasks[t]? = some none)(hl:y.tasks.length=y.m.seats.length)
  (hB:B t ⟨mv.thread,mv.op,mv.arg,mv.data,y.m.moves,-1,-1,0,0⟩ ⟨v,false,(y.m.calls.length:Int),1,0⟩ k'):RunG B E ⟨y.s,ZN y.m t mv v vc,y.tasks.set t (some k')⟩:=by
 have hlt:=(List.getElem?_eq_some_iff.1 hk).1
 refine⟨?_,?_⟩
 ·intro j kj sj hkj hsj
  simp only[ZN]at hkj hsj ⊢
  by_cases hj:j=t
  ·subst hj
   rw[Ye hlt]at hkj
   rw[Ye (by omega)]at hsj
   cases hkj
   cases hsj
   exact⟨_,_,rfl,by simp,ht,rfl,hB⟩
  ·rw[set_ne hj]at hkj hsj
   obtain⟨i',cl',q1,q2,q3,q4,q5⟩:=R.busy j kj sj hkj hsj
   have:=(List.getElem?_eq_some_iff.1 q2).1
   exact⟨i',cl',q1,by rw[List.getElem?_append_left this];exact q2,q3,q4,q5⟩
 ·intro cl hcl he
  simp only[ZN]at hcl
  rcases List.mem_append.1 hcl with h|h
  ·exact R.ended cl h he
  ·simp at h
   subst h
   exact absurd rfl he
theorem RunG.step {B:Nat→Cll→Sea→τ→Prop}{E:Cll→Prop}(R:RunG B E y)(P:PG I c n y)(G:GStep T I c n y t i cl se k r1 r2){z q v:Int}(O:GOut n y t i cl se r2 z q v)
  (hB:r2.1=false→B t { cl with point:=z } { se with ready:=true,kind:=q,value:=v } r2.2.2.2) (hE:r2.1=true→E { cl with point:=z,end_:=n,kind:=q,value:=v }):RunG B E (gStepY y t i r2):=by
 have hlt:=(List.getElem?_eq_some_iff.1 G.hse).1
 have hlk:=(List.getElem?_eq_some_iff.1 G.hk).1
 have hli:=(List.getElem?_eq_some_iff.1 G.hc).1
 obtain⟨i0,cl0,a1,a2,a3,a4,a5⟩:=R.busy t k se G.hk G.hse
 have hi0:i0=i:=by have:=G.hl;omega
 subst hi0
 have hcl:cl0=cl:=by have:=G.hc;rw[a2]at this;cases this;rfl
 subst hcl
 refine⟨?_,?_⟩
 ·intro j kj sj hkj hsj
  rw[O.seats]at hsj
  rw[O.calls]
  have hkj:(y.tasks.set t (if r2.1=true then none else some r2.2.2.2))[j]? = some (some kj):=hkj
  by_cases hj:j=t
  ·subst hj
   rw[Ye hlk]at hkj
   rw[Ye hlt]at hsj
   by_cases hb:r2.1=true
   ·rw[if_pos hb]at hkj;cases hkj
   ·rw[if_neg hb]at hkj hsj ⊢
    cases hkj
    cases hsj
    exact⟨i0,_,a1,Ye hli,a3,a4,hB (by simpa using hb)⟩
  ·rw[set_ne hj]at hkj hsj
   obtain⟨i',cl',q1,q2,q3,q4,q5⟩:=R.busy j kj sj hkj hsj
   have hne:i'≠i0:=by
    intro e
    subst e
    rw[a2]at q2
    cases q2
    omega
   exact⟨i',cl',q1,by rw[set_ne hne];exact q2,q3,q4,q5⟩
 ·intro x hx he
  rw[O.calls]at hx
  rcases List.mem_or_eq_of_mem_set hx with h|h
  ·exact R.ended x h he
  ·by_cases hb:r2.1=true
   ·rw[if_pos hb]at h
    subst h
    exact⟨by simp only[];omega,hE hb⟩
   ·rw[if_neg hb]at h
    subst h
    exact absurd a4 he
end
end
end Go.Proofs.YtjagadldibbbbaaGreat
