/-
  The references of layer 1: addresses.
-/
import Derived.Test.YtjagadldibbbbaaGreatDNew3
import Derived.Test.YtjagadldibbbbaaGreatDInv5
import Derived.Test.YtjagadldibbbbaaGreatDAddr2
import Derived.BigQuiet
import Derived.Test.YtjagadldibbbbaaGreatDStkA
import Derived.Test.YtjagadldibbbbaaGreatDGen
set_option linter.all false
namespace Go.Proofs.YtjagadldibbbbaaGreat
open Go.RowKit Hp
section
set_option maxRecDepth 100000
set_option maxHeartbeats 1000000
attribute [local irreducible] Go.Calls
theorem ref_many (c:Cfg)(h:c.Ok)(r:Nat)(h1:1≤r)(h2:r≤13):Zk Tryz.prog 23 #[c.v,.int .i64 (r:Int)] emp (.int .i64 (many c r)) emp:=by
 intro O w F hs
 obtain⟨g1,g2⟩:=h.rh
 have hw:wrap64 (c.R*c.Hz)=c.R*c.Hz:=by unfold wrap64;omega
 have hr:r=1∨r=2∨r=3∨r=4∨r=5∨r=6∨r=7∨r=8∨r=9∨r=10∨r=11∨r=12∨r=13:=by omega
 rcases hr with rfl|rfl|rfl|rfl|rfl|rfl|rfl|rfl|rfl|rfl|rfl|rfl|rfl
 all_goals
  go_enter Tryz.func23,Tryz.ntmps23
  go_wp2_with (first|((with_reducible apply Zb hs);exact Ii;rfl;(with_reducible exact Qh);rfl;rfl;(simp only[Uc,Uz]))|((with_reducible apply Zr hs);rfl;rfl;rfl;clear hs;intro w b hs;(simp only[Uc,Uz])))
  (go_ret)
  exact⟨by simp[many,hw],by ((with_reducible apply Sat.fin hs);(focus with_reducible (repeat first|exact Ql|exact Qn|apply Qb|apply Qk);done))⟩
theorem ref_base (c:Cfg)(h:c.Ok)(r:Nat)(h1:1≤r)(h2:r≤13):Zk Tryz.prog 13 #[c.v,.int .i64 (r:Int)] emp (.int .i64 (base c r)) emp:=by
 intro O w F hs
 have hM:=Lh (ref_many c h)
 go_enter Tryz.func13,Tryz.ntmps13
 go_wp2_with ((with_reducible apply Zr hs);rfl;rfl;rfl;clear hs;intro w b hs;(simp only[Uc,Uz]))
 (obtain⟨A,hA,hsn⟩:∃A,Hid (A=_)∧Sat O w A:=⟨_,Lh rfl,hs⟩;clear hs;have hs:=hsn;clear hsn)
 go_loopw [5,6] (fun a q wr=>∃k:Nat,1≤k∧k≤r∧q=.int .i64 (k:Int)∧a=.int .i64 (base c k)∧Sat O wr A) (fun _ q _=>15-(intOf q).toNat)
 case atStart=>exact⟨1,by omega,by omega,rfl,rfl,hs⟩
 case round=>
  obtain⟨k,k1,k2,rfl,rfl,hs⟩:=hrel
  have hb:=ZD h k
  have hmk:=many_le h k
  have e1:=base_succ c _ k1
  rw[hA.out]at hs
  by_cases hkr:k=r
  ·subst hkr
   have hlt:decide ((k:Int)<(k:Int))=false:=by simp
   have hlt2:decide (k<k)=false:=by simp
   go_wp2_with (fail)
   (go_ret)
   exact⟨rfl,by ((with_reducible apply Sat.fin hs);(focus with_reducible (repeat first|exact Ql|exact Qn|apply Qb|apply Qk);done))⟩
  ·have hlt:decide ((k:Int)<(r:Int))=true:=by simp;omega
   have hlt2:decide (k<r)=true:=by simp;omega
   have hM1:=Lh (hM.out k k1 (by omega))
   go_wp2_with (first|((with_reducible apply Z3 hs);exact Ii;rfl;(with_reducible exact Qh);rfl;rfl;(simp only[Uc,Uz]))|(go_at_call 23;((refine(hM1.out).at hs (by (focus((repeat(with_reducible exact Qn));done))) ?_);clear hs;intro w hs;(try simp only[Em,Ma]at hs))))
   go_roundw
   case rel=>exact⟨k+1,by omega,by omega,by simp,by rw[e1],by rw[hA.out];((with_reducible apply Sat.fin hs);(focus with_reducible (repeat first|exact Ql|exact Qh|exact Qn|apply Qb);done))⟩
   case measure=>simp[intOf];omega
theorem ref_size (c:Cfg)(h:c.Ok):Zk Tryz.prog 19 #[c.v] emp (.int .i64 (base c 14)) emp:=by
 intro O w F hs
 have hB:=Lh (ref_base c h 13 (by omega) (by omega))
 have hb:=ZD h 13
 have h2:=h.S1;have h3:=h.S2
 have e:base c 14=base c 13+c.Sl:=rfl
 have hw:wrap64 (base c 13+c.Sl)=base c 14:=by unfold wrap64;omega
 go_enter Tryz.func19,Tryz.ntmps19
 go_wp2_with (first|(first|(first|(with_reducible refine NQ.mk ?_)|((with_reducible apply Zh);rfl;rfl)|((with_reducible apply Zq);rfl)|(with_reducible refine EQ.mk ?_ ?_)|(first|(with_reducible exact Zf)|((with_reducible refine Zl ?_ ?_);(focus((with_reducible apply ZF);rfl;rfl))))|(with_reducible refine Zi ?_)|(show ZY _ _ _;rfl))|((with_reducible apply Zb hs);exact Ii;rfl;(with_reducible exact Qh);rfl;rfl;(simp only[Uc,Uz]))|((with_reducible apply Z3 hs);exact Ii;rfl;(with_reducible exact Qh);rfl;rfl;(simp only[Uc,Uz]))|((with_reducible apply Zr hs);rfl;rfl;rfl;clear hs;intro w b hs;(simp only[Uc,Uz])))|(go_at_call 13;((refine(hB.out).at hs (by (focus((repeat(with_reducible exact Qn));done))) ?_);clear hs;intro w hs;(try simp only[Em,Ma]at hs)))|((with_reducible refine Wp (id:=1) [.neu 0,.neu 2,.neu 3,.eff 1 [2,3],.neu 4,.neu 5] hs rfl ?_ ?_);kernel_rfl;clear hs;intro w hs))
 (go_ret)
 exact⟨by simp[e],by ((with_reducible apply Sat.fin hs);(focus with_reducible (repeat first|exact Ql|exact Qn|apply Qb|apply Qk);done))⟩
theorem ref_linkIndex (u:Int)(h0:0≤u):Zk Tryz.prog 20 #[.int .u64 u] emp (.int .i64 (u%4294967296-1)) emp:=by
 intro O w F hs
 have e1:Int.tmod u 4294967296=u%4294967296:=Int.tmod_eq_emod_of_nonneg h0
 go_enter Tryz.func20,Tryz.ntmps20
 go_wp2_with (fail)
 (go_ret)
 exact⟨rfl,by ((with_reducible apply Sat.fin hs);(with_reducible exact Ql))⟩
end
section
set_option maxHeartbeats 1000000 in
set_option maxRecDepth 100000 in
theorem config_yes (T R Hz Rt Ca Sl Bu:Int)(h:CfgOk T R Hz Rt Ca Sl Bu) :
  Zk Tryz.prog 16 #[.agg (cfgV T R Hz Rt Ca Sl Bu)] emp (.bool true) emp:=by
 intro O w F hs
 obtain⟨⟨a1,a2⟩,⟨b1,b2⟩,⟨c1,c2⟩,⟨d1,d2⟩,⟨e1,e2⟩,⟨f1,f2⟩,⟨g1,g2⟩⟩:=h
 go_enter Tryz.func16,Tryz.ntmps16
 simp only[List.append]
 go_wp2_with (first|((with_reducible apply Zb hs);exact Ii;rfl;(repeat(exact Qh));rfl;rfl;simp only[Uc,Uz])|((with_reducible apply Zr hs);rfl;rfl;rfl;clear hs;intro w b hs;simp only[Uc,Uz]))
 go_ret
 exact⟨rfl,hs.right⟩
set_option maxHeartbeats 4000000 in
set_option maxRecDepth 100000 in
theorem config_no (T R Hz Rt Ca Sl Bu:Int)(h:¬CfgOk T R Hz Rt Ca Sl Bu) :
  Zk Tryz.prog 16 #[.agg (cfgV T R Hz Rt Ca Sl Bu)] emp (.bool false) emp:=by
 intro O w F hs
 by_cases g0:1≤T
 case neg=>
  clear h
  have hd:decide (1≤T)=false:=by simpa using g0
  clear g0
  go_enter Tryz.func16,Tryz.ntmps16
  simp only[List.append]
  go_wp2_with (first|((with_reducible apply Zb hs);exact Ii;rfl;(repeat(exact Qh));rfl;rfl;simp only[Uc,Uz])|((with_reducible apply Zr hs);rfl;rfl;rfl;clear hs;intro w b hs;simp only[Uc,Uz]))
  go_ret
  exact⟨rfl,hs.right⟩
 by_cases g1:T≤16
 case neg=>
  clear h
  have hd:decide (T≤16)=false:=by simpa using g1
  clear g1
  go_enter Tryz.func16,Tryz.ntmps16
  simp only[List.append]
  go_wp2_with (first|((with_reducible apply Zb hs);exact Ii;rfl;(repeat(exact Qh));rfl;rfl;simp only[Uc,Uz])|((with_reducible apply Zr hs);rfl;rfl;rfl;clear hs;intro w b hs;simp only[Uc,Uz]))
  go_ret
  exact⟨rfl,hs.right⟩
 by_cases g2:1≤R
 case neg=>
  clear h
  have hd:decide (1≤R)=false:=by simpa using g2
  clear g2
  go_enter Tryz.func16,Tryz.ntmps16
  simp only[List.append]
  go_wp2_with (first|((with_reducible apply Zb hs);exact Ii;rfl;(repeat(exact Qh));rfl;rfl;simp only[Uc,Uz])|((with_reducible apply Zr hs);rfl;rfl;rfl;clear hs;intro w b hs;simp only[Uc,Uz]))
  go_ret
  exact⟨rfl,hs.right⟩
 by_cases g3:R≤16
 case neg=>
  clear h
  have hd:decide (R≤16)=false:=by simpa using g3
  clear g3
  go_enter Tryz.func16,Tryz.ntmps16
  simp only[List.append]
  go_wp2_with (first|((with_reducible apply Zb hs);exact Ii;rfl;(repeat(exact Qh));rfl;rfl;simp only[Uc,Uz])|((with_reducible apply Zr hs);rfl;rfl;rfl;clear hs;intro w b hs;simp only[Uc,Uz]))
  go_ret
  exact⟨rfl,hs.right⟩
 by_cases g4:3≤Hz
 case neg=>
  clear h
  have hd:decide (3≤Hz)=false:=by simpa using g4
  clear g4
  go_enter Tryz.func16,Tryz.ntmps16
  simp only[List.append]
  go_wp2_with (first|((with_reducible apply Zb hs);exact Ii;rfl;(repeat(exact Qh));rfl;rfl;simp only[Uc,Uz])|((with_reducible apply Zr hs);rfl;rfl;rfl;clear hs;intro w b hs;simp only[Uc,Uz]))
  go_ret
  exact⟨rfl,hs.right⟩
 by_cases g5:Hz≤8
 case neg=>
  clear h
  have hd:decide (Hz≤8)=false:=by simpa using g5
  clear g5
  go_enter Tryz.func16,Tryz.ntmps16
  simp only[List.append]
  go_wp2_with (first|((with_reducible apply Zb hs);exact Ii;rfl;(repeat(exact Qh));rfl;rfl;simp only[Uc,Uz])|((with_reducible apply Zr hs);rfl;rfl;rfl;clear hs;intro w b hs;simp only[Uc,Uz]))
  go_ret
  exact⟨rfl,hs.right⟩
 by_cases g6:1≤Rt
 case neg=>
  clear h
  have hd:decide (1≤Rt)=false:=by simpa using g6
  clear g6
  go_enter Tryz.func16,Tryz.ntmps16
  simp only[List.append]
  go_wp2_with (first|((with_reducible apply Zb hs);exact Ii;rfl;(repeat(exact Qh));rfl;rfl;simp only[Uc,Uz])|((with_reducible apply Zr hs);rfl;rfl;rfl;clear hs;intro w b hs;simp only[Uc,Uz]))
  go_ret
  exact⟨rfl,hs.right⟩
 by_cases g7:Rt≤1024
 case neg=>
  clear h
  have hd:decide (Rt≤1024)=false:=by simpa using g7
  clear g7
  go_enter Tryz.func16,Tryz.ntmps16
  simp only[List.append]
  go_wp2_with (first|((with_reducible apply Zb hs);exact Ii;rfl;(repeat(exact Qh));rfl;rfl;simp only[Uc,Uz])|((with_reducible apply Zr hs);rfl;rfl;rfl;clear hs;intro w b hs;simp only[Uc,Uz]))
  go_ret
  exact⟨rfl,hs.right⟩
 by_cases g8:0≤Ca
 case neg=>
  clear h
  have hd:decide (0≤Ca)=false:=by simpa using g8
  clear g8
  go_enter Tryz.func16,Tryz.ntmps16
  simp only[List.append]
  go_wp2_with (first|((with_reducible apply Zb hs);exact Ii;rfl;(repeat(exact Qh));rfl;rfl;simp only[Uc,Uz])|((with_reducible apply Zr hs);rfl;rfl;rfl;clear hs;intro w b hs;simp only[Uc,Uz]))
  go_ret
  exact⟨rfl,hs.right⟩
 by_cases g9:Ca≤64
 case neg=>
  clear h
  have hd:decide (Ca≤64)=false:=by simpa using g9
  clear g9
  go_enter Tryz.func16,Tryz.ntmps16
  simp only[List.append]
  go_wp2_with (first|((with_reducible apply Zb hs);exact Ii;rfl;(repeat(exact Qh));rfl;rfl;simp only[Uc,Uz])|((with_reducible apply Zr hs);rfl;rfl;rfl;clear hs;intro w b hs;simp only[Uc,Uz]))
  go_ret
  exact⟨rfl,hs.right⟩
 by_cases g10:1≤Sl
 case neg=>
  clear h
  have hd:decide (1≤Sl)=false:=by simpa using g10
  clear g10
  go_enter Tryz.func16,Tryz.ntmps16
  simp only[List.append]
  go_wp2_with (first|((with_reducible apply Zb hs);exact Ii;rfl;(repeat(exact Qh));rfl;rfl;simp only[Uc,Uz])|((with_reducible apply Zr hs);rfl;rfl;rfl;clear hs;intro w b hs;simp only[Uc,Uz]))
  go_ret
  exact⟨rfl,hs.right⟩
 by_cases g11:Sl≤1024
 case neg=>
  clear h
  have hd:decide (Sl≤1024)=false:=by simpa using g11
  clear g11
  go_enter Tryz.func16,Tryz.ntmps16
  simp only[List.append]
  go_wp2_with (first|((with_reducible apply Zb hs);exact Ii;rfl;(repeat(exact Qh));rfl;rfl;simp only[Uc,Uz])|((with_reducible apply Zr hs);rfl;rfl;rfl;clear hs;intro w b hs;simp only[Uc,Uz]))
  go_ret
  exact⟨rfl,hs.right⟩
 by_cases g12:1≤Bu
 case neg=>
  clear h
  have hd:decide (1≤Bu)=false:=by simpa using g12
  clear g12
  go_enter Tryz.func16,Tryz.ntmps16
  simp only[List.append]
  go_wp2_with (first|((with_reducible apply Zb hs);exact Ii;rfl;(repeat(exact Qh));rfl;rfl;simp only[Uc,Uz])|((with_reducible apply Zr hs);rfl;rfl;rfl;clear hs;intro w b hs;simp only[Uc,Uz]))
  go_ret
  exact⟨rfl,hs.right⟩
 by_cases g13:Bu≤64
 case neg=>
  clear h
  have hd:decide (Bu≤64)=false:=by simpa using g13
  clear g13
  go_enter Tryz.func16,Tryz.ntmps16
  simp only[List.append]
  go_wp2_with (first|((with_reducible apply Zb hs);exact Ii;rfl;(repeat(exact Qh));rfl;rfl;simp only[Uc,Uz])|((with_reducible apply Zr hs);rfl;rfl;rfl;clear hs;intro w b hs;simp only[Uc,Uz]))
  go_ret
  exact⟨rfl,hs.right⟩
 exact absurd ⟨⟨g0,g1⟩,⟨g2,g3⟩,⟨g4,g5⟩,⟨g6,g7⟩,⟨g8,g9⟩,⟨g10,g11⟩,⟨g12,g13⟩⟩ h
theorem ref_conf (c:Cfg)(h:c.Ok):Zk Tryz.prog 16 #[c.v] emp (.bool true) emp:=config_yes c.T c.R c.Hz c.Rt c.Ca c.Sl c.Bu (c.ok_iff.1 h)
theorem ref_conf_no (c:Cfg)(h:¬c.Ok):Zk Tryz.prog 16 #[c.v] emp (.bool false) emp:=config_no c.T c.R c.Hz c.Rt c.Ca c.Sl c.Bu (fun k=>h (c.ok_iff.2 k))
end
section
set_option maxRecDepth 100000
set_option maxHeartbeats 1000000
attribute [local irreducible] Go.Calls Go.wpList
def SFit (c:Cfg)(mvs:List Mv):Prop:=c.Ok∧mvs.length≤65536
theorem law_fits (c:Cfg)(mvs:List Mv)(v:Value)(h:SFit c mvs)(A:Zc)(hRd:Rd A 4 (mvs.map Mv.e) v):Zk Tryz.prog 8 #[c.v,v] A (.bool true) A:=by
 intro O w F hs
 have hC:=Lh (ref_conf c h.1)
 obtain⟨a0,c0,rfl⟩:=hRd.len
 simp only[List.length_map]at hRd hs ⊢
 have hl:=h.2
 have n1:decide ((mvs.length:Int)≤65536)=true:=by simp;omega
 have n2:decide (mvs.length≤65536)=true:=by simp;omega
 clear h hl hRd
 obtain⟨d1,d2,d3,d4,d5,d6,d7⟩:=c
 go_enter Tryz.func8,Tryz.ntmps8
 go_wp2_with (first|(first|((with_reducible apply Z3 hs);exact Ii;rfl;(with_reducible exact Qh);rfl;rfl;(simp only[Uc,Uz]))|((with_reducible apply Zr hs);rfl;rfl;rfl;clear hs;intro w b hs;(simp only[Uc,Uz])))|(go_at_call 16;((refine(hC.out).at hs (by (focus((repeat(with_reducible exact Qn));done))) ?_);clear hs;intro w hs;(try simp only[Em,Ma]at hs))))
 (go_ret)
 exact⟨rfl,by ((with_reducible apply Sat.fin hs);(with_reducible repeat first|exact Ql|exact Qh|apply Qb|apply Qk))⟩
theorem law_fits_no (c:Cfg)(mvs:List Mv)(v:Value)(h:¬SFit c mvs)(A:Zc)(hRd:Rd A 4 (mvs.map Mv.e) v):Zk Tryz.prog 8 #[c.v,v] A (.bool false) A:=by
 intro O w F hs
 obtain⟨a0,c0,rfl⟩:=hRd.len
 simp only[List.length_map]at hRd hs ⊢
 clear hRd
 by_cases hc:c.Ok
 ·have hC:=Lh (ref_conf c hc)
  have hl:¬mvs.length≤65536:=fun k=>h ⟨hc,k⟩
  have n1:decide ((mvs.length:Int)≤65536)=false:=by simp;omega
  have n2:decide (mvs.length≤65536)=false:=by simp;omega
  clear h hl hc
  obtain⟨d1,d2,d3,d4,d5,d6,d7⟩:=c
  go_enter Tryz.func8,Tryz.ntmps8
  go_wp2_with (first|(first|((with_reducible apply Z3 hs);exact Ii;rfl;(with_reducible exact Qh);rfl;rfl;(simp only[Uc,Uz]))|((with_reducible apply Zr hs);rfl;rfl;rfl;clear hs;intro w b hs;(simp only[Uc,Uz])))|(go_at_call 16;((refine(hC.out).at hs (by (focus((repeat(with_reducible exact Qn));done))) ?_);clear hs;intro w hs;(try simp only[Em,Ma]at hs))))
  (go_ret)
  exact⟨rfl,by ((with_reducible apply Sat.fin hs);(with_reducible repeat first|exact Ql|exact Qh|apply Qb|apply Qk))⟩
 ·have hC:=Lh (ref_conf_no c hc)
  clear h hc
  obtain⟨d1,d2,d3,d4,d5,d6,d7⟩:=c
  go_enter Tryz.func8,Tryz.ntmps8
  go_wp2_with (first|(first|((with_reducible apply Z3 hs);exact Ii;rfl;(with_reducible exact Qh);rfl;rfl;(simp only[Uc,Uz]))|((with_reducible apply Zr hs);rfl;rfl;rfl;clear hs;intro w b hs;(simp only[Uc,Uz])))|(go_at_call 16;((refine(hC.out).at hs (by (focus((repeat(with_reducible exact Qn));done))) ?_);clear hs;intro w hs;(try simp only[Em,Ma]at hs))))
  (go_ret)
  exact⟨rfl,by ((with_reducible apply Sat.fin hs);(with_reducible repeat first|exact Ql|exact Qh|apply Qb|apply Qk))⟩
def playedR (J:GW Zm→Prop)(u:Value):Zc:=ex fun x=>ex fun v=>pu (J x∧u=.tuple #[v,.bool true])*RunR x.m.calls x.m.mem.log x.m.shifts x.m.mem.words v
end
section
set_option maxRecDepth 100000
set_option maxHeartbeats 1000000
attribute [local irreducible] Go.Calls
section
variable {τ:Type}{T:Tasks (Haz×Are) τ}{mkr:Haz×Are→Nat→Mv→Option τ}{I:GI τ}{c:Cfg}{n:Nat}{y:GW τ}{t i:Nat}{cl:Cll}{se:Sea}{k:τ}{r1 r2:GR τ}
structure GOut (n:Nat)(y:GW τ)(t i:Nat)(cl:Cll)(se:Sea)(r:GR τ)(z q v:Int):Prop where
 cur:ZG r.2.2.1 i t { cl with point:=z } { se with ready:=true,kind:=q,value:=v }
 calls:(QY y t i r).m.calls=y.m.calls.set i (if r.1=true then { cl with point:=z,end_:=n,kind:=q,value:=v } else { cl with point:=z })
 seats:(QY y t i r).m.seats=y.m.seats.set t (if r.1=true then { se with ready:=true,kind:=q,value:=v,task:=.nilIface } else { se with ready:=true,kind:=q,value:=v })
 mem:(QY y t i r).m.mem=r.2.2.1.mem
 shifts:(QY y t i r).m.shifts=r.2.2.1.shifts
 thread:r.2.2.1.thread=(t:Int)
 now:r.2.2.1.now=(n:Int)
theorem GStep.out (P:PG I c n y)(G:GStep T I c n y t i cl se k r1 r2):∃z q v,GOut n y t i cl se r2 z q v:=by
 have hlt:=(List.getElem?_eq_some_iff.1 G.hse).1
 have hli:=(List.getElem?_eq_some_iff.1 G.hc).1
 have hci:ZG (QC y t i se) i t cl { se with ready:=true }:=⟨rfl,G.hc,by simp[QC,Mch.prep,Wst.tick,hlt]⟩
 have f:=G.h2.frame
 obtain⟨z,hz⟩:=f.calls
 obtain⟨q,v,hq⟩:=f.seats
 have hz:r2.2.2.1.calls=y.m.calls.set i { cl with point:=z }:=hz
 have hq:r2.2.2.1.seats=y.m.seats.set t { se with ready:=true,kind:=q,value:=v }:=by
  rw[hq]
  simp only[QC,Mch.prep,Wst.tick,Yl]
 have hcu:ZG r2.2.2.1 i t { cl with point:=z } { se with ready:=true,kind:=q,value:=v } :=
  ⟨by rw[f.cur];rfl,by rw[hz];exact Ye hli,by rw[hq];exact Ye hlt⟩
 have hn:y.m.moves=(n:Int):=P.moves
 refine⟨z,q,v,hcu,?_,?_,?_,?_,f.thread,by rw[f.now];exact hn⟩
 ·unfold QY QU
  rw[hcu.getC,hcu.getS,hn]
  split
  ·simp only[hz,Yl]
  ·exact hz
 ·unfold QY QU
  rw[hcu.getC,hcu.getS]
  split
  ·simp only[hq,Yl]
  ·exact hq
 ·unfold QY QU
  split<;>rfl
 ·unfold QY QU
  split<;>rfl
structure RunG (B:Nat→Cll→Sea→τ→Prop)(E:Cll→Prop)(y:GW τ):Prop where
 busy:∀(t:Nat) (k:τ) (se:Sea),y.tasks[t]? = some (some k)→y.m.seats[t]? = some se→∃(i:Nat) (cl:Cll),se.last=(i:Int)∧y.m.calls[i]? = some cl∧cl.thread=(t:Int)∧cl.end_ = -1∧B t cl se k
 ended:∀cl∈y.m.calls,cl.end_ ≠ -1→0≤cl.end_∧E cl
theorem RunG.tick {B:Nat→Cll→Sea→τ→Prop}{E:Cll→Prop}(R:RunG B E y):RunG B E y.tick:=⟨R.busy,R.ended⟩
theorem RunG.begin {B:Nat→Cll→Sea→τ→Prop}{E:Cll→Prop}(R:RunG B E y){mv:Mv}{v vc:Value}{k':τ}(ht:mv.thread=(t:Int))(hk:y.tasks[t]? = some none)(hl:y.tasks.length=y.m.seats.length)
  (hB:B t ⟨mv.thread,mv.op,mv.arg,mv.data,y.m.moves,-1,-1,0,0⟩ ⟨v,false,(y.m.calls.length:Int),1,0⟩ k'):RunG B E ⟨y.s,ZC y.m t mv v vc,y.tasks.set t (some k')⟩:=by
 have hlt:=(List.getElem?_eq_some_iff.1 hk).1
 refine⟨?_,?_⟩
 ·intro j kj sj hkj hsj
  simp only[ZC]at hkj hsj ⊢
  by_cases hj:j=t
  ·subst hj
   rw[Ye hlt]at hkj
   rw[Ye (by omega)]at hsj
   cases hkj
   cases hsj
   exact⟨_,_,rfl,by simp,ht,rfl,hB⟩
  ·rw[ZX hj]at hkj hsj
   obtain⟨i',cl',q1,q2,q3,q4,q5⟩:=R.busy j kj sj hkj hsj
   have:=(List.getElem?_eq_some_iff.1 q2).1
   exact⟨i',cl',q1,by rw[List.getElem?_append_left this];exact q2,q3,q4,q5⟩
 ·intro cl hcl he
  simp only[ZC]at hcl
  rcases List.mem_append.1 hcl with h|h
  ·exact R.ended cl h he
  ·simp at h
   subst h
   exact absurd rfl he
theorem RunG.step {B:Nat→Cll→Sea→τ→Prop}{E:Cll→Prop}(R:RunG B E y)(P:PG I c n y)(G:GStep T I c n y t i cl se k r1 r2){z q v:Int}(O:GOut n y t i cl se r2 z q v)
  (hB:r2.1=false→B t { cl with point:=z } { se with ready:=true,kind:=q,value:=v } r2.2.2.2) (hE:r2.1=true→E { cl with point:=z,end_:=n,kind:=q,value:=v }):RunG B E (QY y t i r2):=by
 have hlt:=(List.getElem?_eq_some_iff.1 G.hse).1
 have hlk:=(List.getElem?_eq_some_iff.1 G.hk).1
 have hli:=(List.getElem?_eq_some_iff.1 G.hc).1
 obtain⟨i0,cl0,a1,a2,a3,a4,a5⟩:=R.busy t k se G.hk G.hse
 have hi0:i0=i:=by have:=G.hl;omega
 subst hi0
 have hcl:cl0=cl:=by have:=G.hc;rw[a2]at this;cases this;rfl
 subst hcl
 refine⟨?_,?_⟩
 ·intro j kj sj hkj hsj
  rw[O.seats]at hsj
  rw[O.calls]
  have hkj:(y.tasks.set t (if r2.1=true then none else some r2.2.2.2))[j]? = some (some kj):=hkj
  by_cases hj:j=t
  ·subst hj
   rw[Ye hlk]at hkj
   rw[Ye hlt]at hsj
   by_cases hb:r2.1=true
   ·rw[if_pos hb]at hkj;cases hkj
   ·rw[if_neg hb]at hkj hsj ⊢
    cases hkj
    cases hsj
    exact⟨i0,_,a1,Ye hli,a3,a4,hB (by simpa using hb)⟩
  ·rw[ZX hj]at hkj hsj
   obtain⟨i',cl',q1,q2,q3,q4,q5⟩:=R.busy j kj sj hkj hsj
   have hne:i'≠i0:=by
    intro e
    subst e
    rw[a2]at q2
    cases q2
    omega
   exact⟨i',cl',q1,by rw[ZX hne];exact q2,q3,q4,q5⟩
 ·intro x hx he
  rw[O.calls]at hx
  rcases List.mem_or_eq_of_mem_set hx with h|h
  ·exact R.ended x h he
  ·by_cases hb:r2.1=true
   ·rw[if_pos hb]at h
    subst h
    exact⟨by simp only[];omega,hE hb⟩
   ·rw[if_neg hb]at h
    subst h
    exact absurd a4 he
end
end
section
set_option maxRecDepth 100000
set_option maxHeartbeats 1000000
attribute [local irreducible] Go.Calls
abbrev St3:=Haz×Are×Mch
inductive EvQ (Q:Nat→Prop) (i t:Nat):St3→St3→Prop where
 | refl (x:St3):EvQ Q i t x x
 | trans {x y z:St3}:EvQ Q i t x y→EvQ Q i t y z→EvQ Q i t x z
 | load {h:Haz} {a:Are} {m:Mch} (j:Nat):m.used=false→j<m.mem.words.length∧Q j→EvQ Q i t (h,a,m) (h,a,m.load j (m.word j))
 | store {h:Haz} {a:Are} {m:Mch} (j:Nat) (z:Int):m.used=false→j<m.mem.words.length∧Q j→EvQ Q i t (h,a,m) (h,a,m.store j (m.word j) z)
 | swap {h:Haz} {a:Are} {m:Mch} (j:Nat) (o z:Int):m.used=false→j<m.mem.words.length∧Q j→EvQ Q i t (h,a,m) (h,a,m.swap j (m.word j) o z)
 | shift {h:Haz} {a:Are} {m:Mch} (s to:Int):0≤s→s<a.c.Sl→0≤to→to≤5→EvQ Q i t (h,a,m) (h,a.shift s.toNat m.thread to,m.shift s (a.slots.getD s.toNat ⟨0,0⟩).state to)
 | point {h:Haz} {a:Are} {m:Mch} (cl:Cll) (z:Int):m.calls[i]? = some cl→cl.begin_<z→z≤m.now→EvQ Q i t (h,a,m) (h,a,m.point i cl z)
 | answer {h:Haz} {a:Are} {m:Mch} (se:Sea) (k v:Int):m.seats[t]? = some se→1≤k→k≤6→(k≠2→v=0)→EvQ Q i t (h,a,m) (h,a,m.answer t se k v)
 | haz {h:Haz} (h':Haz) {a:Are} {m:Mch}:EvQ Q i t (h,a,m) (h',a,m)
 | cache {h:Haz} {a:Are} {m:Mch} (cs:List (List Int)):EvQ Q i t (h,a,m) (h,{ a with caches:=cs },m)
def HzA (c:Cfg)(j:Nat):Prop:=(j:Int)<base c 11∧(j:Int)≠base c 3
class QOk (c:Cfg) (Q:Nat→Prop):Prop where
 q:∀j,HzA c j→Q j
section
variable {i t:Nat}{c:Cfg}{L S N:Nat}{h:Haz}{a:Are}{m:Mch}{Q:Nat→Prop}[QOk c Q]
theorem Core.lq (k:Core c L S N h a m){j:Nat}(hj:HzA c j):j<m.mem.words.length∧Q j:=by
 have hb:=QI k.ok
 have:=k.ok.S1
 refine⟨?_,QOk.q (c:=c) j hj⟩
 rw[k.words]
 have:=hj.1
 obtain⟨b1,b2,b8,b9,b10,b11,b12,b13,b14,rh,rh2,b3⟩:=hb
 omega
theorem adr_lq14 {c:Cfg}(hc:c.Ok):HzA c (adr c 1 0)∧HzA c (adr c 2 0):=by
 have e:=QQ hc 1 (Int.le_refl 0)
 have e2:=QQ hc 2 (Int.le_refl 0)
 have:=hc.R1
 have:=hc.S1
 obtain⟨b1,b2,b8,b9,b10,b11,b12,b13,b14,rh,rh2,b3⟩:=QI hc
 refine⟨⟨?_,?_⟩,?_,?_⟩<;>omega
theorem adr_lq' {c:Cfg}(hc:c.Ok){r:Nat}{z n:Int}(h1:r=8∧n=c.R∨r=10∧n=c.Sl)(h0:0≤z)(hz:z<n):HzA c (adr c r z):=by
 have e:=QQ hc r h0
 obtain⟨b1,b2,b8,b9,b10,b11,b12,b13,b14,rh,rh2,b3⟩:=QI hc
 have:=hc.S1
 have:=hc.R1
 refine⟨?_,?_⟩
 ·rcases h1 with⟨rfl,rfl⟩|⟨rfl,rfl⟩<;>omega
 ·rcases h1 with⟨rfl,rfl⟩|⟨rfl,rfl⟩<;>omega
theorem Core.l11 (k:Core c L S N h a m){z:Int}(h0:0≤z)(hz:z<c.Sl):adr c 11 z<m.mem.words.length:=by
 have e:=QQ k.ok 11 h0
 have hb:=QI k.ok
 have:=k.ok.S1
 rw[k.words]
 obtain⟨b1,b2,b8,b9,b10,b11,b12,b13,b14,rh,rh2,b3⟩:=hb
 omega
theorem hz_lq {c:Cfg}(hc:c.Ok){z:Int}(h0:base c 9≤z)(h1:z<base c 10):HzA c z.toNat:=by
 have hb9:=(ZD hc 9).1
 have:=hc.S1
 have:=hc.R1
 obtain⟨b1,b2,b8,b9,b10,b11,b12,b13,b14,rh,rh2,b3⟩:=QI hc
 refine⟨?_,?_⟩<;>omega
theorem evq_push {p:Psh}(k:Core c L S N h a m)(P:PInv c p)(hu:m.used=false):EvQ Q i t (h,a,m) (h,(Za a m p).2.1,(Za a m p).2.2.1):=by
 obtain⟨p1,p2,p3,p4⟩:=P
 have hac:=k.ac
 have h1:=k.lq (Q:=Q) (adr_lq14 k.ok).1
 have h2:=k.lq (Q:=Q) (adr_lq' k.ok (.inr ⟨rfl,rfl⟩) p1 p2)
 unfold Za
 rw[hac]
 split
 ·exact .load _ hu h1
 ·split
  ·exact .store _ _ hu h2
  ·simp only[]
   split
   ·exact(EvQ.swap _ _ _ hu h1).trans (EvQ.shift (m:=m.swap _ _ _ _) _ _ p1 (by rw[hac];exact p2) (by omega) (by omega))
   ·exact .swap _ _ _ hu h1
theorem evq_give {p:Psh}(hac:a.c=c)(s0:0≤p.slot)(s1:p.slot<c.Sl):EvQ Q i t (h,a,m) (h,(Zs a m p).2.1,(Zs a m p).2.2.1):=by
 unfold Zs
 split
 ·exact .refl _
 ·exact(EvQ.cache _).trans (EvQ.shift (a:={ a with caches:=_ }) _ _ s0 (by rw[←hac]at s1;exact s1) (by omega) (by omega))
theorem give_c (a:Are)(m:Mch)(p:Psh):(Zs a m p).2.1.c=a.c:=by
 unfold Zs;split<;>rfl
theorem evq_free (th:Int):∀(pend:List Int) (g:Option Psh) (a:Are) (m:Mch),a.c=c→(∀z∈pend,0≤z∧z<c.Sl)→EvQ Q i t (h,a,m) (h,(ZK th pend g a m).2.2.2.1,(ZK th pend g a m).2.2.2.2)
 | [],g,a,m,_,_=>.refl _
 | s::r,g,a,m,hac,hin=>by
  have hs:=hin s (List.mem_cons_self ..)
  have hg:=evq_give (Q:=Q) (i:=i) (t:=t) (h:=h) (m:=m) (p:=⟨s,1,0,th⟩) hac hs.1 hs.2
  unfold ZK
  split
  ·exact hg.trans (evq_free th r _ _ _ (by rw[give_c];exact hac) (fun z hz=>hin z (List.mem_cons_of_mem _ hz)))
  ·exact hg
theorem evq_scan {s:Scn}(k:Core c L S N h a m)(I:ScI c s)(hu:m.used=false):EvQ Q i t (h,a,m) ((Zt h a m s).2.1,(Zt h a m s).2.2.1,(Zt h a m s).2.2.2.1):=by
 have hok:=k.ok
 have hac:=k.ac
 have hb:=QI hok
 obtain rfl:=k.hc
 obtain⟨i1,i2,i3,i4,i5,i6,i7,i8,i9⟩:=I
 unfold Zt
 by_cases s0:s.stage=0
 ·rw[if_pos s0]
  obtain⟨a0,a1,a2⟩:=i6 (by omega)
  have h1:=k.lq (Q:=Q) (adr_lq' hok (.inl ⟨rfl,rfl⟩) a0 a1)
  unfold Ji
  simp only[]
  split<;>exact .load _ hu h1
 rw[if_neg s0]
 by_cases s1:s.stage=1
 ·rw[if_pos s1]
  obtain⟨a0,a1,a2⟩:=i6 (by omega)
  have h1:=k.lq (Q:=Q) (adr_lq' hok (.inl ⟨rfl,rfl⟩) a0 a1)
  unfold QK
  simp only[]
  split
  ·exact(EvQ.swap _ _ _ hu h1).trans (.haz _)
  ·exact .swap _ _ _ hu h1
 rw[if_neg s1]
 by_cases s2:s.stage=2
 ·rw[if_pos s2]
  obtain⟨a0,a1,a2⟩:=i6 (by omega)
  have h1:=k.lq (Q:=Q) (adr_lq' hok (.inl ⟨rfl,rfl⟩) a0 a1)
  exact .store _ _ hu h1
 rw[if_neg s2]
 by_cases s3:s.stage=3
 ·rw[if_pos s3]
  obtain⟨⟨a0,a1⟩,a2,a3⟩:=i8 s3
  have hp:=i7 (by omega)
  have hb9:=(ZD hok 9).1
  have h1:(base h.c 9+s.at_).toNat<m.mem.words.length∧Q (base h.c 9+s.at_).toNat:=k.lq (Q:=Q) (hz_lq hok (by omega) (by have:=hb.b10;omega))
  obtain⟨e1,e2,e3⟩:=k.lget i1 i2
  unfold QW
  dsimp only
  split
  ·exact .load _ hu h1
  ·simp only[Q9,QS,hp,List.nil_append]
   refine(EvQ.load _ hu h1).trans ((EvQ.haz { h with lists:=h.lists.set s.record.toNat ((h.lists.getD s.record.toNat []).filter (QG (Qa s.named (m.word (base h.c 9+s.at_).toNat-1)))) }).trans ?_)
   exact evq_free (c:=h.c) _ _ _ _ _ hac (fun z hz=>e3 z (List.mem_filter.1 hz).1)
 rw[if_neg s3]
 obtain⟨p,p1,p2,p3,p4⟩:=i9 (by omega)
 rw[p1]
 simp only[]
 have hq:=evq_push (Q:=Q) (i:=i) (t:=t) k p2 hu
 have hc:=(push_core k p2).1.ac
 unfold QL
 simp only[]
 split
 ·exact hq.trans (evq_free (c:=h.c) _ _ _ _ _ hc p3)
 ·exact hq
theorem evq_retire {r:Ret}(k:Core c L S N h a m)(s0:0≤r.slot)(s1:r.slot<c.Sl):EvQ Q i t (h,a,m) ((Zv h a m r).2.1,(Zv h a m r).2.2.1,(Zv h a m r).2.2.2.1):=by
 have hac:=k.ac
 unfold Zv
 simp only[]
 split<;>exact(EvQ.shift _ _ s0 (by rw[hac];exact s1) (by omega) (by omega)).trans (.haz _)
theorem evq_takeReady {k:Tak}(C:Core c L S N h a m)(t0:0≤k.thread)(t1:k.thread<c.T):EvQ Q i t (h,a,m) (h,(Zg a m k).2.1,(Zg a m k).2.2.1):=by
 obtain rfl:=C.ac
 obtain⟨g1,g2,g3⟩:=C.cget t0 t1
 unfold Zg
 simp only[]
 split
 ·exact .refl _
 ·rename_i h0
  generalize a.caches.getD k.thread.toNat []=x at g1 g2 g3 h0 ⊢
  have hlt:x.length-1<x.length:=by omega
  have hm:x.getD (x.length-1) 0∈x:=by
   rw[Yb,Yd hlt];simp
  obtain⟨q1,q2⟩:=g3 _ hm
  exact(EvQ.cache _).trans (EvQ.shift (a:={ a with caches:=_ }) _ _ q1 q2 (by omega) (by omega))
theorem evq_take {k:Tak}(C:Core c L S N h a m)(T:TkI c k)(hu:m.used=false):EvQ Q i t (h,a,m) (h,(Zj a m k).2.1,(Zj a m k).2.2.1):=by
 have hok:=C.ok
 have hac:=C.ac
 obtain⟨t1,t2,t3,t4⟩:=T
 have h1:=C.lq (Q:=Q) (adr_lq14 hok).1
 unfold Zj
 rw[hac]
 split
 ·exact .load _ hu h1
 ·rename_i hn
  obtain⟨h3,h4,h5⟩:=t3 hn
  have h2:=C.lq (Q:=Q) (adr_lq' hok (r:=10) (z:=k.head%4294967296-1) (.inr ⟨rfl,rfl⟩) (by omega) (by omega))
  split
  ·exact .load _ hu h2
  ·simp only[]
   split
   ·exact(EvQ.swap _ _ _ hu h1).trans (EvQ.shift (m:=m.swap _ _ _ _) _ _ (by omega) (by rw[hac];omega) (by omega) (by omega))
   ·exact .swap _ _ _ hu h1
theorem evq_reg {se:Sea}{r:Reg}(C:Core c L S N h a m)(hse:m.seats[t]? = some se)(i0:0≤r.i)(i1:r.i<c.R)(hu:m.used=false):EvQ Q i t (h,a,m) ((Qg h m t se r).2.1,a,(Qg h m t se r).2.2.1):=by
 have hok:=C.ok
 obtain rfl:=C.hc
 have h1:=C.lq (Q:=Q) (adr_lq' hok (.inl ⟨rfl,rfl⟩) i0 i1)
 have hN:∀m',m'.seats[t]? = some se→EvQ Q i t (h,a,m') ((Qv h m' t se r).2.1,a,(Qv h m' t se r).2.2.1):=by
  intro m' hs
  unfold Qv
  split
  ·exact .refl _
  ·exact .answer _ _ _ hs (by omega) (by omega) (fun _=>rfl)
 unfold Qg
 simp only[]
 split
 ·split
  ·exact(EvQ.load _ hu h1).trans (hN _ hse)
  ·exact .load _ hu h1
 ·split
  ·exact(EvQ.swap _ _ _ hu h1).trans ((EvQ.answer (m:=m.swap _ _ _ _) se 2 r.i hse (by omega) (by omega) (fun hf=>absurd rfl hf)).trans (.haz _))
  ·exact(EvQ.swap _ _ _ hu h1).trans (hN _ hse)
theorem evq_flush {p:Psh}(k:Core c L S N h a m)(P:PInv c p)(hu:m.used=false):EvQ Q i t (h,a,m) (h,(ZM a m p).2.1,(ZM a m p).2.2.1):=by
 have hq:=evq_push (Q:=Q) (i:=i) (t:=t) k P hu
 unfold ZM
 split
 ·exact hq
 ·simp only[]
  split<;>exact hq.trans (.cache _)
theorem evq_unr {u:Unr}(C:Core c L S N h a m)(ht:(t:Int)<c.T)(hu':u.thread=(t:Int))(hd:0≤h.held.getD t 0)(I:UnI c (a.caches.getD t []) u)(hu:m.used=false) :
  EvQ Q i t (h,a,m) ((Zy h a m u).2.1,(Zy h a m u).2.2.1,(Zy h a m u).2.2.2.1):=by
 have hok:=C.ok
 obtain rfl:=C.hc
 obtain⟨r1,_⟩:=C.hget ht
 obtain⟨i1,i2,i3,i4⟩:=I
 unfold Zy
 have e:u.thread.toNat=t:=by omega
 simp only[e]
 by_cases s0:u.stage=0
 ·rw[if_pos s0]
  obtain⟨k0,k1⟩:=i2 s0
  have hz:=hz_adr hok hd r1 k0 k1
  have hb:=(ZD hok 9).1
  have h1:(base h.c 9+h.held.getD t 0*h.c.Hz+u.k).toNat<m.mem.words.length∧Q (base h.c 9+h.held.getD t 0*h.c.Hz+u.k).toNat:=C.lq (Q:=Q) (hz_lq hok (by omega) (by omega))
  split
  ·exact .store _ _ hu h1
  ·split<;>exact .store _ _ hu h1
 rw[if_neg s0]
 by_cases s1:u.stage=1
 ·rw[if_pos s1]
  obtain⟨s,e1,e2,e3⟩:=i3 s1
  rw[e1]
  simp only[]
  have F:=evq_scan (Q:=Q) (i:=i) (t:=t) C e2 hu
  split<;>exact F
 rw[if_neg s1]
 by_cases s2:u.stage=2
 ·rw[if_pos s2]
  obtain⟨p,e1,e2,e3,e4⟩:=i4 s2
  rw[e1]
  exact evq_flush C e2 hu
 rw[if_neg s2]
 exact(EvQ.store _ _ hu (C.lq (Q:=Q) (adr_lq' hok (.inl ⟨rfl,rfl⟩) hd r1))).trans (.haz _)
theorem evq_read {cl:Cll}{se:Sea}{r:Rdg}(C:Core c L S N h a m)(I:RdI c r)(hR:r.stage=3→Q (adr c 11 (r.w-1)))(hcl:m.calls[i]? = some cl)(hse:m.seats[t]? = some se)(hb:cl.begin_<m.now)(hp:r.stage=3→cl.begin_<r.point∧r.point≤m.now)(hu:m.used=false) :
  EvQ Q i t (h,a,m) (h,a,(Qo h m i t cl se r).2.1):=by
 have hok:=C.ok
 have hc:=C.hc
 obtain⟨i1,i2,i3,i4⟩:=I
 have hb9:=(ZD hok 9).1
 have hbs:=QI hok
 have h1:=C.lq (Q:=Q) (adr_lq14 hok).2
 have h2:r.addr.toNat<m.mem.words.length∧Q r.addr.toNat:=C.lq (Q:=Q) (hz_lq hok (by omega) (by omega))
 have hS:∀m' u,m'.calls=m.calls→m'.seats=m.seats→m'.now=m.now→EvQ Q i t (h,a,m') (h,a,(Qq m' i t cl se r u).2.1):=by
  intro m' u e1 e2 e3
  unfold Qq
  split
  ·exact(EvQ.point cl _ (by rw[e1];exact hcl) (by rw[e3];exact hb) (Int.le_refl _)).trans (EvQ.answer (m:=m'.point _ _ _) se 3 0 (by rw[←e2]at hse;exact hse) (by omega) (by omega) (fun _=>rfl))
  ·exact .refl _
 unfold Qo
 rw[hc]
 simp only[]
 split
 ·exact(EvQ.load _ hu h1).trans (hS _ _ rfl rfl rfl)
 ·rename_i s0
  have hw2:=i4 s0
  split
  ·exact .store _ _ hu h2
  ·rename_i s1
   split
   ·split
    ·exact .load _ hu h1
    ·exact(EvQ.load _ hu h1).trans (hS _ _ rfl rfl rfl)
   ·rename_i s2
    obtain⟨q1,q2⟩:=hp (by omega)
    have h3:adr c 11 (r.w-1)<m.mem.words.length∧Q (adr c 11 (r.w-1)):=⟨C.l11 (by omega) (by omega),hR (by omega)⟩
    exact(EvQ.load _ hu h3).trans ((EvQ.point (m:=m.load _ _) cl r.point hcl q1 q2).trans (EvQ.answer (m:=(m.load _ _).point _ _ _) se 2 _ hse (by omega) (by omega) (fun hf=>absurd rfl hf)))
theorem evq_took {cl:Cll}{se:Sea}{p:Pst}{k:Tak}{m':Mch}(hcl:m'.calls[i]? = some cl)(hse:m'.seats[t]? = some se)(hb:cl.begin_<m'.now):EvQ Q i t (h,a,m') (h,a,(ZJ m' i t cl se p k).2.1):=by
 unfold ZJ
 split
 ·exact(EvQ.point cl _ hcl hb (Int.le_refl _)).trans (EvQ.answer (m:=m'.point _ _ _) se 4 0 hse (by omega) (by omega) (fun _=>rfl))
 ·exact .refl _
theorem evq_done {cl:Cll}{se:Sea}{p:Pst}{k:Tak}{sl0:Int}(C:Core c L S N h a m)(hs:p.saw≤c.Sl)(q0:0≤sl0)(q1:sl0<c.Sl)(hcl:m.calls[i]? = some cl)(hse:m.seats[t]? = some se)(hb:cl.begin_<m.now) :
  EvQ Q i t (h,a,m) ((Jc h a m i t cl se p sl0).2.1,(Jc h a m i t cl se p sl0).2.2.1,(Jc h a m i t cl se p sl0).2.2.2.1):=by
 have hac:=C.ac
 unfold Jc
 simp only[]
 have E1:EvQ Q i t (h,a,m) (h,a.shift sl0.toNat m.thread 3,((m.point i cl m.now).answer t se 1 0).shift sl0 (a.slots.getD sl0.toNat ⟨0,0⟩).state 3):=
  (EvQ.point cl _ hcl hb (Int.le_refl _)).trans ((EvQ.answer (m:=m.point _ _ _) se 1 0 hse (by omega) (by omega) (fun _=>rfl)).trans (EvQ.shift (m:=(m.point _ _ _).answer _ _ _ _) sl0 3 q0 (by rw[hac];exact q1) (by omega) (by omega)))
 have C1:=(((C.point i cl m.now).answer t se 1 0).ashift sl0.toNat m.thread 3).mshift sl0 (a.slots.getD sl0.toNat ⟨0,0⟩).state 3
 split
 ·exact E1
 ·rename_i hn
  have E2:EvQ Q i t (h,a.shift sl0.toNat m.thread 3,((m.point i cl m.now).answer t se 1 0).shift sl0 (a.slots.getD sl0.toNat ⟨0,0⟩).state 3) _:=EvQ.shift (p.saw-1) 4 (by omega) (by show p.saw-1<a.c.Sl;rw[hac];omega) (by omega) (by omega)
  have C2:=(C1.ashift (p.saw-1).toNat m.thread 4).mshift (p.saw-1) ((a.shift sl0.toNat m.thread 3).slots.getD (p.saw-1).toNat ⟨0,0⟩).state 4
  have R:=evq_retire (Q:=Q) (i:=i) (t:=t) (r:=⟨p.thread,p.saw-1,none⟩) C2 (by simp only[];omega) (by simp only[];omega)
  exact E1.trans (E2.trans R)
theorem evq_post {cl:Cll}{se:Sea}{p:Pst}(C:Core c L S N h a m)(I:PoI c p)(hV:p.stage=1→Q (adr c 11 (p.link-1)))(hcl:m.calls[i]? = some cl)(hse:m.seats[t]? = some se)(hb:cl.begin_<m.now)(hu:m.used=false) :
  EvQ Q i t (h,a,m) ((Z0 h a m i t cl se p).2.1,(Z0 h a m i t cl se p).2.2.1,(Z0 h a m i t cl se p).2.2.2.1):=by
 have hok:=C.ok
 have hc:=C.hc
 obtain⟨⟨k,hk,k0,k1⟩,i2,i3,i4⟩:=I
 have h1:=C.lq (Q:=Q) (adr_lq14 hok).2
 unfold Z0
 rw[hk,hc]
 simp only[]
 by_cases s0:p.stage=0
 ·rw[if_pos s0]
  have E:=evq_take (Q:=Q) (i:=i) (t:=t) C (k0 s0) hu
  have Sm:=same_take a m k
  split
  ·exact E.trans (evq_took (by rw[Sm.calls];exact hcl) (by rw[Sm.seats];exact hse) (by rw[Sm.now];exact hb))
  ·exact E
 rw[if_neg s0]
 by_cases s1:p.stage=1
 ·rw[if_pos s1]
  obtain⟨g1,g2,g3⟩:=k1 (.inl s1)
  exact .store _ _ hu ⟨C.l11 g1 g2,by rw[show Ze k=p.link-1 by omega];exact hV s1⟩
 rw[if_neg s1]
 by_cases s2:p.stage=2
 ·rw[if_pos s2]
  exact .load _ hu h1
 rw[if_neg s2]
 by_cases s3:p.stage=3
 ·rw[if_pos s3]
  obtain⟨g1,g2,g3⟩:=k1 (.inr (.inr s3))
  have hz:WOk c (adr c 2 0) p.link:=wok_cell hok (by omega)
  have hsw:=i3 s3
  split
  ·exact(EvQ.swap _ _ _ hu h1).trans (evq_done (k:=k) (C.swap (adr c 2 0) (m.word (adr c 2 0)) p.saw p.link hz) hsw.2 g1 g2 hcl hse hb)
  ·exact .swap _ _ _ hu h1
 rw[if_neg s3]
 have s4:p.stage=4:=by rcases i2 with h|h|h|h|h<;>first|exact absurd h s0|exact absurd h s1|exact absurd h s2|exact absurd h s3|exact h
 obtain⟨r,sc,e1,e2,e3,e4⟩:=i4 s4
 rw[e1]
 simp only[e2]
 exact evq_scan C e3 hu
theorem evq_postReady {cl:Cll}{se:Sea}{p:Pst}(C:Core c L S N h a m)(t0:0≤p.thread)(t1:p.thread<c.T)(hcl:m.calls[i]? = some cl)(hse:m.seats[t]? = some se)(hb:cl.begin_<m.now) :
  EvQ Q i t (h,a,m) (h,(ZQ a m i t cl se p).2.1,(ZQ a m i t cl se p).2.2.1):=by
 have E:=evq_takeReady (Q:=Q) (i:=i) (t:=t) (k:=⟨p.thread,1,0,0,0,false⟩) C t0 t1
 have Sm:=ZN a m ⟨p.thread,1,0,0,0,false⟩
 unfold ZQ
 simp only[]
 split
 ·exact E.trans (evq_took (by rw[Sm.calls];exact hcl) (by rw[Sm.seats];exact hse) (by rw[Sm.now];exact hb))
 ·exact E
theorem evq_rdy {cl:Cll}{se:Sea}{k:Qd}(C:Core c L S N h a m)(ht:(t:Int)<c.T)(I:TI c t false (h.held.getD t 0) (a.caches.getD t []) k)(hcl:m.calls[i]? = some cl)(hse:m.seats[t]? = some se)(hb:cl.begin_<m.now) :
  EvQ Q i t (h,a,m) ((Qw (h,a) m i t cl se k).2.1.1,(Qw (h,a) m i t cl se k).2.1.2,(Qw (h,a) m i t cl se k).2.2.1):=by
 cases k with
 | pst p=>exact evq_postReady C (by rw[I.1];omega) (by rw[I.1];exact ht) hcl hse hb
 | scn s=>exact .refl _
 | reg r=>exact .refl _
 | unr u=>exact .refl _
 | rdg r=>exact .refl _
 | clr ad=>exact .refl _
def RdP (b now:Int):Qd→Prop
 | .rdg r=>r.stage=3→b<r.point∧r.point≤now
 | _=>True
theorem evq_stp {cl:Cll}{se:Sea}{k:Qd}(C:Core c L S N h a m)(ht:(t:Int)<c.T)(I:TI c t true (h.held.getD t 0) (a.caches.getD t []) k)(hcl:m.calls[i]? = some cl)(hse:m.seats[t]? = some se)(hb:cl.begin_<m.now)(hp:RdP cl.begin_ m.now k)(hu:m.used=false)
  (hR:∀r,k=.rdg r→r.stage=3→Q (adr c 11 (r.w-1))) (hV:∀p,k=.pst p→p.stage=1→Q (adr c 11 (p.link-1))) :
  EvQ Q i t (h,a,m) ((Z8 (h,a) m i t cl se k).2.1.1,(Z8 (h,a) m i t cl se k).2.1.2,(Z8 (h,a) m i t cl se k).2.2.1):=by
 have hok:=C.ok
 cases k with
 | reg r=>
  obtain⟨i1,i2,i3⟩:=I
  exact evq_reg C hse i2 i3 hu
 | unr u=>
  obtain⟨i1,i2,i3⟩:=I
  exact evq_unr C ht i1 i2 i3 hu
 | rdg r=>exact evq_read C I (hR r rfl) hcl hse hb hp hu
 | clr ad=>
  obtain⟨i1,i2⟩:=I
  have hq:=hz_lq (z:=(ad:Int)) hok i1 i2
  rw[Yo]at hq
  exact .store _ _ hu (C.lq hq)
 | scn s=>exact evq_scan C (I.2.2 rfl) hu
 | pst p=>exact evq_post C (I.2.2.1 rfl) (hV p rfl) hcl hse hb hu
theorem rdp_stp {cl cl':Cll}{se:Sea}{k:Qd}(hb:cl.begin_<m.now)(hp:RdP cl.begin_ m.now k):RdP cl.begin_ m.now (Z8 (h,a) m i t cl' se k).2.2.2:=by
 cases k with
 | rdg r=>
  simp only[Z8,RdP,Qo]at hp ⊢
  split
  ·unfold Qq;split<;>simp
  ·split
   ·simp
   ·split
    ·split
     ·simp only[];exact fun _=>⟨hb,Int.le_refl _⟩
     ·unfold Qq;split<;>simp
    ·exact hp
 | _=>exact trivial
theorem rdp_rdy {cl cl':Cll}{se:Sea}{k:Qd}{b now:Int}(hp:RdP b now k):RdP b now (Qw (h,a) m i t cl' se k).2.2.2:=by
 cases k with
 | rdg r=>exact hp
 | _=>exact trivial
end
end
end Go.Proofs.YtjagadldibbbbaaGreat
