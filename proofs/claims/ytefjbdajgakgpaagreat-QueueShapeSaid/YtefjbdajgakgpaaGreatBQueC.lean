import Derived.Test.YtefjbdajgakgpaaGreatBRef0
set_option linter.all false
namespace Go.Proofs.YtefjbdajgakgpaaGreat
open Go.RowKit Hp
set_option maxRecDepth 100000
section
set_option maxHeartbeats 1000000
attribute [local irreducible] Go.Calls
theorem ref_packLink (s:Int)(h0 : -1≤s)(h1:s≤2147483646):Zj Tryz.prog 32 #[.int .i64 s,.bool false] emp (.int .u64 (s+1)) emp:=by
 intro O w F hs
 go_enter Tryz.func32,Tryz.ntmps32
 go_wp2_with (fail)
 go_ret
 exact⟨rfl,by ((with_reducible apply Sat.fin hs);(with_reducible exact Ql))⟩
theorem ref_packHead (t s:Int)(t0:0≤t)(h0 : -1≤s)(h1:s≤2147483646):Zj Tryz.prog 71 #[.int .u64 t,.int .i64 s] emp (.int .u64 (t%4294967296*4294967296+(s+1))) emp:=by
 intro O w F hs
 go_enter Tryz.func71,Tryz.ntmps71
 go_wp2_with (fail)
 go_ret
 exact⟨rfl,by ((with_reducible apply Sat.fin hs);(with_reducible exact Ql))⟩
theorem ref_first1 (c:Cfg)(h:c.Ok):Does Tryz.prog 28 #[c.v,.int .i64 1] emp (fun v=>sl 79 1 ((Z7 c 1).map eU) v):=by
 intro O w F hs
 have hS:=Lh (ref_size c h)
 have hb10:=ZC h 10
 have hA:=Lh (ref_base c h 10 (by omega) (by omega))
 have hA4:=ref_base c h 4 (by omega) (by omega)
 have hA5:=ref_base c h 5 (by omega) (by omega)
 rw[show base c 4=3 by simp[base,many]]at hA4
 rw[show base c 5=4 by simp[base,many]]at hA5
 have hA4:=Lh hA4
 have hA5:=Lh hA5
 have hPH:=ref_packHead 0 1 (by omega) (by omega) (by omega)
 rw[show(0%4294967296*4294967296+(1+1):Int)=2 from rfl]at hPH
 have hPH:=Lh hPH
 have hP0:=ref_packLink 0 (by omega) (by omega)
 rw[show(0:Int)+1=1 from rfl]at hP0
 have hP0:=Lh hP0
 obtain⟨hc1,hc2⟩:=base_cells h
 have hb14:=ZC h 14
 have hs1:=h.S1
 have hs2:=h.S2
 have n1:decide ((1:Int)>0)=true:=rfl
 obtain⟨W0,hW0⟩:∃W0:List Int,W0=List.replicate (base c 14).toNat 0:=⟨_,rfl⟩
 have hrep:List.replicate (base c 14).toNat (Value.int .u64 0).cells.toList=W0.map eU:=by rw[hW0,List.map_replicate];rfl
 have hlen:W0.length=(base c 14).toNat:=by rw[hW0];simp
 have hl0:0<W0.length:=by omega
 have hg0:(W0.map eU)[0]? = some (eU 0):=by rw[hW0];simp[List.getElem?_replicate];omega
 have hln0:0<(W0.map eU).length:=by simp;omega
 have hfin:∀W1,W1=(if 1<c.Sl then W0.set 0 2 else W0)→Z7 c 1=((Z3 W1 (base c 10) 1 (c.Sl.toNat-1-1)).set 3 1).set 4 1:=by
  rintro W1 rfl
  simp only[Z7]
  rw[if_pos (by omega),←hW0]
  rfl
 have hfin:=Lh hfin
 have hz:∀W1,W1=(if 1<c.Sl then W0.set 0 2 else W0)→W1.length=(base c 14).toNat:=by
  rintro W1 rfl
  split
  ·rw[List.length_set,hlen]
  ·exact hlen
 have hz:=Lh hz
 clear hW0
 by_cases hS2:1<c.Sl
 case' pos=>
  have n2:decide (1<c.Sl)=true:=by simp;omega
  obtain⟨W1,hW1,e0⟩:∃W1:List Int,W1=(if 1<c.Sl then W0.set 0 2 else W0)∧Hid ((List.map eU W0).set 0 ((eU 0).set 0 (Value.int IntKind.u64 2))=W1.map eU):=⟨_,rfl,Lh (by rw[if_pos hS2];simp[Yk])⟩
 case' neg=>
  have n2:decide (1<c.Sl)=false:=by simp;omega
  obtain⟨W1,hW1,e0⟩:∃W1:List Int,W1=(if 1<c.Sl then W0.set 0 2 else W0)∧Hid (List.map eU W0=W1.map eU):=⟨_,rfl,Lh (by rw[if_neg hS2])⟩
 all_goals(
  have hF1:=Lh (hfin.out W1 hW1)
  have hz1:=Lh (hz.out W1 hW1)
  clear hW1 hz hfin hS2
  go_enter Tryz.func28,Tryz.ntmps28
  (repeat'(first|(go_big_may;(first|((with_reducible apply Za hs);exact Ii;rfl;(with_reducible repeat first|exact Qh|apply Qk);rfl;rfl;simp only[Uc,Uz])|((with_reducible apply ZU hs);exact Ii;rfl;(with_reducible exact Qh);rfl;rfl;simp only[Uc,Uz])|((with_reducible apply Zq hs);rfl;rfl;rfl;clear hs;intro w b hs;simp only[Uc,Uz])|((with_reducible apply ZN hs);exact Ii;rfl;rfl;assumption;(with_reducible exact Qh);rfl;(assumption);exact Vb rfl;rfl;rfl;clear hs;intro w hs)|((with_reducible apply ZA hs);exact Ii;exact Ii;rfl;rfl;(with_reducible exact Qh);rfl;(assumption);rfl;intro b off hat;simp only[Uc,Uz])|(((with_reducible apply wl_mk hs);exact Ii;exact Ii;rfl;rfl;rfl;rfl;(exact(Int.toNat_of_nonneg (by omega)).symm);omega;exact Vb rfl;rfl;clear hs;intro w v hs;simp only[Uc,Uz]);rw[hrep]at hs)|(go_at_call 34;((refine(hS.out).at hs (by (focus((repeat(with_reducible exact Qn));done))) ?_);clear hs;intro w hs;(try simp only[Em,Ma]at hs)))|(go_at_call 71;((refine(hPH.out).at hs (by (focus((repeat(with_reducible exact Qn));done))) ?_);clear hs;intro w hs;(try simp only[Em,Ma]at hs)))))|go_step|(dsimp only)))
  rw[e0.out]at hs
  have hlW:∀n,(Z3 W1 (base c 10) 1 n).length=(base c 14).toNat:=fun n=>by rw[fillW_len];exact hz1.out
  clear hg0 hln0 hl0 hrep hlen e0
  obtain⟨T,hT,hs⟩:∃T,Hid (T=_)∧Sat O w (sl 79 1 ((Z3 W1 (base c 10) 1 (1-1)).map eU) v*T):=⟨_,Lh rfl,hs.pull (by (focus((repeat(exact Qh));done)))⟩
  go_loopw [6] (fun q wr=>∃s:Nat,(1≤s∧(s:Int)≤c.Sl∧(s=1∨(s:Int)+1≤c.Sl))∧q=.int .i64 (s:Int)∧Sat O wr (sl 79 1 ((Z3 W1 (base c 10) 1 (s-1)).map eU) v*T)) (fun q _=>1025-(intOf q).toNat)
  case atStart=>exact⟨1,⟨by omega,by omega,.inl rfl⟩,rfl,by ((with_reducible apply Sat.fin hs);(with_reducible exact Ql))⟩
  case round=>
   obtain⟨s,⟨k0,k1,k2⟩,rfl,hs⟩:=hrel
   rw[hT.out]at hs
   have hl:=hlW (s-1)
   by_cases hkr:(s:Int)+1<c.Sl
   ·have hlt:decide ((s:Int)+1<c.Sl)=true:=by simpa using hkr
    have hPL:=Lh (ref_packLink ((s:Int)+1) (by omega) (by omega))
    have hix:base c 10+(s:Int)<((Z3 W1 (base c 10) 1 (s-1)).length:Int):=by rw[hl];omega
    have hi2:(base c 10+(s:Int)).toNat<(Z3 W1 (base c 10) 1 (s-1)).length:=by omega
    obtain⟨x,hx⟩:∃x,(Z3 W1 (base c 10) 1 (s-1))[(base c 10+(s:Int)).toNat]? = some x:=⟨_,Yd hi2⟩
    have hgx:((Z3 W1 (base c 10) 1 (s-1)).map eU)[(base c 10+(s:Int)).toNat]? = some (eU x):=by rw[Ym,hx];rfl
    have hi3:(base c 10+(s:Int)).toNat<((Z3 W1 (base c 10) 1 (s-1)).map eU).length:=by rw[List.length_map];exact hi2
    have e1:Hid ((List.map eU (Z3 W1 (base c 10) 1 (s-1))).set (base c 10+(s:Int)).toNat [Value.int IntKind.u64 ((s:Int)+1+1)]=(Z3 W1 (base c 10) 1 (s+1-1)).map eU):=Lh (by
     obtain⟨n,rfl⟩:∃n,s=n+1:=⟨s-1,by omega⟩
     simp only[Nat.add_sub_cancel,Z3,Yk]
     rw[show((1+n:Nat):Int)=((n+1:Nat):Int) by omega,show((1+n+2:Nat):Int)=((n+1:Nat):Int)+1+1 by omega])
    have e2:Hid ((List.map eU (Z3 W1 (base c 10) 1 (s-1))).set (base c 10+(s:Int)).toNat ((eU x).set 0 (Value.int IntKind.u64 ((s:Int)+1+1)))=(Z3 W1 (base c 10) 1 (s+1-1)).map eU):=Lh e1.out
    have hK:=Lh (show 1≤s+1∧((s+1:Nat):Int)≤c.Sl∧(s+1=1∨((s+1:Nat):Int)+1≤c.Sl) by omega)
    have hKs:=Lh (show s<1024 by omega)
    have hw1:wrap64 (base c 10+(s:Int))=base c 10+(s:Int):=by unfold wrap64;omega
    have hw2:wrap64 ((s:Int)+1)=(s:Int)+1:=by unfold wrap64;omega
    (repeat'(first|(go_big_may;(first|((with_reducible apply Za hs);exact Ii;rfl;(with_reducible repeat first|exact Qh|apply Qk);rfl;rfl;simp only[Uc,Uz])|((with_reducible apply ZU hs);exact Ii;rfl;(with_reducible repeat first|exact Qh|apply Qk);rfl;rfl;simp only[Uc,Uz])|((with_reducible apply ZN hs);exact Ii;rfl;rfl;assumption;(with_reducible exact Qh);rfl;(assumption);exact Vb rfl;rfl;rfl;clear hs;intro w hs)|((with_reducible apply ZJ hs);exact Ii;exact Ii;rfl;assumption;rfl;(with_reducible exact Qh);(exact(Int.toNat_of_nonneg (by omega)).symm);(assumption);rfl;simp only[Uc,Uz])|((with_reducible apply ZA hs);exact Ii;exact Ii;rfl;rfl;(with_reducible exact Qh);(exact(Int.toNat_of_nonneg (by omega)).symm);(assumption);rfl;intro b off hat;simp only[Uc,Uz])|(go_at_call 31;((refine(hA.out).at hs (by (focus((repeat(with_reducible exact Qn));done))) ?_);clear hs;intro w hs;(try simp only[Em,Ma]at hs)))|(go_at_call 32;((refine(hPL.out).at hs (by (focus((repeat(with_reducible exact Qn));done))) ?_);clear hs;intro w hs;(try simp only[Em,Ma]at hs)))))|go_step|(dsimp only)))
    (rw[e2.out]at hs)
    go_roundw
    case rel=>exact⟨s+1,hK.out,by simp,by rw[hT.out];((with_reducible apply Sat.fin hs);(with_reducible exact Ql))⟩
    case measure=>have:=hKs.out;simp[intOf];omega
   ·have hlt:decide ((s:Int)+1<c.Sl)=false:=by simpa using hkr
    have hN:Hid (s-1=c.Sl.toNat-1-1):=Lh (by omega)
    have hl3:3<(Z3 W1 (base c 10) 1 (s-1)).length:=by omega
    have hl4:4<(Z3 W1 (base c 10) 1 (s-1)).length:=by omega
    obtain⟨y3,h3⟩:∃x,(Z3 W1 (base c 10) 1 (s-1))[3]? = some x:=⟨_,Yd hl3⟩
    obtain⟨y4,h4⟩:∃x,(Z3 W1 (base c 10) 1 (s-1))[4]? = some x:=⟨_,Yd hl4⟩
    have hg3:((Z3 W1 (base c 10) 1 (s-1)).map eU)[3]? = some (eU y3):=by rw[Ym,h3];rfl
    have hg4:(((Z3 W1 (base c 10) 1 (s-1)).map eU).set 3 [.int .u64 1])[4]? = some (eU y4):=by rw[Yf (by omega),Ym,h4];rfl
    have hm3:3<((Z3 W1 (base c 10) 1 (s-1)).map eU).length:=by rw[List.length_map];exact hl3
    have hm4:4<(((Z3 W1 (base c 10) 1 (s-1)).map eU).set 3 [.int .u64 1]).length:=by rw[List.length_set,List.length_map];exact hl4
    have e3:Hid ((((Z3 W1 (base c 10) 1 (s-1)).map eU).set 3 [.int .u64 1]).set 4 [.int .u64 1]=(Z7 c 1).map eU):=Lh (by
     rw[hF1.out,←hN.out,Yk,Yk])
    have e4:Hid ((((Z3 W1 (base c 10) 1 (s-1)).map eU).set 3 ((eU y3).set 0 (.int .u64 1))).set 4 ((eU y4).set 0 (.int .u64 1))=(Z7 c 1).map eU):=Lh e3.out
    clear hl3 hl4 h3 h4
    (repeat'(first|(go_big_may;(first|((with_reducible apply Za hs);exact Ii;rfl;(with_reducible repeat first|exact Qh|apply Qk);rfl;rfl;simp only[Uc,Uz])|((with_reducible apply ZU hs);exact Ii;rfl;(with_reducible repeat first|exact Qh|apply Qk);rfl;rfl;simp only[Uc,Uz])|((with_reducible apply ZN hs);exact Ii;rfl;rfl;assumption;(with_reducible exact Qh);rfl;(assumption);exact Vb rfl;rfl;rfl;clear hs;intro w hs)|((with_reducible apply ZJ hs);exact Ii;exact Ii;rfl;assumption;rfl;(with_reducible exact Qh);rfl;(assumption);rfl;simp only[Uc,Uz])|((with_reducible apply ZA hs);exact Ii;exact Ii;rfl;rfl;(with_reducible exact Qh);rfl;(assumption);rfl;intro b off hat;simp only[Uc,Uz])|(go_at_call 31;first|((refine(hA4.out).at hs (by (focus((repeat(with_reducible exact Qn));done))) ?_);clear hs;intro w hs;(try simp only[Em,Ma]at hs))|((refine(hA5.out).at hs (by (focus((repeat(with_reducible exact Qn));done))) ?_);clear hs;intro w hs;(try simp only[Em,Ma]at hs)))|(go_at_call 32;((refine(hP0.out).at hs (by (focus((repeat(with_reducible exact Qn));done))) ?_);clear hs;intro w hs;(try simp only[Em,Ma]at hs)))))|go_step|(dsimp only)))
    (rw[e4.out]at hs)
    go_ret
    refine⟨_,rfl,?_⟩
    ((with_reducible apply Sat.fin hs);(focus((repeat(first|with_reducible exact Ql|with_reducible apply Qb|exact Qh|with_reducible apply Qk));done))))
end
section
set_option maxHeartbeats 1000000
attribute [local irreducible] Go.Calls
structure RunLen (cs:List Cll)(lg:List Acc)(sh:List Shf)(ws:List Int):Prop where
 l1:cs.length<100000000
 l2:lg.length<100000000
 l3:sh.length<100000000
 l4:ws.length<100000000
theorem runR_mk {O w:World}{F:Zb}{cs:List Cll}{lg:List Acc}{sh:List Shf}{ws:List Int}{vc vt vs vw:Value}
  (hs:Sat O w (sl 59 9 (cs.map Cll.e) vc*(sl 87 7 (lg.map Acc.e) vt*(sl 102 5 (sh.map Shf.e) vs*(sl 79 1 (ws.map eU) vw*F))))):Sat O w (RunR cs lg sh ws (.agg #[vc,vt,vs,vw])*F):=by
 unfold RunR
 simp only[ZB,Ma,Zw]
 exact⟨_,_,_,_,rfl,hs⟩
theorem runR_get {O w:World}{F:Zb}{cs:List Cll}{lg:List Acc}{sh:List Shf}{ws:List Int}{v:Value}(hs:Sat O w (RunR cs lg sh ws v*F)) :
  ∃a1 k1 a2 k2 a3 k3 a4 k4,v=.agg #[.slice a1 cs.length k1,.slice a2 lg.length k2,.slice a3 sh.length k3,.slice a4 ws.length k4] ∧
   Sat O w (sl 59 9 (cs.map Cll.e) (.slice a1 cs.length k1)*(sl 87 7 (lg.map Acc.e) (.slice a2 lg.length k2)*(sl 102 5 (sh.map Shf.e) (.slice a3 sh.length k3)*(sl 79 1 (ws.map eU) (.slice a4 ws.length k4)*F)))):=by
 unfold RunR at hs
 simp only[ZB,Ma,Zw]at hs
 obtain⟨vc,vt,vs,vw,rfl,hs⟩:=hs
 obtain⟨_,_,rfl⟩:=ZY (hs.pull (A:=sl 59 9 _ vc) (by (with_reducible exact Qh)))
 obtain⟨_,_,rfl⟩:=ZY (hs.pull (A:=sl 87 7 _ vt) (by (with_reducible repeat first|exact Qh|apply Qk)))
 obtain⟨_,_,rfl⟩:=ZY (hs.pull (A:=sl 102 5 _ vs) (by (with_reducible repeat first|exact Qh|apply Qk)))
 obtain⟨_,_,rfl⟩:=ZY (hs.pull (A:=sl 79 1 _ vw) (by (with_reducible repeat first|exact Qh|apply Qk)))
 simp only[List.length_map]at hs ⊢
 exact⟨_,_,_,_,_,_,_,_,rfl,hs⟩
end
section
set_option maxHeartbeats 4000000
attribute [local irreducible] Go.Calls Go.wpList
abbrev memC (g:Nat)(c:Cfg)(vw:Value)(at_:Int):Zb:=pt g (.cells #[.int .i64 c.T,.int .i64 c.R,.int .i64 c.Hz,.int .i64 c.Rt,.int .i64 c.Ca,.int .i64 c.Sl,.int .i64 c.Bu,vw,.int .i64 at_] 76)
abbrev eN (i:Nat):List Value:=[.int .i64 (i:Int)]
theorem mem_chain (g:Nat)(c:Cfg)(hok:c.Ok)(at_:Int)(ws:List Int)(stk:List Nat)(hwl:ws.length<4294967296)(HD LK S0:Nat)(hHD:base c 4=(HD:Int))(hLK:base c 13=(LK:Int))(hS0:c.Sl=(S0:Int))(q1:stk.length≤S0)
  (q3:ws[HD]? = some (nxtS stk)) (q4:∀(k s:Nat),stk[k]? = some s→s<S0∧ws[LK+s]? = some (nxtS (stk.drop (k+1)))) (a4:Option Addr) (c4:Nat) :
  Does Tryz.prog 30 #[.pointer (some ⟨g,0,none⟩)] (memC g c (.slice a4 ws.length c4) at_*sl 79 1 (ws.map eU) (.slice a4 ws.length c4))
   (fun u=>sl 3 1 (stk.map eN) u*(memC g c (.slice a4 ws.length c4) at_*sl 79 1 (ws.map eU) (.slice a4 ws.length c4))):=by
 intro O w F hs
 simp only[Ma]at hs
 have hB4:=ref_base c hok 4 (by omega) (by omega)
 have hB13:=ref_base c hok 13 (by omega) (by omega)
 rw[hHD]at hB4
 rw[hLK]at hB13
 have HB4:=Lh hB4
 have HB13:=Lh hB13
 have hS1:=hok.S1
 have hS2:=hok.S2
 rw[hS0]at hS1 hS2
 replace q4:=Lh q4
 have hTn:=(List.getElem?_eq_some_iff.1 q3).1
 have hg3:(ws.map eU)[HD]? = some [.int .u64 (nxtS stk)]:=by rw[Ym,q3];rfl
 have hTn2:HD<(ws.map eU).length:=by simpa using hTn
 have hnx0:Hid (∃z,nxtS stk=z∧0≤z∧z%4294967296-1=z-1):=Lh (by
  cases stk with
  | nil=>exact⟨0,rfl,by omega,by omega⟩
  | cons s r=>
   have:=(q4.out 0 s rfl).1
   exact⟨(s:Int)+1,rfl,by omega,by omega⟩)
 obtain⟨z0,hz0,hz00,hz01⟩:=hnx0.out
 clear hnx0
 have hLI0:=ref_linkIndex z0 hz00
 rw[hz01]at hLI0
 have hLI0:=Lh hLI0
 rw[hz0]at hg3
 have hz0:=Lh hz0
 clear hok hB4 hB13 hHD hLK q3 hTn hz00 hz01
 obtain⟨d1,d2,d3,d4,d5,d6,d7⟩:=c
 simp only[]at hS0
 subst hS0
 simp only[memC]at hs ⊢
 have hs:=JD (E:=3) (sz:=1) hs (by omega)
 go_enter Tryz.func30,Tryz.ntmps30
 (repeat'(first|(go_big_may;(first|(with_reducible first|apply NQ.mk|apply EQ.mk|exact Zf|apply Zh)|((with_reducible apply Zg);rfl;rfl)|((with_reducible apply Zl);rfl)|((with_reducible refine Zo ?_ ?_);focus((with_reducible apply ZF);rfl;rfl))|(show ZX _ _ _;rfl)|((with_reducible apply Za hs);exact Ii;rfl;(with_reducible repeat first|exact Qh|apply Qk);rfl;rfl;simp only[Uc,Uz])|((with_reducible apply Zk hs);exact Ii;rfl;assumption;(with_reducible repeat first|exact Qh|apply Qk);rfl;(assumption);rfl;rfl;simp only[Uc,Uz])|((with_reducible apply ZA hs);exact Ii;exact Ii;rfl;rfl;(with_reducible repeat first|exact Qh|apply Qk);rfl;(assumption);rfl;intro b off hat;simp only[Uc,Uz])|((with_reducible apply wl_ldN hs);exact Ii;rfl;(with_reducible repeat first|exact Qh|apply Qk);(simp only[List.size_toArray,List.length_cons,List.length_nil];omega);rfl;rfl;simp only[Uc,Uz])|(go_at_call 31;((refine(HB4.out).at hs (by (focus((repeat(with_reducible exact Qn));done))) ?_);clear hs;intro w hs;(try simp only[Em,Ma]at hs)))|(go_at_call 72;((refine(hLI0.out).at hs (by (focus((repeat(with_reducible exact Qn));done))) ?_);clear hs;intro w hs;(try simp only[Em,Ma]at hs)))|((with_reducible refine Wp (id:=2) (Paz [.neu 5,.neu 6,.neu 7,.eff 8 [0,1,2,3],.neu 9,.neu 10,.eff 11 [],.neu 12]) hs rfl ?_ ?_);kernel_rfl;clear hs;intro w hs)))|go_step|(dsimp only)))
 go_loopw [3,4] (fun v3 q wr=>∃(k:Nat) (z:Int) (ab:Option Addr) (nb:Nat),k≤stk.length∧v3=.slice ab k nb∧q=.int .i64 (z-1)∧Hid (z=nxtS (stk.drop k))∧Hid ((stk.take k).length=k) ∧
  Sat O wr (sl 3 1 ((stk.take k).map eN) (.slice ab k nb)*(pt g (.cells #[.int .i64 d1,.int .i64 d2,.int .i64 d3,.int .i64 d4,.int .i64 d5,.int .i64 (S0:Int),.int .i64 d7,.slice a4 ws.length c4,.int .i64 at_] 76)*(sl 79 1 (ws.map eU) (.slice a4 ws.length c4)*F)))) (fun v3 _ _=>stk.length+1-(match v3 with|.slice _ n _=>n|_=>0))
 case atStart=>exact⟨0,z0,none,0,by omega,rfl,rfl,Lh (by rw[List.drop_zero];exact hz0.out.symm),Lh (by simp),by ((with_reducible apply Sat.fin hs);(focus((repeat(first|with_reducible exact Ql|with_reducible apply Qb|exact Qh));done)))⟩
 case round=>
  obtain⟨k,z,ab,nb,kl,rfl,rfl,hz,hls,hs⟩:=hrel
  by_cases hkr:k=stk.length
  ·have hzz:z=0:=by rw[hz.out,hkr,List.drop_length];rfl
   have hlk:Hid (stk.take k=stk):=Lh (by rw[hkr,List.take_length])
   subst hzz
   clear hz hls hkr
   have n1:decide ((0:Int)-1≥0)=false:=rfl
   (repeat'(go_step))
   go_ret
   refine⟨_,rfl,?_⟩
   rw[hlk.out]at hs
   simp only[Ma]
   ((with_reducible apply Sat.fin hs);(focus((repeat(first|with_reducible exact Ql|with_reducible apply Qb|exact Qh));done)))
  ·obtain⟨s,hsk⟩:∃s,stk[k]? = some s:=⟨_,Yd (by omega)⟩
   obtain⟨hs0,hnx⟩:=q4.out k s hsk
   have hz1:z=(s:Int)+1:=by
    have hd:stk.drop k=s::stk.drop (k+1):=by
     obtain⟨h1,h2⟩:=List.getElem?_eq_some_iff.1 hsk
     rw[List.drop_eq_getElem_cons h1,h2]
    rw[hz.out,hd];rfl
   have hzs:z-1=(s:Int):=by omega
   rw[hzs]
   have hnz:Hid (∃y,nxtS (stk.drop (k+1))=y∧Zj Tryz.prog 72 #[.int .u64 y] emp (.int .i64 (y-1)) emp):=Lh (by
    have key:∀y:Int,0≤y→y≤1024→Zj Tryz.prog 72 #[.int .u64 y] emp (.int .i64 (y-1)) emp:=fun y h0 h1=>by
     have:=ref_linkIndex y h0
     rw[show y%4294967296-1=y-1 by omega]at this
     exact this
    cases hd:stk.drop (k+1) with
    | nil=>exact⟨0,rfl,key 0 (by omega) (by omega)⟩
    | cons s' r=>
     have hs':stk[k+1]? = some s':=by
      have:(stk.drop (k+1))[0]? = some s':=by rw[hd];rfl
      rw[List.getElem?_drop]at this
      exact this
     have:=(q4.out (k+1) s' hs').1
     exact⟨(s':Int)+1,rfl,key _ (by omega) (by omega)⟩)
   obtain⟨y,hy,hLI⟩:=hnz.out
   have hLI:=Lh hLI
   have n1:decide ((s:Int)≥0)=true:=by simp
   have n2:decide ((s:Int)≥(S0:Int))=false:=by simp;omega
   have n3:decide ((k:Int)>(S0:Int))=false:=by simp;omega
   have n4:decide (S0≤s)=false:=by simp;omega
   have n5:decide (S0<k)=false:=by simp;omega
   have hnn:=(List.getElem?_eq_some_iff.1 hnx).1
   have hn1:LK+s<(ws.map eU).length:=by simpa using hnn
   have hgn:(ws.map eU)[LK+s]? = some [.int .u64 y]:=by rw[Ym,hnx,hy];rfl
   have HE2:Hid ((LK:Int)+(s:Int)=((LK+s:Nat):Int)):=Lh (by omega)
   have hkl:=Lh (show k+1≤stk.length by omega)
   have hk65:k<4294967295:=by omega
   have hL65:LK<4294967296:=by omega
   have HW3:Hid (wrap64 ((LK+s:Nat):Int)=((LK+s:Nat):Int)):=Lh (by unfold wrap64;omega)
   have htk:Hid ((stk.take (k+1)).map eN=(stk.take k).map eN++[eN s]):=Lh (by rw[List.take_add_one,hsk];simp)
   have htl:Hid ((stk.take (k+1)).length=k+1):=Lh (by rw[List.length_take];omega)
   have hy:=Lh hy
   have hlen:(List.map eN (stk.take k)).length=k:=by rw[List.length_map];exact hls.out
   clear hsk hnx hkr hnn hz1 hzs hz hnz hs0
   (repeat'(first|((with_reducible apply ZO);((simp only[ev,Ue,Uf]);rfl);((simp only[cond_true,cond_false,ev,Ue,Uf]);rfl);(with_reducible exact Zt);simp only[Uc,Uz])|(go_big_may;(first|(rw[HE2.out])|(rw[HW3.out])|(first|(with_reducible first|apply NQ.mk|apply EQ.mk|exact Zf|apply Zh)|((with_reducible apply Zg);rfl;rfl)|((with_reducible apply Zl);rfl)|((with_reducible refine Zo ?_ ?_);focus((with_reducible apply ZF);rfl;rfl))|(show ZX _ _ _;rfl)|((with_reducible apply Za hs);exact Ii;rfl;(with_reducible repeat first|exact Qh|apply Qk);rfl;rfl;simp only[Uc,Uz])|((with_reducible apply Zk hs);exact Ii;rfl;assumption;(with_reducible repeat first|exact Qh|apply Qk);rfl;(assumption);rfl;rfl;simp only[Uc,Uz])|((with_reducible apply ZJ hs);exact Ii;exact Ii;rfl;assumption;rfl;(with_reducible repeat first|exact Qh|apply Qk);rfl;(assumption);rfl;simp only[Uc,Uz])|((with_reducible apply Zp hs);exact Ii;rfl;(with_reducible exact Qh);rfl;simp only[Uc,Uz])|((with_reducible apply wl_bs hs);exact Ii;exact Ii;rfl;rfl;rfl;rfl;exact Vb rfl;rfl;clear hs;intro w v hs;simp only[Uc,Uz])|((with_reducible apply Jh hs);exact Ii;exact Ii;rfl;rfl;(focus with_reducible (repeat first|exact Qh|apply Qk);done);(with_reducible exact Qh);(simp only[Wm,Ws,Wa,Wc,Wn,Wr]at *;omega);exact Vb rfl;rfl;clear hs;intro w v hs;simp only[Uc,Uz]))|((with_reducible apply wl_ldN hs);exact Ii;rfl;(with_reducible repeat first|exact Qh|apply Qk);(simp only[List.size_toArray,List.length_cons,List.length_nil];omega);rfl;rfl;simp only[Uc,Uz])|(go_at_call 72;((refine(hLI.out).at hs (by (focus((repeat(with_reducible exact Qn));done))) ?_);clear hs;intro w hs;(try simp only[Em,Ma]at hs)))|(go_at_call 31;((refine(HB13.out).at hs (by (focus((repeat(with_reducible exact Qn));done))) ?_);clear hs;intro w hs;(try simp only[Em,Ma]at hs)))|((with_reducible refine Wp (id:=7) (Paz [.neu 5,.neu 6,.neu 7,.neu 9,.eff 8 [0,1,2,3,9],.neu 10,.neu 11,.neu 12,.eff 13 [],.neu 14]) hs rfl ?_ ?_);kernel_rfl;clear hs;intro w hs)))|go_guarded|go_step|(dsimp only)))
   obtain⟨ac,nc,rfl⟩:=ZY (hs.pull (A:=sl 3 1 _ v) (by (with_reducible exact Qh)))
   have hs:Sat O _ (sl 3 1 ((stk.take (k+1)).map eN) _*_):=hs.pull (A:=sl 3 1 ((stk.take (k+1)).map eN) _) (by rw[htk.out];(with_reducible exact Qh))
   simp only[List.length_append,hlen,List.length_cons,List.length_nil,Nat.zero_add]at hs ⊢
   go_roundw
   case rel=>exact⟨k+1,y,ac,nc,hkl.out,rfl,rfl,Lh hy.out.symm,htl,by (with_reducible apply Sat.fin hs;repeat first|exact Ql|exact Qh|apply Qb|apply Qk)⟩
   case measure=>have:=hkl.out;simp;omega
def accW (ws:List Int)(e:Acc):List Int:=if e.kind=2∨(e.kind=3∧e.saw=e.old) then ws.set e.addr.toNat e.new else ws
theorem rep1_accW {ws ws':List Int}{e:Acc}(h:rep1 ws e=some ws'):ws'=accW ws e∧∃a:Nat,e.addr=(a:Int)∧a<ws.length∧(e.kind=1∨e.kind=2∨e.kind=3):=by
 unfold rep1 at h
 unfold accW
 by_cases hr:0≤e.addr∧e.addr<ws.length
 ·rw[if_pos hr]at h
  obtain⟨a,ha⟩:=Int.eq_ofNat_of_zero_le hr.1
  by_cases k1:e.kind=1
  ·rw[if_pos k1]at h
   split at h
   ·injection h with h
    rw[if_neg (by omega)]
    exact⟨h.symm,a,ha,by omega,.inl k1⟩
   ·cases h
  ·rw[if_neg k1]at h
   by_cases k2:e.kind=2
   ·rw[if_pos k2]at h
    split at h
    ·injection h with h
     rw[if_pos (.inl k2)]
     exact⟨h.symm,a,ha,by omega,.inr (.inl k2)⟩
    ·cases h
   ·rw[if_neg k2]at h
    by_cases k3:e.kind=3
    ·rw[if_pos k3]at h
     split at h
     ·injection h with h
      refine⟨?_,a,ha,by omega,.inr (.inr k3)⟩
      by_cases hs:e.saw=e.old
      ·rw[if_pos hs]at h
       rw[if_pos (.inr ⟨k3,hs⟩)];exact h.symm
      ·rw[if_neg hs]at h
       rw[if_neg (by omega)];exact h.symm
     ·cases h
    ·rw[if_neg k3]at h;cases h
 ·rw[if_neg hr]at h;cases h
section
variable (g:Nat)(c:Cfg)(lg:List Acc)(k:Nat)(v1 v3 v4:Value)(a2:Option Addr)(c2:Nat)(ws:List Int)(a4:Option Addr)(c4:Nat)
theorem mem_next_no (hk:k=lg.length)(hl:lg.length<100000000):Zj Tryz.prog 29 #[.pointer (some ⟨g,0,none⟩),.agg #[v1,.slice a2 lg.length c2,v3,v4]] (memC g c (.slice a4 ws.length c4) (k:Int)) (.bool false) (memC g c (.slice a4 ws.length c4) (k:Int)):=by
 intro O w F hs
 subst hk
 have n1:decide ((lg.length:Int)≥(lg.length:Int))=true:=by simp
 go_enter Tryz.func29,Tryz.ntmps29
 (repeat'(first|(go_big_may;(first|(with_reducible refine NQ.mk ?_)|((with_reducible apply Zg);rfl;rfl)|(with_reducible refine Zh ?_)|((with_reducible apply Za hs);exact Ii;rfl;(with_reducible repeat first|exact Qh|apply Qk);rfl;rfl;simp only[Uc,Uz])|((with_reducible apply Zq hs);rfl;rfl;rfl;clear hs;intro w b hs;simp only[Uc,Uz])|((with_reducible refine Wp (id:=1) (Paz [.neu 5,.neu 6,.neu 7]) hs rfl ?_ ?_);kernel_rfl;clear hs;intro w hs)))|go_step))
 go_ret
 exact⟨rfl,by (with_reducible apply Sat.fin hs;repeat first|exact Ql|exact Qh|apply Qb|apply Qk)⟩
theorem mem_next_yes (e:Acc)(he:lg[k]? = some e)(hl:lg.length<100000000)(hw:ws.length<100000000)(ha:∃a:Nat,e.addr=(a:Int)∧a<ws.length∧(e.kind=1∨e.kind=2∨e.kind=3)) :
  Zj Tryz.prog 29 #[.pointer (some ⟨g,0,none⟩),.agg #[v1,.slice a2 lg.length c2,v3,v4]] (memC g c (.slice a4 ws.length c4) (k:Int)*(sl 79 1 (ws.map eU) (.slice a4 ws.length c4)*sl 87 7 (lg.map Acc.e) (.slice a2 lg.length c2))) (.bool true)
   (memC g c (.slice a4 ws.length c4) ((k+1:Nat):Int)*(sl 79 1 ((accW ws e).map eU) (.slice a4 ws.length c4)*sl 87 7 (lg.map Acc.e) (.slice a2 lg.length c2))):=by
 intro O w F hs
 simp only[Ma]at hs
 have hkl:=(List.getElem?_eq_some_iff.1 he).1
 have n1:decide ((k:Int)≥(lg.length:Int))=false:=by simp;omega
 have n1':decide (lg.length≤k)=false:=by simp;omega
 have hln:k<(lg.map Acc.e).length:=by simpa using hkl
 obtain⟨a,ha,hal,hkd⟩:=ha
 obtain⟨e1,e2,e3,e4,e5,e6,e7⟩:=e
 simp only[]at ha hkd
 subst ha
 have hgv:(lg.map Acc.e)[k]? = some (Acc.e ⟨e1,e2,e3,(a:Int),e5,e6,e7⟩):=by rw[Ym,he];rfl
 have hk65:k<4294967295:=by omega
 have hw1:wrap64 ((k:Int)+1)=(k:Int)+1:=by unfold wrap64;omega
 have hea:((a:Nat):Int).toNat=a:=Yo a
 obtain⟨x,hx⟩:∃x,ws[a]? = some x:=⟨_,Yd hal⟩
 have hgw:(ws.map eU)[a]? = some (eU x):=by rw[Ym,hx];rfl
 have hal2:a<(ws.map eU).length:=by simpa using hal
 have hal3:decide (a<ws.length)=true:=by simpa using hal
 clear he hkl hx hal
 rcases hkd with rfl|rfl|rfl
 ·have eW:accW ws ⟨e1,e2,1,(a:Int),e5,e6,e7⟩=ws:=by unfold accW;rw[if_neg (by simp)]
  rw[eW]
  clear eW
  go_enter Tryz.func29,Tryz.ntmps29
  (repeat'(first|(((with_reducible apply Z8);rfl;rfl;((simp only[ev,Ue,Uf]);rfl);rfl;simp only[Uc,Uz]);(repeat((with_reducible apply Z8);rfl;rfl;((simp only[ev,Ue,Uf]);rfl);rfl;simp only[Uc,Uz])))|((with_reducible apply ZO);((simp only[ev,Ue,Uf]);rfl);((simp only[cond_true,cond_false,ev,Ue,Uf]);rfl);(first|(with_reducible exact Zt)|((with_reducible apply QV);rfl;rfl;simp only[Ue,Uf]));simp only[Uc,Uz])|(go_big_may;(first|(with_reducible first|apply NQ.mk|apply EQ.mk|exact Zf|apply Zh)|((with_reducible apply Zg);rfl;rfl)|((with_reducible apply Zl);rfl)|((with_reducible refine Zo ?_ ?_);focus((with_reducible apply ZF);rfl;rfl))|(show ZX _ _ _;rfl)|((with_reducible apply Za hs);exact Ii;rfl;(with_reducible repeat first|exact Qh|apply Qk);rfl;rfl;simp only[Uc,Uz])|((with_reducible apply Zy hs);exact Ii;rfl;rfl;(with_reducible repeat first|exact Qh|apply Qk);rfl;exact Vb rfl;rfl;clear hs;intro w hs;simp only[Yg,Uc,Uz]at hs)|((with_reducible apply ZH hs);exact Ii;rfl;rfl;(with_reducible exact Qh);rfl;rfl;rfl;rfl;clear hs;intro w hs)|((with_reducible apply Zr hs);exact Ii;rfl;clear hs;intro w b hs;simp only[Uc,Uz])|((with_reducible apply Zq hs);rfl;rfl;rfl;clear hs;intro w b hs;simp only[Uc,Uz])|((with_reducible apply Qj (k:=0) hs);exact Ii;rfl;assumption;(with_reducible repeat first|exact Qh|apply Qk);(exact(Nat.add_zero _).symm);(assumption);exact Vb rfl;rfl;rfl;simp only[Uc,Uz])|((with_reducible apply ZJ hs);exact Ii;exact Ii;rfl;assumption;rfl;(with_reducible repeat first|exact Qh|apply Qk);rfl;(assumption);rfl;simp only[Uc,Uz])|((with_reducible apply ZA hs);exact Ii;exact Ii;rfl;rfl;(with_reducible repeat first|exact Qh|apply Qk);rfl;(assumption);rfl;intro b off hat;simp only[Uc,Uz])|((with_reducible apply Zp hs);exact Ii;rfl;(with_reducible repeat first|exact Qh|apply Qk);rfl;simp only[Uc,Uz])|((with_reducible refine Wp (id:=1) (Paz [.neu 5,.neu 6,.neu 7]) hs rfl ?_ ?_);kernel_rfl;clear hs;intro w hs)|((with_reducible refine Wp (id:=3) (Paz [.neu 5,.neu 6,.neu 7,.eff 8 [0,1,2,3,4,5,6,7],.eff 9 []]) hs rfl ?_ ?_);kernel_rfl;clear hs;intro w hs)))|go_guarded|go_step))
  go_ret
  refine⟨rfl,?_⟩
  simp only[Ma,Int.natCast_add,Int.cast_ofNat_Int]
  (with_reducible apply Sat.fin hs;repeat first|exact Ql|exact Qh|apply Qb|apply Qk)
 ·have eW:(accW ws ⟨e1,e2,2,(a:Int),e5,e6,e7⟩).map eU=(ws.map eU).set a (eU e6):=by unfold accW;rw[if_pos (.inl rfl),Yk];rfl
  rw[eW]
  clear eW
  go_enter Tryz.func29,Tryz.ntmps29
  (repeat'(first|(((with_reducible apply Z8);rfl;rfl;((simp only[ev,Ue,Uf]);rfl);rfl;simp only[Uc,Uz]);(repeat(first|((with_reducible apply Z8);rfl;rfl;((simp only[ev,Ue,Uf]);rfl);rfl;simp only[Uc,Uz])|((with_reducible apply wl_pass3);rfl;rfl;simp only[Ue,Uf];simp only[Uc,Uz]))))|((with_reducible apply ZO);((simp only[ev,Ue,Uf]);rfl);((simp only[cond_true,cond_false,ev,Ue,Uf]);rfl);(with_reducible exact Zt);simp only[Uc,Uz])|(go_big_may;(first|(with_reducible first|apply NQ.mk|apply EQ.mk|exact Zf|apply Zh)|((with_reducible apply Zg);rfl;rfl)|((with_reducible apply Zl);rfl)|((with_reducible refine Zo ?_ ?_);focus((with_reducible apply ZF);rfl;rfl))|(show ZX _ _ _;rfl)|((with_reducible apply Za hs);exact Ii;rfl;(with_reducible repeat first|exact Qh|apply Qk);rfl;rfl;simp only[Uc,Uz])|((with_reducible apply Zy hs);exact Ii;rfl;rfl;(with_reducible repeat first|exact Qh|apply Qk);rfl;exact Vb rfl;rfl;clear hs;intro w hs;simp only[Yg,Uc,Uz]at hs)|((with_reducible apply ZH hs);exact Ii;rfl;rfl;(with_reducible exact Qh);rfl;rfl;rfl;rfl;clear hs;intro w hs)|((with_reducible apply Zr hs);exact Ii;rfl;clear hs;intro w b hs;simp only[Uc,Uz])|((with_reducible apply Zq hs);rfl;rfl;rfl;clear hs;intro w b hs;simp only[Uc,Uz])|((with_reducible apply ZN hs);exact Ii;rfl;rfl;assumption;(with_reducible repeat first|exact Qh|apply Qk);rfl;(assumption);exact Vb rfl;rfl;rfl;clear hs;intro w hs)|((with_reducible apply Qj (k:=0) hs);exact Ii;rfl;assumption;(with_reducible repeat first|exact Qh|apply Qk);(exact(Nat.add_zero _).symm);(assumption);exact Vb rfl;rfl;rfl;simp only[Uc,Uz])|((with_reducible apply ZJ hs);exact Ii;exact Ii;rfl;assumption;rfl;(with_reducible repeat first|exact Qh|apply Qk);rfl;(assumption);rfl;simp only[Uc,Uz])|((with_reducible apply ZA hs);exact Ii;exact Ii;rfl;rfl;(with_reducible repeat first|exact Qh|apply Qk);rfl;(assumption);rfl;intro b off hat;simp only[Uc,Uz])|((with_reducible apply Zp hs);exact Ii;rfl;(with_reducible repeat first|exact Qh|apply Qk);rfl;simp only[Uc,Uz])|((with_reducible refine Wp (id:=1) (Paz [.neu 5,.neu 6,.neu 7]) hs rfl ?_ ?_);kernel_rfl;clear hs;intro w hs)|((with_reducible refine Wp (id:=3) (Paz [.neu 5,.neu 6,.neu 7,.eff 8 [0,1,2,3,4,5,6,7],.eff 9 []]) hs rfl ?_ ?_);kernel_rfl;clear hs;intro w hs)|((with_reducible refine Wp (id:=6) (Paz [.neu 5,.neu 6,.neu 7,.neu 8,.eff 9 []]) hs rfl ?_ ?_);kernel_rfl;clear hs;intro w hs)))|go_step))
  go_ret
  refine⟨rfl,?_⟩
  simp only[Ma,Int.natCast_add,Int.cast_ofNat_Int]
  ((with_reducible apply Sat.fin hs);(focus((repeat(first|with_reducible exact Ql|with_reducible exact Qh|with_reducible apply Qb|exact Qh|with_reducible apply Qk));done)))
 ·by_cases hso:e7=e5
  ·have eW:(accW ws ⟨e1,e2,3,(a:Int),e5,e6,e7⟩).map eU=(ws.map eU).set a (eU e6):=by unfold accW;rw[if_pos (.inr ⟨rfl,hso⟩),Yk];rfl
   have n5:(e7==e5)=true:=by simpa using hso
   rw[eW]
   clear eW hso
   go_enter Tryz.func29,Tryz.ntmps29
   (repeat'(first|((with_reducible apply ZO);((simp only[ev,Ue,Uf]);rfl);((simp only[cond_true,cond_false,ev,Ue,Uf]);rfl);(first|(with_reducible exact Zt)|((with_reducible apply QV);rfl;rfl;simp only[Ue,Uf]));simp only[Uc,Uz])|(go_big_may;(first|(with_reducible first|apply NQ.mk|apply EQ.mk|exact Zf|apply Zh)|((with_reducible apply Zg);rfl;rfl)|((with_reducible apply Zl);rfl)|((with_reducible refine Zo ?_ ?_);focus((with_reducible apply ZF);rfl;rfl))|(show ZX _ _ _;rfl)|((with_reducible apply Za hs);exact Ii;rfl;(with_reducible repeat first|exact Qh|apply Qk);rfl;rfl;simp only[Uc,Uz])|((with_reducible apply Zy hs);exact Ii;rfl;rfl;(with_reducible repeat first|exact Qh|apply Qk);rfl;exact Vb rfl;rfl;clear hs;intro w hs;simp only[Yg,Uc,Uz]at hs)|((with_reducible apply ZH hs);exact Ii;rfl;rfl;(with_reducible exact Qh);rfl;rfl;rfl;rfl;clear hs;intro w hs)|((with_reducible apply Zr hs);exact Ii;rfl;clear hs;intro w b hs;simp only[Uc,Uz])|((with_reducible apply Zq hs);rfl;rfl;rfl;clear hs;intro w b hs;simp only[Uc,Uz])|((with_reducible apply ZN hs);exact Ii;rfl;rfl;assumption;(with_reducible repeat first|exact Qh|apply Qk);rfl;(assumption);exact Vb rfl;rfl;rfl;clear hs;intro w hs)|((with_reducible apply Qj (k:=0) hs);exact Ii;rfl;assumption;(with_reducible repeat first|exact Qh|apply Qk);(exact(Nat.add_zero _).symm);(assumption);exact Vb rfl;rfl;rfl;simp only[Uc,Uz])|((with_reducible apply ZJ hs);exact Ii;exact Ii;rfl;assumption;rfl;(with_reducible repeat first|exact Qh|apply Qk);rfl;(assumption);rfl;simp only[Uc,Uz])|((with_reducible apply ZA hs);exact Ii;exact Ii;rfl;rfl;(with_reducible repeat first|exact Qh|apply Qk);rfl;(assumption);rfl;intro b off hat;simp only[Uc,Uz])|((with_reducible apply Zp hs);exact Ii;rfl;(with_reducible repeat first|exact Qh|apply Qk);rfl;simp only[Uc,Uz])|((with_reducible refine Wp (id:=1) (Paz [.neu 5,.neu 6,.neu 7]) hs rfl ?_ ?_);kernel_rfl;clear hs;intro w hs)|((with_reducible refine Wp (id:=3) (Paz [.neu 5,.neu 6,.neu 7,.eff 8 [0,1,2,3,4,5,6,7],.eff 9 []]) hs rfl ?_ ?_);kernel_rfl;clear hs;intro w hs)|((with_reducible refine Wp (id:=6) (Paz [.neu 5,.neu 6,.neu 7,.neu 8,.eff 9 []]) hs rfl ?_ ?_);kernel_rfl;clear hs;intro w hs)))|go_guarded|go_step))
   go_ret
   refine⟨rfl,?_⟩
   simp only[Ma,Int.natCast_add,Int.cast_ofNat_Int]
   ((with_reducible apply Sat.fin hs);(focus((repeat(first|with_reducible exact Ql|with_reducible exact Qh|with_reducible apply Qb|exact Qh|with_reducible apply Qk));done)))
  ·have eW:accW ws ⟨e1,e2,3,(a:Int),e5,e6,e7⟩=ws:=by unfold accW;rw[if_neg (by simp;exact hso)]
   have n5:(e7==e5)=false:=by simpa using hso
   rw[eW]
   clear eW hso
   go_enter Tryz.func29,Tryz.ntmps29
   (repeat'(first|((with_reducible apply ZO);((simp only[ev,Ue,Uf]);rfl);((simp only[cond_true,cond_false,ev,Ue,Uf]);rfl);(first|(with_reducible exact Zt)|((with_reducible apply QV);rfl;rfl;simp only[Ue,Uf]));simp only[Uc,Uz])|(go_big_may;(first|(with_reducible first|apply NQ.mk|apply EQ.mk|exact Zf|apply Zh)|((with_reducible apply Zg);rfl;rfl)|((with_reducible apply Zl);rfl)|((with_reducible refine Zo ?_ ?_);focus((with_reducible apply ZF);rfl;rfl))|(show ZX _ _ _;rfl)|((with_reducible apply Za hs);exact Ii;rfl;(with_reducible repeat first|exact Qh|apply Qk);rfl;rfl;simp only[Uc,Uz])|((with_reducible apply Zy hs);exact Ii;rfl;rfl;(with_reducible repeat first|exact Qh|apply Qk);rfl;exact Vb rfl;rfl;clear hs;intro w hs;simp only[Yg,Uc,Uz]at hs)|((with_reducible apply ZH hs);exact Ii;rfl;rfl;(with_reducible exact Qh);rfl;rfl;rfl;rfl;clear hs;intro w hs)|((with_reducible apply Zr hs);exact Ii;rfl;clear hs;intro w b hs;simp only[Uc,Uz])|((with_reducible apply Zq hs);rfl;rfl;rfl;clear hs;intro w b hs;simp only[Uc,Uz])|((with_reducible apply Qj (k:=0) hs);exact Ii;rfl;assumption;(with_reducible repeat first|exact Qh|apply Qk);(exact(Nat.add_zero _).symm);(assumption);exact Vb rfl;rfl;rfl;simp only[Uc,Uz])|((with_reducible apply ZJ hs);exact Ii;exact Ii;rfl;assumption;rfl;(with_reducible repeat first|exact Qh|apply Qk);rfl;(assumption);rfl;simp only[Uc,Uz])|((with_reducible apply ZA hs);exact Ii;exact Ii;rfl;rfl;(with_reducible repeat first|exact Qh|apply Qk);rfl;(assumption);rfl;intro b off hat;simp only[Uc,Uz])|((with_reducible apply Zp hs);exact Ii;rfl;(with_reducible repeat first|exact Qh|apply Qk);rfl;simp only[Uc,Uz])|((with_reducible refine Wp (id:=1) (Paz [.neu 5,.neu 6,.neu 7]) hs rfl ?_ ?_);kernel_rfl;clear hs;intro w hs)|((with_reducible refine Wp (id:=3) (Paz [.neu 5,.neu 6,.neu 7,.eff 8 [0,1,2,3,4,5,6,7],.eff 9 []]) hs rfl ?_ ?_);kernel_rfl;clear hs;intro w hs)))|go_guarded|go_step))
   go_ret
   refine⟨rfl,?_⟩
   simp only[Ma,Int.natCast_add,Int.cast_ofNat_Int]
   (with_reducible apply Sat.fin hs;repeat first|exact Ql|exact Qh|apply Qb|apply Qk)
end
end
end Go.Proofs.YtefjbdajgakgpaaGreat
