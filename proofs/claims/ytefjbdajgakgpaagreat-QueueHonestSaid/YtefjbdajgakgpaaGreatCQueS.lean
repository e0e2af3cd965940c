import Derived.Test.YtefjbdajgakgpaaGreatCQueK
set_option linter.all false
namespace Go.Proofs.YtefjbdajgakgpaaGreat
open Go.RowKit Hp
set_option maxRecDepth 100000
section
set_option maxHeartbeats 4000000
attribute [local irreducible] Go.Calls Go.wpList
theorem word_first1 (c:Cfg)(h:c.Ok):Does Tryz.prog 55 #[c.v,.int .i64 1] emp (fun v=>ex fun s=>pu (v=.tuple #[s,.int .i64 0])*sl 79 1 ((QJ c 1).map eU) s):=by
 intro O w F hs
 have hS:=Lh (word_size c h)
 have hb10:=ZD h 10
 have hA:=Lh (word_addr c h 10 (by omega) (by omega) 0 ⟨by omega,by omega,by show 0<c.Sl;have:=h.S1;omega⟩)
 rw[if_neg (by omega)]at hA
 obtain⟨hc1,hc2⟩:=base_cells h
 have hb14:=ZD h 14
 have hs1:=h.S1
 have hs2:=h.S2
 have n1:decide (1>c.Sl)=false:=by simp;omega
 obtain⟨W0,hW0⟩:∃W0:List Int,W0=List.replicate (base c 14).toNat 0:=⟨_,rfl⟩
 have hrep:List.replicate (base c 14).toNat (Value.int .u64 0).cells.toList=W0.map eU:=by rw[hW0,List.map_replicate];rfl
 have hlen:W0.length=(base c 14).toNat:=by rw[hW0];simp
 have hl0:0<W0.length:=by omega
 have hg0:(W0.map eU)[0]? = some (eU 0):=by rw[hW0];simp[List.getElem?_replicate];omega
 have hln0:0<(W0.map eU).length:=by simp;omega
 have hfin:∀W1,W1=(if 1<c.Sl then W0.set 0 2 else W0)→QJ c 1=((Z4 W1 (base c 10) 1 (c.Sl.toNat-1-1)).set 3 1).set 4 1:=by
  rintro W1 rfl
  simp only[QJ]
  rw[if_pos (by omega),←hW0]
  rfl
 have hfin:=Lh hfin
 have hz:∀W1,W1=(if 1<c.Sl then W0.set 0 2 else W0)→W1.length=(base c 14).toNat:=by
  rintro W1 rfl
  split
  ·rw[List.length_set,hlen]
  ·exact hlen
 have hz:=Lh hz
 clear hW0
 by_cases hS2:1<c.Sl
 case' pos=>
  have n2:decide (1<c.Sl)=true:=by simp;omega
  obtain⟨W1,hW1,e0⟩:∃W1:List Int,W1=(if 1<c.Sl then W0.set 0 2 else W0)∧Hid ((List.map eU W0).set 0 ((eU 0).set 0 (Value.int IntKind.u64 2))=W1.map eU):=⟨_,rfl,Lh (by rw[if_pos hS2];simp[Yk])⟩
 case' neg=>
  have n2:decide (1<c.Sl)=false:=by simp;omega
  obtain⟨W1,hW1,e0⟩:∃W1:List Int,W1=(if 1<c.Sl then W0.set 0 2 else W0)∧Hid (List.map eU W0=W1.map eU):=⟨_,rfl,Lh (by rw[if_neg hS2])⟩
 all_goals(
  have hF1:=Lh (hfin.out W1 hW1)
  have hz1:=Lh (hz.out W1 hW1)
  clear hW1 hz hfin hS2
  go_enter Tryz.func55,Tryz.ntmps55
  (repeat'(first|((with_reducible apply ZT);((simp only[ev,Ue,Uf]);rfl);((simp only[cond_true,cond_false,ev,Ue,Uf]);rfl);(with_reducible exact Zv);simp only[Uc,Uz])|(go_big_may;(first|((show wpList _ _ _ (Oper.mk (some 2) _ _ _ _ _::_) _ _);(with_reducible apply Zq hs);rfl;rfl;rfl;clear hs;intro w bC hs;simp only[Uc,Uz])|(first|((with_reducible apply Za hs);exact Ii;rfl;(with_reducible repeat first|exact Qh|apply Qk);rfl;rfl;simp only[Uc,Uz])|((with_reducible apply ZZ hs);exact Ii;rfl;(with_reducible repeat first|exact Qh|apply Qk);rfl;rfl;simp only[Uc,Uz])|((with_reducible apply ZS hs);exact Ii;rfl;rfl;assumption;(with_reducible exact Qh);rfl;(assumption);exact Vb rfl;rfl;rfl;clear hs;intro w hs)|((with_reducible apply ZE hs);exact Ii;exact Ii;rfl;rfl;(with_reducible exact Qh);rfl;(assumption);rfl;intro b off hat;simp only[Uc,Uz]))|(((with_reducible apply wl_mk hs);exact Ii;exact Ii;rfl;rfl;rfl;rfl;(exact(Int.toNat_of_nonneg (by omega)).symm);omega;exact Vb rfl;rfl;clear hs;intro w v hs;simp only[Uc,Uz]);rw[hrep]at hs)|(go_at_call 83;((refine(hS.out).at hs (by (focus((repeat(with_reducible exact Qn));done))) ?_);clear hs;intro w hs;(try simp only[Em,Ma]at hs)))|(go_at_call 67;((refine(hA.out).at hs (by (focus((repeat(with_reducible exact Qn));done))) ?_);clear hs;intro w hs;(try simp only[Em,Ma]at hs)))))|go_guarded|go_step|(dsimp only)))
  rw[e0.out]at hs
  have hlW:∀n,(Z4 W1 (base c 10) 1 n).length=(base c 14).toNat:=fun n=>by rw[fillW_len];exact hz1.out
  clear hg0 hln0 hl0 hrep hlen e0
  go_loopw [11] (fun q wr=>∃s:Nat,(1≤s∧(s:Int)≤c.Sl∧(s=1∨(s:Int)+1≤c.Sl))∧q=.int .i64 (s:Int)∧Sat O wr (sl 79 1 ((Z4 W1 (base c 10) 1 (s-1)).map eU) v*(pt bC (.cells #[.int .i64 c.T,.int .i64 c.R,.int .i64 c.Hz,.int .i64 c.Rt,.int .i64 c.Ca,.int .i64 c.Sl,.int .i64 c.Bu] 23)*F))) (fun q _=>1025-(intOf q).toNat)
  case atStart=>exact⟨1,⟨by omega,by omega,.inl rfl⟩,rfl,by ((with_reducible apply Sat.fin hs);(focus((repeat(first|with_reducible exact Ql|with_reducible apply Qb|exact Qh));done)))⟩
  case round=>
   obtain⟨s,⟨k0,k1,k2⟩,rfl,hs⟩:=hrel
   have hl:=hlW (s-1)
   by_cases hkr:(s:Int)<c.Sl-1
   ·have hlt:decide ((s:Int)<c.Sl-1)=true:=by simpa using hkr
    have hix:base c 10+(s:Int)<((Z4 W1 (base c 10) 1 (s-1)).length:Int):=by rw[hl];omega
    have hi2:(base c 10+(s:Int)).toNat<(Z4 W1 (base c 10) 1 (s-1)).length:=by omega
    obtain⟨x,hx⟩:∃x,(Z4 W1 (base c 10) 1 (s-1))[(base c 10+(s:Int)).toNat]? = some x:=⟨_,Yd hi2⟩
    have hgx:((Z4 W1 (base c 10) 1 (s-1)).map eU)[(base c 10+(s:Int)).toNat]? = some (eU x):=by rw[Ym,hx];rfl
    have hi3:(base c 10+(s:Int)).toNat<((Z4 W1 (base c 10) 1 (s-1)).map eU).length:=by rw[List.length_map];exact hi2
    have hw3:((s:Int)+2)%18446744073709551616=(s:Int)+2:=by omega
    have e1:Hid ((List.map eU (Z4 W1 (base c 10) 1 (s-1))).set (base c 10+(s:Int)).toNat [Value.int IntKind.u64 ((s:Int)+2)]=(Z4 W1 (base c 10) 1 (s+1-1)).map eU):=Lh (by
     obtain⟨n,rfl⟩:∃n,s=n+1:=⟨s-1,by omega⟩
     simp only[Nat.add_sub_cancel,Z4,Yk]
     rw[show((1+n:Nat):Int)=((n+1:Nat):Int) by omega,show((1+n+2:Nat):Int)=((n+1:Nat):Int)+2 by omega])
    have hK:=Lh (show 1≤s+1∧((s+1:Nat):Int)≤c.Sl∧(s+1=1∨((s+1:Nat):Int)+1≤c.Sl) by omega)
    have hKs:=Lh (show s<1024 by omega)
    (repeat'(first|(go_big_may;(first|((with_reducible apply Za hs);exact Ii;rfl;(with_reducible repeat first|exact Qh|apply Qk);rfl;rfl;simp only[Uc,Uz])|((with_reducible apply ZS hs);exact Ii;rfl;rfl;assumption;(with_reducible exact Qh);rfl;(assumption);exact Vb rfl;rfl;rfl;clear hs;intro w hs)|((with_reducible apply ZU hs);exact Ii;exact Ii;rfl;assumption;rfl;(with_reducible exact Qh);(exact(Int.toNat_of_nonneg (by omega)).symm);(assumption);rfl;simp only[Uc,Uz])|((with_reducible apply ZE hs);exact Ii;exact Ii;rfl;rfl;(with_reducible exact Qh);(exact(Int.toNat_of_nonneg (by omega)).symm);(assumption);rfl;intro b off hat;simp only[Uc,Uz])))|go_step))
    have e2:(List.map eU (Z4 W1 (base c 10) 1 (s-1))).set (base c 10+(s:Int)).toNat ((eU x).set 0 (Value.int IntKind.u64 ((s:Int)+2)))=(Z4 W1 (base c 10) 1 (s+1-1)).map eU:=e1.out
    (rw[e2]at hs)
    go_roundw
    case rel=>exact⟨s+1,hK.out,by simp,by ((with_reducible apply Sat.fin hs);(with_reducible exact Ql))⟩
    case measure=>have:=hKs.out;simp[intOf];omega
   ·have hlt:decide ((s:Int)<c.Sl-1)=false:=by simpa using hkr
    have hN:Hid (s-1=c.Sl.toNat-1-1):=Lh (by omega)
    have hl3:3<(Z4 W1 (base c 10) 1 (s-1)).length:=by omega
    have hl4:4<(Z4 W1 (base c 10) 1 (s-1)).length:=by omega
    obtain⟨y3,h3⟩:∃x,(Z4 W1 (base c 10) 1 (s-1))[3]? = some x:=⟨_,Yd hl3⟩
    obtain⟨y4,h4⟩:∃x,(Z4 W1 (base c 10) 1 (s-1))[4]? = some x:=⟨_,Yd hl4⟩
    have hg3:((Z4 W1 (base c 10) 1 (s-1)).map eU)[3]? = some (eU y3):=by rw[Ym,h3];rfl
    have hg4:(((Z4 W1 (base c 10) 1 (s-1)).map eU).set 3 [.int .u64 1])[4]? = some (eU y4):=by rw[Yf (by omega),Ym,h4];rfl
    have hm3:3<((Z4 W1 (base c 10) 1 (s-1)).map eU).length:=by rw[List.length_map];exact hl3
    have hm4:4<(((Z4 W1 (base c 10) 1 (s-1)).map eU).set 3 [.int .u64 1]).length:=by rw[List.length_set,List.length_map];exact hl4
    have e3:Hid ((((Z4 W1 (base c 10) 1 (s-1)).map eU).set 3 [.int .u64 1]).set 4 [.int .u64 1]=(QJ c 1).map eU):=Lh (by
     rw[hF1.out,←hN.out,Yk,Yk])
    have e4:Hid ((((Z4 W1 (base c 10) 1 (s-1)).map eU).set 3 ((eU y3).set 0 (.int .u64 1))).set 4 ((eU y4).set 0 (.int .u64 1))=(QJ c 1).map eU):=Lh e3.out
    clear hl3 hl4 h3 h4
    (repeat'(first|(go_big_may;(first|((with_reducible apply Za hs);exact Ii;rfl;(with_reducible repeat first|exact Qh|apply Qk);rfl;rfl;simp only[Uc,Uz])|((with_reducible apply ZS hs);exact Ii;rfl;rfl;assumption;(with_reducible exact Qh);rfl;(assumption);exact Vb rfl;rfl;rfl;clear hs;intro w hs)|((with_reducible apply ZU hs);exact Ii;exact Ii;rfl;assumption;rfl;(with_reducible exact Qh);rfl;(assumption);rfl;simp only[Uc,Uz])|((with_reducible apply ZE hs);exact Ii;exact Ii;rfl;rfl;(with_reducible exact Qh);rfl;(assumption);rfl;intro b off hat;simp only[Uc,Uz])))|go_step))
    (rw[e4.out]at hs)
    (go_ret2)
    refine⟨_,rfl,?_⟩
    simp only[ZC,Ma,Zy]
    exact⟨_,rfl,by ((with_reducible apply Sat.fin hs);(focus((repeat(first|with_reducible exact Ql|with_reducible apply Qb|exact Qh|with_reducible apply Qk));done)))⟩)
end
section
set_option maxHeartbeats 4000000
attribute [local irreducible] Go.Calls
def are1 (c:Cfg):Are:=⟨c,(List.replicate c.Sl.toNat ⟨0,-1⟩).set 0 ⟨3,-1⟩,List.replicate c.T.toNat []⟩
def slM (S n:Nat):List Slt:=if n=0 then slN S 0 else (slN S n).set 0 ⟨3,-1⟩
theorem slM_len {S n:Nat}(h:n≤S):(slM S n).length=S:=by
 unfold slM
 split
 ·exact slN_len (by omega)
 ·rw[List.length_set];exact slN_len h
theorem slM_get {S n:Nat}(h:n<S):(slM S n)[n]? = some ⟨0,0⟩:=by
 unfold slM
 split
 ·rename_i e;subst e;exact slN_get h
 ·rename_i e;rw[Yf (by omega)];exact slN_get h
theorem slM_set {S n:Nat}(h:n<S)(hn:n≠0):(slM S n).set n ⟨0,-1⟩=slM S (n+1):=by
 unfold slM
 rw[if_neg hn,if_neg (by omega),List.set_comm _ _ (by omega),slN_set h]
theorem slM_set0 {S:Nat}(h:0<S):(slM S 0).set 0 ⟨3,-1⟩=slM S (0+1):=by
 unfold slM
 rw[if_pos rfl,if_neg (by omega),←slN_set h,Yl]
theorem arena_new1 (c:Cfg)(h:c.Ok) :
  Does Tryz.prog 53 #[c.v,.int .i64 1] emp (fun u=>ex fun g=>pu (u=.tuple #[.pointer (some ⟨g,0,none⟩),.int .i64 0])*AreR g (are1 c)):=by
 intro O w F hs
 have hC:=Lh (word_check c h)
 have h1:=h.S1;have h2:=h.S2;have h3:=h.T1;have h4:=h.T2
 have n1:decide (1>c.Sl)=false:=by simp;omega
 go_enter Tryz.func53,Tryz.ntmps53
 go_wp2_with (first|(with_reducible first|apply NQ.mk|apply EQ.mk|exact Zg|apply Zi)|((with_reducible apply Zh);rfl;rfl)|((with_reducible refine Zr ?_ ?_);focus((with_reducible apply ZK);rfl;rfl))|(show Qo _ _ _;rfl)|((with_reducible apply Za hs);exact Ii;rfl;(with_reducible repeat first|exact Qh|apply Qk);rfl;rfl;simp only[Uc,Uz])|((with_reducible apply ZZ hs);exact Ii;rfl;(with_reducible repeat first|exact Qh|apply Qk);rfl;rfl;simp only[Uc,Uz])|((with_reducible apply Zq hs);rfl;rfl;rfl;clear hs;intro w b hs;simp only[Uc,Uz])|((with_reducible apply Zp hs);exact Ii;rfl;(with_reducible repeat first|exact Qh|apply Qk);rfl;simp only[Uc,Uz])|(((with_reducible apply wl_mk hs);exact Ii;exact Ii;rfl;rfl;rfl;rfl;(exact(Int.toNat_of_nonneg (by omega)).symm);omega;exact Vb rfl;rfl;clear hs;intro w v hs;simp only[Uc,Uz]);(obtain⟨_,_,rfl⟩:=Qi hs);(simp only[List.length_replicate]at hs ⊢))|(first|((with_reducible refine plt_leaf ?_);(try simp only[Yi,Yj]))|((with_reducible refine plt_one ?_);(try simp only[Yi,Yj]))|((with_reducible refine plt_two ?_);(try simp only[Yi,Yj]))|((with_reducible apply te_eff);rfl)|(with_reducible refine Two.mk ?_ ?_))|((with_reducible refine wp_tree_sat (id:=6) (.two [0,1,2,4,5] 3 [0,4,5] (.one [] 6 [0,1,2] (.one [7] 8 [] (.leaf [9]))) 6 [0,1,2] (.one [] 3 [0,4,5] (.one [7] 8 [] (.leaf [9])))) hs rfl ?_ ?_);kernel_rfl;clear hs;intro w hs)|(go_at_call 82;((refine(hC.out).at hs (by (focus((repeat(with_reducible exact Qn));done))) ?_);clear hs;intro w hs;(try simp only[Em,Ma]at hs))))
 all_goals
  have e1:List.replicate c.Sl.toNat (Value.agg #[Value.int IntKind.i64 0,Value.int IntKind.i64 0]).cells.toList=(slM c.Sl.toNat 0).map Slt.e:=by unfold slM;rw[if_pos rfl];unfold slN;rw[List.replicate_zero,List.nil_append,List.map_replicate,Nat.sub_zero];rfl
  have e2:List.replicate c.T.toNat (Value.slice none 0 0).cells.toList=List.replicate c.T.toNat [.slice none 0 0]:=rfl
  rw[e1,e2]at hs
  replace hs:=nest_nil (E0:=3) (hs.pull (A:=sl 33 1 (List.replicate c.T.toNat [.slice none 0 0]) _) (by (with_reducible repeat first|exact Qh|apply Qk)))
  clear e1 e2
  go_loopw [36] (fun q wr=>∃(n:Nat) (v1 v2:Value),n≤c.Sl.toNat∧q=.int .i64 (n:Int)∧Sat O wr (pt b (.cells #[.int .i64 c.T,.int .i64 c.R,.int .i64 c.Hz,.int .i64 c.Rt,.int .i64 c.Ca,.int .i64 c.Sl,.int .i64 c.Bu,v1,v2] 160) *
   (sl 162 2 ((slM c.Sl.toNat n).map Slt.e) v1*(nest 33 3 (List.replicate c.T.toNat []) v2*F)))) (fun q _=>1025-(intOf q).toNat)
  case atStart=>exact⟨0,_,_,by omega,rfl,by (with_reducible apply Sat.fin hs;repeat first|exact Ql|exact Qh|apply Qb|apply Qk)⟩
  case round=>
   obtain⟨n,v1,v2,k1,rfl,hs⟩:=hrel
   by_cases hkr:n=c.Sl.toNat
   ·have hlt:decide ((n:Int)<(c.Sl.toNat:Int))=false:=by simp;omega
    go_wp2_with (fail)
    (go_ret2)
    refine⟨_,rfl,?_⟩
    simp only[ZC,Ma,Zy]
    refine⟨_,rfl,?_⟩
    have e3:slM c.Sl.toNat n=(are1 c).slots:=by unfold slM are1 slN;rw[hkr,if_neg (by omega)];simp
    rw[e3]at hs
    apply areR_mk
    ((with_reducible apply Sat.fin hs);(focus((repeat(first|with_reducible exact Ql|with_reducible exact Qh|with_reducible apply Qb|exact Qh));done)))
   ·have hlt:decide ((n:Int)<(c.Sl.toNat:Int))=true:=by simp;omega
    have hl:=slM_len (S:=c.Sl.toNat) (n:=n) (by omega)
    have hln:n<(slM c.Sl.toNat n).length:=by omega
    have hn0:decide ((n:Int)<0)=false:=by simp
    have hg:=slM_get (S:=c.Sl.toNat) (n:=n) (by omega)
    by_cases hn:n=0
    ·have hst0:(slM c.Sl.toNat n).set n ⟨3,-1⟩=slM c.Sl.toNat (n+1):=by rw[hn];exact slM_set0 (by omega)
     have hst0:=Lh hst0
     have hn1:decide ((n:Int)<1)=true:=by simp;omega
     have hg2:(((slM c.Sl.toNat n).map Slt.e).set n [.int .i64 0,.int .i64 (-1)])[n]? = some [.int .i64 0,.int .i64 (-1)]:=by rw[Ye (by simpa using hln)]
     have hln2:n<(((slM c.Sl.toNat n).map Slt.e).set n [.int .i64 0,.int .i64 (-1)]).length:=by simpa using hln
     generalize slM c.Sl.toNat n=X at hs hg hst0 hl hln hg2 hln2
     have hn7:=Lh hn
     clear h hn
     (repeat'(first|(go_big_may;(first|((with_reducible apply Za hs);exact Ii;rfl;(with_reducible repeat first|exact Qh|apply Qk);rfl;rfl;simp only[Uc,Uz])|((with_reducible apply ZS hs);exact Ii;rfl;rfl;assumption;(with_reducible exact Qh);rfl;(assumption);exact Vb rfl;rfl;rfl;clear hs;intro w hs)|((with_reducible apply wl_stSN (k:=0) hs);exact Ii;rfl;rfl;assumption;(with_reducible repeat first|exact Qh|apply Qk);(exact(Nat.add_zero _).symm);(exact Ze (by assumption));exact Vb rfl;rfl;rfl;rfl;rfl;clear hs;intro w hs;simp only[List.take_succ_cons,List.take_zero,List.drop_succ_cons,List.drop_zero,List.cons_append,List.nil_append,List.append_nil]at hs)|((with_reducible apply ZU hs);exact Ii;exact Ii;rfl;assumption;rfl;(with_reducible exact Qh);rfl;(assumption);rfl;simp only[Uc,Uz])|((with_reducible apply ZE hs);exact Ii;exact Ii;rfl;rfl;(with_reducible repeat first|exact Qh|apply Qk);rfl;(simp only[Wm,Ws,Wa,Wc,Wn,Wr]at *;omega);rfl;intro b off hat;simp only[Uc,Uz])))|go_step))
     have e5:((List.map Slt.e X).set n [Value.int IntKind.i64 0,Value.int IntKind.i64 (-1)]).set n ([Value.int IntKind.i64 0,Value.int IntKind.i64 (-1)].set 0 (Value.int IntKind.i64 3))=(slM c.Sl.toNat (n+1)).map Slt.e:=by
      rw[←hst0.out,Yk,Yl];rfl
     rw[e5]at hs
     go_roundw
     case rel=>exact⟨n+1,_,_,by omega,by simp,by (with_reducible apply Sat.fin hs;repeat first|exact Ql|exact Qh|apply Qb|apply Qk)⟩
     case measure=>simp[intOf];omega
    ·have hn1:decide ((n:Int)<1)=false:=by simp;omega
     have hst:=slM_set (S:=c.Sl.toNat) (n:=n) (by omega) hn
     generalize slM c.Sl.toNat n=X at hs hg hst hl hln
     have hst:=Lh hst
     clear h
     go_wp2_with (first|((with_reducible apply Za hs);exact Ii;rfl;(with_reducible exact Qh);rfl;rfl;simp only[Uc,Uz])|((with_reducible apply wl_stSN (k:=0) hs);exact Ii;rfl;rfl;assumption;(with_reducible repeat first|exact Qh|apply Qk);(exact(Nat.add_zero _).symm);(exact Ze (by assumption));exact Vb rfl;rfl;rfl;rfl;rfl;clear hs;intro w hs;simp only[List.take_succ_cons,List.take_zero,List.drop_succ_cons,List.drop_zero,List.cons_append,List.nil_append,List.append_nil]at hs)|((with_reducible apply ZE hs);exact Ii;exact Ii;rfl;rfl;(with_reducible repeat first|exact Qh|apply Qk);rfl;(simp only[Wm,Ws,Wa,Wc,Wn,Wr]at *;omega);rfl;intro b off hat;simp only[Uc,Uz]))
     go_roundw
     case rel=>exact⟨n+1,_,_,by omega,by simp,by rw[←hst.out];((try simp only[Yh,Yi,Yj,Yk,Yl]);(try simp only[Yh,Yi,Yj,Yk,Yl]at hs);(with_reducible apply Sat.fin hs;repeat first|exact Ql|exact Qh|apply Qb|apply Qk))⟩
     case measure=>simp[intOf];omega
end
section
set_option maxHeartbeats 1000000
attribute [local irreducible] Go.Calls Go.wpList
def gsq0 (c:Cfg)(km:Nat)(vs:Value):GW Zu:=⟨(haz0 c,are1 c),mch0 c.T.toNat (QJ c 1) (.map (some km)) vs,List.replicate c.T.toNat none⟩
theorem gwq0_eq {g ba bx bm:Nat}{CX:Zb}{K:Int→Option Value}{c:Cfg}{km:Nat}{vs:Value}:WR (qkT g ba c CX) bx bm K (gsq0 c km vs) =
  MchR bx bm (mch0 c.T.toNat (QJ c 1) (.map (some km)) vs)*(mp .i64 K (.map (some km))*(HazR g ba (haz0 c)*(AreR ba (are1 c)*(CX*tskR (quR g ba c) (List.replicate c.T.toNat none) (List.replicate c.T.toNat sea0))))):=by
 unfold WR
 simp only[qkT,Ma,gsq0]
 rfl
/-! ## the beginning: one slot linked, Head and Tail name it -/
theorem fill_wok1 {c:Cfg}(hok:c.Ok){ws:List Int}(hw:∀(k:Nat) (u:Int),ws[k]? = some u→WOk c k u)(u0:Nat):∀n:Nat,(n:Int)+u0+1≤c.Sl→∀(k:Nat) (u:Int),(Z4 ws (base c 10) u0 n)[k]? = some u→WOk c k u
 | 0,_,k,u,h=>hw k u h
 | n+1,hn,k,u,h=>by
  simp only[Z4]at h
  have hb:=(ZD hok 10).1
  by_cases hk:(base c 10+((u0+n:Nat):Int)).toNat=k
  ·subst hk
   rw[List.getElem?_set_self']at h
   cases hg:(Z4 ws (base c 10) u0 n)[(base c 10+((u0+n:Nat):Int)).toNat]? with
   | none=>rw[hg]at h;simp at h
   | some w=>
    rw[hg]at h;simp at h;subst h
    have:=wok_next hok (i:=((u0+n:Nat):Int)) (by omega) (by omega) (u:=((u0+n:Nat):Int)+2) ⟨by omega,by omega⟩
    simpa[adr] using this
  ·rw[Yf hk]at h
   exact fill_wok1 hok hw u0 n (by omega) k u h
theorem first_wok1 {c:Cfg}(hok:c.Ok)(k:Nat)(u:Int)(h:(QJ c 1)[k]? = some u):WOk c k u:=by
 have hS1:=hok.S1
 have e4:=Qm hok 4 (Int.le_refl 0)
 have e5:=Qm hok 5 (Int.le_refl 0)
 obtain⟨q4,q5⟩:=base45 c
 have a4:adr c 4 0=3:=by omega
 have a5:adr c 5 0=4:=by omega
 simp only[QJ]at h
 rw[if_pos (by omega)]at h
 have h0:∀(k:Nat) (u:Int),(List.replicate (base c 14).toNat (0:Int))[k]? = some u→WOk c k u:=by
  intro k u h
  have h0:u=0:=by
   have:=Yc h
   exact(List.mem_replicate.1 this).2
  subst h0
  exact⟨fun _=>⟨by omega,by omega,by omega⟩,fun _=>⟨by omega,by omega⟩,fun _ _=>⟨by omega,by omega⟩,fun _ _=>⟨by omega,by omega⟩,fun _=>⟨by omega,by omega⟩,fun _ _=>⟨by omega,by omega⟩⟩
 by_cases hk4:k=4
 ·subst hk4
  have:=wok_q5 hok u
  rw[a5]at this
  exact this
 rw[Yf (by omega)]at h
 by_cases hk3:k=3
 ·subst hk3
  have:=wok_q4 hok u
  rw[a4]at this
  exact this
 rw[Yf (by omega)]at h
 by_cases hs:c.Sl.toNat-1-1=0
 ·rw[hs]at h
  simp only[Z4]at h
  split at h
  ·rename_i hl
   by_cases hk:k=0
   ·subst hk
    rw[List.getElem?_set_self']at h
    have hu:u=2:=by
     cases hg:(List.replicate (base c 14).toNat (0:Int))[0]? with
     | none=>rw[hg]at h;simp at h
     | some w=>rw[hg]at h;simp at h;exact h.symm
    subst hu
    have:=wok_head hok (u:=2) ⟨by omega,by omega,by omega⟩
    simpa[adr,base] using this
   ·rw[Yf (by omega)]at h
    exact h0 k u h
  ·exact h0 k u h
 ·refine fill_wok1 hok ?_ 1 (c.Sl.toNat-1-1) (by omega) k u h
  intro k u h
  rw[if_pos (by omega)]at h
  by_cases hk:k=0
  ·subst hk
   have hu:u=2:=by
    rw[List.getElem?_set_self']at h
    cases hg:(List.replicate (base c 14).toNat (0:Int))[0]? with
    | none=>rw[hg]at h;simp at h
    | some w=>rw[hg]at h;simp at h;exact h.symm
   subst hu
   have:=wok_head hok (u:=2) ⟨by omega,by omega,by omega⟩
   simpa[adr,base] using this
  ·rw[Yf (by omega)]at h
   exact h0 k u h
theorem first_qm {c:Cfg}(hok:c.Ok):QM c (QJ c 1):=by
 have hS1:=hok.S1
 have e4:=Qm hok 4 (Int.le_refl 0)
 have e5:=Qm hok 5 (Int.le_refl 0)
 obtain⟨q4,q5⟩:=base45 c
 have a4:adr c 4 0=3:=by omega
 have a5:adr c 5 0=4:=by omega
 have hl:=firstW_len c 1
 have hb:14≤base c 14:=by
  obtain⟨b1,b2,b8,b9,b10,b11,b12,b13,b14,rh,rh2,b3⟩:=QP hok
  have:=hok.R1
  omega
 have w3:(QJ c 1).getD 3 0=1:=by
  have hl':=hl
  simp only[QJ]at hl' ⊢
  rw[if_pos (by omega)]at hl' ⊢
  simp only[List.length_set]at hl'
  rw[Yb,Yf (by omega),Ye (by omega)]
  rfl
 have w4:(QJ c 1).getD 4 0=1:=by
  have hl':=hl
  simp only[QJ]at hl' ⊢
  rw[if_pos (by omega)]at hl' ⊢
  simp only[List.length_set]at hl'
  rw[Yb,Ye (by simp only[List.length_set];omega)]
  rfl
 unfold QM
 rw[a4,a5,w3,w4]
 omega
theorem PM.start {c:Cfg}(hok:c.Ok)(km:Nat)(vs:Value):PM (QM c) (QI c) c 0 (gsq0 c km vs):=by
 obtain⟨p1,p2,p3,p4,p5,p6,p7⟩:=PI.start hok km vs
 have C:=p3
 refine⟨rfl,rfl,⟨⟨C.ok,rfl,rfl,firstW_len c 1,first_wok1 hok,C.log,C.ahead,C.shifts,?_,C.held,C.hin,C.lists,C.tot,C.ins,C.caches,C.clens,C.cins⟩,first_qm hok⟩,by simp[gsq0],p5,p6,?_⟩
 ·have:=C.slots
  simp[gsq0,are1]
 ·intro t k se hk
  simp only[gsq0,List.getElem?_replicate]at hk
  split at hk<;>simp at hk
def gplayR {τ:Type}(J:GW τ→Prop)(u:Value):Zb:=ex fun x=>ex fun v=>pu (J x∧u=.tuple #[v,.int .i64 0])*RunR x.m.calls x.m.mem.log x.m.shifts x.m.mem.words v
set_option maxHeartbeats 4000000 in
theorem que_playR (c:Cfg)(h:c.Ok)(v:Value)(mvs:List Mv)(hl:mvs.length≤65536)(J:Nat→GW Zu→Prop)
  (J0:∀km vs,J 0 (gsq0 c km vs))
  (Jm:∀CX bh ba k y mv,mvs[k]? = some mv→J k y→MayMove (qkT bh ba c CX) (KOkQ c c.T.toNat) c.T.toNat y mv)
  (Js:∀CX bh ba x z k y mv b y',mvs[k]? = some mv→J k y→JL (qkT bh ba c CX) (jFnQ x z) qTask y mv b y'→J (k+1) y')
  (Jr:∀y,J mvs.length y→y.m.calls.length<4294967296∧y.m.shifts.length<4294967296∧y.m.mem.words.length<4294967296∧y.m.mem.log.length<4294967295∧0<y.m.seats.length) (A:Zb) (hRd:Rd A 4 (mvs.map Mv.e) v) :
  Does Tryz.prog 21 #[c.v,v] A (fun u=>gplayR (J mvs.length) u*A):=by
 intro O w F hs
 have hA:=Lh (arena_new1 c h)
 have hF:=Lh (word_first1 c h)
 have hH:=Lh (fun ba=>hazard_new ba (are1 c) h)
 have hK:=Lh (fun bh ba=>haz_kit bh ba (haz0 c))
 have hK2:=Lh (fun bh ba=>que_kit bh ba (haz0 c) (are1 c) h)
 have hM:=machine_new c.T.toNat
 have hT1:=h.T1
 have hT2:=h.T2
 have hS1:=h.S1
 have hTn:((c.T.toNat:Nat):Int)=c.T:=Int.toNat_of_nonneg (by omega)
 have hbl:=base14_le h
 rw[hTn]at hM
 have hM:=Lh (fun v km=>hM v km (QJ c 1) (by omega) (by omega) (by rw[firstW_len];omega))
 obtain⟨a0,c0,rfl⟩:=hRd.len
 simp only[List.length_map]at hRd hs ⊢
 have hRd:=Lh hRd
 have n1:decide ((mvs.length:Int)>65536)=false:=by simp;omega
 have m1:max c.Sl 0=c.Sl:=by omega
 have m2:min 1 c.Sl=1:=by omega
 have J0:=Lh J0
 have Jm:=Lh Jm
 have Js:=Lh Js
 have Jr:=Lh Jr
 go_enter Tryz.func21,Tryz.ntmps21
 (repeat'(first|(go_big_may;(first|(with_reducible first|apply NQ.mk|apply EQ.mk|exact Zg|apply Zi)|((with_reducible apply Zh);rfl;rfl)|((with_reducible apply Zm);rfl)|((with_reducible refine Zr ?_ ?_);focus((with_reducible apply ZK);rfl;rfl))|(show Qo _ _ _;rfl)|((with_reducible apply Za hs);exact Ii;rfl;(with_reducible repeat first|exact Qh|apply Qk);rfl;rfl;simp only[Uc,Uz])|((with_reducible apply ZZ hs);exact Ii;rfl;(with_reducible repeat first|exact Qh|apply Qk);rfl;rfl;simp only[Uc,Uz])|((with_reducible apply Zo hs);exact Ii;rfl;clear hs;intro w b hs;simp only[Uc,Uz])|((with_reducible apply Zq hs);rfl;rfl;rfl;clear hs;intro w b hs;simp only[Uc,Uz])|(go_at_call 53;((refine(hA.out).at hs (by (focus((repeat(with_reducible exact Qn));done))) ?_);clear hs;intro v w hs;(try simp only[Em,Ma]at hs));(simp only[ZC,Ma,Zy]at hs);(obtain⟨ba,rfl,hs⟩:=hs))|(go_at_call 55;((refine(hF.out).at hs (by (focus((repeat(with_reducible exact Qn));done))) ?_);clear hs;intro v w hs;(try simp only[Em,Ma]at hs));(simp only[ZC,Ma,Zy]at hs);(obtain⟨vw,rfl,hs⟩:=hs))|(go_at_call 54;((refine((hH.out ba)).at hs (by (with_reducible exact Qh)) ?_);clear hs;intro g w hs;(try simp only[Em,Ma]at hs)))|(go_at_call 58;((refine((hK.out g ba)).at hs (by (focus((repeat(first|exact Qh|with_reducible apply Qk));done))) ?_);clear hs;intro v w hs;(try simp only[Em,Ma]at hs));(simp only[ZC,Ma]at hs);(obtain⟨x,hs⟩:=hs);(obtain⟨km1,rfl⟩:=mp_some hs))|(go_at_call 27;((refine((hK2.out g ba)).at hs (by (with_reducible repeat first|exact Qh|apply Qb|apply Qk)) ?_);clear hs;intro v w hs;(try simp only[Em,Ma]at hs));(simp only[ZC,Ma]at hs);(obtain⟨z,hs⟩:=hs);(obtain⟨km2,rfl⟩:=mp_some hs))|((with_reducible apply wl_bs2 hs);exact Ii;exact Ii;rfl;rfl;rfl;rfl;rfl;rfl;rfl;clear hs;intro w b2 hs;simp only[Uc,Uz])|(go_at_call 57;((refine((machine_join (.map (some km1)) (.map (some km2)) _ (kitFn x) (queFn z))).at hs (by (with_reducible repeat first|exact Qh|apply Qb|apply Qk)) ?_);clear hs;intro v w hs;(try simp only[Em,Ma]at hs));(obtain⟨km,rfl⟩:=mp_some hs))|(go_at_call 56;((refine((hM.out vw km)).at hs (by (with_reducible repeat first|exact Qh|apply Qk)) ?_);clear hs;intro v w hs;(try simp only[Em,Ma]at hs));(simp only[ZC,Ma,Zy]at hs);(obtain⟨bx,bm,vs,rfl,hs⟩:=hs))|((with_reducible refine Wp (id:=8) [.neu 0,.neu 1,.neu 2,.neu 3,.neu 5,.eff 4 [0,1,2,5],.eff 6 [0,1,2],.eff 7 [0,1,2],.eff 8 [0,1,2],.eff 9 [],.neu 10,.neu 11,.neu 12,.neu 13,.neu 14] hs rfl ?_ ?_);kernel_rfl;clear hs;intro w hs)))|go_step|(dsimp only)))
 replace hs:=tsk_nones (R:=quR g ba c) hs c.T.toNat
 have hs2:Sat O w (WR (qkT g ba c (capR g x*qcapR g c z)) bx bm (jFnQ x z) (gsq0 c km vs)*(pt b (.cells #[.slice none 0 0,.slice none 0 0,.slice none 0 0,.slice none 0 0] 30)*(A*F))):=by
  rw[gwq0_eq]
  unfold jFnQ
  simp only[Ma]
  ((with_reducible apply Sat.fin hs);(focus((repeat(first|with_reducible exact Ql|with_reducible exact Qh|with_reducible apply Qb|exact Qh|with_reducible apply Qk));done)))
 clear hs
 have hs:=hs2
 clear hs2
 have hGood:=Lh (qkT_good g ba c (capR g x*qcapR g c z))
 have hKO:=Lh (qkT_kit g ba c c.T.toNat x z)
 have hJ0:=J0.out km vs
 go_loopw [13,57] (fun _ q wr=>∃(n:Nat) (y:GW Zu),n≤mvs.length∧q=.int .i64 (n:Int)∧J n y∧Sat O wr (WR (qkT g ba c (capR g x*qcapR g c z)) bx bm (jFnQ x z) y*(pt b (.cells #[.slice none 0 0,.slice none 0 0,.slice none 0 0,.slice none 0 0] 30)*(A*F)))) (fun _ q _=>65537-(intOf q).toNat)
 case atStart=>exact⟨0,_,by omega,rfl,hJ0,hs⟩
 case round=>
  obtain⟨n,y,k1,rfl,hJ,hs⟩:=hrel
  by_cases hkr:n=mvs.length
  ·subst hkr
   obtain⟨r1,r2,r3,r4,r5⟩:=Jr.out y hJ
   have hR:=Lh (mach_run bx bm y.m r5 r1 r2 r3 r4)
   unfold WR at hs
   simp only[Ma]at hs
   have hlt:decide ((mvs.length:Int)<(mvs.length:Int))=false:=by simp
   have hJ:=Lh hJ
   go_wp2_with (first|((with_reducible apply ZG hs);exact Ii;rfl;rfl;(with_reducible repeat first|exact Qh|apply Qk);rfl;rfl;rfl;rfl;clear hs;intro w hs)|(go_at_call 60;((refine(hR.out).at hs (by (with_reducible exact Qh)) ?_);clear hs;intro v w hs;(try simp only[Em,Ma]at hs));(unfold RunR at hs);(simp only[ZC,Ma,Zy]at hs);(obtain⟨rc,rt,rs,rw_,rfl,hs⟩:=hs);(obtain⟨_,_,rfl⟩:=Qi (hs.pull (A:=sl 59 9 _ rc) (by (with_reducible exact Qh))));(obtain⟨_,_,rfl⟩:=Qi (hs.pull (A:=sl 87 7 _ rt) (by (with_reducible repeat first|exact Qh|apply Qk))));(obtain⟨_,_,rfl⟩:=Qi (hs.pull (A:=sl 102 5 _ rs) (by (with_reducible repeat first|exact Qh|apply Qk))));(obtain⟨_,_,rfl⟩:=Qi (hs.pull (A:=sl 79 1 _ rw_) (by (with_reducible repeat first|exact Qh|apply Qk))));(simp only[List.length_map]at hs ⊢)))
   ((try simp only[Exit.inBlock,Exit.then]);(with_reducible apply bodyPost_ret);((with_reducible apply results_ct);rfl;rfl;(with_reducible apply loadF hs);exact Ii;(with_reducible exact Qh);rfl;rfl))
   refine⟨_,rfl,?_⟩
   unfold gplayR RunR
   simp only[ZC,Ma,Zy]
   refine⟨y,_,⟨hJ.out,rfl⟩,_,_,_,_,rfl,?_⟩
   (with_reducible apply Sat.fin hs;repeat first|exact Ql|exact Qh|apply Qb|apply Qk)
  ·have hlt:decide ((n:Int)<(mvs.length:Int))=true:=by simp;omega
   have hlt2:decide (n<mvs.length)=true:=by simp;omega
   have hln:n<(mvs.map Mv.e).length:=by simp;omega
   obtain⟨mv,hmv⟩:∃mv,mvs[n]? = some mv:=⟨_,Yd (by omega)⟩
   have hgv:(mvs.map Mv.e)[n]? = some (Mv.e mv):=by simp[hmv]
   have hD:=Lh (move_any (bx:=bx) (bm:=bm) hGood.out hKO.out y mv (Jm.out _ g ba n y mv hmv hJ))
   have hJ:=Lh hJ
   go_wp2_with (first|((with_reducible apply ZZ hs);exact Ii;rfl;(with_reducible exact Qh);rfl;rfl;simp only[Uc,Uz])|((with_reducible apply ZG hs);exact Ii;rfl;rfl;(with_reducible exact Qh);rfl;rfl;rfl;rfl;clear hs;intro w hs)|((with_reducible apply Zo hs);exact Ii;rfl;clear hs;intro w b hs;simp only[Uc,Uz])|((with_reducible apply wl_ir hRd.out);exact Ii;exact Ii;rfl;rfl;rfl;(assumption);rfl;intro ao hat;simp only[Uc,Uz])|((with_reducible apply wl_lr hs hRd.out);exact Ii;assumption;rfl;(with_reducible repeat first|exact Qh|apply Qk);(assumption);rfl;simp only[Uc,Uz])|(go_at_call 59;(refine(hD.out).at hs (by with_reducible repeat first|exact Qh|apply Qk) ?_;clear hs;intro v w hs;(try simp only[Em,Ma]at hs));(replace hs:=moved_iff.1 hs);(obtain⟨bb,y',⟨rfl,hmt⟩,hs⟩:=hs)))
   go_roundw
   case rel=>exact⟨n+1,y',by omega,by simp,Js.out _ g ba x z n y mv bb y' hmv hJ.out hmt,by (with_reducible apply Sat.fin hs;repeat first|exact Ql|exact Qh|apply Qb|apply Qk)⟩
   case measure=>simp[intOf];omega
end
section
set_option maxHeartbeats 1000000
attribute [local irreducible] Go.Calls
def begQ (n:Int)(_:Nat)(cl:Cll)(_:Sea)(k:Zu):Prop:=cl.begin_<n∧hzQ cl.begin_ n k
theorem begQ_mono {n n':Int}(hn:n≤n')(t:Nat)(cl:Cll)(se:Sea)(k:Zu)(h:begQ n t cl se k):begQ n' t cl se k:=⟨by have:=h.1;omega,hzQ_mono h.2 hn⟩
section
variable {τ:Type}{y:GW τ}
theorem RunG.mono {B B':Nat→Cll→Sea→τ→Prop}{E:Cll→Prop}(R:RunG B E y)(h:∀t cl se k,B t cl se k→B' t cl se k):RunG B' E y:=by
 refine⟨fun t k se hk hse => ?_,R.ended⟩
 obtain⟨i,cl,a1,a2,a3,a4,a5⟩:=R.busy t k se hk hse
 exact⟨i,cl,a1,a2,a3,a4,h _ _ _ _ a5⟩
end
theorem hzQ_rdy {h:Haz}{a:Are}{m:Mch}{i t:Nat}{cl cl':Cll}{se:Sea}{k:Zu}(hp:hzQ cl.begin_ m.now k):hzQ cl.begin_ m.now (QR (h,a) m i t cl' se k).2.2.2:=by
 cases k with
 | hz k=>exact rdp_rdy (cl:=cl) hp
 | _=>trivial
theorem hzQ_stp {h:Haz}{a:Are}{m:Mch}{i t:Nat}{cl cl':Cll}{se:Sea}{k:Zu}(hb:cl.begin_<m.now)(hp:hzQ cl.begin_ m.now k):hzQ cl.begin_ m.now (Jb (h,a) m i t cl' se k).2.2.2:=by
 cases k with
 | hz k=>exact rdp_stp hb hp
 | _=>trivial
structure QB (n:Nat)(y:GW Zu):Prop where
 run:RunG (begQ n) (fun _=>True) y
structure QStp (c:Cfg)(T:JK (Haz×Are) Zu)(n:Nat)(y:GW Zu)(t i:Nat)(cl:Cll)(se:Sea)(k:Zu)(r1 r2:GR Zu):Prop where
 beg:cl.begin_<n
 hp:hzQ cl.begin_ n k
 hp1:hzQ cl.begin_ n r1.2.2.2
 hp2:hzQ cl.begin_ n r2.2.2.2
 end1:cl.end_ = -1
 thr:cl.thread=(t:Int)
 ci:Z6 (Qd y t i se) i t cl { se with ready:=true }
 now0:(Qd y t i se).now=(n:Int)
 now1:r1.2.2.1.now=(n:Int)
section
variable {c:Cfg}{bh ba:Nat}{CX:Zb}{n:Nat}{y:GW Zu}{t i:Nat}{cl:Cll}{se:Sea}{k:Zu}{r1 r2:GR Zu}
theorem QB.stp (R:QB n y)(P:PM (QM c) (QI c) c n y)(G:GStepM (QM c) (qkT bh ba c CX) (QI c) c n y t i cl se k r1 r2):QStp c (qkT bh ba c CX) n y t i cl se k r1 r2:=by
 obtain⟨i0,cl0,a1,a2,a3,a4,hb,hp⟩:=R.run.busy t k se G.hk G.hse
 have hi0:i0=i:=by have:=G.hl;omega
 subst hi0
 have hcl:cl0=cl:=by have:=G.hc;rw[a2]at this;cases this;rfl
 subst hcl
 have hlt:=(List.getElem?_eq_some_iff.1 G.hse).1
 have hci:Z6 (Qd y t i0 se) i0 t cl0 { se with ready:=true }:=⟨rfl,G.hc,by simp[Qd,Mch.prep,Wst.tick,hlt]⟩
 have hmv:y.m.moves=(n:Int):=P.moves
 have hnow0:(Qd y t i0 se).now=(n:Int):=hmv
 have hnow1:r1.2.2.1.now=(n:Int):=by rw[G.h1.frame.now];exact hmv
 have H1:hzQ cl0.begin_ n r1.2.2.2:=by
  rcases G.rdy with⟨hf,e⟩|⟨_,e⟩
  ·have e':r1=QR (y.s.1,y.s.2) (Qd y t i0 se) i0 t cl0 { se with ready:=true } k:=e
   rw[e',←hnow0]
   exact hzQ_rdy (by rw[hnow0];exact hp)
  ·rw[e];exact hp
 have H2:hzQ cl0.begin_ n r2.2.2.2:=by
  rcases G.stp with⟨hb1,e⟩|⟨hb1,z1,q1,v1,hcu,e⟩
  ·rw[e];exact H1
  ·have e':r2=Jb (r1.2.1.1,r1.2.1.2) r1.2.2.1 i0 t { cl0 with point:=z1 } { se with ready:=true,kind:=q1,value:=v1 } r1.2.2.2:=e
   rw[e',←hnow1]
   exact hzQ_stp (cl:=cl0) (by rw[hnow1];exact hb) (by rw[hnow1];exact H1)
 exact⟨hb,hp,H1,H2,a4,a3,hci,hnow0,hnow1⟩
theorem QB.step (R:QB n y)(P:PM (QM c) (QI c) c n y)(G:GStepM (QM c) (qkT bh ba c CX) (QI c) c n y t i cl se k r1 r2):QB (n+1) (Qc y t i r2):=by
 obtain⟨z,q,v,O⟩:=G.out P
 have S:=R.stp P G
 refine⟨(R.run.mono (begQ_mono (n':=((n+1:Nat):Int)) (by omega))).stepM P G O (fun _ => ?_) (fun _=>trivial)⟩
 exact⟨by have:=S.beg;simp only[];omega,hzQ_mono S.hp2 (by omega)⟩
theorem QB.mw (R:QB n y)(hn:n<65536)(P:PM (QM c) (QI c) c n y)(G:GStepM (QM c) (qkT bh ba c CX) (QI c) c n y t i cl se k r1 r2):QM c (Qc y t i r2).m.mem.words:=by
 obtain⟨z,q,v,O⟩:=G.out P
 have S:=R.stp P G
 rw[O.mem]
 rcases G.stp with⟨hb1,e⟩|⟨hb1,z1,q1,v1,hcu,e⟩
 ·rw[e];exact G.h1.core.mw
 ·have e':r2=Jb (r1.2.1.1,r1.2.1.2) r1.2.2.1 i t { cl with point:=z1 } { se with ready:=true,kind:=q1,value:=v1 } r1.2.2.2:=e
  rw[e']
  exact qm_stp (i:=i) (cl:={ cl with point:=z1 }) (se:={ se with ready:=true,kind:=q1,value:=v1 }) G.h1.core (by omega) G.htT (G.h1.fin hb1) hcu (by rw[S.now1];exact S.beg) (by rw[S.now1];exact S.hp1) G.used1
end
def qOps (o:Int):Prop:=(20≤o∧o≤25)∨o=40∨o=41
structure JW (c:Cfg)(T:JK (Haz×Are) Zu)(J:Nat→GW Zu→Prop):Prop where
 tick:∀n y,n<65536→PM (QM c) (QI c) c n y→QB n y→J n y→J (n+1) y.tick
 beg:∀n y mv t k v vc,n<65536→PM (QM c) (QI c) c n y→QB n y→J n y→mv.thread=((t:Nat):Int)→(t:Int)<c.T→qOps mv.op→y.tasks[t]? = some none→qTask y.s t mv=some k→J (n+1) ⟨y.s,Zz y.m t mv v vc,y.tasks.set t (some k)⟩
 step:∀n y t i cl se k r1 r2,n<65536→PM (QM c) (QI c) c n y→QB n y→GStepM (QM c) T (QI c) c n y t i cl se k r1 r2→PM (QM c) (QI c) c (n+1) (Qc y t i r2)→QB (n+1) (Qc y t i r2)→J n y→J (n+1) (Qc y t i r2)
theorem JW.jm {c:Cfg}{bh ba:Nat}{CX:Zb}{J:Nat→GW Zu→Prop}(hJ:JW c (qkT bh ba c CX) J):JM (QM c) (qkT bh ba c CX) qTask (QI c) c qOps (fun n y=>QB n y∧J n y) where
 tick:=fun n y hn P j=>⟨⟨(j.1.run.mono (begQ_mono (by omega))).tick⟩,hJ.tick n y hn P j.1 j.2⟩
 beg:=by
  intro n y mv t k v vc hn P j ht htT hop hk hm
  have hmv:y.m.moves=(n:Int):=P.moves
  exact⟨⟨(j.1.run.mono (begQ_mono (by omega))).begin ht hk (P.tasks.trans P.seats.symm) ⟨by simp only[];omega,hzQ_made hm⟩⟩,hJ.beg n y mv t k v vc hn P j.1 j.2 ht htT hop hk hm⟩
 mw:=fun n y t i cl se k r1 r2 hn P G j=>j.1.mw hn P G
 step:=fun n y t i cl se k r1 r2 hn P G P' j=>⟨j.1.step P G,hJ.step n y t i cl se k r1 r2 hn P j.1 G P' (j.1.step P G) j.2⟩
theorem QB.start (c:Cfg)(km:Nat)(vs:Value):QB 0 (gsq0 c km vs):=by
 have hk:∀(t:Nat) (k:Zu),(gsq0 c km vs).tasks[t]? = some (some k)→False:=by
  intro t k hk
  simp only[gsq0,List.getElem?_replicate]at hk
  split at hk<;>simp at hk
 exact⟨⟨fun t k se h _=>(hk t k h).elim,fun cl hcl=>by simp[gsq0,mch0]at hcl⟩⟩
theorem jw_true (c:Cfg)(T:JK (Haz×Are) Zu):JW c T (fun _ _=>True):=⟨fun _ _ _ _ _ _=>trivial,fun _ _ _ _ _ _ _ _ _ _ _ _ _ _ _ _=>trivial,fun _ _ _ _ _ _ _ _ _ _ _ _ _ _ _ _=>trivial⟩
theorem que_playJ (c:Cfg)(h:c.Ok)(v:Value)(mvs:List Mv)(hl:mvs.length≤65536)(J:Nat→GW Zu→Prop)(J0:∀km vs,J 0 (gsq0 c km vs))
  (hJ:∀CX bh ba x z k y mv b y',mvs[k]? = some mv→PM (QM c) (QI c) c k y∧QB k y→J k y→JL (qkT bh ba c CX) (jFnQ x z) qTask y mv b y'→J (k+1) y') (A:Zb) (hRd:Rd A 4 (mvs.map Mv.e) v) :
  Does Tryz.prog 21 #[c.v,v] A (fun u=>gplayR (fun y=>(PM (QM c) (QI c) c mvs.length y∧QB mvs.length y)∧J mvs.length y) u*A):=by
 have hT2:=h.T2
 refine que_playR c h v mvs hl (fun k y=>(PM (QM c) (QI c) c k y∧QB k y)∧J k y) (fun km vs=>⟨⟨PM.start h km vs,QB.start c km vs⟩,J0 km vs⟩) ?_ ?_ ?_ A hRd
 ·intro CX bh ba k y mv hmv hj
  have:=(List.getElem?_eq_some_iff.1 hmv).1
  exact hj.1.1.may core_kokQ (qkT_good bh ba c CX) (qk_inv c _ _) (by omega) mv
 ·intro CX bh ba x z k y mv b y' hmv hj hm
  have:=(List.getElem?_eq_some_iff.1 hmv).1
  have M:=(jw_true c (qkT bh ba c CX)).jm.moves (qkT_good bh ba c CX) (qk_inv c _ _) (fun o=>(jFnQ_known x z o).1) hj.1.1 ⟨hj.1.2,trivial⟩ (by omega) hm
  exact⟨⟨M.1,M.2.1⟩,hJ CX bh ba x z k y mv b y' hmv hj.1 hj.2 hm⟩
 ·intro y hj
  obtain⟨p1,p2,p3,p4,p5,p6,p7⟩:=hj.1.1
  have:=p3.log
  have:=p3.shifts
  have:=p3.words
  have:=base14_le h
  have:=h.T1
  omega
theorem JW.moves {c:Cfg}{bh ba:Nat}{CX:Zb}{J:Nat→GW Zu→Prop}(hJ:JW c (qkT bh ba c CX) J){x:Caps}{z:QCaps}{n:Nat}{y y':GW Zu}{mv:Mv}{b:Bool}(P:PM (QM c) (QI c) c n y∧QB n y)(j:J n y)(hn:n<65536)(h:JL (qkT bh ba c CX) (jFnQ x z) qTask y mv b y'):J (n+1) y' :=
 (hJ.jm.moves (qkT_good bh ba c CX) (qk_inv c _ _) (fun o=>(jFnQ_known x z o).1) P.1 ⟨P.2,j⟩ hn h).2.2
theorem que_playW (c:Cfg)(h:c.Ok)(v:Value)(mvs:List Mv)(hl:mvs.length≤65536)(J:Nat→GW Zu→Prop)(J0:∀km vs,J 0 (gsq0 c km vs))
  (hJ:∀bh ba CX,JW c (qkT bh ba c CX) J) (A:Zb) (hRd:Rd A 4 (mvs.map Mv.e) v) :
  Does Tryz.prog 21 #[c.v,v] A (fun u=>gplayR (fun y=>(PM (QM c) (QI c) c mvs.length y∧QB mvs.length y)∧J mvs.length y) u*A):=
 que_playJ c h v mvs hl J J0 (fun CX bh ba x z k y mv b y' hmv P j hm=>(hJ bh ba CX).moves P j (by have:=(List.getElem?_eq_some_iff.1 hmv).1;omega) hm) A hRd
end
end Go.Proofs.YtefjbdajgakgpaaGreat
