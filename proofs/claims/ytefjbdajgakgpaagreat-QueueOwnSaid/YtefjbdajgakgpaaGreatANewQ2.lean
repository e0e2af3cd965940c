/-
  The memory and the arena at the beginning where one slot is used.
-/
import Derived.Test.YtefjbdajgakgpaaGreatANew3
import Derived.Test.YtefjbdajgakgpaaGreatAQueW
set_option linter.all false
namespace Go.Proofs.YtefjbdajgakgpaaGreat
open Go.RowKit Hp
set_option maxRecDepth 100000
set_option maxHeartbeats 4000000
section
attribute [local irreducible] Go.Calls Go.wpList
theorem word_first1 (c:Cfg)(h:c.Ok):Does Tryz.prog 55 #[c.v,.int .i64 1] emp (fun v=>ex fun s=>pu (v=.tuple #[s,.int .i64 0])*sl 79 1 ((Ja c 1).map eU) s):=by
 intro O w F hs
 have hS:=Lh (word_size c h)
 have hb10:=ZB h 10
 have hA:=Lh (word_addr c h 10 (by omega) (by omega) 0 ⟨by omega,by omega,by show 0<c.Sl;have:=h.S1;omega⟩)
 rw[if_neg (by omega)]at hA
 obtain⟨hc1,hc2⟩:=base_cells h
 have hb14:=ZB h 14
 have hs1:=h.S1
 have hs2:=h.S2
 have n1:decide (1>c.Sl)=false:=by simp;omega
 obtain⟨W0,hW0⟩:∃W0:List Int,W0=List.replicate (base c 14).toNat 0:=⟨_,rfl⟩
 have hrep:List.replicate (base c 14).toNat (Value.int .u64 0).cells.toList=W0.map eU:=by rw[hW0,List.map_replicate];rfl
 have hlen:W0.length=(base c 14).toNat:=by rw[hW0];simp
 have hl0:0<W0.length:=by omega
 have hg0:(W0.map eU)[0]? = some (eU 0):=by rw[hW0];simp[List.getElem?_replicate];omega
 have hln0:0<(W0.map eU).length:=by simp;omega
 have hfin:∀W1,W1=(if 1<c.Sl then W0.set 0 2 else W0)→Ja c 1=((QU W1 (base c 10) 1 (c.Sl.toNat-1-1)).set 3 1).set 4 1:=by
  rintro W1 rfl
  simp only[Ja]
  rw[if_pos (by omega),←hW0]
  rfl
 have hfin:=Lh hfin
 have hz:∀W1,W1=(if 1<c.Sl then W0.set 0 2 else W0)→W1.length=(base c 14).toNat:=by
  rintro W1 rfl
  split
  ·rw[List.length_set,hlen]
  ·exact hlen
 have hz:=Lh hz
 clear hW0
 by_cases hS2:1<c.Sl
 case' pos=>
  have n2:decide (1<c.Sl)=true:=by simp;omega
  obtain⟨W1,hW1,e0⟩:∃W1:List Int,W1=(if 1<c.Sl then W0.set 0 2 else W0)∧Hid ((List.map eU W0).set 0 ((eU 0).set 0 (Value.int IntKind.u64 2))=W1.map eU):=⟨_,rfl,Lh (by rw[if_pos hS2];simp[Yk])⟩
 case' neg=>
  have n2:decide (1<c.Sl)=false:=by simp;omega
  obtain⟨W1,hW1,e0⟩:∃W1:List Int,W1=(if 1<c.Sl then W0.set 0 2 else W0)∧Hid (List.map eU W0=W1.map eU):=⟨_,rfl,Lh (by rw[if_neg hS2])⟩
 all_goals(
  have hF1:=Lh (hfin.out W1 hW1)
  have hz1:=Lh (hz.out W1 hW1)
  clear hW1 hz hfin hS2
  go_enter Tryz.func55,Tryz.ntmps55
  (repeat'(first|((with_reducible apply Q5);((simp only[ev,Ue,Uf]);rfl);((simp only[cond_true,cond_false,ev,Ue,Uf]);rfl);(with_reducible exact Qc);(simp only[Uc,Uz]))|(go_big_may;(first|((show wpList _ _ _ (Oper.mk (some 2) _ _ _ _ _::_) _ _);(with_reducible apply Zo hs);rfl;rfl;rfl;clear hs;intro w bC hs;(simp only[Uc,Uz]))|(first|((with_reducible apply Za hs);exact Ii;rfl;(with_reducible repeat first|exact Qh|apply Qk);rfl;rfl;(simp only[Uc,Uz]))|((with_reducible apply Qg hs);exact Ii;rfl;(with_reducible repeat first|exact Qh|apply Qk);rfl;rfl;(simp only[Uc,Uz]))|((with_reducible apply Qi hs);exact Ii;rfl;rfl;assumption;(with_reducible exact Qh);rfl;(assumption);(exact Vb rfl);(rfl);rfl;clear hs;intro w hs)|((with_reducible apply ZH hs);exact Ii;exact Ii;rfl;rfl;(with_reducible exact Qh);(rfl);(assumption);rfl;intro b off hat;(simp only[Uc,Uz])))|(((with_reducible apply wl_mk hs);exact Ii;exact Ii;rfl;rfl;rfl;rfl;(exact(Int.toNat_of_nonneg (by omega)).symm);omega;(exact Vb rfl);rfl;clear hs;intro w v hs;(simp only[Uc,Uz]));rw[hrep]at hs)|(go_at_call 83;((refine(hS.out).at hs (by (focus((repeat(with_reducible exact Qn));done))) ?_);clear hs;intro w hs;(try simp only[Em,Ma]at hs)))|(go_at_call 67;((refine(hA.out).at hs (by (focus((repeat(with_reducible exact Qn));done))) ?_);clear hs;intro w hs;(try simp only[Em,Ma]at hs)))))|go_guarded|go_step|(dsimp only)))
  rw[e0.out]at hs
  have hlW:∀n,(QU W1 (base c 10) 1 n).length=(base c 14).toNat:=fun n=>by rw[fillW_len];exact hz1.out
  clear hg0 hln0 hl0 hrep hlen e0
  go_loopw [11] (fun q wr=>∃s:Nat,(1≤s∧(s:Int)≤c.Sl∧(s=1∨(s:Int)+1≤c.Sl))∧q=.int .i64 (s:Int)∧Sat O wr (sl 79 1 ((QU W1 (base c 10) 1 (s-1)).map eU) v*(pt bC (.cells #[.int .i64 c.T,.int .i64 c.R,.int .i64 c.Hz,.int .i64 c.Rt,.int .i64 c.Ca,.int .i64 c.Sl,.int .i64 c.Bu] 23)*F))) (fun q _=>1025-(intOf q).toNat)
  case atStart=>exact⟨1,⟨by omega,by omega,.inl rfl⟩,rfl,by ((with_reducible apply Sat.fin hs);(focus((repeat(first|with_reducible exact Ql|with_reducible apply Qb|exact Qh));done)))⟩
  case round=>
   obtain⟨s,⟨k0,k1,k2⟩,rfl,hs⟩:=hrel
   have hl:=hlW (s-1)
   by_cases hkr:(s:Int)<c.Sl-1
   ·have hlt:decide ((s:Int)<c.Sl-1)=true:=by simpa using hkr
    have hix:base c 10+(s:Int)<((QU W1 (base c 10) 1 (s-1)).length:Int):=by rw[hl];omega
    have hi2:(base c 10+(s:Int)).toNat<(QU W1 (base c 10) 1 (s-1)).length:=by omega
    obtain⟨x,hx⟩:∃x,(QU W1 (base c 10) 1 (s-1))[(base c 10+(s:Int)).toNat]? = some x:=⟨_,Yd hi2⟩
    have hgx:((QU W1 (base c 10) 1 (s-1)).map eU)[(base c 10+(s:Int)).toNat]? = some (eU x):=by rw[Ym,hx];rfl
    have hi3:(base c 10+(s:Int)).toNat<((QU W1 (base c 10) 1 (s-1)).map eU).length:=by rw[List.length_map];exact hi2
    have hw3:((s:Int)+2)%18446744073709551616=(s:Int)+2:=by omega
    have e1:Hid ((List.map eU (QU W1 (base c 10) 1 (s-1))).set (base c 10+(s:Int)).toNat [Value.int IntKind.u64 ((s:Int)+2)]=(QU W1 (base c 10) 1 (s+1-1)).map eU):=Lh (by
     obtain⟨n,rfl⟩:∃n,s=n+1:=⟨s-1,by omega⟩
     simp only[Nat.add_sub_cancel,QU,Yk]
     rw[show((1+n:Nat):Int)=((n+1:Nat):Int) by omega,show((1+n+2:Nat):Int)=((n+1:Nat):Int)+2 by omega])
    have hK:=Lh (show 1≤s+1∧((s+1:Nat):Int)≤c.Sl∧(s+1=1∨((s+1:Nat):Int)+1≤c.Sl) by omega)
    have hKs:=Lh (show s<1024 by omega)
    (repeat'(first|(go_big_may;(first|((with_reducible apply Za hs);exact Ii;rfl;(with_reducible repeat first|exact Qh|apply Qk);rfl;rfl;(simp only[Uc,Uz]))|((with_reducible apply Qi hs);exact Ii;rfl;rfl;assumption;(with_reducible exact Qh);rfl;(assumption);(exact Vb rfl);(rfl);rfl;clear hs;intro w hs)|((with_reducible apply Q7 hs);exact Ii;exact Ii;rfl;assumption;rfl;(with_reducible exact Qh);(exact(Int.toNat_of_nonneg (by omega)).symm);(assumption);rfl;(simp only[Uc,Uz]))|((with_reducible apply ZH hs);exact Ii;exact Ii;rfl;rfl;(with_reducible exact Qh);(exact(Int.toNat_of_nonneg (by omega)).symm);(assumption);rfl;intro b off hat;(simp only[Uc,Uz]))))|go_step))
    have e2:(List.map eU (QU W1 (base c 10) 1 (s-1))).set (base c 10+(s:Int)).toNat ((eU x).set 0 (Value.int IntKind.u64 ((s:Int)+2)))=(QU W1 (base c 10) 1 (s+1-1)).map eU:=e1.out
    (rw[e2]at hs)
    go_roundw
    case rel=>exact⟨s+1,hK.out,by simp,by ((with_reducible apply Sat.fin hs);(with_reducible exact Ql))⟩
    case measure=>have:=hKs.out;simp[intOf];omega
   ·have hlt:decide ((s:Int)<c.Sl-1)=false:=by simpa using hkr
    have hN:Hid (s-1=c.Sl.toNat-1-1):=Lh (by omega)
    have hl3:3<(QU W1 (base c 10) 1 (s-1)).length:=by omega
    have hl4:4<(QU W1 (base c 10) 1 (s-1)).length:=by omega
    obtain⟨y3,h3⟩:∃x,(QU W1 (base c 10) 1 (s-1))[3]? = some x:=⟨_,Yd hl3⟩
    obtain⟨y4,h4⟩:∃x,(QU W1 (base c 10) 1 (s-1))[4]? = some x:=⟨_,Yd hl4⟩
    have hg3:((QU W1 (base c 10) 1 (s-1)).map eU)[3]? = some (eU y3):=by rw[Ym,h3];rfl
    have hg4:(((QU W1 (base c 10) 1 (s-1)).map eU).set 3 [.int .u64 1])[4]? = some (eU y4):=by rw[Yf (by omega),Ym,h4];rfl
    have hm3:3<((QU W1 (base c 10) 1 (s-1)).map eU).length:=by rw[List.length_map];exact hl3
    have hm4:4<(((QU W1 (base c 10) 1 (s-1)).map eU).set 3 [.int .u64 1]).length:=by rw[List.length_set,List.length_map];exact hl4
    have e3:Hid ((((QU W1 (base c 10) 1 (s-1)).map eU).set 3 [.int .u64 1]).set 4 [.int .u64 1]=(Ja c 1).map eU):=Lh (by
     rw[hF1.out,←hN.out,Yk,Yk])
    have e4:Hid ((((QU W1 (base c 10) 1 (s-1)).map eU).set 3 ((eU y3).set 0 (.int .u64 1))).set 4 ((eU y4).set 0 (.int .u64 1))=(Ja c 1).map eU):=Lh e3.out
    clear hl3 hl4 h3 h4
    (repeat'(first|(go_big_may;(first|((with_reducible apply Za hs);exact Ii;rfl;(with_reducible repeat first|exact Qh|apply Qk);rfl;rfl;(simp only[Uc,Uz]))|((with_reducible apply Qi hs);exact Ii;rfl;rfl;assumption;(with_reducible exact Qh);rfl;(assumption);(exact Vb rfl);(rfl);rfl;clear hs;intro w hs)|((with_reducible apply Q7 hs);exact Ii;exact Ii;rfl;assumption;rfl;(with_reducible exact Qh);(rfl);(assumption);rfl;(simp only[Uc,Uz]))|((with_reducible apply ZH hs);exact Ii;exact Ii;rfl;rfl;(with_reducible exact Qh);(rfl);(assumption);rfl;intro b off hat;(simp only[Uc,Uz]))))|go_step))
    (rw[e4.out]at hs)
    (go_ret2)
    refine⟨_,rfl,?_⟩
    simp only[ZA,Ma,Zw]
    exact⟨_,rfl,by ((with_reducible apply Sat.fin hs);(focus((repeat(first|with_reducible exact Ql|with_reducible apply Qb|exact Qh|with_reducible apply Qk));done)))⟩)
end
section
attribute [local irreducible] Go.Calls
def are1 (c:Cfg):Are:=⟨c,(List.replicate c.Sl.toNat ⟨0,-1⟩).set 0 ⟨3,-1⟩,List.replicate c.T.toNat []⟩
def slM (S n:Nat):List Slt:=if n=0 then slN S 0 else (slN S n).set 0 ⟨3,-1⟩
theorem slM_len {S n:Nat}(h:n≤S):(slM S n).length=S:=by
 unfold slM
 split
 ·exact slN_len (by omega)
 ·rw[List.length_set];exact slN_len h
theorem slM_get {S n:Nat}(h:n<S):(slM S n)[n]? = some ⟨0,0⟩:=by
 unfold slM
 split
 ·rename_i e;subst e;exact slN_get h
 ·rename_i e;rw[Yf (by omega)];exact slN_get h
theorem slM_set {S n:Nat}(h:n<S)(hn:n≠0):(slM S n).set n ⟨0,-1⟩=slM S (n+1):=by
 unfold slM
 rw[if_neg hn,if_neg (by omega),List.set_comm _ _ (by omega),slN_set h]
theorem slM_set0 {S:Nat}(h:0<S):(slM S 0).set 0 ⟨3,-1⟩=slM S (0+1):=by
 unfold slM
 rw[if_pos rfl,if_neg (by omega),←slN_set h,Yl]
theorem arena_new1 (c:Cfg)(h:c.Ok) :
  Does Tryz.prog 53 #[c.v,.int .i64 1] emp (fun u=>ex fun g=>pu (u=.tuple #[.pointer (some ⟨g,0,none⟩),.int .i64 0])*AreR g (are1 c)):=by
 intro O w F hs
 have hC:=Lh (word_check c h)
 have h1:=h.S1;have h2:=h.S2;have h3:=h.T1;have h4:=h.T2
 have n1:decide (1>c.Sl)=false:=by simp;omega
 go_enter Tryz.func53,Tryz.ntmps53
 go_wp2_with (first|(first|(first|(with_reducible refine NQ.mk ?_)|((with_reducible apply Zd);rfl;rfl)|(with_reducible refine EQ.mk ?_ ?_)|(first|(with_reducible exact Zf)|((with_reducible refine Zl ?_ ?_);(focus((with_reducible apply ZC);rfl;rfl))))|(with_reducible refine Ze ?_)|(show ZW _ _ _;rfl))|((with_reducible apply Za hs);exact Ii;rfl;(with_reducible repeat first|exact Qh|apply Qk);rfl;rfl;(simp only[Uc,Uz]))|((with_reducible apply Qg hs);exact Ii;rfl;(with_reducible repeat first|exact Qh|apply Qk);rfl;rfl;(simp only[Uc,Uz]))|((with_reducible apply Zo hs);rfl;rfl;rfl;clear hs;intro w b hs;(simp only[Uc,Uz]))|((with_reducible apply Zs hs);exact Ii;rfl;(with_reducible repeat first|exact Qh|apply Qk);rfl;(simp only[Uc,Uz])))|(((with_reducible apply wl_mk hs);exact Ii;exact Ii;rfl;rfl;rfl;rfl;(exact(Int.toNat_of_nonneg (by omega)).symm);omega;(exact Vb rfl);rfl;clear hs;intro w v hs;(simp only[Uc,Uz]));(obtain⟨_,_,rfl⟩:=ZQ hs);(simp only[List.length_replicate]at hs ⊢))|(first|((with_reducible refine plt_leaf ?_);(try simp only[Yi,Yj]))|((with_reducible refine plt_one ?_);(try simp only[Yi,Yj]))|((with_reducible refine plt_two ?_);(try simp only[Yi,Yj]))|((with_reducible apply te_eff);rfl)|(with_reducible refine Two.mk ?_ ?_))|((with_reducible refine wp_tree_sat (id:=6) (.two [0,1,2,4,5] 3 [0,4,5] (.one [] 6 [0,1,2] (.one [7] 8 [] (.leaf [9]))) 6 [0,1,2] (.one [] 3 [0,4,5] (.one [7] 8 [] (.leaf [9])))) hs rfl ?_ ?_);kernel_rfl;clear hs;intro w hs)|(go_at_call 82;((refine(hC.out).at hs (by (focus((repeat(with_reducible exact Qn));done))) ?_);clear hs;intro w hs;(try simp only[Em,Ma]at hs))))
 all_goals
  have e1:List.replicate c.Sl.toNat (Value.agg #[Value.int IntKind.i64 0,Value.int IntKind.i64 0]).cells.toList=(slM c.Sl.toNat 0).map Slt.e:=by unfold slM;rw[if_pos rfl];unfold slN;rw[List.replicate_zero,List.nil_append,List.map_replicate,Nat.sub_zero];rfl
  have e2:List.replicate c.T.toNat (Value.slice none 0 0).cells.toList=List.replicate c.T.toNat [.slice none 0 0]:=rfl
  rw[e1,e2]at hs
  replace hs:=nest_nil (E0:=3) (hs.pull (A:=sl 33 1 (List.replicate c.T.toNat [.slice none 0 0]) _) (by (with_reducible repeat first|exact Qh|apply Qk)))
  clear e1 e2
  go_loopw [36] (fun q wr=>∃(n:Nat) (v1 v2:Value),n≤c.Sl.toNat∧q=.int .i64 (n:Int)∧Sat O wr (pt b (.cells #[.int .i64 c.T,.int .i64 c.R,.int .i64 c.Hz,.int .i64 c.Rt,.int .i64 c.Ca,.int .i64 c.Sl,.int .i64 c.Bu,v1,v2] 160) *
   (sl 162 2 ((slM c.Sl.toNat n).map Slt.e) v1*(nest 33 3 (List.replicate c.T.toNat []) v2*F)))) (fun q _=>1025-(intOf q).toNat)
  case atStart=>exact⟨0,_,_,by omega,rfl,by ((with_reducible apply Sat.fin hs);(with_reducible repeat first|exact Ql|exact Qh|apply Qb|apply Qk))⟩
  case round=>
   obtain⟨n,v1,v2,k1,rfl,hs⟩:=hrel
   by_cases hkr:n=c.Sl.toNat
   ·have hlt:decide ((n:Int)<(c.Sl.toNat:Int))=false:=by simp;omega
    go_wp2_with (fail)
    (go_ret2)
    refine⟨_,rfl,?_⟩
    simp only[ZA,Ma,Zw]
    refine⟨_,rfl,?_⟩
    have e3:slM c.Sl.toNat n=(are1 c).slots:=by unfold slM are1 slN;rw[hkr,if_neg (by omega)];simp
    rw[e3]at hs
    apply areR_mk
    ((with_reducible apply Sat.fin hs);(focus((repeat(first|with_reducible exact Ql|with_reducible exact Qh|with_reducible apply Qb|exact Qh));done)))
   ·have hlt:decide ((n:Int)<(c.Sl.toNat:Int))=true:=by simp;omega
    have hl:=slM_len (S:=c.Sl.toNat) (n:=n) (by omega)
    have hln:n<(slM c.Sl.toNat n).length:=by omega
    have hn0:decide ((n:Int)<0)=false:=by simp
    have hg:=slM_get (S:=c.Sl.toNat) (n:=n) (by omega)
    by_cases hn:n=0
    ·have hst0:(slM c.Sl.toNat n).set n ⟨3,-1⟩=slM c.Sl.toNat (n+1):=by rw[hn];exact slM_set0 (by omega)
     have hst0:=Lh hst0
     have hn1:decide ((n:Int)<1)=true:=by simp;omega
     have hg2:(((slM c.Sl.toNat n).map Slt.e).set n [.int .i64 0,.int .i64 (-1)])[n]? = some [.int .i64 0,.int .i64 (-1)]:=by rw[Ye (by simpa using hln)]
     have hln2:n<(((slM c.Sl.toNat n).map Slt.e).set n [.int .i64 0,.int .i64 (-1)]).length:=by simpa using hln
     generalize slM c.Sl.toNat n=X at hs hg hst0 hl hln hg2 hln2
     have hn7:=Lh hn
     clear h hn
     (repeat'(first|(go_big_may;(first|((with_reducible apply Za hs);exact Ii;rfl;(with_reducible repeat first|exact Qh|apply Qk);rfl;rfl;(simp only[Uc,Uz]))|((with_reducible apply Qi hs);exact Ii;rfl;rfl;assumption;(with_reducible exact Qh);rfl;(assumption);(exact Vb rfl);(rfl);rfl;clear hs;intro w hs)|((with_reducible apply Q4 (k:=0) hs);exact Ii;rfl;rfl;assumption;(with_reducible repeat first|exact Qh|apply Qk);(exact(Nat.add_zero _).symm);(exact Zc (by assumption));(exact Vb rfl);rfl;rfl;rfl;rfl;clear hs;intro w hs;simp only[List.take_succ_cons,List.take_zero,List.drop_succ_cons,List.drop_zero,List.cons_append,List.nil_append,List.append_nil]at hs)|((with_reducible apply Q7 hs);exact Ii;exact Ii;rfl;assumption;rfl;(with_reducible exact Qh);(rfl);(assumption);rfl;(simp only[Uc,Uz]))|((with_reducible apply ZH hs);exact Ii;exact Ii;rfl;rfl;(with_reducible repeat first|exact Qh|apply Qk);(rfl);(simp only[Wm,Ws,Wa,Wc,Wn,Wr]at *;omega);rfl;intro b off hat;(simp only[Uc,Uz]))))|go_step))
     have e5:((List.map Slt.e X).set n [Value.int IntKind.i64 0,Value.int IntKind.i64 (-1)]).set n ([Value.int IntKind.i64 0,Value.int IntKind.i64 (-1)].set 0 (Value.int IntKind.i64 3))=(slM c.Sl.toNat (n+1)).map Slt.e:=by
      rw[←hst0.out,Yk,Yl];rfl
     rw[e5]at hs
     go_roundw
     case rel=>exact⟨n+1,_,_,by omega,by simp,by ((with_reducible apply Sat.fin hs);(with_reducible repeat first|exact Ql|exact Qh|apply Qb|apply Qk))⟩
     case measure=>simp[intOf];omega
    ·have hn1:decide ((n:Int)<1)=false:=by simp;omega
     have hst:=slM_set (S:=c.Sl.toNat) (n:=n) (by omega) hn
     generalize slM c.Sl.toNat n=X at hs hg hst hl hln
     have hst:=Lh hst
     clear h
     go_wp2_with (first|((with_reducible apply Za hs);exact Ii;rfl;(with_reducible exact Qh);rfl;rfl;(simp only[Uc,Uz]))|((with_reducible apply Q4 (k:=0) hs);exact Ii;rfl;rfl;assumption;(with_reducible repeat first|exact Qh|apply Qk);(exact(Nat.add_zero _).symm);(exact Zc (by assumption));(exact Vb rfl);rfl;rfl;rfl;rfl;clear hs;intro w hs;simp only[List.take_succ_cons,List.take_zero,List.drop_succ_cons,List.drop_zero,List.cons_append,List.nil_append,List.append_nil]at hs)|((with_reducible apply ZH hs);exact Ii;exact Ii;rfl;rfl;(with_reducible repeat first|exact Qh|apply Qk);(rfl);(simp only[Wm,Ws,Wa,Wc,Wn,Wr]at *;omega);rfl;intro b off hat;(simp only[Uc,Uz])))
     go_roundw
     case rel=>exact⟨n+1,_,_,by omega,by simp,by rw[←hst.out];((try simp only[Yh,Yi,Yj,Yk,Yl]);(try simp only[Yh,Yi,Yj,Yk,Yl]at hs);((with_reducible apply Sat.fin hs);(with_reducible repeat first|exact Ql|exact Qh|apply Qb|apply Qk)))⟩
     case measure=>simp[intOf];omega
end
end Go.Proofs.YtefjbdajgakgpaaGreat
