/-
  reclaimlaw06.byPoint, walked.
-/
import Derived.Test.YtjagadldibbbbaaGreatDStkM
set_option linter.all false
namespace Go.Proofs.YtjagadldibbbbaaGreat
open Go.RowKit Hp
set_option maxRecDepth 100000
set_option maxHeartbeats 4000000
attribute [local irreducible] Go.Calls Go.wpList
section
theorem law_byp (cs:List Cll)(M:List Nat)(hl:cs.length<100000000)(hM:BypQ cs M)(a0:Option Addr)(c0:Nat):Does Tryz.prog 11 #[.slice a0 cs.length c0]
  (sl 42 9 (cs.map Cll.e) (.slice a0 cs.length c0)) (fun u=>sl 3 1 (M.map eN) u*sl 42 9 (cs.map Cll.e) (.slice a0 cs.length c0)):=by
 intro O w F hs
 have hs:=Q8 (E:=3) (sz:=1) hs (by omega)
 have hD:=Lh hM.ptd
 have hM:=Lh hM
 go_enter Tryz.func11,Tryz.ntmps11
 (repeat'(go_step))
 go_loopw [3,4,5] (fun v3 q _ wr=>∃(k:Nat) (L:List Nat) (ab:Option Addr) (nb:Nat),k≤cs.length∧q=.int .i64 (k:Int)∧v3=.slice ab L.length nb∧Hid (BpI cs k L) ∧
  Sat O wr (sl 3 1 (L.map eN) (.slice ab L.length nb)*(sl 42 9 (cs.map Cll.e) (.slice a0 cs.length c0)*F))) (fun _ q _ _=>cs.length+1-(intOf q).toNat)
 case atStart=>exact⟨0,[],none,0,by omega,rfl,rfl,Lh ⟨List.Pairwise.nil,by simp,by simp⟩,by ((with_reducible apply Sat.fin hs);(focus((repeat(first|with_reducible exact Ql|with_reducible apply Qb|exact Qh));done)))⟩
 case round=>
  obtain⟨k,L,ab,nb,k1,rfl,rfl,hL,hs⟩:=hrel
  by_cases hkr:k=cs.length
  ·subst hkr
   have hlt:decide ((cs.length:Int)<(cs.length:Int))=false:=by simp
   have hlt2:decide (cs.length<cs.length)=false:=by simp
   have hE:=Lh (hL.out.fin hM.out)
   clear hL hD hM
   (repeat'(first|(go_big_may;((with_reducible apply Zw hs);exact Ii;rfl;(with_reducible repeat first|exact Qh|apply Qk);rfl;(simp only[Uc,Uz])))|go_step))
   (go_ret)
   refine⟨_,rfl,?_⟩
   rw[←hE.out]
   ((with_reducible apply Sat.fin hs);(focus((repeat(first|with_reducible exact Ql|with_reducible exact Qh|with_reducible apply Qb|exact Qh));done)))
  ·have hlt:decide ((k:Int)<(cs.length:Int))=true:=by simp;omega
   have hlt2:decide (k<cs.length)=true:=by simp;omega
   have hln:k<(cs.map Cll.e).length:=by simp;omega
   obtain⟨x,hx⟩:∃x,cs[k]? = some x:=⟨_,Yd (by omega)⟩
   have hk2:=Lh (show k+1≤cs.length by omega)
   have hn65:k<4294967296:=by omega
   have hLl:L.length<4294967295:=by have:=hL.out.len;omega
   by_cases hm:Mine x
   ·have hY:=Lh (law_mine_yes x hm)
    have hdone:=Lh (fun(a:Nat) (B:List Nat) (h:BpG cs k L a B) h0=>h.done hL.out hx hm h0)
    have hne:=Lh (fun(a u:Nat) (z:Cll) (hu:L[a]? = some u) (hz:cs[u]? = some z)=>show z.point≠x.point from by
     obtain⟨h1,z',h2,h3⟩:=(hL.out.mem u).1 (Yc hu)
     rw[hz]at h2;cases h2
     exact hD.out u k _ x hz hx h3 hm (by omega))
    have hin:=Lh (fun(a u:Nat) (hu:L[a]? = some u)=>show ∃z,cs[u]? = some z from by
     obtain⟨h1,z',h2,h3⟩:=(hL.out.mem u).1 (Yc hu)
     exact⟨z',h2⟩)
    have hxp:=Lh (ptA_at hx)
    obtain⟨x1,x2,x3,x4,x5,x6,x7,x8,x9⟩:=x
    have hgv:(cs.map Cll.e)[k]? = some (Cll.e ⟨x1,x2,x3,x4,x5,x6,x7,x8,x9⟩):=by rw[Ym,hx];rfl
    simp only[]at hY hne hxp
    clear hm hx hkr hD hM
    (repeat'(first|(go_big_may;(first|(first|((with_reducible apply Qt (k:=0) hs);exact Ii;rfl;assumption;(with_reducible repeat first|exact Qh|apply Qk);(exact(Nat.add_zero _).symm);(assumption);(exact Vb rfl);rfl;rfl;(simp only[Uc,Uz]))|((with_reducible apply ZP hs);exact Ii;exact Ii;rfl;rfl;(with_reducible repeat first|exact Qh|apply Qk);(rfl);(assumption);rfl;intro b off hat;(simp only[Uc,Uz]))|((with_reducible apply Zw hs);exact Ii;rfl;(with_reducible repeat first|exact Qh|apply Qk);rfl;(simp only[Uc,Uz]))|((with_reducible apply wl_bs hs);exact Ii;exact Ii;rfl;rfl;rfl;rfl;(exact Vb rfl);rfl;clear hs;intro w v hs;(simp only[Uc,Uz]))|((with_reducible apply QM hs);exact Ii;exact Ii;rfl;rfl;(focus with_reducible (repeat first|exact Qh|apply Qk);done);(with_reducible exact Qh);(simp only[Wm,Ws,Wa,Wc,Wn,Wr]at *;omega);(exact Vb rfl);rfl;clear hs;intro w v hs;(simp only[Uc,Uz])))|(go_at_call 15;((refine(hY.out).at hs (by (focus((repeat(with_reducible exact Qn));done))) ?_);clear hs;intro w hs;(try simp only[Em,Ma]at hs)))))|go_step|(dsimp only)))
    have e10:List.map eN L++[(fun x:Array Value=>x.toList) #[.int .i64 (k:Int)]]=(L++[k]).map eN:=by simp
    rw[e10]at hs
    obtain⟨ac,nc,rfl⟩:=ZU (hs.pull (A:=sl 3 1 _ v) (by (with_reducible exact Qh)))
    simp only[List.length_append,List.length_map,List.length_cons,List.length_nil,Nat.zero_add]at hs ⊢
    clear e10
    have hgp:Hid (BpG cs k L L.length (L++[k])):=Lh ⟨Nat.le_refl _,by simp,by simp⟩
    go_loopw [5] (fun q wr=>∃(a:Nat) (B:List Nat),q=.int .i64 (a:Int)∧Hid (BpG cs k L a B) ∧
     Sat O wr (sl 3 1 (B.map eN) (.slice ac (L.length+1) nc)*(sl 42 9 (cs.map Cll.e) (.slice a0 cs.length c0)*F))) (fun q _=>(intOf q).toNat)
    case atStart=>exact⟨L.length,_,by simp,hgp,by ((with_reducible apply Sat.fin hs);(with_reducible repeat first|exact Ql|exact Qh|apply Qb|apply Qk))⟩
    case round=>
     obtain⟨a,B,rfl,hG,hs⟩:=hrel
     have hBl:=hG.out.len
     have hal:a<B.length:=by have:=hG.out.le;omega
     have haB:a<(B.map eN).length:=by simpa using hal
     have hga:(B.map eN)[a]? = some [.int .i64 (k:Int)]:=by rw[Ym,hG.out.at_];rfl
     have ha65:a<4294967296:=by have:=hG.out.le;omega
     by_cases h0:a=0
     ·have hDn:=Lh (hdone.out a B hG.out (.inl h0))
      have g0:decide ((a:Int)>0)=false:=by simp;omega
      have g1:decide (0<(a:Int))=false:=by simp;omega
      have g4:decide (0<a)=false:=by simp;omega
      have hBL:=Lh hBl
      clear hal hBl h0
      (repeat'(first|(((with_reducible apply ZV);rfl;rfl;((simp only[ev,Ue,Uf]);rfl);rfl;(simp only[Uc,Uz]));(repeat(fail)))|((with_reducible apply Qs);((simp only[ev,Ue,Uf]);rfl);((simp only[cond_true,cond_false,ev,Ue,Uf]);rfl);(with_reducible exact ZT);(simp only[Uc,Uz]))|(go_big_may;(first|(first|(with_reducible refine NQ.mk ?_)|((with_reducible apply Zh);rfl;rfl)|(with_reducible refine Zi ?_))|((with_reducible refine Wp (id:=8) (Paz (Pbz (Pcz (Pdz [.neu 20,.neu 21])))) hs rfl ?_ ?_);kernel_rfl;clear hs;intro w hs)))|go_step))
      go_roundw
      case rel=>exact⟨k+1,B,ac,nc,hk2.out,by simp,by rw[hBL.out],hDn,by rw[hBL.out];((with_reducible apply Sat.fin hs);(with_reducible exact Ql))⟩
      case measure=>have:=hk2.out;simp[intOf];omega
     ·obtain⟨u,hu,hBu⟩:=hG.out.pre (by omega)
      obtain⟨z,hz⟩:=hin.out _ u hu
      have hzp:=hne.out _ u z hu hz
      have hpz:=ptA_at hz
      have g0:decide ((a:Int)>0)=true:=by simp;omega
      have g1:decide (0<(a:Int))=true:=by simp;omega
      have g4:decide (0<a)=true:=by simp;omega
      have hta:((a:Int)-1).toNat=a-1:=by omega
      have hm1:((a:Int)-1).toNat<(B.map eN).length:=by simp;omega
      have ha1:1≤a:=by omega
      have hgu:(B.map eN)[a-1]? = some [.int .i64 (u:Int)]:=by rw[Ym,hBu];rfl
      have hgu2:(B.map eN)[((a:Int)-1).toNat]? = some [.int .i64 (u:Int)]:=by rw[hta];exact hgu
      have hun:u<(cs.map Cll.e).length:=by simpa using (List.getElem?_eq_some_iff.1 hz).1
      by_cases hlt:x7<z.point
      ·have hN:=Lh (hG.out.swap (by omega) hu (by rw[hxp.out,hpz];exact hlt))
       obtain⟨u1,u2,u3,u4,u5,u6,u7,u8,u9⟩:=z
       have hgz:(cs.map Cll.e)[u]? = some (Cll.e ⟨u1,u2,u3,u4,u5,u6,u7,u8,u9⟩):=by rw[Ym,hz];rfl
       have g2:decide (u7>x7)=true:=by simpa using hlt
       have g3:decide (x7<u7)=true:=by simpa using hlt
       have haB2:a<((B.map eN).set ((a:Int)-1).toNat [.int .i64 (k:Int)]).length:=by rw[List.length_set];exact haB
       have hga2:((B.map eN).set ((a:Int)-1).toNat [.int .i64 (k:Int)])[a]? = some [.int .i64 (k:Int)]:=by rw[Yf (by omega)];exact hga
       have HT:=Lh hta
       have hA1:=Lh ha1
       clear hta hal hBl h0 hu hBu hlt hz hzp hpz
       (repeat'(first|((with_reducible apply Qs);((simp only[ev,Ue,Uf]);rfl);((simp only[cond_true,cond_false,ev,Ue,Uf]);rfl);(with_reducible exact ZT);(simp only[Uc,Uz]))|(go_big_may;(first|(first|(first|(with_reducible refine NQ.mk ?_)|((with_reducible apply Zh);rfl;rfl)|((with_reducible apply Zq);rfl)|(with_reducible refine EQ.mk ?_ ?_)|(first|(with_reducible exact Zf)|((with_reducible refine Zl ?_ ?_);(focus((with_reducible apply ZF);rfl;rfl))))|(with_reducible refine Zi ?_)|(show ZY _ _ _;rfl))|((with_reducible apply wl_ldS hs);exact Ii;rfl;assumption;(with_reducible repeat first|exact Qh|apply Qk);rfl;(assumption);rfl;rfl;(simp only[Uc,Uz]))|((with_reducible apply Zu hs);exact Ii;rfl;assumption;(with_reducible exact Qh);rfl;(assumption);rfl;rfl;(simp only[Uc,Uz]))|((with_reducible apply QE hs);exact Ii;rfl;rfl;assumption;(with_reducible exact Qh);rfl;(assumption);(exact Vb rfl);(rfl);rfl;clear hs;intro w hs)|((with_reducible apply QH hs);exact Ii;exact Ii;rfl;assumption;rfl;(with_reducible repeat first|exact Qh|apply Qk);(first|rfl|exact(Int.toNat_of_nonneg (by omega)).symm);(assumption);rfl;(simp only[Uc,Uz]))|((with_reducible apply ZP hs);exact Ii;exact Ii;rfl;rfl;(with_reducible exact Qh);(exact(Int.toNat_of_nonneg (by omega)).symm);(assumption);rfl;intro b off hat;(simp only[Uc,Uz])))|((with_reducible refine Wp (id:=8) (Paz (Pbz (Pcz (Pdz [.neu 20,.neu 21])))) hs rfl ?_ ?_);kernel_rfl;clear hs;intro w hs)|((with_reducible refine Wp (id:=10) (Paz (Pbz (Pcz [.eff 15 [3,4],.neu 16,.eff 17 []]))) hs rfl ?_ ?_);kernel_rfl;clear hs;intro w hs)))|go_guarded|go_step))
       try rw[HT.out]at hs
       simp only[Uz]at hs
       have e11:((B.map eN).set (a-1) [.int .i64 (k:Int)]).set a [.int .i64 (u:Int)]=((B.set (a-1) k).set a u).map eN:=by rw[Yk,Yk]
       rw[e11]at hs
       go_roundw
       case rel=>exact⟨a-1,_,by have:=hA1.out;simp;omega,hN,by ((with_reducible apply Sat.fin hs);(with_reducible exact Ql))⟩
       case measure=>have:=hA1.out;simp[intOf];omega
      ·have hDn:=Lh (hdone.out a B hG.out (.inr ⟨u,hu,by rw[hxp.out,hpz];omega⟩))
       obtain⟨u1,u2,u3,u4,u5,u6,u7,u8,u9⟩:=z
       have hgz:(cs.map Cll.e)[u]? = some (Cll.e ⟨u1,u2,u3,u4,u5,u6,u7,u8,u9⟩):=by rw[Ym,hz];rfl
       have g2:decide (u7>x7)=false:=by simpa using hlt
       have g3:decide (x7<u7)=false:=by simpa using hlt
       have hBL:=Lh hBl
       clear hta hal hBl h0 hu hBu hlt hz hzp hpz
       (repeat'(first|((with_reducible apply Qs);((simp only[ev,Ue,Uf]);rfl);((simp only[cond_true,cond_false,ev,Ue,Uf]);rfl);(with_reducible exact ZT);(simp only[Uc,Uz]))|(go_big_may;(first|(first|(first|(with_reducible refine NQ.mk ?_)|((with_reducible apply Zh);rfl;rfl)|(with_reducible refine Zi ?_))|((with_reducible apply wl_ldS hs);exact Ii;rfl;assumption;(with_reducible repeat first|exact Qh|apply Qk);rfl;(assumption);rfl;rfl;(simp only[Uc,Uz]))|((with_reducible apply Zu hs);exact Ii;rfl;assumption;(with_reducible exact Qh);rfl;(assumption);rfl;rfl;(simp only[Uc,Uz]))|((with_reducible apply QH hs);exact Ii;exact Ii;rfl;assumption;rfl;(with_reducible repeat first|exact Qh|apply Qk);(rfl);(assumption);rfl;(simp only[Uc,Uz]))|((with_reducible apply ZP hs);exact Ii;exact Ii;rfl;rfl;(with_reducible exact Qh);(exact(Int.toNat_of_nonneg (by omega)).symm);(assumption);rfl;intro b off hat;(simp only[Uc,Uz])))|((with_reducible refine Wp (id:=8) (Paz (Pbz (Pcz (Pdz [.neu 20,.neu 21])))) hs rfl ?_ ?_);kernel_rfl;clear hs;intro w hs)))|go_guarded|go_step))
       go_roundw
       case rel=>exact⟨k+1,B,ac,nc,hk2.out,by simp,by rw[hBL.out],hDn,by rw[hBL.out];((with_reducible apply Sat.fin hs);(with_reducible exact Ql))⟩
       case measure=>have:=hk2.out;simp[intOf];omega
   ·have hN:=Lh (law_mine_no x hm)
    have hL2:=Lh (hL.out.no hx hm)
    obtain⟨x1,x2,x3,x4,x5,x6,x7,x8,x9⟩:=x
    have hgv:(cs.map Cll.e)[k]? = some (Cll.e ⟨x1,x2,x3,x4,x5,x6,x7,x8,x9⟩):=by rw[Ym,hx];rfl
    simp only[]at hN
    clear hm hx hkr hL hD hM
    (repeat'(first|(go_big_may;(first|(first|((with_reducible apply Qt (k:=0) hs);exact Ii;rfl;assumption;(with_reducible repeat first|exact Qh|apply Qk);(exact(Nat.add_zero _).symm);(assumption);(exact Vb rfl);rfl;rfl;(simp only[Uc,Uz]))|((with_reducible apply ZP hs);exact Ii;exact Ii;rfl;rfl;(with_reducible repeat first|exact Qh|apply Qk);(rfl);(assumption);rfl;intro b off hat;(simp only[Uc,Uz]))|((with_reducible apply Zw hs);exact Ii;rfl;(with_reducible repeat first|exact Qh|apply Qk);rfl;(simp only[Uc,Uz])))|(go_at_call 15;((refine(hN.out).at hs (by (focus((repeat(with_reducible exact Qn));done))) ?_);clear hs;intro w hs;(try simp only[Em,Ma]at hs)))))|go_step|(dsimp only)))
    go_roundw
    case rel=>exact⟨k+1,L,ab,nb,hk2.out,by simp,rfl,hL2,by ((with_reducible apply Sat.fin hs);(with_reducible exact Ql))⟩
    case measure=>have:=hk2.out;simp[intOf];omega
end
section
theorem ref_isLink (u:Int)(h0:0≤u)(h1:u≤2147483647):Zk Tryz.prog 21 #[.int .u64 u] emp (.bool true) emp:=by
 intro O w F hs
 have e1:Int.tmod u 4294967296=u:=by rw[Int.tmod_eq_emod_of_nonneg h0];omega
 have n1:decide (u<8589934592)=true:=by simp;omega
 have n2:decide (u≤2147483647)=true:=by simp;omega
 go_enter Tryz.func21,Tryz.ntmps21
 (repeat'(first|((with_reducible apply Qs);((simp only[ev,Ue,Uf]);rfl);((simp only[cond_true,cond_false,ev,Ue,Uf]);rfl);(with_reducible exact ZT);(simp only[Uc,Uz]))|go_guarded|go_step))
 (go_ret)
 exact⟨rfl,by ((with_reducible apply Sat.fin hs);(with_reducible exact Ql))⟩
theorem ref_linkMark (u:Int)(h0:0≤u)(h1:u≤2147483647):Zk Tryz.prog 22 #[.int .u64 u] emp (.bool false) emp:=by
 intro O w F hs
 have e1:Int.tdiv u 4294967296=0:=by rw[Int.tdiv_eq_ediv_of_nonneg h0];omega
 go_enter Tryz.func22,Tryz.ntmps22
 (repeat'(go_step))
 (go_ret)
 exact⟨rfl,by ((with_reducible apply Sat.fin hs);(with_reducible exact Ql))⟩
theorem law_chain (c:Cfg)(hok:c.Ok)(ws:List Int)(stk:List Nat)(l:List Int)(hwl:ws.length<4294967296)(TP V LK S0:Nat)(hTP:base c 3=(TP:Int))(hV:base c 11=(V:Int))(hLK:base c 13=(LK:Int))(hS0:c.Sl=(S0:Int))(Q:ChQ TP V LK S0 ws stk l)(a4:Option Addr)(c4:Nat) :
  Does Tryz.prog 12 #[c.v,.slice a4 ws.length c4] (sl 47 1 (ws.map eU) (.slice a4 ws.length c4))
   (fun u=>(ex fun v=>pu (u=.tuple #[v,.bool true])*sl 3 1 (l.map eI) v)*sl 47 1 (ws.map eU) (.slice a4 ws.length c4)):=by
 intro O w F hs
 have hB3:=ref_base c hok 3 (by omega) (by omega)
 have hB11:=ref_base c hok 11 (by omega) (by omega)
 have hB13:=ref_base c hok 13 (by omega) (by omega)
 rw[hTP]at hB3
 rw[hV]at hB11
 rw[hLK]at hB13
 have HB3:=Lh hB3
 have HB11:=Lh hB11
 have HB13:=Lh hB13
 have hS1:=hok.S1
 have hS2:=hok.S2
 rw[hS0]at hS1 hS2
 obtain⟨q1,q2,q3,q4⟩:=Q
 have hstk:=q1
 replace q2:=Lh q2
 replace q4:=Lh q4
 have hTn:=(List.getElem?_eq_some_iff.1 q3).1
 have hg3:(ws.map eU)[TP]? = some [.int .u64 (nxtS stk)]:=by rw[Ym,q3];rfl
 have hTn2:TP<(ws.map eU).length:=by simpa using hTn
 clear hok hB3 hB11 hB13 hTP hV hLK q3 hTn
 obtain⟨d1,d2,d3,d4,d5,d6,d7⟩:=c
 simp only[]at hS0
 subst hS0
 have hs:=Q8 (E:=3) (sz:=1) hs (by omega)
 go_enter Tryz.func12,Tryz.ntmps12
 (repeat'(first|(go_big_may;(first|((show wpList _ _ _ (Oper.mk (some 2) _ _ _ _ _::_) _ _);(with_reducible apply Zr hs);rfl;rfl;rfl;clear hs;intro w bC hs;(simp only[Uc,Uz]))|(first|((with_reducible apply Z3 hs);exact Ii;rfl;(with_reducible exact Qh);rfl;rfl;(simp only[Uc,Uz]))|((with_reducible apply Zu hs);exact Ii;rfl;assumption;(with_reducible repeat first|exact Qh|apply Qk);rfl;(assumption);rfl;rfl;(simp only[Uc,Uz]))|((with_reducible apply ZP hs);exact Ii;exact Ii;rfl;rfl;(with_reducible repeat first|exact Qh|apply Qk);(rfl);(assumption);rfl;intro b off hat;(simp only[Uc,Uz])))|(go_at_call 13;((refine(HB3.out).at hs (by (focus((repeat(with_reducible exact Qn));done))) ?_);clear hs;intro w hs;(try simp only[Em,Ma]at hs)))))|go_step|(dsimp only)))
 go_loopw [6,7,8] (fun v6 q _ wr=>∃(k:Nat) (z:Int) (ls:List Int) (ab:Option Addr) (nb:Nat),k≤stk.length∧v6=.slice ab ls.length nb∧q=.int .u64 z∧Hid (z=nxtS (stk.drop k))∧Hid (ls=l.take k∧ls.length=k) ∧
  Sat O wr (sl 3 1 (ls.map eI) (.slice ab ls.length nb)*(pt bC (.cells #[.int .i64 d1,.int .i64 d2,.int .i64 d3,.int .i64 d4,.int .i64 d5,.int .i64 (S0:Int),.int .i64 d7] 23)*(sl 47 1 (ws.map eU) (.slice a4 ws.length c4)*F)))) (fun v6 _ _ _=>stk.length+1-(match v6 with|.slice _ n _=>n|_=>0))
 case atStart=>exact⟨0,_,[],none,0,by omega,rfl,rfl,Lh rfl,Lh ⟨rfl,rfl⟩,by ((with_reducible apply Sat.fin hs);(focus((repeat(first|with_reducible exact Ql|with_reducible apply Qb|exact Qh|with_reducible apply Qk));done)))⟩
 case round=>
  obtain⟨k,z,ls,ab,nb,kl,rfl,rfl,hz,hls,hs⟩:=hrel
  by_cases hkr:k=stk.length
  ·have hz0:z=0:=by rw[hz.out,hkr,List.drop_length];rfl
   have hlk:Hid (ls=l):=Lh (by rw[hls.out.1,hkr,←q2.out,List.take_length])
   subst hz0
   clear hz hls
   (repeat'(go_step))
   (go_ret2)
   refine⟨_,rfl,?_⟩
   simp only[ZI,Ma,Zx]
   rw[←hlk.out]
   exact⟨_,rfl,by ((with_reducible apply Sat.fin hs);(focus((repeat(first|with_reducible exact Ql|with_reducible exact Qh|with_reducible apply Qb|exact Qh|with_reducible apply Qk));done)))⟩
  ·obtain⟨s,hsk⟩:∃s,stk[k]? = some s:=⟨_,Yd (by omega)⟩
   obtain⟨hs0,⟨u,hu,hlu⟩,hnx⟩:=q4.out k s hsk
   have hz1:z=(s:Int)+1:=by
    have hd:stk.drop k=s::stk.drop (k+1):=by
     obtain⟨h1,h2⟩:=List.getElem?_eq_some_iff.1 hsk
     rw[List.drop_eq_getElem_cons h1,h2]
    rw[hz.out,hd];rfl
   subst hz1
   have hLI:Hid (Zk Tryz.prog 20 #[.int .u64 ((s:Int)+1)] emp (.int .i64 (s:Int)) emp):=Lh (by
    have:=ref_linkIndex ((s:Int)+1) (by omega)
    rw[show((s:Int)+1)%4294967296-1=(s:Int) by omega]at this
    exact this)
   have hIL:=Lh (ref_isLink ((s:Int)+1) (by omega) (by omega))
   have hLM:=Lh (ref_linkMark ((s:Int)+1) (by omega) (by omega))
   have n0:((s:Int)+1 != 0)=true:=by simp;omega
   have n1:decide ((s:Int)<0)=false:=by simp
   have n2:decide ((s:Int)≥(S0:Int))=false:=by simp;omega
   have n3:decide ((ls.length:Int)≥(S0:Int))=false:=by have:=hls.out.2;simp;omega
   have n4:decide (S0≤s)=false:=by simp;omega
   have n5:decide (S0≤ls.length)=false:=by have:=hls.out.2;simp;omega
   have hun:=(List.getElem?_eq_some_iff.1 hu).1
   have hnn:=(List.getElem?_eq_some_iff.1 hnx).1
   have hu1:V+s<(ws.map eU).length:=by simpa using hun
   have hn1:LK+s<(ws.map eU).length:=by simpa using hnn
   have hgu:(ws.map eU)[V+s]? = some [.int .u64 u]:=by rw[Ym,hu];rfl
   have hgn:(ws.map eU)[LK+s]? = some [.int .u64 (nxtS (stk.drop (k+1)))]:=by rw[Ym,hnx];rfl
   have HE1:Hid ((V:Int)+(s:Int)=((V+s:Nat):Int)):=Lh (by omega)
   have HE2:Hid ((LK:Int)+(s:Int)=((LK+s:Nat):Int)):=Lh (by omega)
   have hkl:=Lh (show k+1≤stk.length by omega)
   have hk65:ls.length<4294967295:=by have:=hls.out.2;omega
   have hV65:V<4294967296:=by omega
   have hL65:LK<4294967296:=by omega
   have hlt:Hid (l.take (k+1)=l.take k++[wrap64 u]):=Lh (by rw[List.take_add_one,hlu];rfl)
   clear hsk hu hlu hnx hz hkr hun hnn
   (repeat'(first|((with_reducible apply Qs);((simp only[ev,Ue,Uf]);rfl);((simp only[cond_true,cond_false,ev,Ue,Uf]);rfl);(with_reducible exact ZT);(simp only[Uc,Uz]))|(go_big_may;(first|(rw[HE1.out])|(rw[HE2.out])|(first|((with_reducible apply Zb hs);exact Ii;rfl;(with_reducible repeat first|exact Qh|apply Qk);rfl;rfl;(simp only[Uc,Uz]))|((with_reducible apply Z3 hs);exact Ii;rfl;(with_reducible repeat first|exact Qh|apply Qk);rfl;rfl;(simp only[Uc,Uz]))|((with_reducible apply Zu hs);exact Ii;rfl;assumption;(with_reducible repeat first|exact Qh|apply Qk);rfl;(assumption);rfl;rfl;(simp only[Uc,Uz]))|((with_reducible apply QH hs);exact Ii;exact Ii;rfl;assumption;rfl;(with_reducible repeat first|exact Qh|apply Qk);(rfl);(assumption);rfl;(simp only[Uc,Uz]))|((with_reducible apply Zw hs);exact Ii;rfl;(with_reducible exact Qh);rfl;(simp only[Uc,Uz]))|((with_reducible apply wl_bs hs);exact Ii;exact Ii;rfl;rfl;rfl;rfl;(exact Vb rfl);rfl;clear hs;intro w v hs;(simp only[Uc,Uz]))|((with_reducible apply QM hs);exact Ii;exact Ii;rfl;rfl;(focus with_reducible (repeat first|exact Qh|apply Qk);done);(with_reducible exact Qh);(simp only[Wm,Ws,Wa,Wc,Wn,Wr]at *;omega);(exact Vb rfl);rfl;clear hs;intro w v hs;(simp only[Uc,Uz])))|(go_at_call 20;((refine(hLI.out).at hs (by (focus((repeat(with_reducible exact Qn));done))) ?_);clear hs;intro w hs;(try simp only[Em,Ma]at hs)))|(go_at_call 21;((refine(hIL.out).at hs (by (focus((repeat(with_reducible exact Qn));done))) ?_);clear hs;intro w hs;(try simp only[Em,Ma]at hs)))|(go_at_call 22;((refine(hLM.out).at hs (by (focus((repeat(with_reducible exact Qn));done))) ?_);clear hs;intro w hs;(try simp only[Em,Ma]at hs)))|(go_at_call 13;first|((refine(HB11.out).at hs (by (focus((repeat(with_reducible exact Qn));done))) ?_);clear hs;intro w hs;(try simp only[Em,Ma]at hs))|((refine(HB13.out).at hs (by (focus((repeat(with_reducible exact Qn));done))) ?_);clear hs;intro w hs;(try simp only[Em,Ma]at hs)))))|go_guarded|go_step|(dsimp only)))
   have e10:List.map eI ls++[(fun x:Array Value=>x.toList) #[.int .i64 (wrap64 u)]]=(ls++[wrap64 u]).map eI:=by simp
   rw[e10]at hs
   obtain⟨ac,nc,rfl⟩:=ZU (hs.pull (A:=sl 3 1 _ v) (by (with_reducible exact Qh)))
   simp only[List.length_append,List.length_map,List.length_cons,List.length_nil,Nat.zero_add]at hs ⊢
   go_roundw
   case rel=>exact⟨k+1,_,ls++[wrap64 u],ac,nc,hkl.out,(by simp),rfl,Lh rfl,Lh ⟨by rw[hlt.out,hls.out.1],by have:=hls.out.2;simp;omega⟩,by simp only[List.length_append,List.length_cons,List.length_nil,Nat.zero_add];((with_reducible apply Sat.fin hs);(with_reducible repeat first|exact Ql|exact Qh|apply Qb|apply Qk))⟩
   case measure=>have:=hkl.out;have:=hls.out.2;simp;omega
end
end Go.Proofs.YtjagadldibbbbaaGreat
