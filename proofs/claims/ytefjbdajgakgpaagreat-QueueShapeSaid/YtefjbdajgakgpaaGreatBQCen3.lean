import Derived.Test.YtefjbdajgakgpaaGreatBQCen2
set_option linter.all false
namespace Go.Proofs.YtefjbdajgakgpaaGreat
open Go.RowKit Hp
set_option maxRecDepth 100000
set_option maxHeartbeats 8000000
attribute [local irreducible] Go.Calls Go.wpList
abbrev cfgR (b:Nat)(c:Cfg):Zb:=pt b (.cells #[.int .i64 c.T,.int .i64 c.R,.int .i64 c.Hz,.int .i64 c.Rt,.int .i64 c.Ca,.int .i64 c.Sl,.int .i64 c.Bu] 23)
theorem prev_cll {cs:List Cll}(hs:Pw (fun x z=>x.begin_<z.begin_) cs){n:Nat}{e:Cll}(he:cs[n]? = some e) :
  (decide ((n:Int)>0)=false∧decide (0<n)=false)∨∃z1 z2 z3 z4 z5 z6 z7 z8 z9:Int,1≤n∧((n:Int)-1).toNat<(cs.map Cll.e).length∧(cs.map Cll.e)[n-1]? = some (Cll.e ⟨z1,z2,z3,z4,z5,z6,z7,z8,z9⟩)∧decide (e.begin_≤z5)=false∧decide ((n:Int)>0)=true:=by
 have hn:=(List.getElem?_eq_some_iff.1 he).1
 cases n with
 | zero=>exact .inl ⟨rfl,rfl⟩
 | succ j=>
  right
  obtain⟨z,hz⟩:∃z,cs[j]? = some z:=⟨_,Yd (by omega)⟩
  have hm:=hs j (j+1) z e (by omega) hz he
  obtain⟨z1,z2,z3,z4,z5,z6,z7,z8,z9⟩:=z
  have hm:z5<e.begin_:=hm
  have e0:(((j+1:Nat):Int)-1).toNat=j:=by omega
  have e1:j<(cs.map Cll.e).length:=by rw[List.length_map];omega
  have e3:(cs.map Cll.e)[j]? = some (Cll.e ⟨z1,z2,z3,z4,z5,z6,z7,z8,z9⟩):=by rw[Ym,hz];rfl
  have e4:decide (e.begin_≤z5)=false:=by rw[decide_eq_false_iff_not];omega
  have e5:decide (((j+1:Nat):Int)>0)=true:=by rw[decide_eq_true_eq];omega
  exact⟨z1,z2,z3,z4,z5,z6,z7,z8,z9,by omega,by rw[e0];exact e1,e3,e4,e5⟩
theorem cen_calls (c:Cfg)(hok:c.Ok)(cs:List Cll)(v:Value)(n:Int)(hn:n≤65536)(hl:cs.length<4294967296)(h0:∀x∈cs,ClOk c n x)
  (hb:Pw (fun x z=>x.begin_<z.begin_) cs) (ho:Pw (fun x z=>x.thread=z.thread→x.end_ ≠ -1∧x.end_<z.begin_) cs) (he:Pw (fun x z=>x.end_ ≠ -1→x.end_≠z.end_) cs) (hbe:∀x∈cs,∀z∈cs,x.end_≠z.begin_) :
  Zj Tryz.prog 74 #[c.v,v] (cslR cs v) (.bool true) (cslR cs v):=by
 intro O w F hs
 have hE:=Lh (fun v=>cen_ends cs v n hn hl (fun x hx=>by have:=h0 x hx;obtain⟨q1,q2,q3,q4,q5,q6⟩:=this;exact⟨⟨q3,q4⟩,by omega⟩) hb he hbe)
 obtain⟨a0,cap0,rfl⟩:=ZY (hs.pull (A:=cslR cs v) (by (with_reducible exact Qh)))
 simp only[List.length_map]at hs ⊢
 have hT1:=hok.T1
 have hT2:=hok.T2
 have h0:=Lh h0
 have hb:=Lh hb
 have ho:=Lh ho
 clear he hbe hok
 go_enter Tryz.func74,Tryz.ntmps74
 (repeat'(first|(go_big_may;((with_reducible apply Zq hs);rfl;rfl;rfl;clear hs;intro w b hs;simp only[Uc,Uz]))|go_step))
 obtain⟨bc,hbc⟩:∃x,x=b:=⟨_,rfl⟩
 subst hbc
 go_loopw [5] (fun q wr=>∃k:Nat,k≤cs.length∧q=.int .i64 (k:Int)∧Sat O wr (cfgR bc c*(cslR cs (.slice a0 cs.length cap0)*F))) (fun q _=>cs.length+1-(intOf q).toNat)
 case atStart=>exact⟨0,by omega,rfl,by ((with_reducible apply Sat.fin hs);(with_reducible exact Ql))⟩
 case round=>
  obtain⟨k,k1,rfl,hs⟩:=hrel
  by_cases hkr:k=cs.length
  ·subst hkr
   have hlt:decide ((cs.length:Int)<(cs.length:Int))=false:=by simp
   (repeat'(first|(go_big_may;(first|((with_reducible apply Za hs);exact Ii;rfl;(with_reducible exact Qh);rfl;rfl;simp only[Uc,Uz])|((with_reducible apply Zp hs);exact Ii;rfl;(with_reducible repeat first|exact Qh|apply Qk);rfl;simp only[Uc,Uz])|((with_reducible apply wl_mk hs);exact Ii;exact Ii;rfl;rfl;rfl;rfl;(exact(Int.toNat_of_nonneg (by omega)).symm);omega;exact Vb rfl;rfl;clear hs;intro w v hs;simp only[Uc,Uz])))|go_step))
   obtain⟨a8,c8,rfl⟩:=ZY (hs.pull (A:=sl 3 1 _ v) (by (with_reducible exact Qh)))
   simp only[List.length_replicate,List.length_map]at hs ⊢
   obtain⟨T0,hT0⟩:∃T0:Nat,c.T=(T0:Int):=⟨c.T.toNat,by omega⟩
   have hT2':c.T.toNat=T0:=by omega
   rw[hT2']at hs ⊢
   have hTl:T0≤16:=by omega
   have hT0:=Lh hT0
   clear hT2' hT1 hT2
   go_loopw [9] (fun q wr=>∃(k:Nat) (ls:List Int),k≤T0∧q=.int .i64 (k:Int)∧Hid (ls.length=T0∧∀j z,j<k→ls[j]? = some z→z = -1) ∧
    Sat O wr (sl 3 1 (ls.map eI) (.slice a8 T0 c8)*(cfgR bc c*(cslR cs (.slice a0 cs.length cap0)*F)))) (fun q _=>T0+1-(intOf q).toNat)
   case atStart=>exact⟨0,List.replicate T0 0,by omega,rfl,Lh ⟨by simp,by omega⟩,by rw[List.map_replicate];((with_reducible apply Sat.fin hs);(focus((repeat(first|with_reducible exact Ql|with_reducible apply Qb|exact Qh));done)))⟩
   case round=>
    obtain⟨k,ls,k1,rfl,hls,hs⟩:=hrel
    by_cases hkr:k=T0
    ·have hkr:=hkr.symm
     subst hkr
     have hl1:=hls.out.1
     have hlt:decide ((T0:Int)<(T0:Int))=false:=by simp
     have hlt3:decide ((T0:Int)<(ls.length:Int))=false:=by simp;omega
     have hlt4:decide (T0<ls.length)=false:=by simp;omega
     have hlt5:decide ((T0:Int)<((ls.map eI).length:Int))=false:=by simp;omega
     clear hl1
     (repeat'(first|(go_big_may;((with_reducible apply Zp hs);exact Ii;rfl;(with_reducible exact Qh);rfl;simp only[Uc,Uz]))|go_step))
     simp only[List.length_map]at hs ⊢
     go_loopw [10] (fun q wr=>∃(k:Nat) (ls:List Int),k≤cs.length∧q=.int .i64 (k:Int)∧Hid (ls.length=T0∧∀(t:Nat) (z:Int),ls[t]? = some z→z = -1∨∃j:Nat,z=(j:Int)∧j<k∧∃y,cs[j]? = some y∧y.thread=(t:Int)) ∧
      Sat O wr (sl 3 1 (ls.map eI) (.slice a8 T0 c8)*(cfgR bc c*(cslR cs (.slice a0 cs.length cap0)*F)))) (fun q _=>cs.length+1-(intOf q).toNat)
     case atStart=>
      refine⟨0,ls,by omega,rfl,Lh ⟨hls.out.1,fun t z hz=>.inl ?_⟩,by ((with_reducible apply Sat.fin hs);(with_reducible exact Ql))⟩
      have h1:=(List.getElem?_eq_some_iff.1 hz).1
      rw[hls.out.1]at h1
      exact hls.out.2 t z h1 hz
     case round=>
      obtain⟨k,ls,k1,rfl,hls,hs⟩:=hrel
      by_cases hkr:k=cs.length
      ·subst hkr
       have hlt:decide ((cs.length:Int)<(cs.length:Int))=false:=by simp
       (repeat'(first|(go_big_may;(first|((with_reducible apply Zp hs);exact Ii;rfl;(with_reducible repeat first|exact Qh|apply Qk);rfl;simp only[Uc,Uz])|(go_at_call 102;((refine((hE.out _)).at hs (by (with_reducible repeat first|exact Qh|apply Qk)) ?_);clear hs;intro w hs;(try simp only[Em,Ma]at hs)))))|go_step|(dsimp only)))
       go_ret
       exact⟨rfl,by (with_reducible apply Sat.fin hs;repeat first|exact Ql|exact Qh|apply Qb|apply Qk)⟩
      ·have hlt:decide ((k:Int)<(cs.length:Int))=true:=by simp;omega
       have hlt2:decide (k<cs.length)=true:=by simp;omega
       have hln:k<(cs.map Cll.e).length:=by simp;omega
       obtain⟨x,hx⟩:∃x,cs[k]? = some x:=⟨_,Yd (by omega)⟩
       obtain⟨q1,q2,_,_,_,_⟩:=h0.out x (Yc hx)
       obtain⟨hl1,hl2⟩:=hls.out
       have hT0':=hT0.out
       obtain⟨th,hth⟩:∃th:Nat,x.thread=(th:Int):=⟨x.thread.toNat,by omega⟩
       have hthT:th<T0:=by omega
       clear hT0'
       obtain⟨z,hz⟩:∃z,ls[th]? = some z:=⟨_,Yd (by omega)⟩
       have hnew:Hid ((ls.set th (k:Int)).length=T0∧∀(t:Nat) (z:Int),(ls.set th (k:Int))[t]? = some z→z = -1∨∃j:Nat,z=(j:Int)∧j<k+1∧∃y,cs[j]? = some y∧y.thread=(t:Int)):=by
        refine Lh ⟨by simp[hl1],fun t z hz => ?_⟩
        by_cases e:t=th
        ·subst e
         rw[Ye (by omega)]at hz
         cases hz
         exact .inr ⟨k,rfl,by omega,x,hx,hth⟩
        ·rw[Yf (Ne.symm e)]at hz
         rcases hl2 t z hz with h|⟨j,h1,h2,h3⟩
         ·exact .inl h
         ·exact .inr ⟨j,h1,by omega,h3⟩
       have hprev:=hl2 th z hz
       have hthl:th<(ls.map eI).length:=by simp;omega
       have hthl2:decide (th<T0)=true:=by simp;omega
       have hgz:(ls.map eI)[th]? = some (eI z):=by rw[Ym,hz];rfl
       rcases hprev with rfl|⟨j,rfl,hjk,y,hy,hyt⟩
       ·obtain⟨c1,c2,c3,c4,c5,c6,c7,c8,c9⟩:=x
        simp only[]at hth
        subst hth
        have hgv:(cs.map Cll.e)[k]? = some (Cll.e ⟨(th:Int),c2,c3,c4,c5,c6,c7,c8,c9⟩):=by rw[Ym,hx];rfl
        have hge:decide ((-1:Int)≥0)=false:=rfl
        have hnL:=Lh (show k<cs.length by omega)
        clear hl1 hl2 hz q1 q2 hx hls hkr
        (repeat'(first|((first|((with_reducible apply Z8);rfl;rfl;((simp only[ev,Ue,Uf]);rfl);rfl;simp only[Uc,Uz])|((with_reducible apply wl_pass3);rfl;rfl;simp only[Ue,Uf];simp only[Uc,Uz]));(repeat(fail)))|((with_reducible apply ZO);((simp only[ev,Ue,Uf]);rfl);((simp only[cond_true,cond_false,ev,Ue,Uf]);rfl);(with_reducible exact Zt);simp only[Uc,Uz])|(go_big_may;(first|(with_reducible refine NQ.mk ?_)|((with_reducible apply Zg);rfl;rfl)|(with_reducible refine Zh ?_)|((with_reducible apply Zk hs);exact Ii;rfl;assumption;(with_reducible repeat first|exact Qh|apply Qk);rfl;(assumption);rfl;rfl;simp only[Uc,Uz])|((with_reducible apply ZN hs);exact Ii;rfl;rfl;assumption;(with_reducible exact Qh);rfl;(assumption);exact Vb rfl;rfl;rfl;clear hs;intro w hs)|((with_reducible apply ZJ hs);exact Ii;exact Ii;rfl;assumption;rfl;(with_reducible repeat first|exact Qh|apply Qk);rfl;(assumption);rfl;simp only[Uc,Uz])|((with_reducible apply ZA hs);exact Ii;exact Ii;rfl;rfl;(with_reducible repeat first|exact Qh|apply Qk);rfl;(assumption);rfl;intro b off hat;simp only[Uc,Uz])|((with_reducible apply Zp hs);exact Ii;rfl;(with_reducible repeat first|exact Qh|apply Qk);rfl;simp only[Uc,Uz])|((with_reducible refine Wp (id:=23) (Paz (Pbz (Pcz (Pdz [.neu 20,.neu 21,.neu 22])))) hs rfl ?_ ?_);kernel_rfl;clear hs;intro w hs)))|go_step))
        go_roundw
        case rel=>exact⟨k+1,ls.set th (k:Int),(by have:=hnL.out;omega),by simp,hnew,by rw[Yk];((with_reducible apply Sat.fin hs);(focus((repeat(first|with_reducible exact Ql|with_reducible apply Qb|exact Qh));done)))⟩
        case measure=>have:=hnL.out;simp[intOf];omega
       ·have hord:=ho.out j k y x hjk hy hx (by omega)
        obtain⟨o1,o2⟩:=hord
        obtain⟨c1,c2,c3,c4,c5,c6,c7,c8,c9⟩:=x
        obtain⟨d1,d2,d3,d4,d5,d6,d7,d8,d9⟩:=y
        simp only[]at hth o1 o2
        subst hth
        have hgv:(cs.map Cll.e)[k]? = some (Cll.e ⟨(th:Int),c2,c3,c4,c5,c6,c7,c8,c9⟩):=by rw[Ym,hx];rfl
        have hgy:(cs.map Cll.e)[j]? = some (Cll.e ⟨d1,d2,d3,d4,d5,d6,d7,d8,d9⟩):=by rw[Ym,hy];rfl
        have hge:decide ((j:Int)≥0)=true:=by simp
        have hjl:j<(cs.map Cll.e).length:=by simp;omega
        have hjl2:decide (j<cs.length)=true:=by simp;omega
        have hne:(d6 == -1)=false:=by simpa using o1
        have hge2:decide (d6≥c5)=false:=by simp;omega
        have hnL:=Lh (show k<cs.length by omega)
        clear hl1 hl2 hz q1 q2 hx hls hkr hy hyt o1 o2 hjk
        (repeat'(first|((with_reducible apply ZO);((simp only[ev,Ue,Uf]);rfl);((simp only[cond_true,cond_false,ev,Ue,Uf]);rfl);(first|(with_reducible exact Zt)|((with_reducible apply QV);rfl;rfl;simp only[Ue,Uf]));simp only[Uc,Uz])|(go_big_may;(first|(with_reducible refine NQ.mk ?_)|((with_reducible apply Zg);rfl;rfl)|(with_reducible refine Zh ?_)|((with_reducible apply QU hs);exact Ii;rfl;assumption;(with_reducible repeat first|exact Qh|apply Qk);rfl;(assumption);rfl;rfl;simp only[Uc,Uz])|((with_reducible apply Zk hs);exact Ii;rfl;assumption;(with_reducible repeat first|exact Qh|apply Qk);rfl;(assumption);rfl;rfl;simp only[Uc,Uz])|((with_reducible apply ZN hs);exact Ii;rfl;rfl;assumption;(with_reducible exact Qh);rfl;(assumption);exact Vb rfl;rfl;rfl;clear hs;intro w hs)|((with_reducible apply ZJ hs);exact Ii;exact Ii;rfl;assumption;rfl;(with_reducible repeat first|exact Qh|apply Qk);rfl;(assumption);rfl;simp only[Uc,Uz])|((with_reducible apply ZA hs);exact Ii;exact Ii;rfl;rfl;(with_reducible repeat first|exact Qh|apply Qk);rfl;(assumption);rfl;intro b off hat;simp only[Uc,Uz])|((with_reducible apply Zp hs);exact Ii;rfl;(with_reducible repeat first|exact Qh|apply Qk);rfl;simp only[Uc,Uz])|((with_reducible refine Wp (id:=23) (Paz (Pbz (Pcz (Pdz [.neu 20,.neu 21,.neu 22])))) hs rfl ?_ ?_);kernel_rfl;clear hs;intro w hs)))|go_guarded|go_step))
        go_roundw
        case rel=>exact⟨k+1,ls.set th (k:Int),(by have:=hnL.out;omega),by simp,hnew,by rw[Yk];((with_reducible apply Sat.fin hs);(focus((repeat(first|with_reducible exact Ql|with_reducible apply Qb|exact Qh));done)))⟩
        case measure=>have:=hnL.out;simp[intOf];omega
    ·have hlt:decide ((k:Int)<(T0:Int))=true:=by simp;omega
     have hlt2:decide (k<T0)=true:=by simp;omega
     have hl1:=hls.out.1
     have hlt3:decide ((k:Int)<(ls.length:Int))=true:=by simp;omega
     have hlt4:decide (k<ls.length)=true:=by simp;omega
     have hlt5:decide ((k:Int)<((ls.map eI).length:Int))=true:=by simp;omega
     have hln:k<(ls.map eI).length:=by simp;omega
     obtain⟨z,hz⟩:∃z,ls[k]? = some z:=⟨_,Yd (by omega)⟩
     have hgz:(ls.map eI)[k]? = some (eI z):=by rw[Ym,hz];rfl
     have hnew:Hid ((ls.set k (-1)).length=T0∧∀j z,j<k+1→(ls.set k (-1))[j]? = some z→z = -1):=by
      refine Lh ⟨by simp[hl1],fun j z hj hz => ?_⟩
      by_cases e:j=k
      ·subst e
       rw[Ye (by omega)]at hz
       cases hz;rfl
      ·rw[Yf (Ne.symm e)]at hz
       exact hls.out.2 j z (by omega) hz
     have hnL:=Lh (show k<T0 by omega)
     clear hl1 hz hkr
     (repeat'(first|(go_big_may;(first|((with_reducible apply ZN hs);exact Ii;rfl;rfl;assumption;(with_reducible exact Qh);rfl;(assumption);exact Vb rfl;rfl;rfl;clear hs;intro w hs)|((with_reducible apply ZA hs);exact Ii;exact Ii;rfl;rfl;(with_reducible exact Qh);rfl;(assumption);rfl;intro b off hat;simp only[Uc,Uz])|((with_reducible apply Zp hs);exact Ii;rfl;(with_reducible exact Qh);rfl;simp only[Uc,Uz])))|go_step))
     go_roundw
     case rel=>exact⟨k+1,ls.set k (-1),(by have:=hnL.out;omega),by simp,hnew,by rw[Yk];((with_reducible apply Sat.fin hs);(focus((repeat(first|with_reducible exact Ql|with_reducible apply Qb|exact Qh));done)))⟩
     case measure=>have:=hnL.out;simp[intOf];omega
  ·have hlt:decide ((k:Int)<(cs.length:Int))=true:=by simp;omega
   have hlt2:decide (k<cs.length)=true:=by simp;omega
   have hln:k<(cs.map Cll.e).length:=by simp;omega
   obtain⟨x,hx⟩:∃x,cs[k]? = some x:=⟨_,Yd (by omega)⟩
   obtain⟨q1,q2,q3,q4,q5,q6⟩:=h0.out x (Yc hx)
   have hprev:=Lh (prev_cll hb.out hx)
   have hnL:=Lh (show k<cs.length by omega)
   obtain⟨c1,c2,c3,c4,c5,c6,c7,c8,c9⟩:=x
   simp only[]at q1 q2 q3 q4 q5 q6
   have f1:decide (c1<0)=false:=by simp;omega
   have f2:decide (c1≥c.T)=false:=by simp;omega
   have f2':decide (c.T≤c1)=false:=by simp;omega
   have f3:decide (c5<0)=false:=by simp;omega
   have f4:Hid (((c6 != -1)=false∧(c6 == -1)=true∧(c8==0)=true∧(c8 != 2)=true∧(c9 != 0)=false)∨((c6 != -1)=true∧(c6 == -1)=false∧decide (c6≤c5)=false∧(c8==0)=false∧((c8 != 2)=false∨(c8 != 2)=true∧(c9 != 0)=false))):=by
    refine Lh ?_
    rcases q5 with⟨e1,e2,e3⟩|⟨e1,e2,e3,e4,e5⟩
    ·exact .inl ⟨by simp;omega,by simp;omega,by simp;omega,by simp;omega,by simp;omega⟩
    ·refine .inr ⟨by simp;omega,by simp;omega,by simp;omega,by simp;omega,?_⟩
     by_cases e:c8=2
     ·exact .inl (by simpa using e)
     ·exact .inr ⟨by simpa using e,by simpa using e5 e⟩
   have f5:Hid ((c7 != -1)=false∨((c7 != -1)=true∧decide (c7≤c5)=false∧((c6 != -1)=true→decide (c7>c6)=false∧decide (c6<c7)=false))):=by
    refine Lh ?_
    rcases q6 with e|⟨e1,e2,e3⟩
    ·exact .inl (by simp;omega)
    ·exact .inr ⟨by simp;omega,by simp;omega,fun h=>by have h':c6 ≠ -1:=(by simpa using h);have:=e3 h';constructor<;>simp<;>omega⟩
   have f6:decide (c8<0)=false:=by simp;omega
   have f7:decide (c8>6)=false:=by simp;omega
   have f7':decide (6<c8)=false:=by simp;omega
   have hgv:(cs.map Cll.e)[k]? = some (Cll.e ⟨c1,c2,c3,c4,c5,c6,c7,c8,c9⟩):=by rw[Ym,hx];rfl
   clear hx q1 q2 q3 q4 q5 q6 hkr
   have f1:=Lh f1
   have f2:=Lh f2
   have f3:=Lh f3
   have f6:=Lh f6
   have f7:=Lh f7
   clear f2' f7'
   rcases hprev.out with⟨j6,j7⟩|⟨z1,z2,z3,z4,z5,z6,z7,z8,z9,j1,j2,j3,j4,j6⟩
   all_goals rcases f4.out with⟨e1,e2,e3,e4,e5⟩|⟨e1,e2,e3,e4,e5|⟨e5,e6⟩⟩
   all_goals rcases f5.out with d1|⟨d1,d2,d3⟩
   all_goals(
    try clear j7
    try replace j4:decide (c5≤z5)=false:=j4
    try replace j4:=Lh j4
    replace j6:=Lh j6
    (first|(have d45:=d3 e1;obtain⟨d4,d5⟩:=d45)|skip)
    try clear d5
    try clear d3
    try replace d4:=Lh d4
    try replace d2:=Lh d2
    replace d1:=Lh d1
    replace e1:=Lh e1
    replace e2:=Lh e2
    replace e3:=Lh e3
    replace e4:=Lh e4
    replace e5:=Lh e5
    try replace e6:=Lh e6
    clear f4 f5 hprev
    (repeat'(first|(((with_reducible apply Z8);rfl;rfl;((simp only[ev,Ue,Uf]);rfl);rfl;simp only[Uc,Uz]);(repeat(first|((with_reducible apply Z8);rfl;rfl;((simp only[ev,Ue,Uf]);rfl);rfl;simp only[Uc,Uz])|((with_reducible apply wl_pass3);rfl;rfl;simp only[Ue,Uf];simp only[Uc,Uz]))))|((with_reducible apply ZO);((simp only[ev,Ue,Uf]);rfl);((simp only[cond_true,cond_false,ev,Ue,Uf]);rfl);(first|(with_reducible exact Zt)|((with_reducible apply QV);rfl;rfl;simp only[Ue,Uf]));simp only[Uc,Uz])|(first|((with_reducible apply wl_neqC);((simp only[ev,Ue,Uf]);rfl);((simp only[ev,Ue,Uf]);rfl);(with_reducible exact Hid.out (by with_reducible assumption));(first|(with_reducible exact Zt)|((with_reducible apply QV);rfl;rfl;simp only[Ue,Uf]));simp only[Uc,Uz])|((with_reducible apply wl_eqlC);((simp only[ev,Ue,Uf]);rfl);((simp only[ev,Ue,Uf]);rfl);(with_reducible exact Hid.out (by with_reducible assumption));((with_reducible apply QV);rfl;rfl;simp only[Ue,Uf]);simp only[Uc,Uz])|((with_reducible apply wl_lssC);((simp only[ev,Ue,Uf]);rfl);((simp only[ev,Ue,Uf]);rfl);(with_reducible exact Hid.out (by with_reducible assumption));(first|(with_reducible exact Zt)|((with_reducible apply QV);rfl;rfl;simp only[Ue,Uf]));simp only[Uc,Uz])|((with_reducible apply wl_leqC);((simp only[ev,Ue,Uf]);rfl);((simp only[ev,Ue,Uf]);rfl);(with_reducible exact Hid.out (by with_reducible assumption));((with_reducible apply QV);rfl;rfl;simp only[Ue,Uf]);simp only[Uc,Uz])|((with_reducible apply wl_gtrC);((simp only[ev,Ue,Uf]);rfl);((simp only[ev,Ue,Uf]);rfl);(with_reducible exact Hid.out (by with_reducible assumption));(first|(with_reducible exact Zt)|((with_reducible apply QV);rfl;rfl;simp only[Ue,Uf]));simp only[Uc,Uz])|((with_reducible apply wl_geqC);((simp only[ev,Ue,Uf]);rfl);((simp only[ev,Ue,Uf]);rfl);(with_reducible exact Hid.out (by with_reducible assumption));((with_reducible apply QV);rfl;rfl;simp only[Ue,Uf]);simp only[Uc,Uz]))|((with_reducible apply wl_mvB);((simp only[ev,Ue,Uf]);rfl);(first|(with_reducible exact Zt)|((with_reducible apply QV);rfl;rfl;simp only[Ue,Uf]));simp only[Uc,Uz])|(go_big_may;(first|(with_reducible refine NQ.mk ?_)|((with_reducible apply Zg);rfl;rfl)|(with_reducible refine Zh ?_)|((with_reducible apply Za hs);exact Ii;rfl;(with_reducible repeat first|exact Qh|apply Qk);rfl;rfl;simp only[Uc,Uz])|((with_reducible apply ZH hs);exact Ii;rfl;rfl;(with_reducible exact Qh);rfl;rfl;rfl;rfl;clear hs;intro w hs)|((with_reducible apply Zr hs);exact Ii;rfl;clear hs;intro w b hs;simp only[Uc,Uz])|((with_reducible apply QU hs);exact Ii;rfl;assumption;(with_reducible repeat first|exact Qh|apply Qk);rfl;(assumption);rfl;rfl;simp only[Uc,Uz])|((with_reducible apply Qj (k:=0) hs);exact Ii;rfl;assumption;(with_reducible repeat first|exact Qh|apply Qk);(exact(Nat.add_zero _).symm);(assumption);exact Vb rfl;rfl;rfl;simp only[Uc,Uz])|((with_reducible apply ZJ hs);exact Ii;exact Ii;rfl;assumption;rfl;(with_reducible repeat first|exact Qh|apply Qk);(exact(Int.toNat_of_nonneg (by omega)).symm);(assumption);rfl;simp only[Uc,Uz])|((with_reducible apply ZA hs);exact Ii;exact Ii;rfl;rfl;(with_reducible repeat first|exact Qh|apply Qk);rfl;(assumption);rfl;intro b off hat;simp only[Uc,Uz])|((with_reducible apply Zp hs);exact Ii;rfl;(with_reducible repeat first|exact Qh|apply Qk);rfl;simp only[Uc,Uz])|((with_reducible refine Wp (id:=7) (Paz (Pbz [.neu 10,.neu 11,.neu 12])) hs rfl ?_ ?_);kernel_rfl;clear hs;intro w hs)))|go_guarded|go_step))
    go_roundw
    case rel=>exact⟨k+1,(by have:=hnL.out;omega),by simp,by (with_reducible apply Sat.fin hs;repeat first|exact Ql|exact Qh|apply Qb|apply Qk)⟩
    case measure=>have:=hnL.out;simp[intOf];omega)
end Go.Proofs.YtefjbdajgakgpaaGreat
