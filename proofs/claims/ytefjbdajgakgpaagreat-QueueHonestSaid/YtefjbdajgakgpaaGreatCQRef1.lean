import Derived.Test.YtefjbdajgakgpaaGreatCQCen2
set_option linter.all false
namespace Go.Proofs.YtefjbdajgakgpaaGreat
open Go.RowKit Hp
set_option maxRecDepth 100000
section
set_option maxHeartbeats 8000000
attribute [local irreducible] Go.Calls Go.wpList
abbrev cfgR (b:Nat)(c:Cfg):Zb:=pt b (.cells #[.int .i64 c.T,.int .i64 c.R,.int .i64 c.Hz,.int .i64 c.Rt,.int .i64 c.Ca,.int .i64 c.Sl,.int .i64 c.Bu] 23)
theorem prev_cll {cs:List Cll}(hs:Pw (fun x z=>x.begin_<z.begin_) cs){n:Nat}{e:Cll}(he:cs[n]? = some e) :
  (decide ((n:Int)>0)=false∧decide (0<n)=false)∨∃z1 z2 z3 z4 z5 z6 z7 z8 z9:Int,1≤n∧((n:Int)-1).toNat<(cs.map Cll.e).length∧(cs.map Cll.e)[n-1]? = some (Cll.e ⟨z1,z2,z3,z4,z5,z6,z7,z8,z9⟩)∧decide (e.begin_≤z5)=false∧decide ((n:Int)>0)=true:=by
 have hn:=(List.getElem?_eq_some_iff.1 he).1
 cases n with
 | zero=>exact .inl ⟨rfl,rfl⟩
 | succ j=>
  right
  obtain⟨z,hz⟩:∃z,cs[j]? = some z:=⟨_,Yd (by omega)⟩
  have hm:=hs j (j+1) z e (by omega) hz he
  obtain⟨z1,z2,z3,z4,z5,z6,z7,z8,z9⟩:=z
  have hm:z5<e.begin_:=hm
  have e0:(((j+1:Nat):Int)-1).toNat=j:=by omega
  have e1:j<(cs.map Cll.e).length:=by rw[List.length_map];omega
  have e3:(cs.map Cll.e)[j]? = some (Cll.e ⟨z1,z2,z3,z4,z5,z6,z7,z8,z9⟩):=by rw[Ym,hz];rfl
  have e4:decide (e.begin_≤z5)=false:=by rw[decide_eq_false_iff_not];omega
  have e5:decide (((j+1:Nat):Int)>0)=true:=by rw[decide_eq_true_eq];omega
  exact⟨z1,z2,z3,z4,z5,z6,z7,z8,z9,by omega,by rw[e0];exact e1,e3,e4,e5⟩
theorem cen_calls (c:Cfg)(hok:c.Ok)(cs:List Cll)(v:Value)(n:Int)(hn:n≤65536)(hl:cs.length<4294967296)(h0:∀x∈cs,ClOk c n x)
  (hb:Pw (fun x z=>x.begin_<z.begin_) cs) (ho:Pw (fun x z=>x.thread=z.thread→x.end_ ≠ -1∧x.end_<z.begin_) cs) (he:Pw (fun x z=>x.end_ ≠ -1→x.end_≠z.end_) cs) (hbe:∀x∈cs,∀z∈cs,x.end_≠z.begin_) :
  Zl Tryz.prog 74 #[c.v,v] (cslR cs v) (.bool true) (cslR cs v):=by
 intro O w F hs
 have hE:=Lh (fun v=>cen_ends cs v n hn hl (fun x hx=>by have:=h0 x hx;obtain⟨q1,q2,q3,q4,q5,q6⟩:=this;exact⟨⟨q3,q4⟩,by omega⟩) hb he hbe)
 obtain⟨a0,cap0,rfl⟩:=Qi (hs.pull (A:=cslR cs v) (by (with_reducible exact Qh)))
 simp only[List.length_map]at hs ⊢
 have hT1:=hok.T1
 have hT2:=hok.T2
 have h0:=Lh h0
 have hb:=Lh hb
 have ho:=Lh ho
 clear he hbe hok
 go_enter Tryz.func74,Tryz.ntmps74
 (repeat'(first|(go_big_may;((with_reducible apply Zq hs);rfl;rfl;rfl;clear hs;intro w b hs;simp only[Uc,Uz]))|go_step))
 obtain⟨bc,hbc⟩:∃x,x=b:=⟨_,rfl⟩
 subst hbc
 go_loopw [5] (fun q wr=>∃k:Nat,k≤cs.length∧q=.int .i64 (k:Int)∧Sat O wr (cfgR bc c*(cslR cs (.slice a0 cs.length cap0)*F))) (fun q _=>cs.length+1-(intOf q).toNat)
 case atStart=>exact⟨0,by omega,rfl,by ((with_reducible apply Sat.fin hs);(with_reducible exact Ql))⟩
 case round=>
  obtain⟨k,k1,rfl,hs⟩:=hrel
  by_cases hkr:k=cs.length
  ·subst hkr
   have hlt:decide ((cs.length:Int)<(cs.length:Int))=false:=by simp
   (repeat'(first|(go_big_may;(first|((with_reducible apply Za hs);exact Ii;rfl;(with_reducible exact Qh);rfl;rfl;simp only[Uc,Uz])|((with_reducible apply Zp hs);exact Ii;rfl;(with_reducible repeat first|exact Qh|apply Qk);rfl;simp only[Uc,Uz])|((with_reducible apply wl_mk hs);exact Ii;exact Ii;rfl;rfl;rfl;rfl;(exact(Int.toNat_of_nonneg (by omega)).symm);omega;exact Vb rfl;rfl;clear hs;intro w v hs;simp only[Uc,Uz])))|go_step))
   obtain⟨a8,c8,rfl⟩:=Qi (hs.pull (A:=sl 3 1 _ v) (by (with_reducible exact Qh)))
   simp only[List.length_replicate,List.length_map]at hs ⊢
   obtain⟨T0,hT0⟩:∃T0:Nat,c.T=(T0:Int):=⟨c.T.toNat,by omega⟩
   have hT2':c.T.toNat=T0:=by omega
   rw[hT2']at hs ⊢
   have hTl:T0≤16:=by omega
   have hT0:=Lh hT0
   clear hT2' hT1 hT2
   go_loopw [9] (fun q wr=>∃(k:Nat) (ls:List Int),k≤T0∧q=.int .i64 (k:Int)∧Hid (ls.length=T0∧∀j z,j<k→ls[j]? = some z→z = -1) ∧
    Sat O wr (sl 3 1 (ls.map eI) (.slice a8 T0 c8)*(cfgR bc c*(cslR cs (.slice a0 cs.length cap0)*F)))) (fun q _=>T0+1-(intOf q).toNat)
   case atStart=>exact⟨0,List.replicate T0 0,by omega,rfl,Lh ⟨by simp,by omega⟩,by rw[List.map_replicate];((with_reducible apply Sat.fin hs);(focus((repeat(first|with_reducible exact Ql|with_reducible apply Qb|exact Qh));done)))⟩
   case round=>
    obtain⟨k,ls,k1,rfl,hls,hs⟩:=hrel
    by_cases hkr:k=T0
    ·have hkr:=hkr.symm
     subst hkr
     have hl1:=hls.out.1
     have hlt:decide ((T0:Int)<(T0:Int))=false:=by simp
     have hlt3:decide ((T0:Int)<(ls.length:Int))=false:=by simp;omega
     have hlt4:decide (T0<ls.length)=false:=by simp;omega
     have hlt5:decide ((T0:Int)<((ls.map eI).length:Int))=false:=by simp;omega
     clear hl1
     (repeat'(first|(go_big_may;((with_reducible apply Zp hs);exact Ii;rfl;(with_reducible exact Qh);rfl;simp only[Uc,Uz]))|go_step))
     simp only[List.length_map]at hs ⊢
     go_loopw [10] (fun q wr=>∃(k:Nat) (ls:List Int),k≤cs.length∧q=.int .i64 (k:Int)∧Hid (ls.length=T0∧∀(t:Nat) (z:Int),ls[t]? = some z→z = -1∨∃j:Nat,z=(j:Int)∧j<k∧∃y,cs[j]? = some y∧y.thread=(t:Int)) ∧
      Sat O wr (sl 3 1 (ls.map eI) (.slice a8 T0 c8)*(cfgR bc c*(cslR cs (.slice a0 cs.length cap0)*F)))) (fun q _=>cs.length+1-(intOf q).toNat)
     case atStart=>
      refine⟨0,ls,by omega,rfl,Lh ⟨hls.out.1,fun t z hz=>.inl ?_⟩,by ((with_reducible apply Sat.fin hs);(with_reducible exact Ql))⟩
      have h1:=(List.getElem?_eq_some_iff.1 hz).1
      rw[hls.out.1]at h1
      exact hls.out.2 t z h1 hz
     case round=>
      obtain⟨k,ls,k1,rfl,hls,hs⟩:=hrel
      by_cases hkr:k=cs.length
      ·subst hkr
       have hlt:decide ((cs.length:Int)<(cs.length:Int))=false:=by simp
       (repeat'(first|(go_big_may;(first|((with_reducible apply Zp hs);exact Ii;rfl;(with_reducible repeat first|exact Qh|apply Qk);rfl;simp only[Uc,Uz])|(go_at_call 102;((refine((hE.out _)).at hs (by (with_reducible repeat first|exact Qh|apply Qk)) ?_);clear hs;intro w hs;(try simp only[Em,Ma]at hs)))))|go_step|(dsimp only)))
       go_ret
       exact⟨rfl,by (with_reducible apply Sat.fin hs;repeat first|exact Ql|exact Qh|apply Qb|apply Qk)⟩
      ·have hlt:decide ((k:Int)<(cs.length:Int))=true:=by simp;omega
       have hlt2:decide (k<cs.length)=true:=by simp;omega
       have hln:k<(cs.map Cll.e).length:=by simp;omega
       obtain⟨x,hx⟩:∃x,cs[k]? = some x:=⟨_,Yd (by omega)⟩
       obtain⟨q1,q2,_,_,_,_⟩:=h0.out x (Yc hx)
       obtain⟨hl1,hl2⟩:=hls.out
       have hT0':=hT0.out
       obtain⟨th,hth⟩:∃th:Nat,x.thread=(th:Int):=⟨x.thread.toNat,by omega⟩
       have hthT:th<T0:=by omega
       clear hT0'
       obtain⟨z,hz⟩:∃z,ls[th]? = some z:=⟨_,Yd (by omega)⟩
       have hnew:Hid ((ls.set th (k:Int)).length=T0∧∀(t:Nat) (z:Int),(ls.set th (k:Int))[t]? = some z→z = -1∨∃j:Nat,z=(j:Int)∧j<k+1∧∃y,cs[j]? = some y∧y.thread=(t:Int)):=by
        refine Lh ⟨by simp[hl1],fun t z hz => ?_⟩
        by_cases e:t=th
        ·subst e
         rw[Ye (by omega)]at hz
         cases hz
         exact .inr ⟨k,rfl,by omega,x,hx,hth⟩
        ·rw[Yf (Ne.symm e)]at hz
         rcases hl2 t z hz with h|⟨j,h1,h2,h3⟩
         ·exact .inl h
         ·exact .inr ⟨j,h1,by omega,h3⟩
       have hprev:=hl2 th z hz
       have hthl:th<(ls.map eI).length:=by simp;omega
       have hthl2:decide (th<T0)=true:=by simp;omega
       have hgz:(ls.map eI)[th]? = some (eI z):=by rw[Ym,hz];rfl
       rcases hprev with rfl|⟨j,rfl,hjk,y,hy,hyt⟩
       ·obtain⟨c1,c2,c3,c4,c5,c6,c7,c8,c9⟩:=x
        simp only[]at hth
        subst hth
        have hgv:(cs.map Cll.e)[k]? = some (Cll.e ⟨(th:Int),c2,c3,c4,c5,c6,c7,c8,c9⟩):=by rw[Ym,hx];rfl
        have hge:decide ((-1:Int)≥0)=false:=rfl
        have hnL:=Lh (show k<cs.length by omega)
        clear hl1 hl2 hz q1 q2 hx hls hkr
        (repeat'(first|((first|((with_reducible apply Z8);rfl;rfl;((simp only[ev,Ue,Uf]);rfl);rfl;simp only[Uc,Uz])|((with_reducible apply wl_pass3);rfl;rfl;simp only[Ue,Uf];simp only[Uc,Uz]));(repeat(fail)))|((with_reducible apply ZT);((simp only[ev,Ue,Uf]);rfl);((simp only[cond_true,cond_false,ev,Ue,Uf]);rfl);(with_reducible exact Zv);simp only[Uc,Uz])|(go_big_may;(first|(with_reducible refine NQ.mk ?_)|((with_reducible apply Zh);rfl;rfl)|(with_reducible refine Zi ?_)|((with_reducible apply Zn hs);exact Ii;rfl;assumption;(with_reducible repeat first|exact Qh|apply Qk);rfl;(assumption);rfl;rfl;simp only[Uc,Uz])|((with_reducible apply ZS hs);exact Ii;rfl;rfl;assumption;(with_reducible exact Qh);rfl;(assumption);exact Vb rfl;rfl;rfl;clear hs;intro w hs)|((with_reducible apply ZU hs);exact Ii;exact Ii;rfl;assumption;rfl;(with_reducible repeat first|exact Qh|apply Qk);rfl;(assumption);rfl;simp only[Uc,Uz])|((with_reducible apply ZE hs);exact Ii;exact Ii;rfl;rfl;(with_reducible repeat first|exact Qh|apply Qk);rfl;(assumption);rfl;intro b off hat;simp only[Uc,Uz])|((with_reducible apply Zp hs);exact Ii;rfl;(with_reducible repeat first|exact Qh|apply Qk);rfl;simp only[Uc,Uz])|((with_reducible refine Wp (id:=23) (Paz (Pbz (Pcz (Pdz [.neu 20,.neu 21,.neu 22])))) hs rfl ?_ ?_);kernel_rfl;clear hs;intro w hs)))|go_step))
        go_roundw
        case rel=>exact⟨k+1,ls.set th (k:Int),(by have:=hnL.out;omega),by simp,hnew,by rw[Yk];((with_reducible apply Sat.fin hs);(focus((repeat(first|with_reducible exact Ql|with_reducible apply Qb|exact Qh));done)))⟩
        case measure=>have:=hnL.out;simp[intOf];omega
       ·have hord:=ho.out j k y x hjk hy hx (by omega)
        obtain⟨o1,o2⟩:=hord
        obtain⟨c1,c2,c3,c4,c5,c6,c7,c8,c9⟩:=x
        obtain⟨d1,d2,d3,d4,d5,d6,d7,d8,d9⟩:=y
        simp only[]at hth o1 o2
        subst hth
        have hgv:(cs.map Cll.e)[k]? = some (Cll.e ⟨(th:Int),c2,c3,c4,c5,c6,c7,c8,c9⟩):=by rw[Ym,hx];rfl
        have hgy:(cs.map Cll.e)[j]? = some (Cll.e ⟨d1,d2,d3,d4,d5,d6,d7,d8,d9⟩):=by rw[Ym,hy];rfl
        have hge:decide ((j:Int)≥0)=true:=by simp
        have hjl:j<(cs.map Cll.e).length:=by simp;omega
        have hjl2:decide (j<cs.length)=true:=by simp;omega
        have hne:(d6 == -1)=false:=by simpa using o1
        have hge2:decide (d6≥c5)=false:=by simp;omega
        have hnL:=Lh (show k<cs.length by omega)
        clear hl1 hl2 hz q1 q2 hx hls hkr hy hyt o1 o2 hjk
        (repeat'(first|((with_reducible apply ZT);((simp only[ev,Ue,Uf]);rfl);((simp only[cond_true,cond_false,ev,Ue,Uf]);rfl);(first|(with_reducible exact Zv)|((with_reducible apply Q6);rfl;rfl;simp only[Ue,Uf]));simp only[Uc,Uz])|(go_big_may;(first|(with_reducible refine NQ.mk ?_)|((with_reducible apply Zh);rfl;rfl)|(with_reducible refine Zi ?_)|((with_reducible apply QW hs);exact Ii;rfl;assumption;(with_reducible repeat first|exact Qh|apply Qk);rfl;(assumption);rfl;rfl;simp only[Uc,Uz])|((with_reducible apply Zn hs);exact Ii;rfl;assumption;(with_reducible repeat first|exact Qh|apply Qk);rfl;(assumption);rfl;rfl;simp only[Uc,Uz])|((with_reducible apply ZS hs);exact Ii;rfl;rfl;assumption;(with_reducible exact Qh);rfl;(assumption);exact Vb rfl;rfl;rfl;clear hs;intro w hs)|((with_reducible apply ZU hs);exact Ii;exact Ii;rfl;assumption;rfl;(with_reducible repeat first|exact Qh|apply Qk);rfl;(assumption);rfl;simp only[Uc,Uz])|((with_reducible apply ZE hs);exact Ii;exact Ii;rfl;rfl;(with_reducible repeat first|exact Qh|apply Qk);rfl;(assumption);rfl;intro b off hat;simp only[Uc,Uz])|((with_reducible apply Zp hs);exact Ii;rfl;(with_reducible repeat first|exact Qh|apply Qk);rfl;simp only[Uc,Uz])|((with_reducible refine Wp (id:=23) (Paz (Pbz (Pcz (Pdz [.neu 20,.neu 21,.neu 22])))) hs rfl ?_ ?_);kernel_rfl;clear hs;intro w hs)))|go_guarded|go_step))
        go_roundw
        case rel=>exact⟨k+1,ls.set th (k:Int),(by have:=hnL.out;omega),by simp,hnew,by rw[Yk];((with_reducible apply Sat.fin hs);(focus((repeat(first|with_reducible exact Ql|with_reducible apply Qb|exact Qh));done)))⟩
        case measure=>have:=hnL.out;simp[intOf];omega
    ·have hlt:decide ((k:Int)<(T0:Int))=true:=by simp;omega
     have hlt2:decide (k<T0)=true:=by simp;omega
     have hl1:=hls.out.1
     have hlt3:decide ((k:Int)<(ls.length:Int))=true:=by simp;omega
     have hlt4:decide (k<ls.length)=true:=by simp;omega
     have hlt5:decide ((k:Int)<((ls.map eI).length:Int))=true:=by simp;omega
     have hln:k<(ls.map eI).length:=by simp;omega
     obtain⟨z,hz⟩:∃z,ls[k]? = some z:=⟨_,Yd (by omega)⟩
     have hgz:(ls.map eI)[k]? = some (eI z):=by rw[Ym,hz];rfl
     have hnew:Hid ((ls.set k (-1)).length=T0∧∀j z,j<k+1→(ls.set k (-1))[j]? = some z→z = -1):=by
      refine Lh ⟨by simp[hl1],fun j z hj hz => ?_⟩
      by_cases e:j=k
      ·subst e
       rw[Ye (by omega)]at hz
       cases hz;rfl
      ·rw[Yf (Ne.symm e)]at hz
       exact hls.out.2 j z (by omega) hz
     have hnL:=Lh (show k<T0 by omega)
     clear hl1 hz hkr
     (repeat'(first|(go_big_may;(first|((with_reducible apply ZS hs);exact Ii;rfl;rfl;assumption;(with_reducible exact Qh);rfl;(assumption);exact Vb rfl;rfl;rfl;clear hs;intro w hs)|((with_reducible apply ZE hs);exact Ii;exact Ii;rfl;rfl;(with_reducible exact Qh);rfl;(assumption);rfl;intro b off hat;simp only[Uc,Uz])|((with_reducible apply Zp hs);exact Ii;rfl;(with_reducible exact Qh);rfl;simp only[Uc,Uz])))|go_step))
     go_roundw
     case rel=>exact⟨k+1,ls.set k (-1),(by have:=hnL.out;omega),by simp,hnew,by rw[Yk];((with_reducible apply Sat.fin hs);(focus((repeat(first|with_reducible exact Ql|with_reducible apply Qb|exact Qh));done)))⟩
     case measure=>have:=hnL.out;simp[intOf];omega
  ·have hlt:decide ((k:Int)<(cs.length:Int))=true:=by simp;omega
   have hlt2:decide (k<cs.length)=true:=by simp;omega
   have hln:k<(cs.map Cll.e).length:=by simp;omega
   obtain⟨x,hx⟩:∃x,cs[k]? = some x:=⟨_,Yd (by omega)⟩
   obtain⟨q1,q2,q3,q4,q5,q6⟩:=h0.out x (Yc hx)
   have hprev:=Lh (prev_cll hb.out hx)
   have hnL:=Lh (show k<cs.length by omega)
   obtain⟨c1,c2,c3,c4,c5,c6,c7,c8,c9⟩:=x
   simp only[]at q1 q2 q3 q4 q5 q6
   have f1:decide (c1<0)=false:=by simp;omega
   have f2:decide (c1≥c.T)=false:=by simp;omega
   have f2':decide (c.T≤c1)=false:=by simp;omega
   have f3:decide (c5<0)=false:=by simp;omega
   have f4:Hid (((c6 != -1)=false∧(c6 == -1)=true∧(c8==0)=true∧(c8 != 2)=true∧(c9 != 0)=false)∨((c6 != -1)=true∧(c6 == -1)=false∧decide (c6≤c5)=false∧(c8==0)=false∧((c8 != 2)=false∨(c8 != 2)=true∧(c9 != 0)=false))):=by
    refine Lh ?_
    rcases q5 with⟨e1,e2,e3⟩|⟨e1,e2,e3,e4,e5⟩
    ·exact .inl ⟨by simp;omega,by simp;omega,by simp;omega,by simp;omega,by simp;omega⟩
    ·refine .inr ⟨by simp;omega,by simp;omega,by simp;omega,by simp;omega,?_⟩
     by_cases e:c8=2
     ·exact .inl (by simpa using e)
     ·exact .inr ⟨by simpa using e,by simpa using e5 e⟩
   have f5:Hid ((c7 != -1)=false∨((c7 != -1)=true∧decide (c7≤c5)=false∧((c6 != -1)=true→decide (c7>c6)=false∧decide (c6<c7)=false))):=by
    refine Lh ?_
    rcases q6 with e|⟨e1,e2,e3⟩
    ·exact .inl (by simp;omega)
    ·exact .inr ⟨by simp;omega,by simp;omega,fun h=>by have h':c6 ≠ -1:=(by simpa using h);have:=e3 h';constructor<;>simp<;>omega⟩
   have f6:decide (c8<0)=false:=by simp;omega
   have f7:decide (c8>6)=false:=by simp;omega
   have f7':decide (6<c8)=false:=by simp;omega
   have hgv:(cs.map Cll.e)[k]? = some (Cll.e ⟨c1,c2,c3,c4,c5,c6,c7,c8,c9⟩):=by rw[Ym,hx];rfl
   clear hx q1 q2 q3 q4 q5 q6 hkr
   have f1:=Lh f1
   have f2:=Lh f2
   have f3:=Lh f3
   have f6:=Lh f6
   have f7:=Lh f7
   clear f2' f7'
   rcases hprev.out with⟨j6,j7⟩|⟨z1,z2,z3,z4,z5,z6,z7,z8,z9,j1,j2,j3,j4,j6⟩
   all_goals rcases f4.out with⟨e1,e2,e3,e4,e5⟩|⟨e1,e2,e3,e4,e5|⟨e5,e6⟩⟩
   all_goals rcases f5.out with d1|⟨d1,d2,d3⟩
   all_goals(
    try clear j7
    try replace j4:decide (c5≤z5)=false:=j4
    try replace j4:=Lh j4
    replace j6:=Lh j6
    (first|(have d45:=d3 e1;obtain⟨d4,d5⟩:=d45)|skip)
    try clear d5
    try clear d3
    try replace d4:=Lh d4
    try replace d2:=Lh d2
    replace d1:=Lh d1
    replace e1:=Lh e1
    replace e2:=Lh e2
    replace e3:=Lh e3
    replace e4:=Lh e4
    replace e5:=Lh e5
    try replace e6:=Lh e6
    clear f4 f5 hprev
    (repeat'(first|(((with_reducible apply Z8);rfl;rfl;((simp only[ev,Ue,Uf]);rfl);rfl;simp only[Uc,Uz]);(repeat(first|((with_reducible apply Z8);rfl;rfl;((simp only[ev,Ue,Uf]);rfl);rfl;simp only[Uc,Uz])|((with_reducible apply wl_pass3);rfl;rfl;simp only[Ue,Uf];simp only[Uc,Uz]))))|((with_reducible apply ZT);((simp only[ev,Ue,Uf]);rfl);((simp only[cond_true,cond_false,ev,Ue,Uf]);rfl);(first|(with_reducible exact Zv)|((with_reducible apply Q6);rfl;rfl;simp only[Ue,Uf]));simp only[Uc,Uz])|(first|((with_reducible apply wl_neqC);((simp only[ev,Ue,Uf]);rfl);((simp only[ev,Ue,Uf]);rfl);(with_reducible exact Hid.out (by with_reducible assumption));(first|(with_reducible exact Zv)|((with_reducible apply Q6);rfl;rfl;simp only[Ue,Uf]));simp only[Uc,Uz])|((with_reducible apply wl_eqlC);((simp only[ev,Ue,Uf]);rfl);((simp only[ev,Ue,Uf]);rfl);(with_reducible exact Hid.out (by with_reducible assumption));((with_reducible apply Q6);rfl;rfl;simp only[Ue,Uf]);simp only[Uc,Uz])|((with_reducible apply wl_lssC);((simp only[ev,Ue,Uf]);rfl);((simp only[ev,Ue,Uf]);rfl);(with_reducible exact Hid.out (by with_reducible assumption));(first|(with_reducible exact Zv)|((with_reducible apply Q6);rfl;rfl;simp only[Ue,Uf]));simp only[Uc,Uz])|((with_reducible apply wl_leqC);((simp only[ev,Ue,Uf]);rfl);((simp only[ev,Ue,Uf]);rfl);(with_reducible exact Hid.out (by with_reducible assumption));((with_reducible apply Q6);rfl;rfl;simp only[Ue,Uf]);simp only[Uc,Uz])|((with_reducible apply wl_gtrC);((simp only[ev,Ue,Uf]);rfl);((simp only[ev,Ue,Uf]);rfl);(with_reducible exact Hid.out (by with_reducible assumption));(first|(with_reducible exact Zv)|((with_reducible apply Q6);rfl;rfl;simp only[Ue,Uf]));simp only[Uc,Uz])|((with_reducible apply wl_geqC);((simp only[ev,Ue,Uf]);rfl);((simp only[ev,Ue,Uf]);rfl);(with_reducible exact Hid.out (by with_reducible assumption));((with_reducible apply Q6);rfl;rfl;simp only[Ue,Uf]);simp only[Uc,Uz]))|((with_reducible apply wl_mvB);((simp only[ev,Ue,Uf]);rfl);(first|(with_reducible exact Zv)|((with_reducible apply Q6);rfl;rfl;simp only[Ue,Uf]));simp only[Uc,Uz])|(go_big_may;(first|(with_reducible refine NQ.mk ?_)|((with_reducible apply Zh);rfl;rfl)|(with_reducible refine Zi ?_)|((with_reducible apply Za hs);exact Ii;rfl;(with_reducible repeat first|exact Qh|apply Qk);rfl;rfl;simp only[Uc,Uz])|((with_reducible apply ZG hs);exact Ii;rfl;rfl;(with_reducible exact Qh);rfl;rfl;rfl;rfl;clear hs;intro w hs)|((with_reducible apply Zo hs);exact Ii;rfl;clear hs;intro w b hs;simp only[Uc,Uz])|((with_reducible apply QW hs);exact Ii;rfl;assumption;(with_reducible repeat first|exact Qh|apply Qk);rfl;(assumption);rfl;rfl;simp only[Uc,Uz])|((with_reducible apply QE (k:=0) hs);exact Ii;rfl;assumption;(with_reducible repeat first|exact Qh|apply Qk);(exact(Nat.add_zero _).symm);(assumption);exact Vb rfl;rfl;rfl;simp only[Uc,Uz])|((with_reducible apply ZU hs);exact Ii;exact Ii;rfl;assumption;rfl;(with_reducible repeat first|exact Qh|apply Qk);(exact(Int.toNat_of_nonneg (by omega)).symm);(assumption);rfl;simp only[Uc,Uz])|((with_reducible apply ZE hs);exact Ii;exact Ii;rfl;rfl;(with_reducible repeat first|exact Qh|apply Qk);rfl;(assumption);rfl;intro b off hat;simp only[Uc,Uz])|((with_reducible apply Zp hs);exact Ii;rfl;(with_reducible repeat first|exact Qh|apply Qk);rfl;simp only[Uc,Uz])|((with_reducible refine Wp (id:=7) (Paz (Pbz [.neu 10,.neu 11,.neu 12])) hs rfl ?_ ?_);kernel_rfl;clear hs;intro w hs)))|go_guarded|go_step))
    go_roundw
    case rel=>exact⟨k+1,(by have:=hnL.out;omega),by simp,by (with_reducible apply Sat.fin hs;repeat first|exact Ql|exact Qh|apply Qb|apply Qk)⟩
    case measure=>have:=hnL.out;simp[intOf];omega)
end
section
set_option maxHeartbeats 1000000
attribute [local irreducible] Go.Calls
theorem ref_many (c:Cfg)(h:c.Ok)(r:Nat)(h1:1≤r)(h2:r≤13):Zl Tryz.prog 73 #[c.v,.int .i64 (r:Int)] emp (.int .i64 (many c r)) emp:=by
 intro O w F hs
 obtain⟨g1,g2⟩:=h.rh
 have hw:wrap64 (c.R*c.Hz)=c.R*c.Hz:=by unfold wrap64;omega
 have hr:r=1∨r=2∨r=3∨r=4∨r=5∨r=6∨r=7∨r=8∨r=9∨r=10∨r=11∨r=12∨r=13:=by omega
 rcases hr with rfl|rfl|rfl|rfl|rfl|rfl|rfl|rfl|rfl|rfl|rfl|rfl|rfl
 all_goals
  go_enter Tryz.func73,Tryz.ntmps73
  go_wp2_with (first|((with_reducible apply Za hs);exact Ii;rfl;(with_reducible exact Qh);rfl;rfl;simp only[Uc,Uz])|((with_reducible apply Zq hs);rfl;rfl;rfl;clear hs;intro w b hs;simp only[Uc,Uz]))
  go_ret
  exact⟨by simp[many,hw],by ((with_reducible apply Sat.fin hs);(focus with_reducible (repeat first|exact Ql|exact Qn|apply Qb|apply Qk);done))⟩
theorem ref_base (c:Cfg)(h:c.Ok)(r:Nat)(h1:1≤r)(h2:r≤13):Zl Tryz.prog 31 #[c.v,.int .i64 (r:Int)] emp (.int .i64 (base c r)) emp:=by
 intro O w F hs
 have hM:=Lh (ref_many c h)
 go_enter Tryz.func31,Tryz.ntmps31
 go_wp2_with ((with_reducible apply Zq hs);rfl;rfl;rfl;clear hs;intro w b hs;simp only[Uc,Uz])
 (obtain⟨A,hA,hsn⟩:∃A,Hid (A=_)∧Sat O w A:=⟨_,Lh rfl,hs⟩;clear hs;have hs:=hsn;clear hsn)
 go_loopw [5,6] (fun a q wr=>∃k:Nat,1≤k∧k≤r∧q=.int .i64 (k:Int)∧a=.int .i64 (base c k)∧Sat O wr A) (fun _ q _=>15-(intOf q).toNat)
 case atStart=>exact⟨1,by omega,by omega,rfl,rfl,hs⟩
 case round=>
  obtain⟨k,k1,k2,rfl,rfl,hs⟩:=hrel
  have hb:=ZD h k
  have hmk:=many_le h k
  have e1:=base_succ c _ k1
  rw[hA.out]at hs
  by_cases hkr:k=r
  ·subst hkr
   have hlt:decide ((k:Int)<(k:Int))=false:=by simp
   have hlt2:decide (k<k)=false:=by simp
   go_wp2_with (fail)
   go_ret
   exact⟨rfl,by ((with_reducible apply Sat.fin hs);(focus with_reducible (repeat first|exact Ql|exact Qn|apply Qb|apply Qk);done))⟩
  ·have hlt:decide ((k:Int)<(r:Int))=true:=by simp;omega
   have hlt2:decide (k<r)=true:=by simp;omega
   have hM1:=Lh (hM.out k k1 (by omega))
   go_wp2_with (first|((with_reducible apply ZZ hs);exact Ii;rfl;(with_reducible exact Qh);rfl;rfl;simp only[Uc,Uz])|(go_at_call 73;((refine(hM1.out).at hs (by (focus((repeat(with_reducible exact Qn));done))) ?_);clear hs;intro w hs;(try simp only[Em,Ma]at hs))))
   go_roundw
   case rel=>exact⟨k+1,by omega,by omega,by simp,by rw[e1],by rw[hA.out];((with_reducible apply Sat.fin hs);(focus with_reducible (repeat first|exact Ql|exact Qh|exact Qn|apply Qb);done))⟩
   case measure=>simp[intOf];omega
theorem ref_size (c:Cfg)(h:c.Ok):Zl Tryz.prog 34 #[c.v] emp (.int .i64 (base c 14)) emp:=by
 intro O w F hs
 have hB:=Lh (ref_base c h 13 (by omega) (by omega))
 have hb:=ZD h 13
 have h2:=h.S1;have h3:=h.S2
 have e:base c 14=base c 13+c.Sl:=rfl
 have hw:wrap64 (base c 13+c.Sl)=base c 14:=by unfold wrap64;omega
 go_enter Tryz.func34,Tryz.ntmps34
 go_wp2_with (first|(with_reducible first|apply NQ.mk|apply EQ.mk|exact Zg|apply Zi)|((with_reducible apply Zh);rfl;rfl)|((with_reducible apply Zm);rfl)|((with_reducible refine Zr ?_ ?_);focus((with_reducible apply ZK);rfl;rfl))|(show Qo _ _ _;rfl)|((with_reducible apply Za hs);exact Ii;rfl;(with_reducible exact Qh);rfl;rfl;simp only[Uc,Uz])|((with_reducible apply ZZ hs);exact Ii;rfl;(with_reducible exact Qh);rfl;rfl;simp only[Uc,Uz])|((with_reducible apply Zq hs);rfl;rfl;rfl;clear hs;intro w b hs;simp only[Uc,Uz])|(go_at_call 31;((refine(hB.out).at hs (by (focus((repeat(with_reducible exact Qn));done))) ?_);clear hs;intro w hs;(try simp only[Em,Ma]at hs)))|((with_reducible refine Wp (id:=1) [.neu 0,.neu 2,.neu 3,.eff 1 [2,3],.neu 4,.neu 5] hs rfl ?_ ?_);kernel_rfl;clear hs;intro w hs))
 go_ret
 exact⟨by simp[e],by ((with_reducible apply Sat.fin hs);(focus with_reducible (repeat first|exact Ql|exact Qn|apply Qb|apply Qk);done))⟩
end
section
set_option maxHeartbeats 1000000
attribute [local irreducible] Go.Calls
theorem ref_packLink (s:Int)(h0 : -1≤s)(h1:s≤2147483646):Zl Tryz.prog 32 #[.int .i64 s,.bool false] emp (.int .u64 (s+1)) emp:=by
 intro O w F hs
 go_enter Tryz.func32,Tryz.ntmps32
 go_wp2_with (fail)
 go_ret
 exact⟨rfl,by ((with_reducible apply Sat.fin hs);(with_reducible exact Ql))⟩
theorem ref_packHead (t s:Int)(t0:0≤t)(h0 : -1≤s)(h1:s≤2147483646):Zl Tryz.prog 71 #[.int .u64 t,.int .i64 s] emp (.int .u64 (t%4294967296*4294967296+(s+1))) emp:=by
 intro O w F hs
 go_enter Tryz.func71,Tryz.ntmps71
 go_wp2_with (fail)
 go_ret
 exact⟨rfl,by ((with_reducible apply Sat.fin hs);(with_reducible exact Ql))⟩
theorem ref_first1 (c:Cfg)(h:c.Ok):Does Tryz.prog 28 #[c.v,.int .i64 1] emp (fun v=>sl 79 1 ((QJ c 1).map eU) v):=by
 intro O w F hs
 have hS:=Lh (ref_size c h)
 have hb10:=ZD h 10
 have hA:=Lh (ref_base c h 10 (by omega) (by omega))
 have hA4:=ref_base c h 4 (by omega) (by omega)
 have hA5:=ref_base c h 5 (by omega) (by omega)
 rw[show base c 4=3 by simp[base,many]]at hA4
 rw[show base c 5=4 by simp[base,many]]at hA5
 have hA4:=Lh hA4
 have hA5:=Lh hA5
 have hPH:=ref_packHead 0 1 (by omega) (by omega) (by omega)
 rw[show(0%4294967296*4294967296+(1+1):Int)=2 from rfl]at hPH
 have hPH:=Lh hPH
 have hP0:=ref_packLink 0 (by omega) (by omega)
 rw[show(0:Int)+1=1 from rfl]at hP0
 have hP0:=Lh hP0
 obtain⟨hc1,hc2⟩:=base_cells h
 have hb14:=ZD h 14
 have hs1:=h.S1
 have hs2:=h.S2
 have n1:decide ((1:Int)>0)=true:=rfl
 obtain⟨W0,hW0⟩:∃W0:List Int,W0=List.replicate (base c 14).toNat 0:=⟨_,rfl⟩
 have hrep:List.replicate (base c 14).toNat (Value.int .u64 0).cells.toList=W0.map eU:=by rw[hW0,List.map_replicate];rfl
 have hlen:W0.length=(base c 14).toNat:=by rw[hW0];simp
 have hl0:0<W0.length:=by omega
 have hg0:(W0.map eU)[0]? = some (eU 0):=by rw[hW0];simp[List.getElem?_replicate];omega
 have hln0:0<(W0.map eU).length:=by simp;omega
 have hfin:∀W1,W1=(if 1<c.Sl then W0.set 0 2 else W0)→QJ c 1=((Z4 W1 (base c 10) 1 (c.Sl.toNat-1-1)).set 3 1).set 4 1:=by
  rintro W1 rfl
  simp only[QJ]
  rw[if_pos (by omega),←hW0]
  rfl
 have hfin:=Lh hfin
 have hz:∀W1,W1=(if 1<c.Sl then W0.set 0 2 else W0)→W1.length=(base c 14).toNat:=by
  rintro W1 rfl
  split
  ·rw[List.length_set,hlen]
  ·exact hlen
 have hz:=Lh hz
 clear hW0
 by_cases hS2:1<c.Sl
 case' pos=>
  have n2:decide (1<c.Sl)=true:=by simp;omega
  obtain⟨W1,hW1,e0⟩:∃W1:List Int,W1=(if 1<c.Sl then W0.set 0 2 else W0)∧Hid ((List.map eU W0).set 0 ((eU 0).set 0 (Value.int IntKind.u64 2))=W1.map eU):=⟨_,rfl,Lh (by rw[if_pos hS2];simp[Yk])⟩
 case' neg=>
  have n2:decide (1<c.Sl)=false:=by simp;omega
  obtain⟨W1,hW1,e0⟩:∃W1:List Int,W1=(if 1<c.Sl then W0.set 0 2 else W0)∧Hid (List.map eU W0=W1.map eU):=⟨_,rfl,Lh (by rw[if_neg hS2])⟩
 all_goals(
  have hF1:=Lh (hfin.out W1 hW1)
  have hz1:=Lh (hz.out W1 hW1)
  clear hW1 hz hfin hS2
  go_enter Tryz.func28,Tryz.ntmps28
  (repeat'(first|(go_big_may;(first|((with_reducible apply Za hs);exact Ii;rfl;(with_reducible repeat first|exact Qh|apply Qk);rfl;rfl;simp only[Uc,Uz])|((with_reducible apply ZZ hs);exact Ii;rfl;(with_reducible exact Qh);rfl;rfl;simp only[Uc,Uz])|((with_reducible apply Zq hs);rfl;rfl;rfl;clear hs;intro w b hs;simp only[Uc,Uz])|((with_reducible apply ZS hs);exact Ii;rfl;rfl;assumption;(with_reducible exact Qh);rfl;(assumption);exact Vb rfl;rfl;rfl;clear hs;intro w hs)|((with_reducible apply ZE hs);exact Ii;exact Ii;rfl;rfl;(with_reducible exact Qh);rfl;(assumption);rfl;intro b off hat;simp only[Uc,Uz])|(((with_reducible apply wl_mk hs);exact Ii;exact Ii;rfl;rfl;rfl;rfl;(exact(Int.toNat_of_nonneg (by omega)).symm);omega;exact Vb rfl;rfl;clear hs;intro w v hs;simp only[Uc,Uz]);rw[hrep]at hs)|(go_at_call 34;((refine(hS.out).at hs (by (focus((repeat(with_reducible exact Qn));done))) ?_);clear hs;intro w hs;(try simp only[Em,Ma]at hs)))|(go_at_call 71;((refine(hPH.out).at hs (by (focus((repeat(with_reducible exact Qn));done))) ?_);clear hs;intro w hs;(try simp only[Em,Ma]at hs)))))|go_step|(dsimp only)))
  rw[e0.out]at hs
  have hlW:∀n,(Z4 W1 (base c 10) 1 n).length=(base c 14).toNat:=fun n=>by rw[fillW_len];exact hz1.out
  clear hg0 hln0 hl0 hrep hlen e0
  obtain⟨T,hT,hs⟩:∃T,Hid (T=_)∧Sat O w (sl 79 1 ((Z4 W1 (base c 10) 1 (1-1)).map eU) v*T):=⟨_,Lh rfl,hs.pull (by (focus((repeat(exact Qh));done)))⟩
  go_loopw [6] (fun q wr=>∃s:Nat,(1≤s∧(s:Int)≤c.Sl∧(s=1∨(s:Int)+1≤c.Sl))∧q=.int .i64 (s:Int)∧Sat O wr (sl 79 1 ((Z4 W1 (base c 10) 1 (s-1)).map eU) v*T)) (fun q _=>1025-(intOf q).toNat)
  case atStart=>exact⟨1,⟨by omega,by omega,.inl rfl⟩,rfl,by ((with_reducible apply Sat.fin hs);(with_reducible exact Ql))⟩
  case round=>
   obtain⟨s,⟨k0,k1,k2⟩,rfl,hs⟩:=hrel
   rw[hT.out]at hs
   have hl:=hlW (s-1)
   by_cases hkr:(s:Int)+1<c.Sl
   ·have hlt:decide ((s:Int)+1<c.Sl)=true:=by simpa using hkr
    have hPL:=Lh (ref_packLink ((s:Int)+1) (by omega) (by omega))
    have hix:base c 10+(s:Int)<((Z4 W1 (base c 10) 1 (s-1)).length:Int):=by rw[hl];omega
    have hi2:(base c 10+(s:Int)).toNat<(Z4 W1 (base c 10) 1 (s-1)).length:=by omega
    obtain⟨x,hx⟩:∃x,(Z4 W1 (base c 10) 1 (s-1))[(base c 10+(s:Int)).toNat]? = some x:=⟨_,Yd hi2⟩
    have hgx:((Z4 W1 (base c 10) 1 (s-1)).map eU)[(base c 10+(s:Int)).toNat]? = some (eU x):=by rw[Ym,hx];rfl
    have hi3:(base c 10+(s:Int)).toNat<((Z4 W1 (base c 10) 1 (s-1)).map eU).length:=by rw[List.length_map];exact hi2
    have e1:Hid ((List.map eU (Z4 W1 (base c 10) 1 (s-1))).set (base c 10+(s:Int)).toNat [Value.int IntKind.u64 ((s:Int)+1+1)]=(Z4 W1 (base c 10) 1 (s+1-1)).map eU):=Lh (by
     obtain⟨n,rfl⟩:∃n,s=n+1:=⟨s-1,by omega⟩
     simp only[Nat.add_sub_cancel,Z4,Yk]
     rw[show((1+n:Nat):Int)=((n+1:Nat):Int) by omega,show((1+n+2:Nat):Int)=((n+1:Nat):Int)+1+1 by omega])
    have e2:Hid ((List.map eU (Z4 W1 (base c 10) 1 (s-1))).set (base c 10+(s:Int)).toNat ((eU x).set 0 (Value.int IntKind.u64 ((s:Int)+1+1)))=(Z4 W1 (base c 10) 1 (s+1-1)).map eU):=Lh e1.out
    have hK:=Lh (show 1≤s+1∧((s+1:Nat):Int)≤c.Sl∧(s+1=1∨((s+1:Nat):Int)+1≤c.Sl) by omega)
    have hKs:=Lh (show s<1024 by omega)
    have hw1:wrap64 (base c 10+(s:Int))=base c 10+(s:Int):=by unfold wrap64;omega
    have hw2:wrap64 ((s:Int)+1)=(s:Int)+1:=by unfold wrap64;omega
    (repeat'(first|(go_big_may;(first|((with_reducible apply Za hs);exact Ii;rfl;(with_reducible repeat first|exact Qh|apply Qk);rfl;rfl;simp only[Uc,Uz])|((with_reducible apply ZZ hs);exact Ii;rfl;(with_reducible repeat first|exact Qh|apply Qk);rfl;rfl;simp only[Uc,Uz])|((with_reducible apply ZS hs);exact Ii;rfl;rfl;assumption;(with_reducible exact Qh);rfl;(assumption);exact Vb rfl;rfl;rfl;clear hs;intro w hs)|((with_reducible apply ZU hs);exact Ii;exact Ii;rfl;assumption;rfl;(with_reducible exact Qh);(exact(Int.toNat_of_nonneg (by omega)).symm);(assumption);rfl;simp only[Uc,Uz])|((with_reducible apply ZE hs);exact Ii;exact Ii;rfl;rfl;(with_reducible exact Qh);(exact(Int.toNat_of_nonneg (by omega)).symm);(assumption);rfl;intro b off hat;simp only[Uc,Uz])|(go_at_call 31;((refine(hA.out).at hs (by (focus((repeat(with_reducible exact Qn));done))) ?_);clear hs;intro w hs;(try simp only[Em,Ma]at hs)))|(go_at_call 32;((refine(hPL.out).at hs (by (focus((repeat(with_reducible exact Qn));done))) ?_);clear hs;intro w hs;(try simp only[Em,Ma]at hs)))))|go_step|(dsimp only)))
    (rw[e2.out]at hs)
    go_roundw
    case rel=>exact⟨s+1,hK.out,by simp,by rw[hT.out];((with_reducible apply Sat.fin hs);(with_reducible exact Ql))⟩
    case measure=>have:=hKs.out;simp[intOf];omega
   ·have hlt:decide ((s:Int)+1<c.Sl)=false:=by simpa using hkr
    have hN:Hid (s-1=c.Sl.toNat-1-1):=Lh (by omega)
    have hl3:3<(Z4 W1 (base c 10) 1 (s-1)).length:=by omega
    have hl4:4<(Z4 W1 (base c 10) 1 (s-1)).length:=by omega
    obtain⟨y3,h3⟩:∃x,(Z4 W1 (base c 10) 1 (s-1))[3]? = some x:=⟨_,Yd hl3⟩
    obtain⟨y4,h4⟩:∃x,(Z4 W1 (base c 10) 1 (s-1))[4]? = some x:=⟨_,Yd hl4⟩
    have hg3:((Z4 W1 (base c 10) 1 (s-1)).map eU)[3]? = some (eU y3):=by rw[Ym,h3];rfl
    have hg4:(((Z4 W1 (base c 10) 1 (s-1)).map eU).set 3 [.int .u64 1])[4]? = some (eU y4):=by rw[Yf (by omega),Ym,h4];rfl
    have hm3:3<((Z4 W1 (base c 10) 1 (s-1)).map eU).length:=by rw[List.length_map];exact hl3
    have hm4:4<(((Z4 W1 (base c 10) 1 (s-1)).map eU).set 3 [.int .u64 1]).length:=by rw[List.length_set,List.length_map];exact hl4
    have e3:Hid ((((Z4 W1 (base c 10) 1 (s-1)).map eU).set 3 [.int .u64 1]).set 4 [.int .u64 1]=(QJ c 1).map eU):=Lh (by
     rw[hF1.out,←hN.out,Yk,Yk])
    have e4:Hid ((((Z4 W1 (base c 10) 1 (s-1)).map eU).set 3 ((eU y3).set 0 (.int .u64 1))).set 4 ((eU y4).set 0 (.int .u64 1))=(QJ c 1).map eU):=Lh e3.out
    clear hl3 hl4 h3 h4
    (repeat'(first|(go_big_may;(first|((with_reducible apply Za hs);exact Ii;rfl;(with_reducible repeat first|exact Qh|apply Qk);rfl;rfl;simp only[Uc,Uz])|((with_reducible apply ZZ hs);exact Ii;rfl;(with_reducible repeat first|exact Qh|apply Qk);rfl;rfl;simp only[Uc,Uz])|((with_reducible apply ZS hs);exact Ii;rfl;rfl;assumption;(with_reducible exact Qh);rfl;(assumption);exact Vb rfl;rfl;rfl;clear hs;intro w hs)|((with_reducible apply ZU hs);exact Ii;exact Ii;rfl;assumption;rfl;(with_reducible exact Qh);rfl;(assumption);rfl;simp only[Uc,Uz])|((with_reducible apply ZE hs);exact Ii;exact Ii;rfl;rfl;(with_reducible exact Qh);rfl;(assumption);rfl;intro b off hat;simp only[Uc,Uz])|(go_at_call 31;first|((refine(hA4.out).at hs (by (focus((repeat(with_reducible exact Qn));done))) ?_);clear hs;intro w hs;(try simp only[Em,Ma]at hs))|((refine(hA5.out).at hs (by (focus((repeat(with_reducible exact Qn));done))) ?_);clear hs;intro w hs;(try simp only[Em,Ma]at hs)))|(go_at_call 32;((refine(hP0.out).at hs (by (focus((repeat(with_reducible exact Qn));done))) ?_);clear hs;intro w hs;(try simp only[Em,Ma]at hs)))))|go_step|(dsimp only)))
    (rw[e4.out]at hs)
    go_ret
    refine⟨_,rfl,?_⟩
    ((with_reducible apply Sat.fin hs);(focus((repeat(first|with_reducible exact Ql|with_reducible apply Qb|exact Qh|with_reducible apply Qk));done))))
end
end Go.Proofs.YtefjbdajgakgpaaGreat
