import Derived.Test.YtefjbdajgakgpaaGreatCRs3
set_option linter.all false
namespace Go.Proofs.YtefjbdajgakgpaaGreat
open Go.RowKit Hp
set_option maxRecDepth 100000
set_option maxHeartbeats 8000000
attribute [local irreducible] Go.Calls
theorem shf1_put {sl sl':List Slt}{x:Shf}(h:shf1 sl x=some sl'):∃i:Nat,x.slot=(i:Int)∧i<sl.length∧(0≤x.to∧x.to≤5)∧(sl.map Slt.state)[i]? = some x.fr∧sl'.map Slt.state=putS (sl.map Slt.state) x∧sl'.map Slt.holder=putH (sl.map Slt.holder) x:=by
 unfold shf1 at h
 split at h
 ·rename_i hc
  obtain⟨⟨h1,h2⟩,h3,h4⟩:=hc
  cases h
  have hl:x.slot.toNat<sl.length:=by omega
  refine⟨x.slot.toNat,by omega,hl,h3,?_,?_,?_⟩
  ·rw[Ym,h4,Yb,Yd hl];rfl
  ·simp[putS,Yk]
  ·simp[putH,Yk]
 ·cases h
theorem shf1_len {sl sl':List Slt}{x:Shf}(h:shf1 sl x=some sl'):sl'.length=sl.length:=by
 unfold shf1 at h
 split at h
 ·cases h;simp
 ·cases h
theorem shfs_len:∀ {l:List Shf} {sl sl':List Slt},shfs sl l=some sl'→sl'.length=sl.length
 | [],_,_,h=>by cases h;rfl
 | e::r,sl,sl',h=>by
  simp only[shfs]at h
  cases h1:shf1 sl e with
  | none=>rw[h1]at h;cases h
  | some s1=>rw[h1]at h;rw[shfs_len h,shf1_len h1]
theorem shfs_at {s0 s sn:List Slt}{l:List Shf}{n:Nat}{e:Shf}(h:shfs s0 l=some s)(hn:l[n]? = some e)(hw:shfs s0 (l.take n)=some sn) :
  ∃s',shf1 sn e=some s'∧shfs s0 (l.take (n+1))=some s':=by
 have e1:l.take (n+1)=l.take n++[e]:=by rw[List.take_add_one,hn];rfl
 rw[←List.take_append_drop (n+1) l,shfs_append,e1,shfs_append,hw]at h
 simp only[Option.bind_some,shfs]at h
 cases h1:shf1 sn e with
 | none=>rw[h1]at h;cases h
 | some w1=>exact⟨w1,rfl,by rw[e1,shfs_append,hw];simp only[Option.bind_some,shfs,h1]⟩
theorem prev_shf {l:List Shf}(hs:l.Pairwise (fun x y=>x.move≤y.move∧(x.move=y.move→x.thread=y.thread))){n:Nat}{e:Shf}(he:l[n]? = some e) :
  (decide ((n:Int)>0)=false∧decide (0<n)=false)∨∃z1 z2 z3 z4 z5:Int,1≤n∧((n:Int)-1).toNat<(l.map Shf.e).length∧(l.map Shf.e)[n-1]? = some (Shf.e ⟨z1,z2,z3,z4,z5⟩)∧decide (e.move<z1)=false∧decide ((n:Int)>0)=true∧((e.move==z1)=false∨z1=e.move∧z2=e.thread):=by
 have hn:=(List.getElem?_eq_some_iff.1 he).1
 cases n with
 | zero=>exact .inl ⟨rfl,rfl⟩
 | succ j=>
  right
  obtain⟨z,hz⟩:∃z,l[j]? = some z:=⟨_,Yd (by omega)⟩
  have hm:=pw_get hs (show j<j+1 by omega) hz he
  obtain⟨z1,z2,z3,z4,z5⟩:=z
  obtain⟨hm,hm2⟩:=hm
  have hm:z1≤e.move:=hm
  have hm2:z1=e.move→z2=e.thread:=hm2
  have e0:(((j+1:Nat):Int)-1).toNat=j:=by omega
  have e1:j<(l.map Shf.e).length:=by rw[List.length_map];omega
  have e3:(l.map Shf.e)[j]? = some (Shf.e ⟨z1,z2,z3,z4,z5⟩):=by rw[Ym,hz];rfl
  have e4:decide (e.move<z1)=false:=by rw[decide_eq_false_iff_not];omega
  have e5:decide (((j+1:Nat):Int)>0)=true:=by rw[decide_eq_true_eq];omega
  refine⟨z1,z2,z3,z4,z5,by omega,by rw[e0];exact e1,e3,e4,e5,?_⟩
  by_cases h:z1=e.move
  ·exact .inr ⟨h,hm2 h⟩
  ·exact .inl (by simpa using fun h'=>h h'.symm)
set_option maxHeartbeats 16000000 in
theorem cen_shifts (c:Cfg)(hok:c.Ok)(cs:List Cll)(lg:List Acc)(sh:List Shf)(ws:List Int)(u:Value)(hl:RunLen cs lg sh ws)(s:List Slt)
  (hs1:sh.Pairwise (fun x y=>x.move≤y.move∧(x.move=y.move→x.thread=y.thread))) (hpl:∀e∈sh,PlOk cs e.thread e.move) (hrep:shfs (are1 c).slots sh=some s) (hcr:∀e∈sh,∀x∈lg,x.move=e.move→x.thread=e.thread) :
  Zl Tryz.prog 76 #[c.v,.int .i64 1,u] (RunR cs lg sh ws u) (.bool true) (RunR cs lg sh ws u):=by
 intro O w F hs
 have hg:=runR_get hs
 clear hs
 obtain⟨a1,k1,a2,k2,a3,k3,a4,k4,rfl,hs⟩:=hg
 obtain⟨g1,g2,g3,g4⟩:=hl
 have hP:=Lh (fun e he=>cen_place cs (.slice a1 cs.length k1) e.thread e.move (by omega) (hpl e he))
 have hB:=Lh (cen_begin c hok)
 have hS1:=hok.S1
 have hS2:=hok.S2
 obtain⟨S0,hS0⟩:∃S0:Nat,c.Sl=(S0:Int):=⟨c.Sl.toNat,by omega⟩
 have hSn:c.Sl.toNat=S0:=by omega
 obtain⟨B0,hB0⟩:∃B0:List Slt,B0=(List.replicate S0 ⟨0,-1⟩).set 0 ⟨3,-1⟩:=⟨_,rfl⟩
 have hA0:(are1 c).slots=B0:=by rw[hB0,←hSn];rfl
 have hBl:B0.length=S0:=by rw[hB0];simp
 have hB1:B0.map Slt.state=bgS S0:=by rw[hB0];unfold bgS;rw[if_neg (by omega)];simp[Yk]
 have hB2:B0.map Slt.holder=List.replicate S0 (-1):=by
  rw[hB0,Yk,List.map_replicate]
  exact List.set_getElem?_self' (by rw[List.getElem?_replicate,if_pos (by omega)])
 rw[hA0]at hrep
 rw[hSn,←hB1,←hB2]at hB
 have hBl:=Lh hBl
 obtain⟨c1,c2,c3,c4,c5,c6,c7⟩:=c
 simp only[]at hS0 hS1 hS2
 subst hS0
 have hSl:S0≤1024:=by omega
 clear hok hSn hS1 hS2 hA0 hpl hB0 hB1 hB2
 have hs1:=Lh hs1
 have hrep:=Lh hrep
 have hcr:=Lh hcr
 go_enter Tryz.func76,Tryz.ntmps76
 (repeat'(first|(go_big_may;(first|((show wpList _ _ _ (Oper.mk (some 3) _ _ _ _ _::_) _ _);(with_reducible apply Zq hs);rfl;rfl;rfl;clear hs;intro w bC hs;simp only[Uc,Uz])|((show wpList _ _ _ (Oper.mk (some 5) _ _ _ _ _::_) _ _);(with_reducible apply Zq hs);rfl;rfl;rfl;clear hs;intro w bR hs;simp only[Uc,Uz])|((with_reducible apply ZZ hs);exact Ii;rfl;(with_reducible repeat first|exact Qh|apply Qk);rfl;rfl;simp only[Uc,Uz])|(go_at_call 46;((refine(hB.out).at hs (by (focus((repeat(with_reducible exact Qn));done))) ?_);clear hs;intro v w hs;(try simp only[Em,Ma]at hs));(simp only[ZC,Ma,Zy]at hs);(obtain⟨v1,v2,rfl,hs⟩:=hs))))|go_step|(dsimp only)))
 obtain⟨b1,m1,rfl⟩:=Qi (hs.pull (A:=stR _ v1) (by (with_reducible exact Qh)))
 obtain⟨b2,m2,rfl⟩:=Qi (hs.pull (A:=hoR _ v2) (by (with_reducible repeat first|exact Qh|apply Qk)))
 simp only[List.length_map,hBl.out]at hs ⊢
 go_loopw [9] (fun q wr=>∃(n:Nat) (sn:List Slt),n≤sh.length∧q=.int .i64 (n:Int)∧Hid (shfs B0 (sh.take n)=some sn)∧Sat O wr (stR (sn.map Slt.state) (.slice b1 S0 m1)*(hoR (sn.map Slt.holder) (.slice b2 S0 m2)*(pt bR (.cells #[.slice a1 cs.length k1,.slice a2 lg.length k2,.slice a3 sh.length k3,.slice a4 ws.length k4] 30)*(pt bC (.cells #[.int .i64 c1,.int .i64 c2,.int .i64 c3,.int .i64 c4,.int .i64 c5,.int .i64 (S0:Int),.int .i64 c7] 23)*(sl 59 9 (cs.map Cll.e) (.slice a1 cs.length k1)*(sl 87 7 (lg.map Acc.e) (.slice a2 lg.length k2)*(sl 102 5 (sh.map Shf.e) (.slice a3 sh.length k3)*(sl 79 1 (ws.map eU) (.slice a4 ws.length k4)*F))))))))) (fun q _=>sh.length+1-(intOf q).toNat)
 case atStart=>exact⟨0,B0,by omega,rfl,Lh rfl,by simp only[stR,hoR]at hs ⊢;((with_reducible apply Sat.fin hs);(with_reducible exact Ql))⟩
 case round=>
  obtain⟨n,sn,kn,rfl,hsn,hs⟩:=hrel
  have hsnl:sn.length=S0:=by rw[shfs_len hsn.out];exact hBl.out
  by_cases hkr:n=sh.length
  ·subst hkr
   have hlt:decide ((sh.length:Int)<(sh.length:Int))=false:=by simp
   clear hsnl
   (repeat'(first|(go_big_may;(first|((with_reducible apply Za hs);exact Ii;rfl;(with_reducible repeat first|exact Qh|apply Qk);rfl;rfl;simp only[Uc,Uz])|((with_reducible apply Zp hs);exact Ii;rfl;(with_reducible repeat first|exact Qh|apply Qk);rfl;simp only[Uc,Uz])))|go_step))
   go_ret
   refine⟨rfl,?_⟩
   apply runR_mk
   (with_reducible apply Sat.fin hs;repeat first|exact Ql|exact Qh|apply Qb|apply Qk)
  ·have hlt:decide ((n:Int)<(sh.length:Int))=true:=by simp;omega
   have hlt2:decide (n<sh.length)=true:=by simp;omega
   have hln:n<(sh.map Shf.e).length:=by simp;omega
   obtain⟨e,he⟩:∃e,sh[n]? = some e:=⟨_,Yd (by omega)⟩
   obtain⟨s',hr1,hr2⟩:=shfs_at hrep.out he hsn.out
   have hr2:=Lh hr2
   have hmem:=Lh (Yc he)
   obtain⟨i,hi,hil,hto,hfr,hps,hph⟩:=shf1_put hr1
   have hcre:=Lh (hcr.out e (Yc he))
   have hprev:=Lh (prev_shf hs1.out he)
   have hnL:=Lh (show n<sh.length by omega)
   have hPut:=Lh (cen_put (sn.map Slt.state) (sn.map Slt.holder) e (.slice b1 S0 m1) (.slice b2 S0 m2) i hi (by simpa using hil) (by simpa using hil) (by simp;omega) (by simp;omega))
   have hps:=Lh hps
   have hph:=Lh hph
   obtain⟨e1,e2,e3,e4,e5⟩:=e
   simp only[]at hi hto hfr hcre
   subst hi
   have hgv:(sh.map Shf.e)[n]? = some (Shf.e ⟨e1,e2,(i:Int),e4,e5⟩):=by rw[Ym,he];rfl
   have hgs:((sn.map Slt.state).map eI)[i]? = some (eI e4):=by rw[Ym,hfr];rfl
   have hgl:i<((sn.map Slt.state).map eI).length:=by simpa using hil
   have f1:decide ((i:Int)<0)=false:=by simp
   have f2:decide ((i:Int)≥(S0:Int))=false:=by simp;omega
   have f2':decide (S0≤i)=false:=by simp;omega
   have f2'':decide (i<S0)=true:=by simp;omega
   have f3:decide (e5<0)=false:=by simp;omega
   have f4:decide (e5>5)=false:=by simp;omega
   have f4':decide (5<e5)=false:=by simp;omega
   have f5:(e4 != e4)=false:=by simp
   clear he hr1 hsn hkr hil hsnl hto hfr
   rcases hprev.out with⟨j6,j7⟩|⟨z1,z2,z3,z4,z5,j1,j2,j3,j4,j6,j8⟩
   ·(repeat'(first|(((with_reducible apply Z8);rfl;rfl;((simp only[ev,Ue,Uf]);rfl);rfl;simp only[Uc,Uz]);(repeat(fail)))|((with_reducible apply ZT);((simp only[ev,Ue,Uf]);rfl);((simp only[cond_true,cond_false,ev,Ue,Uf]);rfl);(with_reducible exact Zv);simp only[Uc,Uz])|(go_big_may;(first|((show wpList _ _ _ (Oper.mk (some 10) _ _ _ _ _::_) _ _);(with_reducible apply Zo hs);exact Ii;rfl;clear hs;intro w bx hs;simp only[Uc,Uz])|(first|(with_reducible refine NQ.mk ?_)|((with_reducible apply Zh);rfl;rfl)|((with_reducible apply Zm);rfl)|(with_reducible refine EQ.mk ?_ ?_)|(with_reducible exact Zg)|(with_reducible refine Zi ?_)|((with_reducible apply Za hs);exact Ii;rfl;(with_reducible repeat first|exact Qh|apply Qk);rfl;rfl;simp only[Uc,Uz])|((with_reducible apply ZG hs);exact Ii;rfl;rfl;(with_reducible exact Qh);rfl;rfl;rfl;rfl;clear hs;intro w hs)|((with_reducible apply Zn hs);exact Ii;rfl;assumption;(with_reducible repeat first|exact Qh|apply Qk);rfl;(assumption);rfl;rfl;simp only[Uc,Uz])|((with_reducible apply QE (k:=0) hs);exact Ii;rfl;assumption;(with_reducible repeat first|exact Qh|apply Qk);(exact(Nat.add_zero _).symm);(assumption);exact Vb rfl;rfl;rfl;simp only[Uc,Uz])|((with_reducible apply ZE hs);exact Ii;exact Ii;rfl;rfl;(with_reducible repeat first|exact Qh|apply Qk);rfl;(assumption);rfl;intro b off hat;simp only[Uc,Uz])|((with_reducible apply Zp hs);exact Ii;rfl;(with_reducible repeat first|exact Qh|apply Qk);rfl;simp only[Uc,Uz]))|(go_at_call 103;((refine((hP.out _ hmem.out)).at hs (by (with_reducible repeat first|exact Qh|apply Qk)) ?_);clear hs;intro w hs;(try simp only[Em,Ma]at hs)))|((with_reducible refine Wp (id:=6) (Paz (Pbz (Pcz (Pdz [.neu 20,.eff 21 [],.neu 22,.neu 23])))) hs rfl ?_ ?_);kernel_rfl;clear hs;intro w hs)|((with_reducible refine Wp (id:=8) (Paz (Pbz (Pcz (Pdz (Pez [.neu 25]))))) hs rfl ?_ ?_);kernel_rfl;clear hs;intro w hs)|((with_reducible refine Wp (id:=10) (Paz (Pbz (Pcz (Pdz (Pez [.neu 25,.neu 26,.neu 27,.neu 28,.neu 29]))))) hs rfl ?_ ?_);kernel_rfl;clear hs;intro w hs)))|go_guarded|go_step|(dsimp only)))
    go_loopw [11] (fun q wr=>∃j:Nat,j≤lg.length∧q=.int .i64 (j:Int)∧Sat O wr (pt bx (.cells #[.int .i64 e1,.int .i64 e2,.int .i64 (i:Int),.int .i64 e4,.int .i64 e5] 102)*(stR (sn.map Slt.state) (.slice b1 S0 m1)*(hoR (sn.map Slt.holder) (.slice b2 S0 m2)*(pt bR (.cells #[.slice a1 cs.length k1,.slice a2 lg.length k2,.slice a3 sh.length k3,.slice a4 ws.length k4] 30)*(pt bC (.cells #[.int .i64 c1,.int .i64 c2,.int .i64 c3,.int .i64 c4,.int .i64 c5,.int .i64 (S0:Int),.int .i64 c7] 23)*(sl 59 9 (cs.map Cll.e) (.slice a1 cs.length k1)*(sl 87 7 (lg.map Acc.e) (.slice a2 lg.length k2)*(sl 102 5 (sh.map Shf.e) (.slice a3 sh.length k3)*(sl 79 1 (ws.map eU) (.slice a4 ws.length k4)*F)))))))))) (fun q _=>lg.length+1-(intOf q).toNat)
    case atStart=>exact⟨0,by omega,rfl,by ((with_reducible apply Sat.fin hs);(focus((repeat(first|with_reducible exact Ql|with_reducible exact Qh|with_reducible apply Qb|exact Qh|with_reducible apply Qk));done)))⟩
    case round=>
     obtain⟨j,kj,rfl,hs⟩:=hrel
     by_cases hkr:j=lg.length
     ·subst hkr
      have hltj:decide ((lg.length:Int)<(lg.length:Int))=false:=by simp
      (repeat'(first|(go_big_may;(first|((with_reducible apply Za hs);exact Ii;rfl;(with_reducible repeat first|exact Qh|apply Qk);rfl;rfl;simp only[Uc,Uz])|((with_reducible apply ZZ hs);exact Ii;rfl;(with_reducible exact Qh);rfl;rfl;simp only[Uc,Uz])|((with_reducible apply Zp hs);exact Ii;rfl;(with_reducible repeat first|exact Qh|apply Qk);rfl;simp only[Uc,Uz])|(go_at_call 45;(refine(hPut.out).at hs (by with_reducible repeat first|exact Qh|apply Qb|apply Qk) ?_;clear hs;intro w hs;(try simp only[Em,Ma]at hs)))))|go_step|(dsimp only)))
      go_roundw
      case rel=>exact⟨n+1,s',(by have:=hnL.out;omega),by simp,hr2,by rw[hps.out,hph.out];(with_reducible apply Sat.fin hs;repeat first|exact Ql|exact Qh|apply Qb|apply Qk)⟩
      case measure=>have:=hnL.out;simp[intOf];omega
     ·have hltj:decide ((j:Int)<(lg.length:Int))=true:=by simp;omega
      have hltj2:decide (j<lg.length)=true:=by simp;omega
      have hlnj:j<(lg.map Acc.e).length:=by simp;omega
      obtain⟨y,hy⟩:∃y,lg[j]? = some y:=⟨_,Yd (by omega)⟩
      have hyc:=hcre.out y (Yc hy)
      obtain⟨y1,y2,y3,y4,y5,y6,y7⟩:=y
      have hyc:y1=e1→y2=e2:=hyc
      have hgy:(lg.map Acc.e)[j]? = some (Acc.e ⟨y1,y2,y3,y4,y5,y6,y7⟩):=by rw[Ym,hy];rfl
      have hjL:=Lh (show j<lg.length by omega)
      clear hy hkr
      by_cases hye:y1=e1
      ·have hy2:=hyc hye
       subst hye
       subst hy2
       clear hyc
       (repeat'(first|((with_reducible apply ZT);((simp only[ev,Ue,Uf]);rfl);((simp only[cond_true,cond_false,ev,Ue,Uf]);rfl);(with_reducible exact Zv);simp only[Uc,Uz])|(go_big_may;(first|(with_reducible refine NQ.mk ?_)|((with_reducible apply Zh);rfl;rfl)|(with_reducible refine Zi ?_)|((with_reducible apply Za hs);exact Ii;rfl;(with_reducible repeat first|exact Qh|apply Qk);rfl;rfl;simp only[Uc,Uz])|((with_reducible apply QW hs);exact Ii;rfl;assumption;(with_reducible repeat first|exact Qh|apply Qk);rfl;(assumption);rfl;rfl;simp only[Uc,Uz])|((with_reducible apply Zn hs);exact Ii;rfl;assumption;(with_reducible repeat first|exact Qh|apply Qk);rfl;(assumption);rfl;rfl;simp only[Uc,Uz])|((with_reducible apply ZU hs);exact Ii;exact Ii;rfl;assumption;rfl;(with_reducible repeat first|exact Qh|apply Qk);rfl;(assumption);rfl;simp only[Uc,Uz])|((with_reducible apply ZE hs);exact Ii;exact Ii;rfl;rfl;(with_reducible repeat first|exact Qh|apply Qk);rfl;(assumption);rfl;intro b off hat;simp only[Uc,Uz])|((with_reducible apply Zp hs);exact Ii;rfl;(with_reducible repeat first|exact Qh|apply Qk);rfl;simp only[Uc,Uz])|((with_reducible refine Wp (id:=15) (Paz (Pbz (Pcz [.neu 15,.neu 16,.neu 17,.neu 18,.neu 19]))) hs rfl ?_ ?_);kernel_rfl;clear hs;intro w hs)))|go_guarded|go_step))
       go_roundw
       case rel=>exact⟨j+1,(by have:=hjL.out;omega),by simp,by ((with_reducible apply Sat.fin hs);(with_reducible exact Ql))⟩
       case measure=>have:=hjL.out;simp[intOf];omega
      ·have hye2:(y1==e1)=false:=by simpa using hye
       clear hyc hye
       (repeat'(first|(((with_reducible apply Z8);rfl;rfl;((simp only[ev,Ue,Uf]);rfl);rfl;simp only[Uc,Uz]);(repeat(fail)))|((with_reducible apply ZT);((simp only[ev,Ue,Uf]);rfl);((simp only[cond_true,cond_false,ev,Ue,Uf]);rfl);(with_reducible exact Zv);simp only[Uc,Uz])|(go_big_may;(first|(with_reducible refine NQ.mk ?_)|((with_reducible apply Zh);rfl;rfl)|(with_reducible refine Zi ?_)|((with_reducible apply Za hs);exact Ii;rfl;(with_reducible repeat first|exact Qh|apply Qk);rfl;rfl;simp only[Uc,Uz])|((with_reducible apply Zn hs);exact Ii;rfl;assumption;(with_reducible repeat first|exact Qh|apply Qk);rfl;(assumption);rfl;rfl;simp only[Uc,Uz])|((with_reducible apply ZE hs);exact Ii;exact Ii;rfl;rfl;(with_reducible repeat first|exact Qh|apply Qk);rfl;(assumption);rfl;intro b off hat;simp only[Uc,Uz])|((with_reducible apply Zp hs);exact Ii;rfl;(with_reducible repeat first|exact Qh|apply Qk);rfl;simp only[Uc,Uz])|((with_reducible refine Wp (id:=15) (Paz (Pbz (Pcz [.neu 15,.neu 16,.neu 17,.neu 18,.neu 19]))) hs rfl ?_ ?_);kernel_rfl;clear hs;intro w hs)))|go_step))
       go_roundw
       case rel=>exact⟨j+1,(by have:=hjL.out;omega),by simp,by ((with_reducible apply Sat.fin hs);(with_reducible exact Ql))⟩
       case measure=>have:=hjL.out;simp[intOf];omega
   ·replace j4:decide (e1<z1)=false:=j4
    rcases j8 with j8|⟨h1,h2⟩
    ·replace j8:(e1==z1)=false:=j8
     (repeat'(first|(((with_reducible apply Z8);rfl;rfl;((simp only[ev,Ue,Uf]);rfl);rfl;simp only[Uc,Uz]);(repeat(fail)))|((with_reducible apply ZT);((simp only[ev,Ue,Uf]);rfl);((simp only[cond_true,cond_false,ev,Ue,Uf]);rfl);(with_reducible exact Zv);simp only[Uc,Uz])|(go_big_may;(first|((show wpList _ _ _ (Oper.mk (some 10) _ _ _ _ _::_) _ _);(with_reducible apply Zo hs);exact Ii;rfl;clear hs;intro w bx hs;simp only[Uc,Uz])|(first|(with_reducible refine NQ.mk ?_)|((with_reducible apply Zh);rfl;rfl)|((with_reducible apply Zm);rfl)|(with_reducible refine EQ.mk ?_ ?_)|(with_reducible exact Zg)|(with_reducible refine Zi ?_)|((with_reducible apply Za hs);exact Ii;rfl;(with_reducible repeat first|exact Qh|apply Qk);rfl;rfl;simp only[Uc,Uz])|((with_reducible apply ZG hs);exact Ii;rfl;rfl;(with_reducible exact Qh);rfl;rfl;rfl;rfl;clear hs;intro w hs)|((with_reducible apply Zn hs);exact Ii;rfl;assumption;(with_reducible repeat first|exact Qh|apply Qk);rfl;(assumption);rfl;rfl;simp only[Uc,Uz])|((with_reducible apply QE (k:=0) hs);exact Ii;rfl;assumption;(with_reducible repeat first|exact Qh|apply Qk);(exact(Nat.add_zero _).symm);(assumption);exact Vb rfl;rfl;rfl;simp only[Uc,Uz])|((with_reducible apply ZU hs);exact Ii;exact Ii;rfl;assumption;rfl;(with_reducible repeat first|exact Qh|apply Qk);(exact(Int.toNat_of_nonneg (by omega)).symm);(assumption);rfl;simp only[Uc,Uz])|((with_reducible apply ZE hs);exact Ii;exact Ii;rfl;rfl;(with_reducible repeat first|exact Qh|apply Qk);rfl;(assumption);rfl;intro b off hat;simp only[Uc,Uz])|((with_reducible apply Zp hs);exact Ii;rfl;(with_reducible repeat first|exact Qh|apply Qk);rfl;simp only[Uc,Uz]))|(go_at_call 103;((refine((hP.out _ hmem.out)).at hs (by (with_reducible repeat first|exact Qh|apply Qk)) ?_);clear hs;intro w hs;(try simp only[Em,Ma]at hs)))|((with_reducible refine Wp (id:=6) (Paz (Pbz (Pcz (Pdz [.neu 20,.eff 21 [],.neu 22,.neu 23])))) hs rfl ?_ ?_);kernel_rfl;clear hs;intro w hs)|((with_reducible refine Wp (id:=8) (Paz (Pbz (Pcz (Pdz (Pez [.neu 25]))))) hs rfl ?_ ?_);kernel_rfl;clear hs;intro w hs)|((with_reducible refine Wp (id:=10) (Paz (Pbz (Pcz (Pdz (Pez [.neu 25,.neu 26,.neu 27,.neu 28,.neu 29]))))) hs rfl ?_ ?_);kernel_rfl;clear hs;intro w hs)))|go_guarded|go_step|(dsimp only)))
     go_loopw [11] (fun q wr=>∃j:Nat,j≤lg.length∧q=.int .i64 (j:Int)∧Sat O wr (pt bx (.cells #[.int .i64 e1,.int .i64 e2,.int .i64 (i:Int),.int .i64 e4,.int .i64 e5] 102)*(stR (sn.map Slt.state) (.slice b1 S0 m1)*(hoR (sn.map Slt.holder) (.slice b2 S0 m2)*(pt bR (.cells #[.slice a1 cs.length k1,.slice a2 lg.length k2,.slice a3 sh.length k3,.slice a4 ws.length k4] 30)*(pt bC (.cells #[.int .i64 c1,.int .i64 c2,.int .i64 c3,.int .i64 c4,.int .i64 c5,.int .i64 (S0:Int),.int .i64 c7] 23)*(sl 59 9 (cs.map Cll.e) (.slice a1 cs.length k1)*(sl 87 7 (lg.map Acc.e) (.slice a2 lg.length k2)*(sl 102 5 (sh.map Shf.e) (.slice a3 sh.length k3)*(sl 79 1 (ws.map eU) (.slice a4 ws.length k4)*F)))))))))) (fun q _=>lg.length+1-(intOf q).toNat)
     case atStart=>exact⟨0,by omega,rfl,by ((with_reducible apply Sat.fin hs);(focus((repeat(first|with_reducible exact Ql|with_reducible exact Qh|with_reducible apply Qb|exact Qh|with_reducible apply Qk));done)))⟩
     case round=>
      obtain⟨j,kj,rfl,hs⟩:=hrel
      by_cases hkr:j=lg.length
      ·subst hkr
       have hltj:decide ((lg.length:Int)<(lg.length:Int))=false:=by simp
       (repeat'(first|(go_big_may;(first|((with_reducible apply Za hs);exact Ii;rfl;(with_reducible repeat first|exact Qh|apply Qk);rfl;rfl;simp only[Uc,Uz])|((with_reducible apply ZZ hs);exact Ii;rfl;(with_reducible exact Qh);rfl;rfl;simp only[Uc,Uz])|((with_reducible apply Zp hs);exact Ii;rfl;(with_reducible repeat first|exact Qh|apply Qk);rfl;simp only[Uc,Uz])|(go_at_call 45;(refine(hPut.out).at hs (by with_reducible repeat first|exact Qh|apply Qb|apply Qk) ?_;clear hs;intro w hs;(try simp only[Em,Ma]at hs)))))|go_step|(dsimp only)))
       go_roundw
       case rel=>exact⟨n+1,s',(by have:=hnL.out;omega),by simp,hr2,by rw[hps.out,hph.out];(with_reducible apply Sat.fin hs;repeat first|exact Ql|exact Qh|apply Qb|apply Qk)⟩
       case measure=>have:=hnL.out;simp[intOf];omega
      ·have hltj:decide ((j:Int)<(lg.length:Int))=true:=by simp;omega
       have hltj2:decide (j<lg.length)=true:=by simp;omega
       have hlnj:j<(lg.map Acc.e).length:=by simp;omega
       obtain⟨y,hy⟩:∃y,lg[j]? = some y:=⟨_,Yd (by omega)⟩
       have hyc:=hcre.out y (Yc hy)
       obtain⟨y1,y2,y3,y4,y5,y6,y7⟩:=y
       have hyc:y1=e1→y2=e2:=hyc
       have hgy:(lg.map Acc.e)[j]? = some (Acc.e ⟨y1,y2,y3,y4,y5,y6,y7⟩):=by rw[Ym,hy];rfl
       have hjL:=Lh (show j<lg.length by omega)
       clear hy hkr
       by_cases hye:y1=e1
       ·have hy2:=hyc hye
        subst hye
        subst hy2
        clear hyc
        (repeat'(first|((with_reducible apply ZT);((simp only[ev,Ue,Uf]);rfl);((simp only[cond_true,cond_false,ev,Ue,Uf]);rfl);(with_reducible exact Zv);simp only[Uc,Uz])|(go_big_may;(first|(with_reducible refine NQ.mk ?_)|((with_reducible apply Zh);rfl;rfl)|(with_reducible refine Zi ?_)|((with_reducible apply Za hs);exact Ii;rfl;(with_reducible repeat first|exact Qh|apply Qk);rfl;rfl;simp only[Uc,Uz])|((with_reducible apply QW hs);exact Ii;rfl;assumption;(with_reducible repeat first|exact Qh|apply Qk);rfl;(assumption);rfl;rfl;simp only[Uc,Uz])|((with_reducible apply Zn hs);exact Ii;rfl;assumption;(with_reducible repeat first|exact Qh|apply Qk);rfl;(assumption);rfl;rfl;simp only[Uc,Uz])|((with_reducible apply ZU hs);exact Ii;exact Ii;rfl;assumption;rfl;(with_reducible repeat first|exact Qh|apply Qk);rfl;(assumption);rfl;simp only[Uc,Uz])|((with_reducible apply ZE hs);exact Ii;exact Ii;rfl;rfl;(with_reducible repeat first|exact Qh|apply Qk);rfl;(assumption);rfl;intro b off hat;simp only[Uc,Uz])|((with_reducible apply Zp hs);exact Ii;rfl;(with_reducible repeat first|exact Qh|apply Qk);rfl;simp only[Uc,Uz])|((with_reducible refine Wp (id:=15) (Paz (Pbz (Pcz [.neu 15,.neu 16,.neu 17,.neu 18,.neu 19]))) hs rfl ?_ ?_);kernel_rfl;clear hs;intro w hs)))|go_guarded|go_step))
        go_roundw
        case rel=>exact⟨j+1,(by have:=hjL.out;omega),by simp,by ((with_reducible apply Sat.fin hs);(with_reducible exact Ql))⟩
        case measure=>have:=hjL.out;simp[intOf];omega
       ·have hye2:(y1==e1)=false:=by simpa using hye
        clear hyc hye
        (repeat'(first|(((with_reducible apply Z8);rfl;rfl;((simp only[ev,Ue,Uf]);rfl);rfl;simp only[Uc,Uz]);(repeat(fail)))|((with_reducible apply ZT);((simp only[ev,Ue,Uf]);rfl);((simp only[cond_true,cond_false,ev,Ue,Uf]);rfl);(with_reducible exact Zv);simp only[Uc,Uz])|(go_big_may;(first|(with_reducible refine NQ.mk ?_)|((with_reducible apply Zh);rfl;rfl)|(with_reducible refine Zi ?_)|((with_reducible apply Za hs);exact Ii;rfl;(with_reducible repeat first|exact Qh|apply Qk);rfl;rfl;simp only[Uc,Uz])|((with_reducible apply Zn hs);exact Ii;rfl;assumption;(with_reducible repeat first|exact Qh|apply Qk);rfl;(assumption);rfl;rfl;simp only[Uc,Uz])|((with_reducible apply ZE hs);exact Ii;exact Ii;rfl;rfl;(with_reducible repeat first|exact Qh|apply Qk);rfl;(assumption);rfl;intro b off hat;simp only[Uc,Uz])|((with_reducible apply Zp hs);exact Ii;rfl;(with_reducible repeat first|exact Qh|apply Qk);rfl;simp only[Uc,Uz])|((with_reducible refine Wp (id:=15) (Paz (Pbz (Pcz [.neu 15,.neu 16,.neu 17,.neu 18,.neu 19]))) hs rfl ?_ ?_);kernel_rfl;clear hs;intro w hs)))|go_step))
        go_roundw
        case rel=>exact⟨j+1,(by have:=hjL.out;omega),by simp,by ((with_reducible apply Sat.fin hs);(with_reducible exact Ql))⟩
        case measure=>have:=hjL.out;simp[intOf];omega
    ·obtain rfl:e1=z1:=h1.symm
     obtain rfl:e2=z2:=h2.symm
     have j9:(e1==e1)=true:=by simp
     have j10:(e2 != e2)=false:=by simp
     clear h1 h2
     (repeat'(first|((with_reducible apply ZT);((simp only[ev,Ue,Uf]);rfl);((simp only[cond_true,cond_false,ev,Ue,Uf]);rfl);(with_reducible exact Zv);simp only[Uc,Uz])|(go_big_may;(first|((show wpList _ _ _ (Oper.mk (some 10) _ _ _ _ _::_) _ _);(with_reducible apply Zo hs);exact Ii;rfl;clear hs;intro w bx hs;simp only[Uc,Uz])|(first|(with_reducible refine NQ.mk ?_)|((with_reducible apply Zh);rfl;rfl)|((with_reducible apply Zm);rfl)|(with_reducible refine EQ.mk ?_ ?_)|(with_reducible exact Zg)|(with_reducible refine Zi ?_)|((with_reducible apply Za hs);exact Ii;rfl;(with_reducible repeat first|exact Qh|apply Qk);rfl;rfl;simp only[Uc,Uz])|((with_reducible apply ZG hs);exact Ii;rfl;rfl;(with_reducible exact Qh);rfl;rfl;rfl;rfl;clear hs;intro w hs)|((with_reducible apply QW hs);exact Ii;rfl;assumption;(with_reducible repeat first|exact Qh|apply Qk);rfl;(assumption);rfl;rfl;simp only[Uc,Uz])|((with_reducible apply Zn hs);exact Ii;rfl;assumption;(with_reducible repeat first|exact Qh|apply Qk);rfl;(assumption);rfl;rfl;simp only[Uc,Uz])|((with_reducible apply QE (k:=0) hs);exact Ii;rfl;assumption;(with_reducible repeat first|exact Qh|apply Qk);(exact(Nat.add_zero _).symm);(assumption);exact Vb rfl;rfl;rfl;simp only[Uc,Uz])|((with_reducible apply ZU hs);exact Ii;exact Ii;rfl;assumption;rfl;(with_reducible repeat first|exact Qh|apply Qk);(exact(Int.toNat_of_nonneg (by omega)).symm);(assumption);rfl;simp only[Uc,Uz])|((with_reducible apply ZE hs);exact Ii;exact Ii;rfl;rfl;(with_reducible repeat first|exact Qh|apply Qk);rfl;(assumption);rfl;intro b off hat;simp only[Uc,Uz])|((with_reducible apply Zp hs);exact Ii;rfl;(with_reducible repeat first|exact Qh|apply Qk);rfl;simp only[Uc,Uz]))|(go_at_call 103;((refine((hP.out _ hmem.out)).at hs (by (with_reducible repeat first|exact Qh|apply Qk)) ?_);clear hs;intro w hs;(try simp only[Em,Ma]at hs)))|((with_reducible refine Wp (id:=6) (Paz (Pbz (Pcz (Pdz [.neu 20,.eff 21 [],.neu 22,.neu 23])))) hs rfl ?_ ?_);kernel_rfl;clear hs;intro w hs)|((with_reducible refine Wp (id:=8) (Paz (Pbz (Pcz (Pdz (Pez [.neu 25]))))) hs rfl ?_ ?_);kernel_rfl;clear hs;intro w hs)|((with_reducible refine Wp (id:=10) (Paz (Pbz (Pcz (Pdz (Pez [.neu 25,.neu 26,.neu 27,.neu 28,.neu 29]))))) hs rfl ?_ ?_);kernel_rfl;clear hs;intro w hs)))|go_guarded|go_step|(dsimp only)))
     go_loopw [11] (fun q wr=>∃j:Nat,j≤lg.length∧q=.int .i64 (j:Int)∧Sat O wr (pt bx (.cells #[.int .i64 e1,.int .i64 e2,.int .i64 (i:Int),.int .i64 e4,.int .i64 e5] 102)*(stR (sn.map Slt.state) (.slice b1 S0 m1)*(hoR (sn.map Slt.holder) (.slice b2 S0 m2)*(pt bR (.cells #[.slice a1 cs.length k1,.slice a2 lg.length k2,.slice a3 sh.length k3,.slice a4 ws.length k4] 30)*(pt bC (.cells #[.int .i64 c1,.int .i64 c2,.int .i64 c3,.int .i64 c4,.int .i64 c5,.int .i64 (S0:Int),.int .i64 c7] 23)*(sl 59 9 (cs.map Cll.e) (.slice a1 cs.length k1)*(sl 87 7 (lg.map Acc.e) (.slice a2 lg.length k2)*(sl 102 5 (sh.map Shf.e) (.slice a3 sh.length k3)*(sl 79 1 (ws.map eU) (.slice a4 ws.length k4)*F)))))))))) (fun q _=>lg.length+1-(intOf q).toNat)
     case atStart=>exact⟨0,by omega,rfl,by ((with_reducible apply Sat.fin hs);(focus((repeat(first|with_reducible exact Ql|with_reducible exact Qh|with_reducible apply Qb|exact Qh|with_reducible apply Qk));done)))⟩
     case round=>
      obtain⟨j,kj,rfl,hs⟩:=hrel
      by_cases hkr:j=lg.length
      ·subst hkr
       have hltj:decide ((lg.length:Int)<(lg.length:Int))=false:=by simp
       (repeat'(first|(go_big_may;(first|((with_reducible apply Za hs);exact Ii;rfl;(with_reducible repeat first|exact Qh|apply Qk);rfl;rfl;simp only[Uc,Uz])|((with_reducible apply ZZ hs);exact Ii;rfl;(with_reducible exact Qh);rfl;rfl;simp only[Uc,Uz])|((with_reducible apply Zp hs);exact Ii;rfl;(with_reducible repeat first|exact Qh|apply Qk);rfl;simp only[Uc,Uz])|(go_at_call 45;(refine(hPut.out).at hs (by with_reducible repeat first|exact Qh|apply Qb|apply Qk) ?_;clear hs;intro w hs;(try simp only[Em,Ma]at hs)))))|go_step|(dsimp only)))
       go_roundw
       case rel=>exact⟨n+1,s',(by have:=hnL.out;omega),by simp,hr2,by rw[hps.out,hph.out];(with_reducible apply Sat.fin hs;repeat first|exact Ql|exact Qh|apply Qb|apply Qk)⟩
       case measure=>have:=hnL.out;simp[intOf];omega
      ·have hltj:decide ((j:Int)<(lg.length:Int))=true:=by simp;omega
       have hltj2:decide (j<lg.length)=true:=by simp;omega
       have hlnj:j<(lg.map Acc.e).length:=by simp;omega
       obtain⟨y,hy⟩:∃y,lg[j]? = some y:=⟨_,Yd (by omega)⟩
       have hyc:=hcre.out y (Yc hy)
       obtain⟨y1,y2,y3,y4,y5,y6,y7⟩:=y
       have hyc:y1=e1→y2=e2:=hyc
       have hgy:(lg.map Acc.e)[j]? = some (Acc.e ⟨y1,y2,y3,y4,y5,y6,y7⟩):=by rw[Ym,hy];rfl
       have hjL:=Lh (show j<lg.length by omega)
       clear hy hkr
       by_cases hye:y1=e1
       ·have hy2:=hyc hye
        subst hye
        subst hy2
        clear hyc
        (repeat'(first|((with_reducible apply ZT);((simp only[ev,Ue,Uf]);rfl);((simp only[cond_true,cond_false,ev,Ue,Uf]);rfl);(with_reducible exact Zv);simp only[Uc,Uz])|(go_big_may;(first|(with_reducible refine NQ.mk ?_)|((with_reducible apply Zh);rfl;rfl)|(with_reducible refine Zi ?_)|((with_reducible apply Za hs);exact Ii;rfl;(with_reducible repeat first|exact Qh|apply Qk);rfl;rfl;simp only[Uc,Uz])|((with_reducible apply QW hs);exact Ii;rfl;assumption;(with_reducible repeat first|exact Qh|apply Qk);rfl;(assumption);rfl;rfl;simp only[Uc,Uz])|((with_reducible apply Zn hs);exact Ii;rfl;assumption;(with_reducible repeat first|exact Qh|apply Qk);rfl;(assumption);rfl;rfl;simp only[Uc,Uz])|((with_reducible apply ZU hs);exact Ii;exact Ii;rfl;assumption;rfl;(with_reducible repeat first|exact Qh|apply Qk);rfl;(assumption);rfl;simp only[Uc,Uz])|((with_reducible apply ZE hs);exact Ii;exact Ii;rfl;rfl;(with_reducible repeat first|exact Qh|apply Qk);rfl;(assumption);rfl;intro b off hat;simp only[Uc,Uz])|((with_reducible apply Zp hs);exact Ii;rfl;(with_reducible repeat first|exact Qh|apply Qk);rfl;simp only[Uc,Uz])|((with_reducible refine Wp (id:=15) (Paz (Pbz (Pcz [.neu 15,.neu 16,.neu 17,.neu 18,.neu 19]))) hs rfl ?_ ?_);kernel_rfl;clear hs;intro w hs)))|go_guarded|go_step))
        go_roundw
        case rel=>exact⟨j+1,(by have:=hjL.out;omega),by simp,by ((with_reducible apply Sat.fin hs);(with_reducible exact Ql))⟩
        case measure=>have:=hjL.out;simp[intOf];omega
       ·have hye2:(y1==e1)=false:=by simpa using hye
        clear hyc hye
        (repeat'(first|(((with_reducible apply Z8);rfl;rfl;((simp only[ev,Ue,Uf]);rfl);rfl;simp only[Uc,Uz]);(repeat(fail)))|((with_reducible apply ZT);((simp only[ev,Ue,Uf]);rfl);((simp only[cond_true,cond_false,ev,Ue,Uf]);rfl);(with_reducible exact Zv);simp only[Uc,Uz])|(go_big_may;(first|(with_reducible refine NQ.mk ?_)|((with_reducible apply Zh);rfl;rfl)|(with_reducible refine Zi ?_)|((with_reducible apply Za hs);exact Ii;rfl;(with_reducible repeat first|exact Qh|apply Qk);rfl;rfl;simp only[Uc,Uz])|((with_reducible apply Zn hs);exact Ii;rfl;assumption;(with_reducible repeat first|exact Qh|apply Qk);rfl;(assumption);rfl;rfl;simp only[Uc,Uz])|((with_reducible apply ZE hs);exact Ii;exact Ii;rfl;rfl;(with_reducible repeat first|exact Qh|apply Qk);rfl;(assumption);rfl;intro b off hat;simp only[Uc,Uz])|((with_reducible apply Zp hs);exact Ii;rfl;(with_reducible repeat first|exact Qh|apply Qk);rfl;simp only[Uc,Uz])|((with_reducible refine Wp (id:=15) (Paz (Pbz (Pcz [.neu 15,.neu 16,.neu 17,.neu 18,.neu 19]))) hs rfl ?_ ?_);kernel_rfl;clear hs;intro w hs)))|go_step))
        go_roundw
        case rel=>exact⟨j+1,(by have:=hjL.out;omega),by simp,by ((with_reducible apply Sat.fin hs);(with_reducible exact Ql))⟩
        case measure=>have:=hjL.out;simp[intOf];omega
end Go.Proofs.YtefjbdajgakgpaaGreat
