import Derived.Test.YtefjbdajgakgpaaGreatCQRef1
set_option linter.all false
namespace Go.Proofs.YtefjbdajgakgpaaGreat
open Go.RowKit Hp
set_option maxRecDepth 100000
set_option maxHeartbeats 8000000
attribute [local irreducible] Go.Calls Go.wpList
theorem rep1_len {ws ws':List Int}{e:Acc}(h:rep1 ws e=some ws'):ws'.length=ws.length:=by
 unfold rep1 at h
 split at h
 ·split at h
  ·split at h<;>cases h;rfl
  ·split at h
   ·split at h<;>cases h;simp
   ·split at h
    ·split at h
     ·cases h;split<;>simp
     ·cases h
    ·cases h
 ·cases h
theorem rep_len:∀ {lg:List Acc} {ws ws':List Int},rep ws lg=some ws'→ws'.length=ws.length
 | [],_,_,h=>by cases h;rfl
 | e::r,ws,ws',h=>by
  simp only[rep]at h
  cases h1:rep1 ws e with
  | none=>rw[h1]at h;cases h
  | some w1=>rw[h1]at h;rw[rep_len h,rep1_len h1]
theorem rep_at {ws0 ws wsn:List Int}{lg:List Acc}{n:Nat}{e:Acc}(h:rep ws0 lg=some ws)(hn:lg[n]? = some e)(hw:rep ws0 (lg.take n)=some wsn) :
  ∃ws',rep1 wsn e=some ws'∧rep ws0 (lg.take (n+1))=some ws':=by
 have e1:lg.take (n+1)=lg.take n++[e]:=by rw[List.take_add_one,hn];rfl
 rw[←List.take_append_drop (n+1) lg,rep_append,e1,rep_append,hw]at h
 simp only[Option.bind_some,rep]at h
 cases h1:rep1 wsn e with
 | none=>rw[h1]at h;cases h
 | some w1=>exact⟨w1,rfl,by rw[e1,rep_append,hw];simp only[Option.bind_some,rep,h1]⟩
theorem rep1_cases {ws ws':List Int}{e:Acc}(h:rep1 ws e=some ws'):∃a:Nat,e.addr=(a:Int)∧a<ws.length ∧
  ((e.kind=1∧e.old=0∧e.new=0∧ws[a]? = some e.saw∧ws'=ws)∨(e.kind=2∧e.old=0∧e.saw=0∧ws'=ws.set a e.new) ∨
   (e.kind=3∧ws[a]? = some e.saw∧e.saw=e.old∧ws'=ws.set a e.new)∨(e.kind=3∧ws[a]? = some e.saw∧e.saw≠e.old∧ws'=ws)):=by
 unfold rep1 at h
 split at h
 ·rename_i ha
  have hl:e.addr.toNat<ws.length:=by omega
  have hg:ws[e.addr.toNat]? = some (ws.getD e.addr.toNat 0):=by rw[Yb,Yd hl];rfl
  refine⟨e.addr.toNat,by omega,hl,?_⟩
  split at h
  ·split at h
   ·rename_i h1 h2;cases h;exact .inl ⟨h1,h2.1,h2.2.1,by rw[h2.2.2];exact hg,rfl⟩
   ·cases h
  ·split at h
   ·split at h
    ·rename_i h1 h2;cases h;exact .inr (.inl ⟨h1,h2.1,h2.2,rfl⟩)
    ·cases h
   ·split at h
    ·split at h
     ·rename_i h1 h2
      cases h
      by_cases h3:e.saw=e.old
      ·rw[if_pos h3];exact .inr (.inr (.inl ⟨h1,by rw[h2];exact hg,h3,rfl⟩))
      ·rw[if_neg h3];exact .inr (.inr (.inr ⟨h1,by rw[h2];exact hg,h3,rfl⟩))
     ·cases h
    ·cases h
 ·cases h
theorem prev_acc {lg:List Acc}(hs:lg.Pairwise (fun x y=>x.move<y.move)){n:Nat}{e:Acc}(he:lg[n]? = some e) :
  (decide ((n:Int)>0)=false∧decide (0<n)=false)∨∃z1 z2 z3 z4 z5 z6 z7:Int,1≤n∧((n:Int)-1).toNat<(lg.map Acc.e).length∧(lg.map Acc.e)[n-1]? = some (Acc.e ⟨z1,z2,z3,z4,z5,z6,z7⟩)∧decide (e.move≤z1)=false∧decide ((n:Int)>0)=true:=by
 have hn:=(List.getElem?_eq_some_iff.1 he).1
 cases n with
 | zero=>exact .inl ⟨rfl,rfl⟩
 | succ j=>
  right
  obtain⟨z,hz⟩:∃z,lg[j]? = some z:=⟨_,Yd (by omega)⟩
  have hm:=pw_get hs (show j<j+1 by omega) hz he
  obtain⟨z1,z2,z3,z4,z5,z6,z7⟩:=z
  have hm:z1<e.move:=hm
  have e0:(((j+1:Nat):Int)-1).toNat=j:=by omega
  have e1:j<(lg.map Acc.e).length:=by rw[List.length_map];omega
  have e3:(lg.map Acc.e)[j]? = some (Acc.e ⟨z1,z2,z3,z4,z5,z6,z7⟩):=by rw[Ym,hz];rfl
  have e4:decide (e.move≤z1)=false:=by rw[decide_eq_false_iff_not];omega
  have e5:decide (((j+1:Nat):Int)>0)=true:=by rw[decide_eq_true_eq];omega
  exact⟨z1,z2,z3,z4,z5,z6,z7,by omega,by rw[e0];exact e1,e3,e4,e5⟩
set_option maxHeartbeats 16000000 in
theorem cen_trace (c:Cfg)(hok:c.Ok)(cs:List Cll)(lg:List Acc)(sh:List Shf)(ws:List Int)(u:Value)(hl:RunLen cs lg sh ws)
  (hs1:lg.Pairwise (fun x y=>x.move<y.move)) (hpl:∀e∈lg,PlOk cs e.thread e.move) (hrep:rep (QJ c 1) lg=some ws) :
  Zl Tryz.prog 75 #[c.v,.int .i64 1,u] (RunR cs lg sh ws u) (.bool true) (RunR cs lg sh ws u):=by
 intro O w F hs
 have hg:=runR_get hs
 clear hs
 obtain⟨a1,k1,a2,k2,a3,k3,a4,k4,rfl,hs⟩:=hg
 obtain⟨g1,g2,g3,g4⟩:=hl
 have hP:=Lh (fun e he=>cen_place cs (.slice a1 cs.length k1) e.thread e.move (by omega) (hpl e he))
 have hF:=Lh (ref_first1 c hok)
 have hbl:=base14_le hok
 have hwl:ws.length=(QJ c 1).length:=rep_len hrep
 obtain⟨W0,hW0⟩:∃W0,W0=QJ c 1:=⟨_,rfl⟩
 have hwl8:W0.length<100000000:=by rw[hW0,←hwl];exact g4
 rw[←hW0]at hwl hrep hF
 rw[hwl]at hs ⊢
 have hwl:=Lh hwl
 clear hW0 hok hpl
 have hs1:=Lh hs1
 have hrep:=Lh hrep
 go_enter Tryz.func75,Tryz.ntmps75
 (repeat'(first|(go_big_may;(first|((with_reducible apply ZZ hs);exact Ii;rfl;(with_reducible repeat first|exact Qh|apply Qk);rfl;rfl;simp only[Uc,Uz])|((with_reducible apply Zq hs);rfl;rfl;rfl;clear hs;intro w b hs;simp only[Uc,Uz])|(go_at_call 28;((refine(hF.out).at hs (by (focus((repeat(with_reducible exact Qn));done))) ?_);clear hs;intro v w hs;(try simp only[Em,Ma]at hs));(obtain⟨aw,kw,rfl⟩:=Qi (hs.pull (A:=sl 79 1 (W0.map eU) v) (by (with_reducible exact Qh))));(simp only[List.length_map]at hs ⊢))))|go_step))
 obtain⟨bR,hbR⟩:∃x,x=b:=⟨_,rfl⟩
 subst hbR
 go_loopw [8] (fun q wr=>∃(n:Nat) (wsn:List Int),n≤lg.length∧q=.int .i64 (n:Int)∧Hid (rep W0 (lg.take n)=some wsn)∧Sat O wr (sl 79 1 (wsn.map eU) (.slice aw W0.length kw)*(pt bR (.cells #[.slice a1 cs.length k1,.slice a2 lg.length k2,.slice a3 sh.length k3,.slice a4 W0.length k4] 30)*(sl 59 9 (cs.map Cll.e) (.slice a1 cs.length k1)*(sl 87 7 (lg.map Acc.e) (.slice a2 lg.length k2)*(sl 102 5 (sh.map Shf.e) (.slice a3 sh.length k3)*(sl 79 1 (ws.map eU) (.slice a4 W0.length k4)*F))))))) (fun q _=>lg.length+1-(intOf q).toNat)
 case atStart=>exact⟨0,W0,by omega,rfl,Lh rfl,by (with_reducible apply Sat.fin hs;repeat first|exact Ql|exact Qh|apply Qb|apply Qk)⟩
 case round=>
  obtain⟨n,wsn,kn,rfl,hwn,hs⟩:=hrel
  have hwnl:wsn.length=W0.length:=rep_len hwn.out
  by_cases hkr:n=lg.length
  ·have e1:=hwn.out
   rw[hkr,List.take_length,hrep.out]at e1
   cases e1
   subst hkr
   have hlt:decide ((lg.length:Int)<(lg.length:Int))=false:=by simp
   have hne:((W0.length:Int) != (W0.length:Int))=false:=by simp
   clear hwn
   (repeat'(first|(go_big_may;(first|((with_reducible apply Za hs);exact Ii;rfl;(with_reducible repeat first|exact Qh|apply Qk);rfl;rfl;simp only[Uc,Uz])|((with_reducible apply Zp hs);exact Ii;rfl;(with_reducible repeat first|exact Qh|apply Qk);rfl;simp only[Uc,Uz])))|go_step))
   go_loopw [10] (fun q wr=>∃n:Nat,n≤W0.length∧q=.int .i64 (n:Int)∧Sat O wr (sl 79 1 (ws.map eU) (.slice aw W0.length kw)*(pt bR (.cells #[.slice a1 cs.length k1,.slice a2 lg.length k2,.slice a3 sh.length k3,.slice a4 W0.length k4] 30)*(sl 59 9 (cs.map Cll.e) (.slice a1 cs.length k1)*(sl 87 7 (lg.map Acc.e) (.slice a2 lg.length k2)*(sl 102 5 (sh.map Shf.e) (.slice a3 sh.length k3)*(sl 79 1 (ws.map eU) (.slice a4 W0.length k4)*F))))))) (fun q _=>W0.length+1-(intOf q).toNat)
   case atStart=>exact⟨0,by omega,rfl,by ((with_reducible apply Sat.fin hs);(with_reducible exact Ql))⟩
   case round=>
    obtain⟨n,kn,rfl,hs⟩:=hrel
    by_cases hkr:n=W0.length
    ·subst hkr
     have hlt:decide ((W0.length:Int)<(W0.length:Int))=false:=by simp
     (repeat'(first|(go_big_may;((with_reducible apply Zp hs);exact Ii;rfl;(with_reducible exact Qh);rfl;simp only[Uc,Uz]))|go_step))
     go_ret
     refine⟨rfl,?_⟩
     apply runR_mk
     (with_reducible apply Sat.fin hs;repeat first|exact Ql|exact Qh|apply Qb|apply Qk)
    ·have hlt:decide ((n:Int)<(W0.length:Int))=true:=by simp;omega
     have hlt2:decide (n<W0.length)=true:=by simp;omega
     have hln:n<(ws.map eU).length:=by have:=hwl.out;simp;omega
     obtain⟨x,hx⟩:∃x,ws[n]? = some x:=⟨_,Yd (by have:=hwl.out;omega)⟩
     have hgx:(ws.map eU)[n]? = some (eU x):=by rw[Ym,hx];rfl
     have hxx:(x != x)=false:=by simp
     have hnL:=Lh (show n<W0.length by omega)
     clear hx hkr
     (repeat'(first|(go_big_may;(first|(with_reducible refine NQ.mk ?_)|((with_reducible apply Zh);rfl;rfl)|(with_reducible refine Zi ?_)|((with_reducible apply Za hs);exact Ii;rfl;(with_reducible repeat first|exact Qh|apply Qk);rfl;rfl;simp only[Uc,Uz])|((with_reducible apply Zn hs);exact Ii;rfl;assumption;(with_reducible repeat first|exact Qh|apply Qk);rfl;(assumption);rfl;rfl;simp only[Uc,Uz])|((with_reducible apply ZE hs);exact Ii;exact Ii;rfl;rfl;(with_reducible repeat first|exact Qh|apply Qk);rfl;(assumption);rfl;intro b off hat;simp only[Uc,Uz])|((with_reducible apply Zp hs);exact Ii;rfl;(with_reducible exact Qh);rfl;simp only[Uc,Uz])|((with_reducible refine Wp (id:=29) (Paz [.neu 5,.neu 6,.neu 7,.neu 8,.neu 9]) hs rfl ?_ ?_);kernel_rfl;clear hs;intro w hs)))|go_step))
     go_roundw
     case rel=>exact⟨n+1,(by have:=hnL.out;omega),by simp,by ((with_reducible apply Sat.fin hs);(with_reducible exact Ql))⟩
     case measure=>have:=hnL.out;simp[intOf];omega
  ·have hlt:decide ((n:Int)<(lg.length:Int))=true:=by simp;omega
   have hlt2:decide (n<lg.length)=true:=by simp;omega
   have hln:n<(lg.map Acc.e).length:=by simp;omega
   obtain⟨e,he⟩:∃e,lg[n]? = some e:=⟨_,Yd (by omega)⟩
   obtain⟨ws',hr1,hr2⟩:=rep_at hrep.out he hwn.out
   have hr2:=Lh hr2
   have hmem:=Lh (Yc he)
   obtain⟨ad,had,hadl,hcase⟩:=rep1_cases hr1
   have hprev:=Lh (prev_acc hs1.out he)
   obtain⟨e1,e2,e3,e4,e5,e6,e7⟩:=e
   simp only[]at had hcase
   have hcase:=Lh hcase
   subst had
   have hgv:(lg.map Acc.e)[n]? = some (Acc.e ⟨e1,e2,e3,(ad:Int),e5,e6,e7⟩):=by rw[Ym,he];rfl
   have hlt0:decide ((ad:Int)<0)=false:=by simp
   have hge0:decide ((ad:Int)≥(W0.length:Int))=false:=by simp;omega
   have hge1:decide (W0.length≤ad)=false:=by simp;omega
   have hadl2:ad<(wsn.map eU).length:=by simp;exact hadl
   have hadl3:decide (ad<W0.length)=true:=by simp;omega
   have hnL:=Lh (show n<lg.length by omega)
   clear he hr1 hwn hkr hadl
   rcases hprev.out with⟨j6,j7⟩|⟨z1,z2,z3,z4,z5,z6,z7,j1,j2,j3,j4,j6⟩
   ·rcases hcase.out with⟨rfl,rfl,rfl,cw,rfl⟩|⟨rfl,rfl,rfl,rfl⟩|⟨rfl,cw,rfl,rfl⟩|⟨rfl,cw,c3,rfl⟩
    ·have hgw:(ws'.map eU)[ad]? = some (eU e7):=by rw[Ym,cw];rfl
     have hxx:(e7 != e7)=false:=by simp
     clear cw
     (repeat'(first|(((with_reducible apply Z8);rfl;rfl;((simp only[ev,Ue,Uf]);rfl);rfl;simp only[Uc,Uz]);(repeat(fail)))|((with_reducible apply ZT);((simp only[ev,Ue,Uf]);rfl);((simp only[cond_true,cond_false,ev,Ue,Uf]);rfl);(with_reducible exact Zv);simp only[Uc,Uz])|(go_big_may;(first|(with_reducible refine NQ.mk ?_)|((with_reducible apply Zh);rfl;rfl)|((with_reducible apply Zm);rfl)|(with_reducible refine EQ.mk ?_ ?_)|(with_reducible exact Zg)|(with_reducible refine Zi ?_)|((with_reducible apply Za hs);exact Ii;rfl;(with_reducible repeat first|exact Qh|apply Qk);rfl;rfl;simp only[Uc,Uz])|((with_reducible apply ZG hs);exact Ii;rfl;rfl;(with_reducible exact Qh);rfl;rfl;rfl;rfl;clear hs;intro w hs)|((with_reducible apply Zo hs);exact Ii;rfl;clear hs;intro w b hs;simp only[Uc,Uz])|((with_reducible apply Zn hs);exact Ii;rfl;assumption;(with_reducible repeat first|exact Qh|apply Qk);rfl;(assumption);rfl;rfl;simp only[Uc,Uz])|((with_reducible apply QE (k:=0) hs);exact Ii;rfl;assumption;(with_reducible repeat first|exact Qh|apply Qk);(exact(Nat.add_zero _).symm);(assumption);exact Vb rfl;rfl;rfl;simp only[Uc,Uz])|((with_reducible apply ZE hs);exact Ii;exact Ii;rfl;rfl;(with_reducible repeat first|exact Qh|apply Qk);rfl;(assumption);rfl;intro b off hat;simp only[Uc,Uz])|((with_reducible apply Zp hs);exact Ii;rfl;(with_reducible repeat first|exact Qh|apply Qk);rfl;simp only[Uc,Uz])|(go_at_call 103;((refine((hP.out _ hmem.out)).at hs (by (with_reducible repeat first|exact Qh|apply Qk)) ?_);clear hs;intro w hs;(try simp only[Em,Ma]at hs)))|((with_reducible refine Wp (id:=6) (Paz (Pbz (Pcz (Pdz [.neu 20,.eff 21 [],.neu 22,.neu 23])))) hs rfl ?_ ?_);kernel_rfl;clear hs;intro w hs)|((with_reducible refine Wp (id:=13) (Paz (Pbz (Pcz [.neu 15,.neu 16,.neu 17]))) hs rfl ?_ ?_);kernel_rfl;clear hs;intro w hs)))|go_guarded|go_step|(dsimp only)))
     go_roundw
     case rel=>exact⟨n+1,ws',(by have:=hnL.out;omega),by simp,hr2,by (with_reducible apply Sat.fin hs;repeat first|exact Ql|exact Qh|apply Qb|apply Qk)⟩
     case measure=>have:=hnL.out;simp[intOf];omega
    ·obtain⟨cx,cw⟩:∃cx,wsn[ad]? = some cx:=⟨_,Yd (by simpa using hadl2)⟩
     have hgw:(wsn.map eU)[ad]? = some (eU cx):=by rw[Ym,cw];rfl
     clear cw
     (repeat'(first|(((with_reducible apply Z8);rfl;rfl;((simp only[ev,Ue,Uf]);rfl);rfl;simp only[Uc,Uz]);(repeat(fail)))|((with_reducible apply ZT);((simp only[ev,Ue,Uf]);rfl);((simp only[cond_true,cond_false,ev,Ue,Uf]);rfl);(with_reducible exact Zv);simp only[Uc,Uz])|(go_big_may;(first|(with_reducible refine NQ.mk ?_)|((with_reducible apply Zh);rfl;rfl)|((with_reducible apply Zm);rfl)|(with_reducible refine EQ.mk ?_ ?_)|(with_reducible exact Zg)|(with_reducible refine Zi ?_)|((with_reducible apply Za hs);exact Ii;rfl;(with_reducible repeat first|exact Qh|apply Qk);rfl;rfl;simp only[Uc,Uz])|((with_reducible apply ZG hs);exact Ii;rfl;rfl;(with_reducible exact Qh);rfl;rfl;rfl;rfl;clear hs;intro w hs)|((with_reducible apply Zo hs);exact Ii;rfl;clear hs;intro w b hs;simp only[Uc,Uz])|((with_reducible apply ZS hs);exact Ii;rfl;rfl;assumption;(with_reducible repeat first|exact Qh|apply Qk);rfl;(assumption);exact Vb rfl;rfl;rfl;clear hs;intro w hs)|((with_reducible apply QE (k:=0) hs);exact Ii;rfl;assumption;(with_reducible repeat first|exact Qh|apply Qk);(exact(Nat.add_zero _).symm);(assumption);exact Vb rfl;rfl;rfl;simp only[Uc,Uz])|((with_reducible apply ZE hs);exact Ii;exact Ii;rfl;rfl;(with_reducible repeat first|exact Qh|apply Qk);rfl;(assumption);rfl;intro b off hat;simp only[Uc,Uz])|((with_reducible apply Zp hs);exact Ii;rfl;(with_reducible repeat first|exact Qh|apply Qk);rfl;simp only[Uc,Uz])|(go_at_call 103;((refine((hP.out _ hmem.out)).at hs (by (with_reducible repeat first|exact Qh|apply Qk)) ?_);clear hs;intro w hs;(try simp only[Em,Ma]at hs)))|((with_reducible refine Wp (id:=6) (Paz (Pbz (Pcz (Pdz [.neu 20,.eff 21 [],.neu 22,.neu 23])))) hs rfl ?_ ?_);kernel_rfl;clear hs;intro w hs)))|go_guarded|go_step|(dsimp only)))
     go_roundw
     case rel=>exact⟨n+1,wsn.set ad e6,(by have:=hnL.out;omega),by simp,hr2,by rw[Yk];((with_reducible apply Sat.fin hs);(focus((repeat(first|with_reducible exact Ql|with_reducible exact Qh|with_reducible apply Qb|exact Qh|with_reducible apply Qk));done)))⟩
     case measure=>have:=hnL.out;simp[intOf];omega
    ·have hgw:(wsn.map eU)[ad]? = some (eU e7):=by rw[Ym,cw];rfl
     have hxx:(e7 != e7)=false:=by simp
     have hyy:(e7==e7)=true:=by simp
     clear cw
     (repeat'(first|(((with_reducible apply Z8);rfl;rfl;((simp only[ev,Ue,Uf]);rfl);rfl;simp only[Uc,Uz]);(repeat(fail)))|((with_reducible apply ZT);((simp only[ev,Ue,Uf]);rfl);((simp only[cond_true,cond_false,ev,Ue,Uf]);rfl);(with_reducible exact Zv);simp only[Uc,Uz])|(go_big_may;(first|(with_reducible refine NQ.mk ?_)|((with_reducible apply Zh);rfl;rfl)|((with_reducible apply Zm);rfl)|(with_reducible refine EQ.mk ?_ ?_)|(with_reducible exact Zg)|(with_reducible refine Zi ?_)|((with_reducible apply Za hs);exact Ii;rfl;(with_reducible repeat first|exact Qh|apply Qk);rfl;rfl;simp only[Uc,Uz])|((with_reducible apply ZG hs);exact Ii;rfl;rfl;(with_reducible exact Qh);rfl;rfl;rfl;rfl;clear hs;intro w hs)|((with_reducible apply Zo hs);exact Ii;rfl;clear hs;intro w b hs;simp only[Uc,Uz])|((with_reducible apply Zn hs);exact Ii;rfl;assumption;(with_reducible repeat first|exact Qh|apply Qk);rfl;(assumption);rfl;rfl;simp only[Uc,Uz])|((with_reducible apply ZS hs);exact Ii;rfl;rfl;assumption;(with_reducible repeat first|exact Qh|apply Qk);rfl;(assumption);exact Vb rfl;rfl;rfl;clear hs;intro w hs)|((with_reducible apply QE (k:=0) hs);exact Ii;rfl;assumption;(with_reducible repeat first|exact Qh|apply Qk);(exact(Nat.add_zero _).symm);(assumption);exact Vb rfl;rfl;rfl;simp only[Uc,Uz])|((with_reducible apply ZU hs);exact Ii;exact Ii;rfl;assumption;rfl;(with_reducible repeat first|exact Qh|apply Qk);rfl;(assumption);rfl;simp only[Uc,Uz])|((with_reducible apply ZE hs);exact Ii;exact Ii;rfl;rfl;(with_reducible repeat first|exact Qh|apply Qk);rfl;(assumption);rfl;intro b off hat;simp only[Uc,Uz])|((with_reducible apply Zp hs);exact Ii;rfl;(with_reducible repeat first|exact Qh|apply Qk);rfl;simp only[Uc,Uz])|(go_at_call 103;((refine((hP.out _ hmem.out)).at hs (by (with_reducible repeat first|exact Qh|apply Qk)) ?_);clear hs;intro w hs;(try simp only[Em,Ma]at hs)))|((with_reducible refine Wp (id:=6) (Paz (Pbz (Pcz (Pdz [.neu 20,.eff 21 [],.neu 22,.neu 23])))) hs rfl ?_ ?_);kernel_rfl;clear hs;intro w hs)|((with_reducible refine Wp (id:=20) (Paz [.neu 5,.neu 6,.neu 7]) hs rfl ?_ ?_);kernel_rfl;clear hs;intro w hs)))|go_guarded|go_step|(dsimp only)))
     go_roundw
     case rel=>exact⟨n+1,wsn.set ad e6,(by have:=hnL.out;omega),by simp,hr2,by rw[Yk];((with_reducible apply Sat.fin hs);(focus((repeat(first|with_reducible exact Ql|with_reducible exact Qh|with_reducible apply Qb|exact Qh|with_reducible apply Qk));done)))⟩
     case measure=>have:=hnL.out;simp[intOf];omega
    ·have hgw:(ws'.map eU)[ad]? = some (eU e7):=by rw[Ym,cw];rfl
     have hxx:(e7 != e7)=false:=by simp
     have hyy:(e7==e5)=false:=by simpa using c3
     clear cw
     (repeat'(first|(((with_reducible apply Z8);rfl;rfl;((simp only[ev,Ue,Uf]);rfl);rfl;simp only[Uc,Uz]);(repeat(fail)))|((with_reducible apply ZT);((simp only[ev,Ue,Uf]);rfl);((simp only[cond_true,cond_false,ev,Ue,Uf]);rfl);(with_reducible exact Zv);simp only[Uc,Uz])|(go_big_may;(first|(with_reducible refine NQ.mk ?_)|((with_reducible apply Zh);rfl;rfl)|((with_reducible apply Zm);rfl)|(with_reducible refine EQ.mk ?_ ?_)|(with_reducible exact Zg)|(with_reducible refine Zi ?_)|((with_reducible apply Za hs);exact Ii;rfl;(with_reducible repeat first|exact Qh|apply Qk);rfl;rfl;simp only[Uc,Uz])|((with_reducible apply ZG hs);exact Ii;rfl;rfl;(with_reducible exact Qh);rfl;rfl;rfl;rfl;clear hs;intro w hs)|((with_reducible apply Zo hs);exact Ii;rfl;clear hs;intro w b hs;simp only[Uc,Uz])|((with_reducible apply Zn hs);exact Ii;rfl;assumption;(with_reducible repeat first|exact Qh|apply Qk);rfl;(assumption);rfl;rfl;simp only[Uc,Uz])|((with_reducible apply QE (k:=0) hs);exact Ii;rfl;assumption;(with_reducible repeat first|exact Qh|apply Qk);(exact(Nat.add_zero _).symm);(assumption);exact Vb rfl;rfl;rfl;simp only[Uc,Uz])|((with_reducible apply ZE hs);exact Ii;exact Ii;rfl;rfl;(with_reducible repeat first|exact Qh|apply Qk);rfl;(assumption);rfl;intro b off hat;simp only[Uc,Uz])|((with_reducible apply Zp hs);exact Ii;rfl;(with_reducible repeat first|exact Qh|apply Qk);rfl;simp only[Uc,Uz])|(go_at_call 103;((refine((hP.out _ hmem.out)).at hs (by (with_reducible repeat first|exact Qh|apply Qk)) ?_);clear hs;intro w hs;(try simp only[Em,Ma]at hs)))|((with_reducible refine Wp (id:=6) (Paz (Pbz (Pcz (Pdz [.neu 20,.eff 21 [],.neu 22,.neu 23])))) hs rfl ?_ ?_);kernel_rfl;clear hs;intro w hs)|((with_reducible refine Wp (id:=20) (Paz [.neu 5,.neu 6,.neu 7]) hs rfl ?_ ?_);kernel_rfl;clear hs;intro w hs)))|go_guarded|go_step|(dsimp only)))
     go_roundw
     case rel=>exact⟨n+1,ws',(by have:=hnL.out;omega),by simp,hr2,by (with_reducible apply Sat.fin hs;repeat first|exact Ql|exact Qh|apply Qb|apply Qk)⟩
     case measure=>have:=hnL.out;simp[intOf];omega
   ·replace j4:decide (e1≤z1)=false:=j4
    rcases hcase.out with⟨rfl,rfl,rfl,cw,rfl⟩|⟨rfl,rfl,rfl,rfl⟩|⟨rfl,cw,rfl,rfl⟩|⟨rfl,cw,c3,rfl⟩
    ·have hgw:(ws'.map eU)[ad]? = some (eU e7):=by rw[Ym,cw];rfl
     have hxx:(e7 != e7)=false:=by simp
     clear cw
     (repeat'(first|((with_reducible apply ZT);((simp only[ev,Ue,Uf]);rfl);((simp only[cond_true,cond_false,ev,Ue,Uf]);rfl);(with_reducible exact Zv);simp only[Uc,Uz])|(go_big_may;(first|(with_reducible refine NQ.mk ?_)|((with_reducible apply Zh);rfl;rfl)|((with_reducible apply Zm);rfl)|(with_reducible refine EQ.mk ?_ ?_)|(with_reducible exact Zg)|(with_reducible refine Zi ?_)|((with_reducible apply Za hs);exact Ii;rfl;(with_reducible repeat first|exact Qh|apply Qk);rfl;rfl;simp only[Uc,Uz])|((with_reducible apply ZG hs);exact Ii;rfl;rfl;(with_reducible exact Qh);rfl;rfl;rfl;rfl;clear hs;intro w hs)|((with_reducible apply Zo hs);exact Ii;rfl;clear hs;intro w b hs;simp only[Uc,Uz])|((with_reducible apply Zn hs);exact Ii;rfl;assumption;(with_reducible repeat first|exact Qh|apply Qk);rfl;(assumption);rfl;rfl;simp only[Uc,Uz])|((with_reducible apply QE (k:=0) hs);exact Ii;rfl;assumption;(with_reducible repeat first|exact Qh|apply Qk);(exact(Nat.add_zero _).symm);(assumption);exact Vb rfl;rfl;rfl;simp only[Uc,Uz])|((with_reducible apply ZU hs);exact Ii;exact Ii;rfl;assumption;rfl;(with_reducible repeat first|exact Qh|apply Qk);(exact(Int.toNat_of_nonneg (by omega)).symm);(assumption);rfl;simp only[Uc,Uz])|((with_reducible apply ZE hs);exact Ii;exact Ii;rfl;rfl;(with_reducible repeat first|exact Qh|apply Qk);rfl;(assumption);rfl;intro b off hat;simp only[Uc,Uz])|((with_reducible apply Zp hs);exact Ii;rfl;(with_reducible repeat first|exact Qh|apply Qk);rfl;simp only[Uc,Uz])|(go_at_call 103;((refine((hP.out _ hmem.out)).at hs (by (with_reducible repeat first|exact Qh|apply Qk)) ?_);clear hs;intro w hs;(try simp only[Em,Ma]at hs)))|((with_reducible refine Wp (id:=6) (Paz (Pbz (Pcz (Pdz [.neu 20,.eff 21 [],.neu 22,.neu 23])))) hs rfl ?_ ?_);kernel_rfl;clear hs;intro w hs)|((with_reducible refine Wp (id:=13) (Paz (Pbz (Pcz [.neu 15,.neu 16,.neu 17]))) hs rfl ?_ ?_);kernel_rfl;clear hs;intro w hs)))|go_guarded|go_step|(dsimp only)))
     go_roundw
     case rel=>exact⟨n+1,ws',(by have:=hnL.out;omega),by simp,hr2,by (with_reducible apply Sat.fin hs;repeat first|exact Ql|exact Qh|apply Qb|apply Qk)⟩
     case measure=>have:=hnL.out;simp[intOf];omega
    ·obtain⟨cx,cw⟩:∃cx,wsn[ad]? = some cx:=⟨_,Yd (by simpa using hadl2)⟩
     have hgw:(wsn.map eU)[ad]? = some (eU cx):=by rw[Ym,cw];rfl
     clear cw
     (repeat'(first|((with_reducible apply ZT);((simp only[ev,Ue,Uf]);rfl);((simp only[cond_true,cond_false,ev,Ue,Uf]);rfl);(with_reducible exact Zv);simp only[Uc,Uz])|(go_big_may;(first|(with_reducible refine NQ.mk ?_)|((with_reducible apply Zh);rfl;rfl)|((with_reducible apply Zm);rfl)|(with_reducible refine EQ.mk ?_ ?_)|(with_reducible exact Zg)|(with_reducible refine Zi ?_)|((with_reducible apply Za hs);exact Ii;rfl;(with_reducible repeat first|exact Qh|apply Qk);rfl;rfl;simp only[Uc,Uz])|((with_reducible apply ZG hs);exact Ii;rfl;rfl;(with_reducible exact Qh);rfl;rfl;rfl;rfl;clear hs;intro w hs)|((with_reducible apply Zo hs);exact Ii;rfl;clear hs;intro w b hs;simp only[Uc,Uz])|((with_reducible apply Zn hs);exact Ii;rfl;assumption;(with_reducible repeat first|exact Qh|apply Qk);rfl;(assumption);rfl;rfl;simp only[Uc,Uz])|((with_reducible apply ZS hs);exact Ii;rfl;rfl;assumption;(with_reducible repeat first|exact Qh|apply Qk);rfl;(assumption);exact Vb rfl;rfl;rfl;clear hs;intro w hs)|((with_reducible apply QE (k:=0) hs);exact Ii;rfl;assumption;(with_reducible repeat first|exact Qh|apply Qk);(exact(Nat.add_zero _).symm);(assumption);exact Vb rfl;rfl;rfl;simp only[Uc,Uz])|((with_reducible apply ZU hs);exact Ii;exact Ii;rfl;assumption;rfl;(with_reducible repeat first|exact Qh|apply Qk);(exact(Int.toNat_of_nonneg (by omega)).symm);(assumption);rfl;simp only[Uc,Uz])|((with_reducible apply ZE hs);exact Ii;exact Ii;rfl;rfl;(with_reducible repeat first|exact Qh|apply Qk);rfl;(assumption);rfl;intro b off hat;simp only[Uc,Uz])|((with_reducible apply Zp hs);exact Ii;rfl;(with_reducible repeat first|exact Qh|apply Qk);rfl;simp only[Uc,Uz])|(go_at_call 103;((refine((hP.out _ hmem.out)).at hs (by (with_reducible repeat first|exact Qh|apply Qk)) ?_);clear hs;intro w hs;(try simp only[Em,Ma]at hs)))|((with_reducible refine Wp (id:=6) (Paz (Pbz (Pcz (Pdz [.neu 20,.eff 21 [],.neu 22,.neu 23])))) hs rfl ?_ ?_);kernel_rfl;clear hs;intro w hs)))|go_guarded|go_step|(dsimp only)))
     go_roundw
     case rel=>exact⟨n+1,wsn.set ad e6,(by have:=hnL.out;omega),by simp,hr2,by rw[Yk];((with_reducible apply Sat.fin hs);(focus((repeat(first|with_reducible exact Ql|with_reducible exact Qh|with_reducible apply Qb|exact Qh|with_reducible apply Qk));done)))⟩
     case measure=>have:=hnL.out;simp[intOf];omega
    ·have hgw:(wsn.map eU)[ad]? = some (eU e7):=by rw[Ym,cw];rfl
     have hxx:(e7 != e7)=false:=by simp
     have hyy:(e7==e7)=true:=by simp
     clear cw
     (repeat'(first|((with_reducible apply ZT);((simp only[ev,Ue,Uf]);rfl);((simp only[cond_true,cond_false,ev,Ue,Uf]);rfl);(with_reducible exact Zv);simp only[Uc,Uz])|(go_big_may;(first|(with_reducible refine NQ.mk ?_)|((with_reducible apply Zh);rfl;rfl)|((with_reducible apply Zm);rfl)|(with_reducible refine EQ.mk ?_ ?_)|(with_reducible exact Zg)|(with_reducible refine Zi ?_)|((with_reducible apply Za hs);exact Ii;rfl;(with_reducible repeat first|exact Qh|apply Qk);rfl;rfl;simp only[Uc,Uz])|((with_reducible apply ZG hs);exact Ii;rfl;rfl;(with_reducible exact Qh);rfl;rfl;rfl;rfl;clear hs;intro w hs)|((with_reducible apply Zo hs);exact Ii;rfl;clear hs;intro w b hs;simp only[Uc,Uz])|((with_reducible apply Zn hs);exact Ii;rfl;assumption;(with_reducible repeat first|exact Qh|apply Qk);rfl;(assumption);rfl;rfl;simp only[Uc,Uz])|((with_reducible apply ZS hs);exact Ii;rfl;rfl;assumption;(with_reducible repeat first|exact Qh|apply Qk);rfl;(assumption);exact Vb rfl;rfl;rfl;clear hs;intro w hs)|((with_reducible apply QE (k:=0) hs);exact Ii;rfl;assumption;(with_reducible repeat first|exact Qh|apply Qk);(exact(Nat.add_zero _).symm);(assumption);exact Vb rfl;rfl;rfl;simp only[Uc,Uz])|((with_reducible apply ZU hs);exact Ii;exact Ii;rfl;assumption;rfl;(with_reducible repeat first|exact Qh|apply Qk);(first|rfl|exact(Int.toNat_of_nonneg (by omega)).symm);(assumption);rfl;simp only[Uc,Uz])|((with_reducible apply ZE hs);exact Ii;exact Ii;rfl;rfl;(with_reducible repeat first|exact Qh|apply Qk);rfl;(assumption);rfl;intro b off hat;simp only[Uc,Uz])|((with_reducible apply Zp hs);exact Ii;rfl;(with_reducible repeat first|exact Qh|apply Qk);rfl;simp only[Uc,Uz])|(go_at_call 103;((refine((hP.out _ hmem.out)).at hs (by (with_reducible repeat first|exact Qh|apply Qk)) ?_);clear hs;intro w hs;(try simp only[Em,Ma]at hs)))|((with_reducible refine Wp (id:=6) (Paz (Pbz (Pcz (Pdz [.neu 20,.eff 21 [],.neu 22,.neu 23])))) hs rfl ?_ ?_);kernel_rfl;clear hs;intro w hs)|((with_reducible refine Wp (id:=20) (Paz [.neu 5,.neu 6,.neu 7]) hs rfl ?_ ?_);kernel_rfl;clear hs;intro w hs)))|go_guarded|go_step|(dsimp only)))
     go_roundw
     case rel=>exact⟨n+1,wsn.set ad e6,(by have:=hnL.out;omega),by simp,hr2,by rw[Yk];((with_reducible apply Sat.fin hs);(focus((repeat(first|with_reducible exact Ql|with_reducible exact Qh|with_reducible apply Qb|exact Qh|with_reducible apply Qk));done)))⟩
     case measure=>have:=hnL.out;simp[intOf];omega
    ·have hgw:(ws'.map eU)[ad]? = some (eU e7):=by rw[Ym,cw];rfl
     have hxx:(e7 != e7)=false:=by simp
     have hyy:(e7==e5)=false:=by simpa using c3
     clear cw
     (repeat'(first|((with_reducible apply ZT);((simp only[ev,Ue,Uf]);rfl);((simp only[cond_true,cond_false,ev,Ue,Uf]);rfl);(with_reducible exact Zv);simp only[Uc,Uz])|(go_big_may;(first|(with_reducible refine NQ.mk ?_)|((with_reducible apply Zh);rfl;rfl)|((with_reducible apply Zm);rfl)|(with_reducible refine EQ.mk ?_ ?_)|(with_reducible exact Zg)|(with_reducible refine Zi ?_)|((with_reducible apply Za hs);exact Ii;rfl;(with_reducible repeat first|exact Qh|apply Qk);rfl;rfl;simp only[Uc,Uz])|((with_reducible apply ZG hs);exact Ii;rfl;rfl;(with_reducible exact Qh);rfl;rfl;rfl;rfl;clear hs;intro w hs)|((with_reducible apply Zo hs);exact Ii;rfl;clear hs;intro w b hs;simp only[Uc,Uz])|((with_reducible apply Zn hs);exact Ii;rfl;assumption;(with_reducible repeat first|exact Qh|apply Qk);rfl;(assumption);rfl;rfl;simp only[Uc,Uz])|((with_reducible apply QE (k:=0) hs);exact Ii;rfl;assumption;(with_reducible repeat first|exact Qh|apply Qk);(exact(Nat.add_zero _).symm);(assumption);exact Vb rfl;rfl;rfl;simp only[Uc,Uz])|((with_reducible apply ZU hs);exact Ii;exact Ii;rfl;assumption;rfl;(with_reducible repeat first|exact Qh|apply Qk);(exact(Int.toNat_of_nonneg (by omega)).symm);(assumption);rfl;simp only[Uc,Uz])|((with_reducible apply ZE hs);exact Ii;exact Ii;rfl;rfl;(with_reducible repeat first|exact Qh|apply Qk);rfl;(assumption);rfl;intro b off hat;simp only[Uc,Uz])|((with_reducible apply Zp hs);exact Ii;rfl;(with_reducible repeat first|exact Qh|apply Qk);rfl;simp only[Uc,Uz])|(go_at_call 103;((refine((hP.out _ hmem.out)).at hs (by (with_reducible repeat first|exact Qh|apply Qk)) ?_);clear hs;intro w hs;(try simp only[Em,Ma]at hs)))|((with_reducible refine Wp (id:=6) (Paz (Pbz (Pcz (Pdz [.neu 20,.eff 21 [],.neu 22,.neu 23])))) hs rfl ?_ ?_);kernel_rfl;clear hs;intro w hs)|((with_reducible refine Wp (id:=20) (Paz [.neu 5,.neu 6,.neu 7]) hs rfl ?_ ?_);kernel_rfl;clear hs;intro w hs)))|go_guarded|go_step|(dsimp only)))
     go_roundw
     case rel=>exact⟨n+1,ws',(by have:=hnL.out;omega),by simp,hr2,by (with_reducible apply Sat.fin hs;repeat first|exact Ql|exact Qh|apply Qb|apply Qk)⟩
     case measure=>have:=hnL.out;simp[intOf];omega
end Go.Proofs.YtefjbdajgakgpaaGreat
