import Derived.Test.YtefjbdajgakgpaaGreatBQCen2
import Derived.Test.YtefjbdajgakgpaaGreatBQueC
set_option linter.all false
namespace Go.Proofs.YtefjbdajgakgpaaGreat
open Go.RowKit Hp
set_option maxRecDepth 100000
set_option maxHeartbeats 8000000
section
attribute [local irreducible] Go.Calls Go.wpList
theorem rep1_len {ws ws':List Int}{e:Acc}(h:rep1 ws e=some ws'):ws'.length=ws.length:=by
 unfold rep1 at h
 split at h
 ·split at h
  ·split at h<;>cases h;rfl
  ·split at h
   ·split at h<;>cases h;simp
   ·split at h
    ·split at h
     ·cases h;split<;>simp
     ·cases h
    ·cases h
 ·cases h
theorem rep_len:∀ {lg:List Acc} {ws ws':List Int},rep ws lg=some ws'→ws'.length=ws.length
 | [],_,_,h=>by cases h;rfl
 | e::r,ws,ws',h=>by
  simp only[rep]at h
  cases h1:rep1 ws e with
  | none=>rw[h1]at h;cases h
  | some w1=>rw[h1]at h;rw[rep_len h,rep1_len h1]
theorem rep_at {ws0 ws wsn:List Int}{lg:List Acc}{n:Nat}{e:Acc}(h:rep ws0 lg=some ws)(hn:lg[n]? = some e)(hw:rep ws0 (lg.take n)=some wsn) :
  ∃ws',rep1 wsn e=some ws'∧rep ws0 (lg.take (n+1))=some ws':=by
 have e1:lg.take (n+1)=lg.take n++[e]:=by rw[List.take_add_one,hn];rfl
 rw[←List.take_append_drop (n+1) lg,rep_append,e1,rep_append,hw]at h
 simp only[Option.bind_some,rep]at h
 cases h1:rep1 wsn e with
 | none=>rw[h1]at h;cases h
 | some w1=>exact⟨w1,rfl,by rw[e1,rep_append,hw];simp only[Option.bind_some,rep,h1]⟩
theorem rep1_cases {ws ws':List Int}{e:Acc}(h:rep1 ws e=some ws'):∃a:Nat,e.addr=(a:Int)∧a<ws.length ∧
  ((e.kind=1∧e.old=0∧e.new=0∧ws[a]? = some e.saw∧ws'=ws)∨(e.kind=2∧e.old=0∧e.saw=0∧ws'=ws.set a e.new) ∨
   (e.kind=3∧ws[a]? = some e.saw∧e.saw=e.old∧ws'=ws.set a e.new)∨(e.kind=3∧ws[a]? = some e.saw∧e.saw≠e.old∧ws'=ws)):=by
 unfold rep1 at h
 split at h
 ·rename_i ha
  have hl:e.addr.toNat<ws.length:=by omega
  have hg:ws[e.addr.toNat]? = some (ws.getD e.addr.toNat 0):=by rw[Yb,Yd hl];rfl
  refine⟨e.addr.toNat,by omega,hl,?_⟩
  split at h
  ·split at h
   ·rename_i h1 h2;cases h;exact .inl ⟨h1,h2.1,h2.2.1,by rw[h2.2.2];exact hg,rfl⟩
   ·cases h
  ·split at h
   ·split at h
    ·rename_i h1 h2;cases h;exact .inr (.inl ⟨h1,h2.1,h2.2,rfl⟩)
    ·cases h
   ·split at h
    ·split at h
     ·rename_i h1 h2
      cases h
      by_cases h3:e.saw=e.old
      ·rw[if_pos h3];exact .inr (.inr (.inl ⟨h1,by rw[h2];exact hg,h3,rfl⟩))
      ·rw[if_neg h3];exact .inr (.inr (.inr ⟨h1,by rw[h2];exact hg,h3,rfl⟩))
     ·cases h
    ·cases h
 ·cases h
theorem prev_acc {lg:List Acc}(hs:lg.Pairwise (fun x y=>x.move<y.move)){n:Nat}{e:Acc}(he:lg[n]? = some e) :
  (decide ((n:Int)>0)=false∧decide (0<n)=false)∨∃z1 z2 z3 z4 z5 z6 z7:Int,1≤n∧((n:Int)-1).toNat<(lg.map Acc.e).length∧(lg.map Acc.e)[n-1]? = some (Acc.e ⟨z1,z2,z3,z4,z5,z6,z7⟩)∧decide (e.move≤z1)=false∧decide ((n:Int)>0)=true:=by
 have hn:=(List.getElem?_eq_some_iff.1 he).1
 cases n with
 | zero=>exact .inl ⟨rfl,rfl⟩
 | succ j=>
  right
  obtain⟨z,hz⟩:∃z,lg[j]? = some z:=⟨_,Yd (by omega)⟩
  have hm:=pw_get hs (show j<j+1 by omega) hz he
  obtain⟨z1,z2,z3,z4,z5,z6,z7⟩:=z
  have hm:z1<e.move:=hm
  have e0:(((j+1:Nat):Int)-1).toNat=j:=by omega
  have e1:j<(lg.map Acc.e).length:=by rw[List.length_map];omega
  have e3:(lg.map Acc.e)[j]? = some (Acc.e ⟨z1,z2,z3,z4,z5,z6,z7⟩):=by rw[Ym,hz];rfl
  have e4:decide (e.move≤z1)=false:=by rw[decide_eq_false_iff_not];omega
  have e5:decide (((j+1:Nat):Int)>0)=true:=by rw[decide_eq_true_eq];omega
  exact⟨z1,z2,z3,z4,z5,z6,z7,by omega,by rw[e0];exact e1,e3,e4,e5⟩
set_option maxHeartbeats 16000000 in
theorem cen_trace (c:Cfg)(hok:c.Ok)(cs:List Cll)(lg:List Acc)(sh:List Shf)(ws:List Int)(u:Value)(hl:RunLen cs lg sh ws)
  (hs1:lg.Pairwise (fun x y=>x.move<y.move)) (hpl:∀e∈lg,PlOk cs e.thread e.move) (hrep:rep (Z7 c 1) lg=some ws) :
  Zj Tryz.prog 75 #[c.v,.int .i64 1,u] (RunR cs lg sh ws u) (.bool true) (RunR cs lg sh ws u):=by
 intro O w F hs
 have hg:=runR_get hs
 clear hs
 obtain⟨a1,k1,a2,k2,a3,k3,a4,k4,rfl,hs⟩:=hg
 obtain⟨g1,g2,g3,g4⟩:=hl
 have hP:=Lh (fun e he=>cen_place cs (.slice a1 cs.length k1) e.thread e.move (by omega) (hpl e he))
 have hF:=Lh (ref_first1 c hok)
 have hbl:=base14_le hok
 have hwl:ws.length=(Z7 c 1).length:=rep_len hrep
 obtain⟨W0,hW0⟩:∃W0,W0=Z7 c 1:=⟨_,rfl⟩
 have hwl8:W0.length<100000000:=by rw[hW0,←hwl];exact g4
 rw[←hW0]at hwl hrep hF
 rw[hwl]at hs ⊢
 have hwl:=Lh hwl
 clear hW0 hok hpl
 have hs1:=Lh hs1
 have hrep:=Lh hrep
 go_enter Tryz.func75,Tryz.ntmps75
 (repeat'(first|(go_big_may;(first|((with_reducible apply ZU hs);exact Ii;rfl;(with_reducible repeat first|exact Qh|apply Qk);rfl;rfl;simp only[Uc,Uz])|((with_reducible apply Zq hs);rfl;rfl;rfl;clear hs;intro w b hs;simp only[Uc,Uz])|(go_at_call 28;((refine(hF.out).at hs (by (focus((repeat(with_reducible exact Qn));done))) ?_);clear hs;intro v w hs;(try simp only[Em,Ma]at hs));(obtain⟨aw,kw,rfl⟩:=ZY (hs.pull (A:=sl 79 1 (W0.map eU) v) (by (with_reducible exact Qh))));(simp only[List.length_map]at hs ⊢))))|go_step))
 obtain⟨bR,hbR⟩:∃x,x=b:=⟨_,rfl⟩
 subst hbR
 go_loopw [8] (fun q wr=>∃(n:Nat) (wsn:List Int),n≤lg.length∧q=.int .i64 (n:Int)∧Hid (rep W0 (lg.take n)=some wsn)∧Sat O wr (sl 79 1 (wsn.map eU) (.slice aw W0.length kw)*(pt bR (.cells #[.slice a1 cs.length k1,.slice a2 lg.length k2,.slice a3 sh.length k3,.slice a4 W0.length k4] 30)*(sl 59 9 (cs.map Cll.e) (.slice a1 cs.length k1)*(sl 87 7 (lg.map Acc.e) (.slice a2 lg.length k2)*(sl 102 5 (sh.map Shf.e) (.slice a3 sh.length k3)*(sl 79 1 (ws.map eU) (.slice a4 W0.length k4)*F))))))) (fun q _=>lg.length+1-(intOf q).toNat)
 case atStart=>exact⟨0,W0,by omega,rfl,Lh rfl,by (with_reducible apply Sat.fin hs;repeat first|exact Ql|exact Qh|apply Qb|apply Qk)⟩
 case round=>
  obtain⟨n,wsn,kn,rfl,hwn,hs⟩:=hrel
  have hwnl:wsn.length=W0.length:=rep_len hwn.out
  by_cases hkr:n=lg.length
  ·have e1:=hwn.out
   rw[hkr,List.take_length,hrep.out]at e1
   cases e1
   subst hkr
   have hlt:decide ((lg.length:Int)<(lg.length:Int))=false:=by simp
   have hne:((W0.length:Int) != (W0.length:Int))=false:=by simp
   clear hwn
   (repeat'(first|(go_big_may;(first|((with_reducible apply Za hs);exact Ii;rfl;(with_reducible repeat first|exact Qh|apply Qk);rfl;rfl;simp only[Uc,Uz])|((with_reducible apply Zp hs);exact Ii;rfl;(with_reducible repeat first|exact Qh|apply Qk);rfl;simp only[Uc,Uz])))|go_step))
   go_loopw [10] (fun q wr=>∃n:Nat,n≤W0.length∧q=.int .i64 (n:Int)∧Sat O wr (sl 79 1 (ws.map eU) (.slice aw W0.length kw)*(pt bR (.cells #[.slice a1 cs.length k1,.slice a2 lg.length k2,.slice a3 sh.length k3,.slice a4 W0.length k4] 30)*(sl 59 9 (cs.map Cll.e) (.slice a1 cs.length k1)*(sl 87 7 (lg.map Acc.e) (.slice a2 lg.length k2)*(sl 102 5 (sh.map Shf.e) (.slice a3 sh.length k3)*(sl 79 1 (ws.map eU) (.slice a4 W0.length k4)*F))))))) (fun q _=>W0.length+1-(intOf q).toNat)
   case atStart=>exact⟨0,by omega,rfl,by ((with_reducible apply Sat.fin hs);(with_reducible exact Ql))⟩
   case round=>
    obtain⟨n,kn,rfl,hs⟩:=hrel
    by_cases hkr:n=W0.length
    ·subst hkr
     have hlt:decide ((W0.length:Int)<(W0.length:Int))=false:=by simp
     (repeat'(first|(go_big_may;((with_reducible apply Zp hs);exact Ii;rfl;(with_reducible exact Qh);rfl;simp only[Uc,Uz]))|go_step))
     go_ret
     refine⟨rfl,?_⟩
     apply runR_mk
     (with_reducible apply Sat.fin hs;repeat first|exact Ql|exact Qh|apply Qb|apply Qk)
    ·have hlt:decide ((n:Int)<(W0.length:Int))=true:=by simp;omega
     have hlt2:decide (n<W0.length)=true:=by simp;omega
     have hln:n<(ws.map eU).length:=by have:=hwl.out;simp;omega
     obtain⟨x,hx⟩:∃x,ws[n]? = some x:=⟨_,Yd (by have:=hwl.out;omega)⟩
     have hgx:(ws.map eU)[n]? = some (eU x):=by rw[Ym,hx];rfl
     have hxx:(x != x)=false:=by simp
     have hnL:=Lh (show n<W0.length by omega)
     clear hx hkr
     (repeat'(first|(go_big_may;(first|(with_reducible refine NQ.mk ?_)|((with_reducible apply Zg);rfl;rfl)|(with_reducible refine Zh ?_)|((with_reducible apply Za hs);exact Ii;rfl;(with_reducible repeat first|exact Qh|apply Qk);rfl;rfl;simp only[Uc,Uz])|((with_reducible apply Zk hs);exact Ii;rfl;assumption;(with_reducible repeat first|exact Qh|apply Qk);rfl;(assumption);rfl;rfl;simp only[Uc,Uz])|((with_reducible apply ZA hs);exact Ii;exact Ii;rfl;rfl;(with_reducible repeat first|exact Qh|apply Qk);rfl;(assumption);rfl;intro b off hat;simp only[Uc,Uz])|((with_reducible apply Zp hs);exact Ii;rfl;(with_reducible exact Qh);rfl;simp only[Uc,Uz])|((with_reducible refine Wp (id:=29) (Paz [.neu 5,.neu 6,.neu 7,.neu 8,.neu 9]) hs rfl ?_ ?_);kernel_rfl;clear hs;intro w hs)))|go_step))
     go_roundw
     case rel=>exact⟨n+1,(by have:=hnL.out;omega),by simp,by ((with_reducible apply Sat.fin hs);(with_reducible exact Ql))⟩
     case measure=>have:=hnL.out;simp[intOf];omega
  ·have hlt:decide ((n:Int)<(lg.length:Int))=true:=by simp;omega
   have hlt2:decide (n<lg.length)=true:=by simp;omega
   have hln:n<(lg.map Acc.e).length:=by simp;omega
   obtain⟨e,he⟩:∃e,lg[n]? = some e:=⟨_,Yd (by omega)⟩
   obtain⟨ws',hr1,hr2⟩:=rep_at hrep.out he hwn.out
   have hr2:=Lh hr2
   have hmem:=Lh (Yc he)
   obtain⟨ad,had,hadl,hcase⟩:=rep1_cases hr1
   have hprev:=Lh (prev_acc hs1.out he)
   obtain⟨e1,e2,e3,e4,e5,e6,e7⟩:=e
   simp only[]at had hcase
   have hcase:=Lh hcase
   subst had
   have hgv:(lg.map Acc.e)[n]? = some (Acc.e ⟨e1,e2,e3,(ad:Int),e5,e6,e7⟩):=by rw[Ym,he];rfl
   have hlt0:decide ((ad:Int)<0)=false:=by simp
   have hge0:decide ((ad:Int)≥(W0.length:Int))=false:=by simp;omega
   have hge1:decide (W0.length≤ad)=false:=by simp;omega
   have hadl2:ad<(wsn.map eU).length:=by simp;exact hadl
   have hadl3:decide (ad<W0.length)=true:=by simp;omega
   have hnL:=Lh (show n<lg.length by omega)
   clear he hr1 hwn hkr hadl
   rcases hprev.out with⟨j6,j7⟩|⟨z1,z2,z3,z4,z5,z6,z7,j1,j2,j3,j4,j6⟩
   ·rcases hcase.out with⟨rfl,rfl,rfl,cw,rfl⟩|⟨rfl,rfl,rfl,rfl⟩|⟨rfl,cw,rfl,rfl⟩|⟨rfl,cw,c3,rfl⟩
    ·have hgw:(ws'.map eU)[ad]? = some (eU e7):=by rw[Ym,cw];rfl
     have hxx:(e7 != e7)=false:=by simp
     clear cw
     (repeat'(first|(((with_reducible apply Z8);rfl;rfl;((simp only[ev,Ue,Uf]);rfl);rfl;simp only[Uc,Uz]);(repeat(fail)))|((with_reducible apply ZO);((simp only[ev,Ue,Uf]);rfl);((simp only[cond_true,cond_false,ev,Ue,Uf]);rfl);(with_reducible exact Zt);simp only[Uc,Uz])|(go_big_may;(first|(with_reducible refine NQ.mk ?_)|((with_reducible apply Zg);rfl;rfl)|((with_reducible apply Zl);rfl)|(with_reducible refine EQ.mk ?_ ?_)|(with_reducible exact Zf)|(with_reducible refine Zh ?_)|((with_reducible apply Za hs);exact Ii;rfl;(with_reducible repeat first|exact Qh|apply Qk);rfl;rfl;simp only[Uc,Uz])|((with_reducible apply ZH hs);exact Ii;rfl;rfl;(with_reducible exact Qh);rfl;rfl;rfl;rfl;clear hs;intro w hs)|((with_reducible apply Zr hs);exact Ii;rfl;clear hs;intro w b hs;simp only[Uc,Uz])|((with_reducible apply Zk hs);exact Ii;rfl;assumption;(with_reducible repeat first|exact Qh|apply Qk);rfl;(assumption);rfl;rfl;simp only[Uc,Uz])|((with_reducible apply Qj (k:=0) hs);exact Ii;rfl;assumption;(with_reducible repeat first|exact Qh|apply Qk);(exact(Nat.add_zero _).symm);(assumption);exact Vb rfl;rfl;rfl;simp only[Uc,Uz])|((with_reducible apply ZA hs);exact Ii;exact Ii;rfl;rfl;(with_reducible repeat first|exact Qh|apply Qk);rfl;(assumption);rfl;intro b off hat;simp only[Uc,Uz])|((with_reducible apply Zp hs);exact Ii;rfl;(with_reducible repeat first|exact Qh|apply Qk);rfl;simp only[Uc,Uz])|(go_at_call 103;((refine((hP.out _ hmem.out)).at hs (by (with_reducible repeat first|exact Qh|apply Qk)) ?_);clear hs;intro w hs;(try simp only[Em,Ma]at hs)))|((with_reducible refine Wp (id:=6) (Paz (Pbz (Pcz (Pdz [.neu 20,.eff 21 [],.neu 22,.neu 23])))) hs rfl ?_ ?_);kernel_rfl;clear hs;intro w hs)|((with_reducible refine Wp (id:=13) (Paz (Pbz (Pcz [.neu 15,.neu 16,.neu 17]))) hs rfl ?_ ?_);kernel_rfl;clear hs;intro w hs)))|go_guarded|go_step|(dsimp only)))
     go_roundw
     case rel=>exact⟨n+1,ws',(by have:=hnL.out;omega),by simp,hr2,by (with_reducible apply Sat.fin hs;repeat first|exact Ql|exact Qh|apply Qb|apply Qk)⟩
     case measure=>have:=hnL.out;simp[intOf];omega
    ·obtain⟨cx,cw⟩:∃cx,wsn[ad]? = some cx:=⟨_,Yd (by simpa using hadl2)⟩
     have hgw:(wsn.map eU)[ad]? = some (eU cx):=by rw[Ym,cw];rfl
     clear cw
     (repeat'(first|(((with_reducible apply Z8);rfl;rfl;((simp only[ev,Ue,Uf]);rfl);rfl;simp only[Uc,Uz]);(repeat(fail)))|((with_reducible apply ZO);((simp only[ev,Ue,Uf]);rfl);((simp only[cond_true,cond_false,ev,Ue,Uf]);rfl);(with_reducible exact Zt);simp only[Uc,Uz])|(go_big_may;(first|(with_reducible refine NQ.mk ?_)|((with_reducible apply Zg);rfl;rfl)|((with_reducible apply Zl);rfl)|(with_reducible refine EQ.mk ?_ ?_)|(with_reducible exact Zf)|(with_reducible refine Zh ?_)|((with_reducible apply Za hs);exact Ii;rfl;(with_reducible repeat first|exact Qh|apply Qk);rfl;rfl;simp only[Uc,Uz])|((with_reducible apply ZH hs);exact Ii;rfl;rfl;(with_reducible exact Qh);rfl;rfl;rfl;rfl;clear hs;intro w hs)|((with_reducible apply Zr hs);exact Ii;rfl;clear hs;intro w b hs;simp only[Uc,Uz])|((with_reducible apply ZN hs);exact Ii;rfl;rfl;assumption;(with_reducible repeat first|exact Qh|apply Qk);rfl;(assumption);exact Vb rfl;rfl;rfl;clear hs;intro w hs)|((with_reducible apply Qj (k:=0) hs);exact Ii;rfl;assumption;(with_reducible repeat first|exact Qh|apply Qk);(exact(Nat.add_zero _).symm);(assumption);exact Vb rfl;rfl;rfl;simp only[Uc,Uz])|((with_reducible apply ZA hs);exact Ii;exact Ii;rfl;rfl;(with_reducible repeat first|exact Qh|apply Qk);rfl;(assumption);rfl;intro b off hat;simp only[Uc,Uz])|((with_reducible apply Zp hs);exact Ii;rfl;(with_reducible repeat first|exact Qh|apply Qk);rfl;simp only[Uc,Uz])|(go_at_call 103;((refine((hP.out _ hmem.out)).at hs (by (with_reducible repeat first|exact Qh|apply Qk)) ?_);clear hs;intro w hs;(try simp only[Em,Ma]at hs)))|((with_reducible refine Wp (id:=6) (Paz (Pbz (Pcz (Pdz [.neu 20,.eff 21 [],.neu 22,.neu 23])))) hs rfl ?_ ?_);kernel_rfl;clear hs;intro w hs)))|go_guarded|go_step|(dsimp only)))
     go_roundw
     case rel=>exact⟨n+1,wsn.set ad e6,(by have:=hnL.out;omega),by simp,hr2,by rw[Yk];((with_reducible apply Sat.fin hs);(focus((repeat(first|with_reducible exact Ql|with_reducible exact Qh|with_reducible apply Qb|exact Qh|with_reducible apply Qk));done)))⟩
     case measure=>have:=hnL.out;simp[intOf];omega
    ·have hgw:(wsn.map eU)[ad]? = some (eU e7):=by rw[Ym,cw];rfl
     have hxx:(e7 != e7)=false:=by simp
     have hyy:(e7==e7)=true:=by simp
     clear cw
     (repeat'(first|(((with_reducible apply Z8);rfl;rfl;((simp only[ev,Ue,Uf]);rfl);rfl;simp only[Uc,Uz]);(repeat(fail)))|((with_reducible apply ZO);((simp only[ev,Ue,Uf]);rfl);((simp only[cond_true,cond_false,ev,Ue,Uf]);rfl);(with_reducible exact Zt);simp only[Uc,Uz])|(go_big_may;(first|(with_reducible refine NQ.mk ?_)|((with_reducible apply Zg);rfl;rfl)|((with_reducible apply Zl);rfl)|(with_reducible refine EQ.mk ?_ ?_)|(with_reducible exact Zf)|(with_reducible refine Zh ?_)|((with_reducible apply Za hs);exact Ii;rfl;(with_reducible repeat first|exact Qh|apply Qk);rfl;rfl;simp only[Uc,Uz])|((with_reducible apply ZH hs);exact Ii;rfl;rfl;(with_reducible exact Qh);rfl;rfl;rfl;rfl;clear hs;intro w hs)|((with_reducible apply Zr hs);exact Ii;rfl;clear hs;intro w b hs;simp only[Uc,Uz])|((with_reducible apply Zk hs);exact Ii;rfl;assumption;(with_reducible repeat first|exact Qh|apply Qk);rfl;(assumption);rfl;rfl;simp only[Uc,Uz])|((with_reducible apply ZN hs);exact Ii;rfl;rfl;assumption;(with_reducible repeat first|exact Qh|apply Qk);rfl;(assumption);exact Vb rfl;rfl;rfl;clear hs;intro w hs)|((with_reducible apply Qj (k:=0) hs);exact Ii;rfl;assumption;(with_reducible repeat first|exact Qh|apply Qk);(exact(Nat.add_zero _).symm);(assumption);exact Vb rfl;rfl;rfl;simp only[Uc,Uz])|((with_reducible apply ZJ hs);exact Ii;exact Ii;rfl;assumption;rfl;(with_reducible repeat first|exact Qh|apply Qk);rfl;(assumption);rfl;simp only[Uc,Uz])|((with_reducible apply ZA hs);exact Ii;exact Ii;rfl;rfl;(with_reducible repeat first|exact Qh|apply Qk);rfl;(assumption);rfl;intro b off hat;simp only[Uc,Uz])|((with_reducible apply Zp hs);exact Ii;rfl;(with_reducible repeat first|exact Qh|apply Qk);rfl;simp only[Uc,Uz])|(go_at_call 103;((refine((hP.out _ hmem.out)).at hs (by (with_reducible repeat first|exact Qh|apply Qk)) ?_);clear hs;intro w hs;(try simp only[Em,Ma]at hs)))|((with_reducible refine Wp (id:=6) (Paz (Pbz (Pcz (Pdz [.neu 20,.eff 21 [],.neu 22,.neu 23])))) hs rfl ?_ ?_);kernel_rfl;clear hs;intro w hs)|((with_reducible refine Wp (id:=20) (Paz [.neu 5,.neu 6,.neu 7]) hs rfl ?_ ?_);kernel_rfl;clear hs;intro w hs)))|go_guarded|go_step|(dsimp only)))
     go_roundw
     case rel=>exact⟨n+1,wsn.set ad e6,(by have:=hnL.out;omega),by simp,hr2,by rw[Yk];((with_reducible apply Sat.fin hs);(focus((repeat(first|with_reducible exact Ql|with_reducible exact Qh|with_reducible apply Qb|exact Qh|with_reducible apply Qk));done)))⟩
     case measure=>have:=hnL.out;simp[intOf];omega
    ·have hgw:(ws'.map eU)[ad]? = some (eU e7):=by rw[Ym,cw];rfl
     have hxx:(e7 != e7)=false:=by simp
     have hyy:(e7==e5)=false:=by simpa using c3
     clear cw
     (repeat'(first|(((with_reducible apply Z8);rfl;rfl;((simp only[ev,Ue,Uf]);rfl);rfl;simp only[Uc,Uz]);(repeat(fail)))|((with_reducible apply ZO);((simp only[ev,Ue,Uf]);rfl);((simp only[cond_true,cond_false,ev,Ue,Uf]);rfl);(with_reducible exact Zt);simp only[Uc,Uz])|(go_big_may;(first|(with_reducible refine NQ.mk ?_)|((with_reducible apply Zg);rfl;rfl)|((with_reducible apply Zl);rfl)|(with_reducible refine EQ.mk ?_ ?_)|(with_reducible exact Zf)|(with_reducible refine Zh ?_)|((with_reducible apply Za hs);exact Ii;rfl;(with_reducible repeat first|exact Qh|apply Qk);rfl;rfl;simp only[Uc,Uz])|((with_reducible apply ZH hs);exact Ii;rfl;rfl;(with_reducible exact Qh);rfl;rfl;rfl;rfl;clear hs;intro w hs)|((with_reducible apply Zr hs);exact Ii;rfl;clear hs;intro w b hs;simp only[Uc,Uz])|((with_reducible apply Zk hs);exact Ii;rfl;assumption;(with_reducible repeat first|exact Qh|apply Qk);rfl;(assumption);rfl;rfl;simp only[Uc,Uz])|((with_reducible apply Qj (k:=0) hs);exact Ii;rfl;assumption;(with_reducible repeat first|exact Qh|apply Qk);(exact(Nat.add_zero _).symm);(assumption);exact Vb rfl;rfl;rfl;simp only[Uc,Uz])|((with_reducible apply ZA hs);exact Ii;exact Ii;rfl;rfl;(with_reducible repeat first|exact Qh|apply Qk);rfl;(assumption);rfl;intro b off hat;simp only[Uc,Uz])|((with_reducible apply Zp hs);exact Ii;rfl;(with_reducible repeat first|exact Qh|apply Qk);rfl;simp only[Uc,Uz])|(go_at_call 103;((refine((hP.out _ hmem.out)).at hs (by (with_reducible repeat first|exact Qh|apply Qk)) ?_);clear hs;intro w hs;(try simp only[Em,Ma]at hs)))|((with_reducible refine Wp (id:=6) (Paz (Pbz (Pcz (Pdz [.neu 20,.eff 21 [],.neu 22,.neu 23])))) hs rfl ?_ ?_);kernel_rfl;clear hs;intro w hs)|((with_reducible refine Wp (id:=20) (Paz [.neu 5,.neu 6,.neu 7]) hs rfl ?_ ?_);kernel_rfl;clear hs;intro w hs)))|go_guarded|go_step|(dsimp only)))
     go_roundw
     case rel=>exact⟨n+1,ws',(by have:=hnL.out;omega),by simp,hr2,by (with_reducible apply Sat.fin hs;repeat first|exact Ql|exact Qh|apply Qb|apply Qk)⟩
     case measure=>have:=hnL.out;simp[intOf];omega
   ·replace j4:decide (e1≤z1)=false:=j4
    rcases hcase.out with⟨rfl,rfl,rfl,cw,rfl⟩|⟨rfl,rfl,rfl,rfl⟩|⟨rfl,cw,rfl,rfl⟩|⟨rfl,cw,c3,rfl⟩
    ·have hgw:(ws'.map eU)[ad]? = some (eU e7):=by rw[Ym,cw];rfl
     have hxx:(e7 != e7)=false:=by simp
     clear cw
     (repeat'(first|((with_reducible apply ZO);((simp only[ev,Ue,Uf]);rfl);((simp only[cond_true,cond_false,ev,Ue,Uf]);rfl);(with_reducible exact Zt);simp only[Uc,Uz])|(go_big_may;(first|(with_reducible refine NQ.mk ?_)|((with_reducible apply Zg);rfl;rfl)|((with_reducible apply Zl);rfl)|(with_reducible refine EQ.mk ?_ ?_)|(with_reducible exact Zf)|(with_reducible refine Zh ?_)|((with_reducible apply Za hs);exact Ii;rfl;(with_reducible repeat first|exact Qh|apply Qk);rfl;rfl;simp only[Uc,Uz])|((with_reducible apply ZH hs);exact Ii;rfl;rfl;(with_reducible exact Qh);rfl;rfl;rfl;rfl;clear hs;intro w hs)|((with_reducible apply Zr hs);exact Ii;rfl;clear hs;intro w b hs;simp only[Uc,Uz])|((with_reducible apply Zk hs);exact Ii;rfl;assumption;(with_reducible repeat first|exact Qh|apply Qk);rfl;(assumption);rfl;rfl;simp only[Uc,Uz])|((with_reducible apply Qj (k:=0) hs);exact Ii;rfl;assumption;(with_reducible repeat first|exact Qh|apply Qk);(exact(Nat.add_zero _).symm);(assumption);exact Vb rfl;rfl;rfl;simp only[Uc,Uz])|((with_reducible apply ZJ hs);exact Ii;exact Ii;rfl;assumption;rfl;(with_reducible repeat first|exact Qh|apply Qk);(exact(Int.toNat_of_nonneg (by omega)).symm);(assumption);rfl;simp only[Uc,Uz])|((with_reducible apply ZA hs);exact Ii;exact Ii;rfl;rfl;(with_reducible repeat first|exact Qh|apply Qk);rfl;(assumption);rfl;intro b off hat;simp only[Uc,Uz])|((with_reducible apply Zp hs);exact Ii;rfl;(with_reducible repeat first|exact Qh|apply Qk);rfl;simp only[Uc,Uz])|(go_at_call 103;((refine((hP.out _ hmem.out)).at hs (by (with_reducible repeat first|exact Qh|apply Qk)) ?_);clear hs;intro w hs;(try simp only[Em,Ma]at hs)))|((with_reducible refine Wp (id:=6) (Paz (Pbz (Pcz (Pdz [.neu 20,.eff 21 [],.neu 22,.neu 23])))) hs rfl ?_ ?_);kernel_rfl;clear hs;intro w hs)|((with_reducible refine Wp (id:=13) (Paz (Pbz (Pcz [.neu 15,.neu 16,.neu 17]))) hs rfl ?_ ?_);kernel_rfl;clear hs;intro w hs)))|go_guarded|go_step|(dsimp only)))
     go_roundw
     case rel=>exact⟨n+1,ws',(by have:=hnL.out;omega),by simp,hr2,by (with_reducible apply Sat.fin hs;repeat first|exact Ql|exact Qh|apply Qb|apply Qk)⟩
     case measure=>have:=hnL.out;simp[intOf];omega
    ·obtain⟨cx,cw⟩:∃cx,wsn[ad]? = some cx:=⟨_,Yd (by simpa using hadl2)⟩
     have hgw:(wsn.map eU)[ad]? = some (eU cx):=by rw[Ym,cw];rfl
     clear cw
     (repeat'(first|((with_reducible apply ZO);((simp only[ev,Ue,Uf]);rfl);((simp only[cond_true,cond_false,ev,Ue,Uf]);rfl);(with_reducible exact Zt);simp only[Uc,Uz])|(go_big_may;(first|(with_reducible refine NQ.mk ?_)|((with_reducible apply Zg);rfl;rfl)|((with_reducible apply Zl);rfl)|(with_reducible refine EQ.mk ?_ ?_)|(with_reducible exact Zf)|(with_reducible refine Zh ?_)|((with_reducible apply Za hs);exact Ii;rfl;(with_reducible repeat first|exact Qh|apply Qk);rfl;rfl;simp only[Uc,Uz])|((with_reducible apply ZH hs);exact Ii;rfl;rfl;(with_reducible exact Qh);rfl;rfl;rfl;rfl;clear hs;intro w hs)|((with_reducible apply Zr hs);exact Ii;rfl;clear hs;intro w b hs;simp only[Uc,Uz])|((with_reducible apply Zk hs);exact Ii;rfl;assumption;(with_reducible repeat first|exact Qh|apply Qk);rfl;(assumption);rfl;rfl;simp only[Uc,Uz])|((with_reducible apply ZN hs);exact Ii;rfl;rfl;assumption;(with_reducible repeat first|exact Qh|apply Qk);rfl;(assumption);exact Vb rfl;rfl;rfl;clear hs;intro w hs)|((with_reducible apply Qj (k:=0) hs);exact Ii;rfl;assumption;(with_reducible repeat first|exact Qh|apply Qk);(exact(Nat.add_zero _).symm);(assumption);exact Vb rfl;rfl;rfl;simp only[Uc,Uz])|((with_reducible apply ZJ hs);exact Ii;exact Ii;rfl;assumption;rfl;(with_reducible repeat first|exact Qh|apply Qk);(exact(Int.toNat_of_nonneg (by omega)).symm);(assumption);rfl;simp only[Uc,Uz])|((with_reducible apply ZA hs);exact Ii;exact Ii;rfl;rfl;(with_reducible repeat first|exact Qh|apply Qk);rfl;(assumption);rfl;intro b off hat;simp only[Uc,Uz])|((with_reducible apply Zp hs);exact Ii;rfl;(with_reducible repeat first|exact Qh|apply Qk);rfl;simp only[Uc,Uz])|(go_at_call 103;((refine((hP.out _ hmem.out)).at hs (by (with_reducible repeat first|exact Qh|apply Qk)) ?_);clear hs;intro w hs;(try simp only[Em,Ma]at hs)))|((with_reducible refine Wp (id:=6) (Paz (Pbz (Pcz (Pdz [.neu 20,.eff 21 [],.neu 22,.neu 23])))) hs rfl ?_ ?_);kernel_rfl;clear hs;intro w hs)))|go_guarded|go_step|(dsimp only)))
     go_roundw
     case rel=>exact⟨n+1,wsn.set ad e6,(by have:=hnL.out;omega),by simp,hr2,by rw[Yk];((with_reducible apply Sat.fin hs);(focus((repeat(first|with_reducible exact Ql|with_reducible exact Qh|with_reducible apply Qb|exact Qh|with_reducible apply Qk));done)))⟩
     case measure=>have:=hnL.out;simp[intOf];omega
    ·have hgw:(wsn.map eU)[ad]? = some (eU e7):=by rw[Ym,cw];rfl
     have hxx:(e7 != e7)=false:=by simp
     have hyy:(e7==e7)=true:=by simp
     clear cw
     (repeat'(first|((with_reducible apply ZO);((simp only[ev,Ue,Uf]);rfl);((simp only[cond_true,cond_false,ev,Ue,Uf]);rfl);(with_reducible exact Zt);simp only[Uc,Uz])|(go_big_may;(first|(with_reducible refine NQ.mk ?_)|((with_reducible apply Zg);rfl;rfl)|((with_reducible apply Zl);rfl)|(with_reducible refine EQ.mk ?_ ?_)|(with_reducible exact Zf)|(with_reducible refine Zh ?_)|((with_reducible apply Za hs);exact Ii;rfl;(with_reducible repeat first|exact Qh|apply Qk);rfl;rfl;simp only[Uc,Uz])|((with_reducible apply ZH hs);exact Ii;rfl;rfl;(with_reducible exact Qh);rfl;rfl;rfl;rfl;clear hs;intro w hs)|((with_reducible apply Zr hs);exact Ii;rfl;clear hs;intro w b hs;simp only[Uc,Uz])|((with_reducible apply Zk hs);exact Ii;rfl;assumption;(with_reducible repeat first|exact Qh|apply Qk);rfl;(assumption);rfl;rfl;simp only[Uc,Uz])|((with_reducible apply ZN hs);exact Ii;rfl;rfl;assumption;(with_reducible repeat first|exact Qh|apply Qk);rfl;(assumption);exact Vb rfl;rfl;rfl;clear hs;intro w hs)|((with_reducible apply Qj (k:=0) hs);exact Ii;rfl;assumption;(with_reducible repeat first|exact Qh|apply Qk);(exact(Nat.add_zero _).symm);(assumption);exact Vb rfl;rfl;rfl;simp only[Uc,Uz])|((with_reducible apply ZJ hs);exact Ii;exact Ii;rfl;assumption;rfl;(with_reducible repeat first|exact Qh|apply Qk);(first|rfl|exact(Int.toNat_of_nonneg (by omega)).symm);(assumption);rfl;simp only[Uc,Uz])|((with_reducible apply ZA hs);exact Ii;exact Ii;rfl;rfl;(with_reducible repeat first|exact Qh|apply Qk);rfl;(assumption);rfl;intro b off hat;simp only[Uc,Uz])|((with_reducible apply Zp hs);exact Ii;rfl;(with_reducible repeat first|exact Qh|apply Qk);rfl;simp only[Uc,Uz])|(go_at_call 103;((refine((hP.out _ hmem.out)).at hs (by (with_reducible repeat first|exact Qh|apply Qk)) ?_);clear hs;intro w hs;(try simp only[Em,Ma]at hs)))|((with_reducible refine Wp (id:=6) (Paz (Pbz (Pcz (Pdz [.neu 20,.eff 21 [],.neu 22,.neu 23])))) hs rfl ?_ ?_);kernel_rfl;clear hs;intro w hs)|((with_reducible refine Wp (id:=20) (Paz [.neu 5,.neu 6,.neu 7]) hs rfl ?_ ?_);kernel_rfl;clear hs;intro w hs)))|go_guarded|go_step|(dsimp only)))
     go_roundw
     case rel=>exact⟨n+1,wsn.set ad e6,(by have:=hnL.out;omega),by simp,hr2,by rw[Yk];((with_reducible apply Sat.fin hs);(focus((repeat(first|with_reducible exact Ql|with_reducible exact Qh|with_reducible apply Qb|exact Qh|with_reducible apply Qk));done)))⟩
     case measure=>have:=hnL.out;simp[intOf];omega
    ·have hgw:(ws'.map eU)[ad]? = some (eU e7):=by rw[Ym,cw];rfl
     have hxx:(e7 != e7)=false:=by simp
     have hyy:(e7==e5)=false:=by simpa using c3
     clear cw
     (repeat'(first|((with_reducible apply ZO);((simp only[ev,Ue,Uf]);rfl);((simp only[cond_true,cond_false,ev,Ue,Uf]);rfl);(with_reducible exact Zt);simp only[Uc,Uz])|(go_big_may;(first|(with_reducible refine NQ.mk ?_)|((with_reducible apply Zg);rfl;rfl)|((with_reducible apply Zl);rfl)|(with_reducible refine EQ.mk ?_ ?_)|(with_reducible exact Zf)|(with_reducible refine Zh ?_)|((with_reducible apply Za hs);exact Ii;rfl;(with_reducible repeat first|exact Qh|apply Qk);rfl;rfl;simp only[Uc,Uz])|((with_reducible apply ZH hs);exact Ii;rfl;rfl;(with_reducible exact Qh);rfl;rfl;rfl;rfl;clear hs;intro w hs)|((with_reducible apply Zr hs);exact Ii;rfl;clear hs;intro w b hs;simp only[Uc,Uz])|((with_reducible apply Zk hs);exact Ii;rfl;assumption;(with_reducible repeat first|exact Qh|apply Qk);rfl;(assumption);rfl;rfl;simp only[Uc,Uz])|((with_reducible apply Qj (k:=0) hs);exact Ii;rfl;assumption;(with_reducible repeat first|exact Qh|apply Qk);(exact(Nat.add_zero _).symm);(assumption);exact Vb rfl;rfl;rfl;simp only[Uc,Uz])|((with_reducible apply ZJ hs);exact Ii;exact Ii;rfl;assumption;rfl;(with_reducible repeat first|exact Qh|apply Qk);(exact(Int.toNat_of_nonneg (by omega)).symm);(assumption);rfl;simp only[Uc,Uz])|((with_reducible apply ZA hs);exact Ii;exact Ii;rfl;rfl;(with_reducible repeat first|exact Qh|apply Qk);rfl;(assumption);rfl;intro b off hat;simp only[Uc,Uz])|((with_reducible apply Zp hs);exact Ii;rfl;(with_reducible repeat first|exact Qh|apply Qk);rfl;simp only[Uc,Uz])|(go_at_call 103;((refine((hP.out _ hmem.out)).at hs (by (with_reducible repeat first|exact Qh|apply Qk)) ?_);clear hs;intro w hs;(try simp only[Em,Ma]at hs)))|((with_reducible refine Wp (id:=6) (Paz (Pbz (Pcz (Pdz [.neu 20,.eff 21 [],.neu 22,.neu 23])))) hs rfl ?_ ?_);kernel_rfl;clear hs;intro w hs)|((with_reducible refine Wp (id:=20) (Paz [.neu 5,.neu 6,.neu 7]) hs rfl ?_ ?_);kernel_rfl;clear hs;intro w hs)))|go_guarded|go_step|(dsimp only)))
     go_roundw
     case rel=>exact⟨n+1,ws',(by have:=hnL.out;omega),by simp,hr2,by (with_reducible apply Sat.fin hs;repeat first|exact Ql|exact Qh|apply Qb|apply Qk)⟩
     case measure=>have:=hnL.out;simp[intOf];omega
end
section
attribute [local irreducible] Go.Calls
abbrev stR (l:List Int)(v:Value):Zb:=sl 88 1 (l.map eI) v
abbrev hoR (l:List Int)(v:Value):Zb:=sl 3 1 (l.map eI) v
abbrev Shf.v (x:Shf):Value:=.agg (Shf.e x).toArray
def bgS (n:Nat):List Int:=if n=0 then [] else (List.replicate n 0).set 0 3
theorem bgS_snoc (n:Nat):bgS (n+1)=bgS n++[if n=0 then 3 else 0]:=by
 unfold bgS
 by_cases h:n=0
 ·subst h;rfl
 ·rw[if_neg (by omega),if_neg h,if_neg h,List.replicate_succ',List.set_append_left _ _ (by simp;omega)]
theorem bgS_len (n:Nat):(bgS n).length=n:=by
 unfold bgS
 split
 ·rename_i h;subst h;rfl
 ·simp
theorem cen_begin (c:Cfg)(hok:c.Ok):Does Tryz.prog 46 #[c.v,.int .i64 1] emp (fun u=>ex fun v1=>ex fun v2=>pu (u=.tuple #[v1,v2])*(stR (bgS c.Sl.toNat) v1*hoR (List.replicate c.Sl.toNat (-1)) v2)):=by
 intro O w F hs
 have hS1:=hok.S1
 have hS2:=hok.S2
 obtain⟨S0,hS0⟩:∃S0:Nat,c.Sl=(S0:Int):=⟨c.Sl.toNat,by omega⟩
 have hSn:c.Sl.toNat=S0:=by omega
 rw[hSn]
 obtain⟨c1,c2,c3,c4,c5,c6,c7⟩:=c
 simp only[]at hS0 hS1 hS2
 subst hS0
 have hSl:S0≤1024:=by omega
 clear hok hSn hS1 hS2
 have hs:=JD (E:=88) (sz:=1) hs (by omega)
 have hs:=JD (E:=3) (sz:=1) hs (by omega)
 go_enter Tryz.func46,Tryz.ntmps46
 (repeat'(first|(go_big_may;((with_reducible apply Zq hs);rfl;rfl;rfl;clear hs;intro w b hs;simp only[Uc,Uz]))|go_step))
 obtain⟨bC,hbC⟩:∃x,x=b:=⟨_,rfl⟩
 subst hbC
 go_loopw [6,7,8] (fun v1 v2 q wr=>∃n:Nat,n≤S0∧q=.int .i64 (n:Int)∧Sat O wr (stR (bgS n) v1*(hoR (List.replicate n (-1)) v2*(pt bC (.cells #[.int .i64 c1,.int .i64 c2,.int .i64 c3,.int .i64 c4,.int .i64 c5,.int .i64 (S0:Int),.int .i64 c7] 23)*F)))) (fun _ _ q _=>S0+1-(intOf q).toNat)
 case atStart=>exact⟨0,by omega,rfl,by simp only[bgS,if_true,List.replicate_zero,Yj];((with_reducible apply Sat.fin hs);(focus((repeat(first|with_reducible exact Ql|with_reducible exact Qh|with_reducible apply Qb|exact Qh|with_reducible apply Qk));done)))⟩
 case round=>
  obtain⟨n,kn,rfl,hs⟩:=hrel
  have hnl:(bgS n).length<4294967296:=by rw[bgS_len];omega
  have hnl2:(List.replicate n (-1:Int)).length<4294967296:=by simp;omega
  by_cases hkr:n=S0
  ·have hkr:=hkr.symm
   subst hkr
   have hlt:decide ((S0:Int)<(S0:Int))=false:=by simp
   (repeat'(first|(go_big_may;((with_reducible apply Za hs);exact Ii;rfl;(with_reducible repeat first|exact Qh|apply Qk);rfl;rfl;simp only[Uc,Uz]))|go_step))
   (go_ret2)
   refine⟨_,rfl,?_⟩
   simp only[ZB,Ma,Zw]
   exact⟨_,_,rfl,by ((with_reducible apply Sat.fin hs);(focus((repeat(first|with_reducible exact Ql|with_reducible apply Qb|exact Qh|with_reducible apply Qk));done)))⟩
  ·have hlt:decide ((n:Int)<(S0:Int))=true:=by simp;omega
   have hlt2:decide (n<S0)=true:=by simp;omega
   have hnL:=Lh (show n<S0 by omega)
   have e2:Hid (List.replicate (n+1) (-1:Int)=List.replicate n (-1)++[-1]):=Lh List.replicate_succ'
   by_cases hn0:n=0
   ·have hn1:decide ((n:Int)<1)=true:=by simp;omega
    have e1:Hid (bgS (n+1)=bgS n++[3]):=Lh (by rw[bgS_snoc,if_pos hn0])
    clear hkr hn0
    generalize bgS n=l1 at *
    generalize List.replicate n (-1:Int)=l2 at *
    (repeat'(first|(go_big_may;(first|((with_reducible apply Za hs);exact Ii;rfl;(with_reducible repeat first|exact Qh|apply Qk);rfl;rfl;simp only[Uc,Uz])|((with_reducible apply wl_bs hs);exact Ii;exact Ii;rfl;rfl;rfl;rfl;exact Vb rfl;rfl;clear hs;intro w v hs;simp only[Uc,Uz])|((with_reducible apply Jh hs);exact Ii;exact Ii;rfl;rfl;(focus with_reducible (repeat first|exact Qh|apply Qk);done);(with_reducible exact Qh);(simp only[Wm,Ws,Wa,Wc,Wn,Wr]at *;omega);exact Vb rfl;rfl;clear hs;intro w v hs;simp only[Uc,Uz])))|go_step))
    go_roundw
    case rel=>exact⟨n+1,(by have:=hnL.out;omega),by simp,by rw[e1.out,e2.out];simp only[stR,hoR];((try simp only[Yh,Yi,Yj,Yk,Yl]);(try simp only[Yh,Yi,Yj,Yk,Yl]at hs);(with_reducible apply Sat.fin hs;repeat first|exact Ql|exact Qh|apply Qb|apply Qk))⟩
    case measure=>have:=hnL.out;simp[intOf];omega
   ·have hn1:decide ((n:Int)<1)=false:=by simp;omega
    have e1:Hid (bgS (n+1)=bgS n++[0]):=Lh (by rw[bgS_snoc,if_neg hn0])
    clear hkr hn0
    generalize bgS n=l1 at *
    generalize List.replicate n (-1:Int)=l2 at *
    (repeat'(first|(go_big_may;(first|((with_reducible apply Za hs);exact Ii;rfl;(with_reducible repeat first|exact Qh|apply Qk);rfl;rfl;simp only[Uc,Uz])|((with_reducible apply wl_bs hs);exact Ii;exact Ii;rfl;rfl;rfl;rfl;exact Vb rfl;rfl;clear hs;intro w v hs;simp only[Uc,Uz])|((with_reducible apply Jh hs);exact Ii;exact Ii;rfl;rfl;(focus with_reducible (repeat first|exact Qh|apply Qk);done);(with_reducible exact Qh);(simp only[Wm,Ws,Wa,Wc,Wn,Wr]at *;omega);exact Vb rfl;rfl;clear hs;intro w v hs;simp only[Uc,Uz])))|go_step))
    go_roundw
    case rel=>exact⟨n+1,(by have:=hnL.out;omega),by simp,by rw[e1.out,e2.out];simp only[stR,hoR];((try simp only[Yh,Yi,Yj,Yk,Yl]);(try simp only[Yh,Yi,Yj,Yk,Yl]at hs);(with_reducible apply Sat.fin hs;repeat first|exact Ql|exact Qh|apply Qb|apply Qk))⟩
    case measure=>have:=hnL.out;simp[intOf];omega
def putS (l:List Int)(x:Shf):List Int:=l.set x.slot.toNat x.to
def putH (l:List Int)(x:Shf):List Int:=l.set x.slot.toNat (if x.to=0∨x.to=3 then -1 else x.thread)
theorem cen_put (l1 l2:List Int)(x:Shf)(v1 v2:Value)(i:Nat)(hi:x.slot=(i:Int))(h1:i<l1.length)(h2:i<l2.length)(hl1:l1.length<4294967296)(hl2:l2.length<4294967296) :
  Zj Tryz.prog 45 #[v1,v2,x.v] (stR l1 v1*hoR l2 v2) (.tuple #[]) (stR (putS l1 x) v1*hoR (putH l2 x) v2):=by
 intro O w F hs
 simp only[Ma]at hs
 obtain⟨a1,k1,rfl⟩:=ZY (hs.pull (A:=stR l1 v1) (by (with_reducible exact Qh)))
 obtain⟨a2,k2,rfl⟩:=ZY (hs.pull (A:=hoR l2 v2) (by (with_reducible repeat first|exact Qh|apply Qk)))
 simp only[List.length_map]at hs ⊢
 obtain⟨x1,x2,x3,x4,x5⟩:=x
 simp only[]at hi
 subst hi
 obtain⟨y1,hy1⟩:∃y,l1[i]? = some y:=⟨_,Yd h1⟩
 obtain⟨y2,hy2⟩:∃y,l2[i]? = some y:=⟨_,Yd h2⟩
 have g1:(l1.map eI)[i]? = some (eI y1):=by rw[Ym,hy1];rfl
 have g2:(l2.map eI)[i]? = some (eI y2):=by rw[Ym,hy2];rfl
 have g3:((l2.map eI).set i (eI x2))[i]? = some (eI x2):=by rw[Ye (by simpa using h2)]
 have b1:i<(l1.map eI).length:=by simpa using h1
 have b2:i<(l2.map eI).length:=by simpa using h2
 have b3:i<((l2.map eI).set i (eI x2)).length:=by simpa using h2
 have d1:decide (i<l1.length)=true:=by simpa using h1
 have d2:decide (i<l2.length)=true:=by simpa using h2
 have hin:((i:Nat):Int).toNat=i:=Yo i
 clear hy1 hy2
 by_cases e0:x5=0
 ·subst e0
  have eH:putH l2 ⟨x1,x2,(i:Int),x4,0⟩=(l2.set i x2).set i (-1):=by simp[putH,Yl]
  have eS:putS l1 ⟨x1,x2,(i:Int),x4,0⟩=l1.set i 0:=by simp[putS]
  rw[eH,eS]
  clear eH eS
  go_enter Tryz.func45,Tryz.ntmps45
  (repeat'(first|(((with_reducible apply Z8);rfl;rfl;((simp only[ev,Ue,Uf]);rfl);rfl;simp only[Uc,Uz]);(repeat((with_reducible apply Z8);rfl;rfl;((simp only[ev,Ue,Uf]);rfl);rfl;simp only[Uc,Uz])))|((with_reducible apply ZO);((simp only[ev,Ue,Uf]);rfl);((simp only[cond_true,cond_false,ev,Ue,Uf]);rfl);(with_reducible exact Zt);simp only[Uc,Uz])|(go_big_may;(first|((with_reducible apply Za hs);exact Ii;rfl;(with_reducible repeat first|exact Qh|apply Qk);rfl;rfl;simp only[Uc,Uz])|((with_reducible apply Zq hs);rfl;rfl;rfl;clear hs;intro w b hs;simp only[Uc,Uz])|((with_reducible apply ZN hs);exact Ii;rfl;rfl;assumption;(with_reducible repeat first|exact Qh|apply Qk);rfl;(assumption);exact Vb rfl;rfl;rfl;clear hs;intro w hs)|((with_reducible apply ZJ hs);exact Ii;exact Ii;rfl;assumption;rfl;(with_reducible exact Qh);rfl;(assumption);rfl;simp only[Uc,Uz])|((with_reducible apply ZA hs);exact Ii;exact Ii;rfl;rfl;(with_reducible repeat first|exact Qh|apply Qk);rfl;(assumption);rfl;intro b off hat;simp only[Uc,Uz])))|go_step))
  (go_end0)
  exact⟨rfl,by simp only[stR,hoR,Ma];((try simp only[Yh,Yi,Yj,Yk,Yl]);(try simp only[Yh,Yi,Yj,Yk,Yl]at hs);((with_reducible apply Sat.fin hs);(focus((repeat(first|with_reducible exact Ql|with_reducible apply Qb|exact Qh|with_reducible apply Qk));done))))⟩
 ·by_cases e3:x5=3
  ·subst e3
   have eH:putH l2 ⟨x1,x2,(i:Int),x4,3⟩=(l2.set i x2).set i (-1):=by simp[putH,Yl]
   have eS:putS l1 ⟨x1,x2,(i:Int),x4,3⟩=l1.set i 3:=by simp[putS]
   rw[eH,eS]
   clear eH eS e0
   go_enter Tryz.func45,Tryz.ntmps45
   (repeat'(first|((with_reducible apply ZO);((simp only[ev,Ue,Uf]);rfl);((simp only[cond_true,cond_false,ev,Ue,Uf]);rfl);(with_reducible exact Zt);simp only[Uc,Uz])|(go_big_may;(first|((with_reducible apply Za hs);exact Ii;rfl;(with_reducible repeat first|exact Qh|apply Qk);rfl;rfl;simp only[Uc,Uz])|((with_reducible apply Zq hs);rfl;rfl;rfl;clear hs;intro w b hs;simp only[Uc,Uz])|((with_reducible apply ZN hs);exact Ii;rfl;rfl;assumption;(with_reducible repeat first|exact Qh|apply Qk);rfl;(assumption);exact Vb rfl;rfl;rfl;clear hs;intro w hs)|((with_reducible apply ZJ hs);exact Ii;exact Ii;rfl;assumption;rfl;(with_reducible exact Qh);rfl;(assumption);rfl;simp only[Uc,Uz])|((with_reducible apply ZA hs);exact Ii;exact Ii;rfl;rfl;(with_reducible repeat first|exact Qh|apply Qk);rfl;(assumption);rfl;intro b off hat;simp only[Uc,Uz])))|go_guarded|go_step))
   (go_end0)
   exact⟨rfl,by simp only[stR,hoR,Ma];((try simp only[Yh,Yi,Yj,Yk,Yl]);(try simp only[Yh,Yi,Yj,Yk,Yl]at hs);((with_reducible apply Sat.fin hs);(focus((repeat(first|with_reducible exact Ql|with_reducible apply Qb|exact Qh|with_reducible apply Qk));done))))⟩
  ·have f0:(x5==0)=false:=by simpa using e0
   have f3:(x5==3)=false:=by simpa using e3
   have eH:putH l2 ⟨x1,x2,(i:Int),x4,x5⟩=l2.set i x2:=by simp[putH,e0,e3]
   have eS:putS l1 ⟨x1,x2,(i:Int),x4,x5⟩=l1.set i x5:=by simp[putS]
   rw[eH,eS]
   clear eH eS e0 e3
   go_enter Tryz.func45,Tryz.ntmps45
   (repeat'(first|((with_reducible apply ZO);((simp only[ev,Ue,Uf]);rfl);((simp only[cond_true,cond_false,ev,Ue,Uf]);rfl);(with_reducible exact Zt);simp only[Uc,Uz])|(go_big_may;(first|((with_reducible apply Za hs);exact Ii;rfl;(with_reducible repeat first|exact Qh|apply Qk);rfl;rfl;simp only[Uc,Uz])|((with_reducible apply Zq hs);rfl;rfl;rfl;clear hs;intro w b hs;simp only[Uc,Uz])|((with_reducible apply ZN hs);exact Ii;rfl;rfl;assumption;(with_reducible repeat first|exact Qh|apply Qk);rfl;(assumption);exact Vb rfl;rfl;rfl;clear hs;intro w hs)|((with_reducible apply ZA hs);exact Ii;exact Ii;rfl;rfl;(with_reducible repeat first|exact Qh|apply Qk);rfl;(assumption);rfl;intro b off hat;simp only[Uc,Uz])))|go_guarded|go_step))
   (go_end0)
   exact⟨rfl,by simp only[stR,hoR,Ma];((try simp only[Yh,Yi,Yj,Yk,Yl]);(try simp only[Yh,Yi,Yj,Yk,Yl]at hs);((with_reducible apply Sat.fin hs);(focus((repeat(first|with_reducible exact Ql|with_reducible apply Qb|exact Qh|with_reducible apply Qk));done))))⟩
end
end Go.Proofs.YtefjbdajgakgpaaGreat
