import Derived.Test.YtefjbdajgakgpaaGreatBQueMay
set_option linter.all false
namespace Go.Proofs.YtefjbdajgakgpaaGreat
open Go.RowKit Hp
set_option maxRecDepth 100000
set_option maxHeartbeats 8000000
attribute [local irreducible] Go.Calls Go.wpList
section
theorem map_put_st (sl:List Slt)(x:Shf):putS (sl.map Slt.state) x=(put sl x).map Slt.state:=by simp[putS,put,Yk]
theorem map_put_ho (sl:List Slt)(x:Shf):putH (sl.map Slt.holder) x=(put sl x).map Slt.holder:=by simp[putH,put,Yk]
theorem puts_snoc (sl:List Slt)(l:List Shf)(x:Shf):puts sl (l++[x])=put (puts sl l) x:=by rw[puts_append];rfl
theorem take_filter_yes {α:Type}{p:α→Bool}{l:List α}{k:Nat}{e:α}(he:l[k]? = some e)(h:p e=true):(l.take (k+1)).filter p=(l.take k).filter p++[e]:=by
 rw[List.take_add_one,he,List.filter_append];simp[h]
theorem take_filter_no {α:Type}{p:α→Bool}{l:List α}{k:Nat}{e:α}(he:l[k]? = some e)(h:p e=false):(l.take (k+1)).filter p=(l.take k).filter p:=by
 rw[List.take_add_one,he,List.filter_append];simp[h]
theorem s0_st {c:Cfg}(hok:c.Ok):(s0 c).map Slt.state=bgS c.Sl.toNat:=by
 have:=hok.S1
 unfold bgS
 rw[if_neg (by omega)]
 simp[s0,are1,Yk]
theorem s0_ho {c:Cfg}(hok:c.Ok):(s0 c).map Slt.holder=List.replicate c.Sl.toNat (-1):=by
 have:=hok.S1
 simp only[s0,are1,Yk,List.map_replicate]
 exact List.set_getElem?_self' (by rw[List.getElem?_replicate,if_pos (by omega)])
theorem cen_states (c:Cfg)(hok:c.Ok)(cs:List Cll)(lg:List Acc)(sh:List Shf)(ws:List Int)(u:Value)(hl:RunLen cs lg sh ws)(n:Int)(hr:∀d∈sh,∃i:Nat,d.slot=(i:Int)∧(i:Int)<c.Sl) :
  Does Tryz.prog 40 #[c.v,.int .i64 1,u,.int .i64 n] (RunR cs lg sh ws u) (fun v=>(ex fun v1=>ex fun v2=>pu (v=.tuple #[v1,v2])*(stR ((puts (s0 c) (sh.filter (fun x=>decide (x.move<n)))).map Slt.state) v1*hoR ((puts (s0 c) (sh.filter (fun x=>decide (x.move<n)))).map Slt.holder) v2))*RunR cs lg sh ws u):=by
 intro O w F hs
 have hg:=runR_get hs
 clear hs
 obtain⟨a1,k1,a2,k2,a3,k3,a4,k4,rfl,hs⟩:=hg
 obtain⟨g1,g2,g3,g4⟩:=hl
 have hB:=Lh (cen_begin c hok)
 have hS1:=hok.S1
 have hS2:=hok.S2
 have hLen:=s0_len hok
 rw[←s0_st hok,←s0_ho hok]at hB
 obtain⟨Z0,hZ0⟩:∃Z,Z=s0 c:=⟨_,rfl⟩
 rw[←hZ0]at hB hLen ⊢
 clear hZ0 hok
 obtain⟨S0,hS0⟩:∃S0:Nat,c.Sl=(S0:Int):=⟨c.Sl.toNat,by omega⟩
 obtain⟨c1,c2,c3,c4,c5,c6,c7⟩:=c
 simp only[]at hS0 hS1 hS2 hr hLen
 subst hS0
 have hSl:S0≤1024:=by omega
 have hLen:Z0.length=S0:=by omega
 clear hS1 hS2
 have hr:=Lh hr
 go_enter Tryz.func40,Tryz.ntmps40
 (repeat'(first|(go_big_may;(first|((show wpList _ _ _ (Oper.mk (some 4) _ _ _ _ _::_) _ _);(with_reducible apply Zq hs);rfl;rfl;rfl;clear hs;intro w bC hs;simp only[Uc,Uz])|((show wpList _ _ _ (Oper.mk (some 6) _ _ _ _ _::_) _ _);(with_reducible apply Zq hs);rfl;rfl;rfl;clear hs;intro w bR hs;simp only[Uc,Uz])|((with_reducible apply ZU hs);exact Ii;rfl;(with_reducible repeat first|exact Qh|apply Qk);rfl;rfl;simp only[Uc,Uz])|(go_at_call 46;((refine(hB.out).at hs (by (focus((repeat(with_reducible exact Qn));done))) ?_);clear hs;intro v w hs;(try simp only[Em,Ma]at hs));(simp only[ZB,Ma,Zw]at hs);(obtain⟨v1,v2,rfl,hs⟩:=hs))))|go_step|(dsimp only)))
 go_loopw [12] (fun q wr=>∃(k:Nat) (sn:List Slt),k≤sh.length∧q=.int .i64 (k:Int)∧Hid (sn=puts Z0 ((sh.take k).filter (fun x=>decide (x.move<n))))∧Sat O wr (stR (sn.map Slt.state) v1*(hoR (sn.map Slt.holder) v2*(pt bR (.cells #[.slice a1 cs.length k1,.slice a2 lg.length k2,.slice a3 sh.length k3,.slice a4 ws.length k4] 30)*(pt bC (.cells #[.int .i64 c1,.int .i64 c2,.int .i64 c3,.int .i64 c4,.int .i64 c5,.int .i64 (S0:Int),.int .i64 c7] 23)*(sl 59 9 (cs.map Cll.e) (.slice a1 cs.length k1)*(sl 87 7 (lg.map Acc.e) (.slice a2 lg.length k2)*(sl 102 5 (sh.map Shf.e) (.slice a3 sh.length k3)*(sl 79 1 (ws.map eU) (.slice a4 ws.length k4)*F))))))))) (fun q _=>sh.length+1-(intOf q).toNat)
 case atStart=>exact⟨0,Z0,by omega,rfl,Lh rfl,by ((with_reducible apply Sat.fin hs);(with_reducible exact Ql))⟩
 case round=>
  obtain⟨k,sn,kk,rfl,hsn,hs⟩:=hrel
  have hsnl:sn.length=S0:=by rw[hsn.out,puts_len];exact hLen
  by_cases hkr:k=sh.length
  ·subst hkr
   have hlt:decide ((sh.length:Int)<(sh.length:Int))=false:=by simp
   clear hsnl
   (repeat'(first|(go_big_may;(first|((with_reducible apply Za hs);exact Ii;rfl;(with_reducible repeat first|exact Qh|apply Qk);rfl;rfl;simp only[Uc,Uz])|((with_reducible apply Zp hs);exact Ii;rfl;(with_reducible repeat first|exact Qh|apply Qk);rfl;simp only[Uc,Uz])))|go_step))
   (go_ret2)
   refine⟨_,rfl,?_⟩
   simp only[ZB,Ma,Zw]
   have hsn:=hsn.out
   rw[List.take_length]at hsn
   rw[←hsn]
   refine⟨v1,v2,rfl,?_⟩
   have hs:Sat O _ (RunR cs lg sh ws (.agg #[.slice a1 cs.length k1,.slice a2 lg.length k2,.slice a3 sh.length k3,.slice a4 ws.length k4])*(stR (sn.map Slt.state) v1*(hoR (sn.map Slt.holder) v2*F))):=runR_mk (by (with_reducible apply Sat.fin hs;repeat first|exact Ql|exact Qh|apply Qb|apply Qk))
   (with_reducible apply Sat.fin hs;repeat first|exact Ql|exact Qh|apply Qb|apply Qk)
  ·have hlt:decide ((k:Int)<(sh.length:Int))=true:=by simp;omega
   have hlt2:decide (k<sh.length)=true:=by simp;omega
   have hln:k<(sh.map Shf.e).length:=by simp;omega
   obtain⟨e,he⟩:∃e,sh[k]? = some e:=⟨_,Yd (by omega)⟩
   obtain⟨i,hi,hiS⟩:=hr.out e (Yc he)
   have hnL:=Lh (show k<sh.length by omega)
   have hPut:=Lh (cen_put (sn.map Slt.state) (sn.map Slt.holder) e v1 v2 i hi (by simp;omega) (by simp;omega) (by simp;omega) (by simp;omega))
   rw[map_put_st,map_put_ho]at hPut
   have hyes:=Lh (fun h:decide (e.move<n)=true=>show put sn e=puts Z0 ((sh.take (k+1)).filter (fun x=>decide (x.move<n))) by rw[take_filter_yes he h,puts_snoc,←hsn.out])
   have hno:=Lh (fun h:decide (e.move<n)=false=>show sn=puts Z0 ((sh.take (k+1)).filter (fun x=>decide (x.move<n))) by rw[take_filter_no he h];exact hsn.out)
   generalize put sn e=sn' at hPut hyes
   obtain⟨e1,e2,e3,e4,e5⟩:=e
   have hgv:(sh.map Shf.e)[k]? = some (Shf.e ⟨e1,e2,e3,e4,e5⟩):=by rw[Ym,he];rfl
   simp only[]at hyes hno
   clear he hkr hlt hsn hsnl hi hiS
   by_cases hd:e1<n
   ·have hd':decide (e1<n)=true:=by simpa using hd
    have hyes:=Lh (hyes.out hd')
    clear hno hd
    (repeat'(first|(go_big_may;(first|((with_reducible apply Za hs);exact Ii;rfl;(with_reducible repeat first|exact Qh|apply Qk);rfl;rfl;simp only[Uc,Uz])|((with_reducible apply Zk hs);exact Ii;rfl;assumption;(with_reducible repeat first|exact Qh|apply Qk);rfl;(assumption);rfl;rfl;simp only[Uc,Uz])|((with_reducible apply Qj (k:=0) hs);exact Ii;rfl;assumption;(with_reducible repeat first|exact Qh|apply Qk);(exact(Nat.add_zero _).symm);(assumption);exact Vb rfl;rfl;rfl;simp only[Uc,Uz])|((with_reducible apply ZJ hs);exact Ii;exact Ii;rfl;assumption;rfl;(with_reducible repeat first|exact Qh|apply Qk);rfl;(assumption);rfl;simp only[Uc,Uz])|((with_reducible apply ZA hs);exact Ii;exact Ii;rfl;rfl;(with_reducible repeat first|exact Qh|apply Qk);rfl;(assumption);rfl;intro b off hat;simp only[Uc,Uz])|((with_reducible apply Zp hs);exact Ii;rfl;(with_reducible repeat first|exact Qh|apply Qk);rfl;simp only[Uc,Uz])|(go_at_call 45;((refine(hPut.out).at hs (by (focus with_reducible (repeat first|exact Qh|apply Qb);done)) ?_);clear hs;intro w hs;(try simp only[Em,Ma]at hs)))))|go_step|(dsimp only)))
    go_roundw
    case rel=>exact⟨k+1,sn',(by have:=hnL.out;omega),by simp,hyes,by ((with_reducible apply Sat.fin hs);(with_reducible exact Ql))⟩
    case measure=>have:=hnL.out;simp[intOf];omega
   ·have hd':decide (e1<n)=false:=by simpa using hd
    have hno:=Lh (hno.out hd')
    clear hyes hd
    (repeat'(first|(go_big_may;(first|((with_reducible apply Za hs);exact Ii;rfl;(with_reducible repeat first|exact Qh|apply Qk);rfl;rfl;simp only[Uc,Uz])|((with_reducible apply Zk hs);exact Ii;rfl;assumption;(with_reducible repeat first|exact Qh|apply Qk);rfl;(assumption);rfl;rfl;simp only[Uc,Uz])|((with_reducible apply ZA hs);exact Ii;exact Ii;rfl;rfl;(with_reducible repeat first|exact Qh|apply Qk);rfl;(assumption);rfl;intro b off hat;simp only[Uc,Uz])|((with_reducible apply Zp hs);exact Ii;rfl;(with_reducible repeat first|exact Qh|apply Qk);rfl;simp only[Uc,Uz])))|go_step))
    go_roundw
    case rel=>exact⟨k+1,sn,(by have:=hnL.out;omega),by simp,hno,by ((with_reducible apply Sat.fin hs);(with_reducible exact Ql))⟩
    case measure=>have:=hnL.out;simp[intOf];omega
theorem cen_behind (c:Cfg)(hok:c.Ok)(cs:List Cll)(lg:List Acc)(sh:List Shf)(ws:List Int)(u:Value)(hl:RunLen cs lg sh ws)(n:Int)(hr:∀d∈sh,∃i:Nat,d.slot=(i:Int)∧(i:Int)<c.Sl) :
  Does Tryz.prog 33 #[c.v,.int .i64 1,u,.int .i64 n] (RunR cs lg sh ws u) (fun v=>(ex fun v1=>ex fun v2=>pu (v=.tuple #[v1,v2])*(stR ((puts (s0 c) (sh.filter (fun x=>decide (x.move≤n)))).map Slt.state) v1*hoR ((puts (s0 c) (sh.filter (fun x=>decide (x.move≤n)))).map Slt.holder) v2))*RunR cs lg sh ws u):=by
 intro O w F hs
 have hg:=runR_get hs
 clear hs
 obtain⟨a1,k1,a2,k2,a3,k3,a4,k4,rfl,hs⟩:=hg
 obtain⟨g1,g2,g3,g4⟩:=hl
 have hB:=Lh (cen_begin c hok)
 have hS1:=hok.S1
 have hS2:=hok.S2
 have hLen:=s0_len hok
 rw[←s0_st hok,←s0_ho hok]at hB
 obtain⟨Z0,hZ0⟩:∃Z,Z=s0 c:=⟨_,rfl⟩
 rw[←hZ0]at hB hLen ⊢
 clear hZ0 hok
 obtain⟨S0,hS0⟩:∃S0:Nat,c.Sl=(S0:Int):=⟨c.Sl.toNat,by omega⟩
 obtain⟨c1,c2,c3,c4,c5,c6,c7⟩:=c
 simp only[]at hS0 hS1 hS2 hr hLen
 subst hS0
 have hSl:S0≤1024:=by omega
 have hLen:Z0.length=S0:=by omega
 clear hS1 hS2
 have hr:=Lh hr
 go_enter Tryz.func33,Tryz.ntmps33
 (repeat'(first|(go_big_may;(first|((show wpList _ _ _ (Oper.mk (some 4) _ _ _ _ _::_) _ _);(with_reducible apply Zq hs);rfl;rfl;rfl;clear hs;intro w bC hs;simp only[Uc,Uz])|((show wpList _ _ _ (Oper.mk (some 6) _ _ _ _ _::_) _ _);(with_reducible apply Zq hs);rfl;rfl;rfl;clear hs;intro w bR hs;simp only[Uc,Uz])|((with_reducible apply ZU hs);exact Ii;rfl;(with_reducible repeat first|exact Qh|apply Qk);rfl;rfl;simp only[Uc,Uz])|(go_at_call 46;((refine(hB.out).at hs (by (focus((repeat(with_reducible exact Qn));done))) ?_);clear hs;intro v w hs;(try simp only[Em,Ma]at hs));(simp only[ZB,Ma,Zw]at hs);(obtain⟨v1,v2,rfl,hs⟩:=hs))))|go_step|(dsimp only)))
 go_loopw [12] (fun q wr=>∃(k:Nat) (sn:List Slt),k≤sh.length∧q=.int .i64 (k:Int)∧Hid (sn=puts Z0 ((sh.take k).filter (fun x=>decide (x.move≤n))))∧Sat O wr (stR (sn.map Slt.state) v1*(hoR (sn.map Slt.holder) v2*(pt bR (.cells #[.slice a1 cs.length k1,.slice a2 lg.length k2,.slice a3 sh.length k3,.slice a4 ws.length k4] 30)*(pt bC (.cells #[.int .i64 c1,.int .i64 c2,.int .i64 c3,.int .i64 c4,.int .i64 c5,.int .i64 (S0:Int),.int .i64 c7] 23)*(sl 59 9 (cs.map Cll.e) (.slice a1 cs.length k1)*(sl 87 7 (lg.map Acc.e) (.slice a2 lg.length k2)*(sl 102 5 (sh.map Shf.e) (.slice a3 sh.length k3)*(sl 79 1 (ws.map eU) (.slice a4 ws.length k4)*F))))))))) (fun q _=>sh.length+1-(intOf q).toNat)
 case atStart=>exact⟨0,Z0,by omega,rfl,Lh rfl,by ((with_reducible apply Sat.fin hs);(with_reducible exact Ql))⟩
 case round=>
  obtain⟨k,sn,kk,rfl,hsn,hs⟩:=hrel
  have hsnl:sn.length=S0:=by rw[hsn.out,puts_len];exact hLen
  by_cases hkr:k=sh.length
  ·subst hkr
   have hlt:decide ((sh.length:Int)<(sh.length:Int))=false:=by simp
   clear hsnl
   (repeat'(first|(go_big_may;(first|((with_reducible apply Za hs);exact Ii;rfl;(with_reducible repeat first|exact Qh|apply Qk);rfl;rfl;simp only[Uc,Uz])|((with_reducible apply Zp hs);exact Ii;rfl;(with_reducible repeat first|exact Qh|apply Qk);rfl;simp only[Uc,Uz])))|go_step))
   (go_ret2)
   refine⟨_,rfl,?_⟩
   simp only[ZB,Ma,Zw]
   have hsn:=hsn.out
   rw[List.take_length]at hsn
   rw[←hsn]
   refine⟨v1,v2,rfl,?_⟩
   have hs:Sat O _ (RunR cs lg sh ws (.agg #[.slice a1 cs.length k1,.slice a2 lg.length k2,.slice a3 sh.length k3,.slice a4 ws.length k4])*(stR (sn.map Slt.state) v1*(hoR (sn.map Slt.holder) v2*F))):=runR_mk (by (with_reducible apply Sat.fin hs;repeat first|exact Ql|exact Qh|apply Qb|apply Qk))
   (with_reducible apply Sat.fin hs;repeat first|exact Ql|exact Qh|apply Qb|apply Qk)
  ·have hlt:decide ((k:Int)<(sh.length:Int))=true:=by simp;omega
   have hlt2:decide (k<sh.length)=true:=by simp;omega
   have hln:k<(sh.map Shf.e).length:=by simp;omega
   obtain⟨e,he⟩:∃e,sh[k]? = some e:=⟨_,Yd (by omega)⟩
   obtain⟨i,hi,hiS⟩:=hr.out e (Yc he)
   have hnL:=Lh (show k<sh.length by omega)
   have hPut:=Lh (cen_put (sn.map Slt.state) (sn.map Slt.holder) e v1 v2 i hi (by simp;omega) (by simp;omega) (by simp;omega) (by simp;omega))
   rw[map_put_st,map_put_ho]at hPut
   have hyes:=Lh (fun h:decide (e.move≤n)=true=>show put sn e=puts Z0 ((sh.take (k+1)).filter (fun x=>decide (x.move≤n))) by rw[take_filter_yes he h,puts_snoc,←hsn.out])
   have hno:=Lh (fun h:decide (e.move≤n)=false=>show sn=puts Z0 ((sh.take (k+1)).filter (fun x=>decide (x.move≤n))) by rw[take_filter_no he h];exact hsn.out)
   generalize put sn e=sn' at hPut hyes
   obtain⟨e1,e2,e3,e4,e5⟩:=e
   have hgv:(sh.map Shf.e)[k]? = some (Shf.e ⟨e1,e2,e3,e4,e5⟩):=by rw[Ym,he];rfl
   simp only[]at hyes hno
   clear he hkr hlt hsn hsnl hi hiS
   by_cases hd:e1≤n
   ·have hd':decide (e1≤n)=true:=by simpa using hd
    have hyes:=Lh (hyes.out hd')
    clear hno hd
    (repeat'(first|(go_big_may;(first|((with_reducible apply Za hs);exact Ii;rfl;(with_reducible repeat first|exact Qh|apply Qk);rfl;rfl;simp only[Uc,Uz])|((with_reducible apply Zk hs);exact Ii;rfl;assumption;(with_reducible repeat first|exact Qh|apply Qk);rfl;(assumption);rfl;rfl;simp only[Uc,Uz])|((with_reducible apply Qj (k:=0) hs);exact Ii;rfl;assumption;(with_reducible repeat first|exact Qh|apply Qk);(exact(Nat.add_zero _).symm);(assumption);exact Vb rfl;rfl;rfl;simp only[Uc,Uz])|((with_reducible apply ZJ hs);exact Ii;exact Ii;rfl;assumption;rfl;(with_reducible repeat first|exact Qh|apply Qk);rfl;(assumption);rfl;simp only[Uc,Uz])|((with_reducible apply ZA hs);exact Ii;exact Ii;rfl;rfl;(with_reducible repeat first|exact Qh|apply Qk);rfl;(assumption);rfl;intro b off hat;simp only[Uc,Uz])|((with_reducible apply Zp hs);exact Ii;rfl;(with_reducible repeat first|exact Qh|apply Qk);rfl;simp only[Uc,Uz])|(go_at_call 45;((refine(hPut.out).at hs (by (focus with_reducible (repeat first|exact Qh|apply Qb);done)) ?_);clear hs;intro w hs;(try simp only[Em,Ma]at hs)))))|go_step|(dsimp only)))
    go_roundw
    case rel=>exact⟨k+1,sn',(by have:=hnL.out;omega),by simp,hyes,by ((with_reducible apply Sat.fin hs);(with_reducible exact Ql))⟩
    case measure=>have:=hnL.out;simp[intOf];omega
   ·have hd':decide (e1≤n)=false:=by simpa using hd
    have hno:=Lh (hno.out hd')
    clear hyes hd
    (repeat'(first|(go_big_may;(first|((with_reducible apply Za hs);exact Ii;rfl;(with_reducible repeat first|exact Qh|apply Qk);rfl;rfl;simp only[Uc,Uz])|((with_reducible apply Zk hs);exact Ii;rfl;assumption;(with_reducible repeat first|exact Qh|apply Qk);rfl;(assumption);rfl;rfl;simp only[Uc,Uz])|((with_reducible apply ZA hs);exact Ii;exact Ii;rfl;rfl;(with_reducible repeat first|exact Qh|apply Qk);rfl;(assumption);rfl;intro b off hat;simp only[Uc,Uz])|((with_reducible apply Zp hs);exact Ii;rfl;(with_reducible repeat first|exact Qh|apply Qk);rfl;simp only[Uc,Uz])))|go_step))
    go_roundw
    case rel=>exact⟨k+1,sn,(by have:=hnL.out;omega),by simp,hno,by ((with_reducible apply Sat.fin hs);(with_reducible exact Ql))⟩
    case measure=>have:=hnL.out;simp[intOf];omega
end
section
structure ShW (c:Cfg)(HD T X LK S0 N:Nat)(lg:List Acc)(st:Int→List Int)(W:Nat→List Int):Prop where
 len:∀k,k≤lg.length→(W k).length=N
 nxt:∀(k:Nat) (e:Acc),lg[k]? = some e→W (k+1)=accW (W k) e∧∃a:Nat,e.addr=(a:Int)∧a<N∧(e.kind=1∨e.kind=2∨e.kind=3)
 sh:∀(k:Nat) (e:Acc),lg[k]? = some e→∃stk,ShQ c HD T X LK S0 (W (k+1)) (st e.move) stk
theorem shfs_rng:∀ {l:List Shf} {sl sl':List Slt},shfs sl l=some sl'→∀d∈l,∃i:Nat,d.slot=(i:Int)∧i<sl.length
 | [],_,_,_,d,hd=>by simp at hd
 | z::r,sl,sl',h,d,hd=>by
  simp only[shfs]at h
  cases h1:shf1 sl z with
  | none=>rw[h1]at h;cases h
  | some s1=>
   rw[h1]at h
   rcases List.mem_cons.1 hd with rfl|hd
   ·obtain⟨i,g1,g2,_⟩:=shf1_put h1
    exact⟨i,g1,g2⟩
   ·obtain⟨i,g1,g2⟩:=shfs_rng (l:=r) h d hd
    exact⟨i,g1,by rw[←shf1_len h1];exact g2⟩
theorem rep_pre {W0 ws:List Int}{lg:List Acc}(h:rep W0 lg=some ws)(k:Nat):∃wk,rep W0 (lg.take k)=some wk:=by
 rw[←List.take_append_drop k lg,rep_append]at h
 cases h1:rep W0 (lg.take k) with
 | none=>rw[h1]at h;cases h
 | some w1=>exact⟨w1,rfl⟩
theorem ShJ.walk {c:Cfg}{n:Nat}{y:GW Zz}(P:PM (QM c) (QI c) c n y)(J:ShJ c n y) :
  ShW c (adr c 4 0) (adr c 5 0) (adr c 2 0) (base c 13).toNat c.Sl.toNat (Z7 c 1).length y.m.mem.log (fun m=>(puts (s0 c) (y.m.shifts.filter (fun x=>decide (x.move≤m)))).map Slt.state) (fun k=>(rep (Z7 c 1) (y.m.mem.log.take k)).getD []):=by
 have R:=J.ok.lrep
 refine⟨fun k _ => ?_,fun k e he => ?_,fun k e he => ?_⟩
 ·obtain⟨wk,hk⟩:=rep_pre R k
  show((rep (Z7 c 1) (y.m.mem.log.take k)).getD []).length=_
  rw[hk]
  exact rep_len hk
 ·obtain⟨wk,hk⟩:=rep_pre R k
  obtain⟨w',h1,h2⟩:=rep_at R he hk
  obtain⟨g1,a,g2,g3,g4⟩:=rep1_accW h1
  refine⟨?_,a,g2,by rw[←rep_len hk];exact g3,g4⟩
  show(rep (Z7 c 1) (y.m.mem.log.take (k+1))).getD []=accW ((rep (Z7 c 1) (y.m.mem.log.take k)).getD []) e
  rw[h2,hk]
  exact g1
 ·obtain⟨wk,stk,h1,h2⟩:=J.sh k e he
  refine⟨stk,?_⟩
  show ShQ _ _ _ _ _ _ ((rep (Z7 c 1) (y.m.mem.log.take (k+1))).getD []) _ _
  rw[h1]
  exact h2
theorem cnt3_take {st:List Int}{i:Nat}{z:Int}(h:st[i]? = some z):cnt3 (st.take (i+1))=cnt3 (st.take i)+if z=3 then 1 else 0:=by
 rw[List.take_add_one,h]
 unfold cnt3
 rw[List.countP_append]
 by_cases hz:z=3
 ·simp[hz]
 ·simp[hz]
theorem cnt3_le (st:List Int):cnt3 st≤st.length:=List.countP_le_length
structure ShR (c:Cfg)(cs:List Cll)(lg:List Acc)(sh:List Shf)(ws:List Int)(HD T X LK S0 N:Nat)(st:Int→List Int)(W:Nat→List Int):Prop where
 rl:RunLen cs lg sh ws
 rg:∀d∈sh,∃i:Nat,d.slot=(i:Int)∧(i:Int)<c.Sl
 w:ShW c HD T X LK S0 N lg (fun m=>(puts (s0 c) (sh.filter (fun x=>decide (x.move≤m)))).map Slt.state) W
 w0:W 0=Z7 c 1
 b5:base c 5=(T:Int)
 b2:base c 2=(X:Int)
 b4:base c 4=(HD:Int)
 n:(Z7 c 1).length=N
 b13:base c 13=(LK:Int)
 sl:c.Sl=(S0:Int)
 nl:N<100000000
theorem QRun.shr {c:Cfg}{n:Nat}{y:GW Zz}(q:QRun c n (ShJ c) y)(hok:c.Ok)(hl:n≤65536) :
  ∃HD T X LK S0 N st W,ShR c y.m.calls y.m.mem.log y.m.shifts y.m.mem.words HD T X LK S0 N st W:=by
 have hs0:=s0_len hok
 have h4:=Qm hok 4 (Int.le_refl 0)
 have h5:=Qm hok 5 (Int.le_refl 0)
 have h2:=Qm hok 2 (Int.le_refl 0)
 have h13:=(ZC hok 13).1
 have hS1:=hok.S1
 refine⟨adr c 4 0,adr c 5 0,adr c 2 0,(base c 13).toNat,c.Sl.toNat,(Z7 c 1).length,(fun _=>[]),_,run_lens hl q.pm,fun d hd => ?_,q.j.walk q.pm,rfl,by omega,by omega,by omega,rfl,by omega,by omega,?_⟩
 ·obtain⟨i,g1,g2⟩:=shfs_rng q.ok.srep d hd
  have:(are1 c).slots.length=(s0 c).length:=rfl
  exact⟨i,g1,by omega⟩
 ·rw[firstW_len]
  have:=base14_le hok
  omega
theorem beh_parts (c:Cfg)(hok:c.Ok)(cs:List Cll)(lg:List Acc)(sh:List Shf)(ws:List Int)(hl:RunLen cs lg sh ws)(n:Int)(hr:∀d∈sh,∃i:Nat,d.slot=(i:Int)∧(i:Int)<c.Sl)(a1:Option Addr)(k1:Nat)(a2:Option Addr)(k2:Nat)(a3:Option Addr)(k3:Nat)(a4:Option Addr)(k4:Nat) :
  Does Tryz.prog 33 #[c.v,.int .i64 1,.agg #[.slice a1 cs.length k1,.slice a2 lg.length k2,.slice a3 sh.length k3,.slice a4 ws.length k4],.int .i64 n]
   (sl 59 9 (cs.map Cll.e) (.slice a1 cs.length k1)*(sl 87 7 (lg.map Acc.e) (.slice a2 lg.length k2)*(sl 102 5 (sh.map Shf.e) (.slice a3 sh.length k3)*sl 79 1 (ws.map eU) (.slice a4 ws.length k4))))
   (fun v=>(ex fun v1=>ex fun v2=>pu (v=.tuple #[v1,v2])*(stR ((puts (s0 c) (sh.filter (fun x=>decide (x.move≤n)))).map Slt.state) v1*hoR ((puts (s0 c) (sh.filter (fun x=>decide (x.move≤n)))).map Slt.holder) v2))*(sl 59 9 (cs.map Cll.e) (.slice a1 cs.length k1)*(sl 87 7 (lg.map Acc.e) (.slice a2 lg.length k2)*(sl 102 5 (sh.map Shf.e) (.slice a3 sh.length k3)*sl 79 1 (ws.map eU) (.slice a4 ws.length k4))))):=by
 intro O w F hs
 have hs:=runR_mk2 a1 k1 a2 k2 a3 k3 a4 k4 (cs:=cs) (lg:=lg) (sh:=sh) (ws:=ws) hs (by (with_reducible exact Qh))
 refine(cen_behind c hok cs lg sh ws _ hl n hr O w F hs).mono ?_
 rintro e w' ⟨u,rfl,hs'⟩
 refine⟨u,rfl,?_⟩
 clear hs
 simp only[ZB,Ma,Zw]at hs' ⊢
 obtain⟨v1,v2,rfl,hs⟩:=hs'
 refine⟨v1,v2,rfl,?_⟩
 have hg:=runR_get (hs.pull (A:=RunR cs lg sh ws _) (by (with_reducible repeat first|exact Qh|apply Qk)))
 clear hs
 obtain⟨b1,j1,b2,j2,b3,j3,b4,j4,hv,hs⟩:=hg
 injection hv with hv
 injection hv with hv
 simp only[List.cons.injEq,and_true]at hv
 obtain⟨h1,h2,h3,h4⟩:=hv
 rw[←h1,←h2,←h3,←h4]at hs
 (with_reducible apply Sat.fin hs;repeat first|exact Ql|exact Qh|apply Qb|apply Qk)
theorem que_shape (c0:Cfg)(mvs0:List Mv)(v0:Value)(A:Zb)(hRd:Rd A 4 (mvs0.map Mv.e) v0):Zj Tryz.prog 9 #[c0.v,v0] A (.bool true) A:=by
 intro O w F hs
 have hP:=Lh (law_play c0 mvs0 v0 ShJ (fun c hok=>sh_start c hok) (fun c _=>sh_ok c) A hRd)
 have hok:=fitC_ok c0
 obtain⟨a0,k0,rfl⟩:=hRd.len
 clear hRd
 simp only[List.length_map]at hs hP ⊢
 generalize fitC c0=C at hP hok
 generalize (mvs0.take 65536)=MV at hP
 have hR:=Lh (fun(y:GW Zz) (h1:MV.length≤65536) (q:QRun C MV.length (ShJ C) y)=>q.shr hok h1)
 have hFi:=Lh (ref_first1 C hok)
 have HB5:=Lh (ref_base C hok 5 (by omega) (by omega))
 have HB2:=Lh (ref_base C hok 2 (by omega) (by omega))
 obtain⟨e1,e2,e3,e4,e5,e6,e7⟩:=c0
 obtain⟨d1,d2,d3,d4,d5,d6,d7⟩:=C
 go_enter Tryz.func9,Tryz.ntmps9
 (repeat'(first|(go_big_may;(first|((show wpList _ _ _ (Oper.mk (some 2) _ _ _ _ _::_) _ _);(with_reducible apply Zq hs);rfl;rfl;rfl;clear hs;intro w bC hs;simp only[Uc,Uz])|((show wpList _ _ _ (Oper.mk (some 33) _ _ _ _ _::_) _ _);(with_reducible apply Zq hs);rfl;rfl;rfl;clear hs;intro w bM hs;simp only[Uc,Uz])|((show wpList _ _ _ (Oper.mk (some 6) _ _ _ _ _::_) _ _);(with_reducible apply Zr hs);exact Ii;rfl;clear hs;intro w bR hs;simp only[Uc,Uz])|(first|(with_reducible first|apply NQ.mk|apply EQ.mk|exact Zf|apply Zh)|((with_reducible apply Zg);rfl;rfl)|((with_reducible apply Zl);rfl)|((with_reducible refine Zo ?_ ?_);focus((with_reducible apply ZF);rfl;rfl))|(show ZX _ _ _;rfl)|((with_reducible apply ZU hs);exact Ii;rfl;(with_reducible repeat first|exact Qh|apply Qk);rfl;rfl;simp only[Uc,Uz])|((with_reducible apply ZH hs);exact Ii;rfl;rfl;(with_reducible repeat first|exact Qh|apply Qk);rfl;rfl;rfl;rfl;clear hs;intro w hs))|(go_at_call 28;((refine(hFi.out).at hs (by (focus((repeat(with_reducible exact Qn));done))) ?_);clear hs;intro v w hs;(try simp only[Em,Ma]at hs));(obtain⟨a9,k9,rfl⟩:=ZY (hs.pull (A:=sl 79 1 _ v) (by (with_reducible exact Qh))));(simp only[List.length_map]at hs ⊢))|(go_at_call 11;(refine(hP.out).at hs (by with_reducible repeat first|exact Qh|apply Qk) ?_;clear hs;intro v w hs;(try simp only[Em,Ma]at hs));(simp only[ZB,Ma,Zw]at hs);(obtain⟨y,vm,p1,p2,p3,p4,⟨_,hM,hq,rfl,_⟩,hs⟩:=hs);(have hRy:=hR.out y hM hq);(clear hq hM);(generalize y.m.calls=cs at hs hRy);(generalize y.m.mem.log=lg at hs hRy);(generalize y.m.shifts=sh at hs hRy);(generalize y.m.mem.words=ws at hs hRy);(have hRy:=Lh hRy);(have hg:=runR_get hs);(clear hs);(obtain⟨a1,k1,a2,k2,a3,k3,a4,k4,hv,hs⟩:=hg);(injection hv with hv);(injection hv with hv);(simp only[List.cons.injEq,and_true]at hv);(obtain⟨rfl,rfl,rfl,rfl⟩:=hv))|((with_reducible refine Wp (id:=4) [.neu 0,.neu 1,.eff 2 [0],.neu 3,.eff 4 [],.neu 5] hs rfl ?_ ?_);kernel_rfl;clear hs;intro w hs)))|go_step|(dsimp only)))
 obtain⟨HD,T,X,LK,S0,N,st0,W,hRy⟩:=hRy.out
 obtain⟨r1,r2,r3,r4,r5,r6,r7,r8,r9,r10,r11⟩:=hRy
 have hNl:=r11
 rw[r8]at hs ⊢
 rw[←r4]at hs
 rw[r5]at HB5
 rw[r6]at HB2
 have hw:=Lh r3
 have hok:=Lh hok
 have hrl:=Lh r1
 have hrg:=Lh r2
 have hS0:=Lh (show S0≤1024 by have:=hok.out.S2;have h9:=r9;omega)
 have r10:=Lh r10
 have r7:=Lh r7
 have r9:=Lh r9
 have hll:lg.length<100000000:=by have:=r1.l2;omega
 clear r1 r2 r3 r4 r5 r6 r8 hR hP hFi
 go_loopg [] (lg.length) (fun m wr=>∃k:Nat,k≤lg.length∧m=lg.length-k∧Sat O wr (pt bM (.cells #[.int .i64 d1,.int .i64 d2,.int .i64 d3,.int .i64 d4,.int .i64 d5,.int .i64 d6,.int .i64 d7,.slice a9 N k9,.int .i64 (k:Int)] 76)*(sl 79 1 ((W k).map eU) (.slice a9 N k9)*(pt bR (.cells #[.slice a1 cs.length k1,.slice a2 lg.length k2,.slice a3 sh.length k3,.slice a4 ws.length k4] 30)*(pt bC (.cells #[.int .i64 d1,.int .i64 d2,.int .i64 d3,.int .i64 d4,.int .i64 d5,.int .i64 d6,.int .i64 d7] 23)*(sl 59 9 (cs.map Cll.e) (.slice a1 cs.length k1)*(sl 87 7 (lg.map Acc.e) (.slice a2 lg.length k2)*(sl 102 5 (sh.map Shf.e) (.slice a3 sh.length k3)*(sl 79 1 (ws.map eU) (.slice a4 ws.length k4)*(A*F))))))))))
 case atStart=>exact⟨0,by omega,by omega,by ((with_reducible apply Sat.fin hs);(focus((repeat(first|with_reducible exact Ql|with_reducible apply Qb|exact Qh));done)))⟩
 case round=>
  obtain⟨k,kl,rfl,hs⟩:=hrel
  have hWl:=Lh (hw.out.len k kl)
  by_cases hkr:k=lg.length
  ·have hNx:=Lh (mem_next_no bM ⟨d1,d2,d3,d4,d5,d6,d7⟩ lg k (.slice a1 cs.length k1) (.slice a3 sh.length k3) (.slice a4 ws.length k4) a2 k2 (W k) a9 k9 hkr hll)
   rw[hWl.out]at hNx
   simp only[memC]at hNx
   clear hkr kl
   (repeat'(first|(go_big_may;(first|((with_reducible apply ZU hs);exact Ii;rfl;(with_reducible repeat first|exact Qh|apply Qk);rfl;rfl;simp only[Uc,Uz])|(go_at_call 29;((refine(hNx.out).at hs (by (with_reducible exact Qh)) ?_);clear hs;intro w hs;(try simp only[Em,Ma]at hs)))))|go_step|(dsimp only)))
   go_ret
   exact⟨rfl,by (with_reducible apply Sat.fin hs;repeat first|exact Ql|exact Qh|apply Qb|apply Qk)⟩
  ·obtain⟨e,he⟩:∃e,lg[k]? = some e:=⟨_,Yd (by omega)⟩
   obtain⟨hWn,ha⟩:=hw.out.nxt k e he
   obtain⟨stk,hQ⟩:=hw.out.sh k e he
   have hWl1:=Lh (hw.out.len (k+1) (by omega))
   have hkl:=Lh (show k+1≤lg.length by omega)
   have hNx:=Lh (mem_next_yes bM ⟨d1,d2,d3,d4,d5,d6,d7⟩ lg k (.slice a1 cs.length k1) (.slice a3 sh.length k3) (.slice a4 ws.length k4) a2 k2 (W k) a9 k9 e he hll (by rw[hWl.out];exact hNl) (by rw[hWl.out];exact ha))
   rw[←hWn,hWl.out]at hNx
   obtain⟨q1,q2,q3,q4,q5,q6,q7⟩:=hQ
   have hCh:=Lh (mem_chain bM ⟨d1,d2,d3,d4,d5,d6,d7⟩ hok.out ((k+1:Nat):Int) (W (k+1)) stk (by rw[hWl1.out];omega) HD LK S0 r7.out r9.out r10.out q2 q3 (fun k s h=>⟨(q4 k s h).1,(q4 k s h).2.2⟩) a9 k9)
   rw[hWl1.out]at hCh
   simp only[memC]at hNx hCh
   have hBe:=Lh (fun a1 k1 a2 k2 a3 k3 a4 k4=>beh_parts ⟨d1,d2,d3,d4,d5,d6,d7⟩ hok.out cs lg sh ws hrl.out e.move hrg.out a1 k1 a2 k2 a3 k3 a4 k4)
   generalize (puts (s0 ⟨d1,d2,d3,d4,d5,d6,d7⟩) (sh.filter (fun x=>decide (x.move≤e.move))))=SL at hBe q4 q6 q7
   obtain⟨st,hst⟩:∃st,st=SL.map Slt.state:=⟨_,rfl⟩
   rw[←hst]at hBe q4 q6 q7
   clear hst
   have hlkq:=Lh q4
   have hstl:=Lh (show st.length≤1024 by have:=hS0.out;omega)
   have hstk:=Lh q2
   obtain⟨kt,tl,t1,t2,t3⟩:=q5
   obtain⟨x,x1,hcnt⟩:=q6
   have hcnt:=Lh hcnt
   obtain⟨la,hla⟩:∃la,stk[stk.length-1]? = some la:=⟨_,Yd (by omega)⟩
   have hlS:=(q4 _ _ hla).1
   have htS:=(q4 _ _ t1).1
   have hPL1:=Lh (ref_packLink (la:Int) (by omega) (by have:=hS0.out;omega))
   have hPL2:=Lh (ref_packLink (tl:Int) (by omega) (by have:=hS0.out;omega))
   have hT0:T<(W (k+1)).length:=(List.getElem?_eq_some_iff.1 t3).1
   have hX0:X<(W (k+1)).length:=(List.getElem?_eq_some_iff.1 x1).1
   have hTn:T<((W (k+1)).map eU).length:=by simpa using hT0
   have hXn:X<((W (k+1)).map eU).length:=by simpa using hX0
   have hgT:((W (k+1)).map eU)[T]? = some [.int .u64 ((tl:Int)+1)]:=by rw[Ym,t3];rfl
   have hgX:((W (k+1)).map eU)[X]? = some [.int .u64 x]:=by rw[Ym,x1];rfl
   have n1:((stk.length:Int)==0)=false:=by simp;intro h;rw[h]at q1;simp at q1
   have n1':(stk.length==0)=false:=by simp;intro h;rw[h]at q1;simp at q1
   have hln1:stk.length-1<(stk.map eN).length:=by simp;omega
   have hgl:(stk.map eN)[stk.length-1]? = some [.int .i64 (la:Int)]:=by rw[Ym,hla];rfl
   have HE1:Hid ((stk.length:Int)-1=((stk.length-1:Nat):Int)):=Lh (by omega)
   have HE2:Hid (((k+1:Nat):Int)-1=(k:Int)):=Lh (by omega)
   obtain⟨m1,m2,m3,m4,m5,m6,m7⟩:=e
   have hkln:k<(lg.map Acc.e).length:=by simp;omega
   have hge:(lg.map Acc.e)[k]? = some (Acc.e ⟨m1,m2,m3,m4,m5,m6,m7⟩):=by rw[Ym,he];rfl
   have hslen:stk.length<4294967296:=by have:=hS0.out;omega
   have hk65:k<4294967295:=by omega
   have htail:tl=la∨tl≠la∧kt=stk.length-2∧2≤stk.length:=by
    have hkt:=(List.getElem?_eq_some_iff.1 t1).1
    by_cases hk1:kt=stk.length-1
    ·left
     rw[hk1,hla]at t1
     injection t1 with t1
     exact t1.symm
    ·by_cases h9:tl=la
     ·exact .inl h9
     ·exact .inr ⟨h9,by omega,by omega⟩
   clear he hkr kl ha hWn q1 q2 q3 q4 q7 t2 t3 x1 hla hlS htS hT0 hX0 hWl hWl1 r7 r9 r10 hw
   rcases htail with hE|⟨hne,hkt,h2⟩
   case' inl=>
    subst hE
    have n2:(((tl:Int)+1) != ((tl:Int)+1))=false:=by simp
    clear t1
    (repeat'(first|(((with_reducible apply Z8);rfl;rfl;((simp only[ev,Ue,Uf]);rfl);rfl;simp only[Uc,Uz]);(repeat(first|((with_reducible apply Z8);rfl;rfl;((simp only[ev,Ue,Uf]);rfl);rfl;simp only[Uc,Uz])|((with_reducible apply wl_pass3);rfl;rfl;simp only[Ue,Uf];simp only[Uc,Uz]))))|((with_reducible apply ZO);((simp only[ev,Ue,Uf]);rfl);((simp only[cond_true,cond_false,ev,Ue,Uf]);rfl);(with_reducible exact Zt);simp only[Uc,Uz])|(go_big_may;(first|(rw[HE1.out])|(first|(with_reducible first|apply NQ.mk|apply EQ.mk|exact Zf|apply Zh)|((with_reducible apply Zg);rfl;rfl)|((with_reducible apply Zl);rfl)|((with_reducible refine Zo ?_ ?_);focus((with_reducible apply ZF);rfl;rfl))|(show ZX _ _ _;rfl)|((with_reducible apply Za hs);exact Ii;rfl;(with_reducible repeat first|exact Qh|apply Qk);rfl;rfl;simp only[Uc,Uz])|((with_reducible apply ZU hs);exact Ii;rfl;(with_reducible repeat first|exact Qh|apply Qk);rfl;rfl;simp only[Uc,Uz])|((with_reducible apply Zk hs);exact Ii;rfl;assumption;(with_reducible repeat first|exact Qh|apply Qk);rfl;(assumption);rfl;rfl;simp only[Uc,Uz])|((with_reducible apply ZA hs);exact Ii;exact Ii;rfl;rfl;(with_reducible repeat first|exact Qh|apply Qk);rfl;(assumption);rfl;intro b off hat;simp only[Uc,Uz])|((with_reducible apply Zp hs);exact Ii;rfl;(with_reducible exact Qh);rfl;simp only[Uc,Uz]))|(go_at_call 29;(refine(hNx.out).at hs (by with_reducible repeat first|exact Qh|apply Qb|apply Qk) ?_;clear hs;intro w hs;(try simp only[Em,Ma]at hs)))|(go_at_call 30;((refine(hCh.out).at hs (by (focus with_reducible (repeat first|exact Qh|apply Qb);done)) ?_);clear hs;intro v w hs;(try simp only[Em,Ma]at hs));(obtain⟨ac,nc,rfl⟩:=ZY (hs.pull (A:=sl 3 1 (stk.map eN) _) (by (with_reducible exact Qh))));(simp only[List.length_map]at hs ⊢))|(go_at_call 31;((refine(HB5.out).at hs (by (focus((repeat(with_reducible exact Qn));done))) ?_);clear hs;intro w hs;(try simp only[Em,Ma]at hs)))|(go_at_call 32;((refine(hPL1.out).at hs (by (focus((repeat(with_reducible exact Qn));done))) ?_);clear hs;intro w hs;(try simp only[Em,Ma]at hs)))|(go_at_call 33;((refine((hBe.out a1 k1 a2 k2 a3 k3 a4 k4)).at hs (by (with_reducible repeat first|exact Qh|apply Qb|apply Qk)) ?_);clear hs;intro v w hs;(try simp only[Em,Ma]at hs));(simp only[ZB,Ma,Zw]at hs);(obtain⟨vs1,vs2,rfl,hs⟩:=hs);(obtain⟨as_,ns,rfl⟩:=ZY (hs.pull (A:=stR st vs1) (by (with_reducible exact Qh))));(simp only[List.length_map]at hs ⊢))|((with_reducible refine Wp (id:=7) (Paz [.eff 5 [0,1,2,3],.neu 6,.neu 7,.neu 8]) hs rfl ?_ ?_);kernel_rfl;clear hs;intro w hs)|((with_reducible refine Wp (id:=13) (Paz (Pbz [.neu 10,.neu 11,.eff 12 [],.neu 13,.neu 14,.neu 15,.neu 16,.neu 17])) hs rfl ?_ ?_);kernel_rfl;clear hs;intro w hs)))|go_step|(dsimp only)))
   case' inr=>
    have n2:(((tl:Int)+1) != ((la:Int)+1))=true:=by simp;omega
    have n3:(((tl:Int)+1) != ((tl:Int)+1))=false:=by simp
    have n4:decide ((stk.length:Int)<2)=false:=by simp;omega
    have n4':decide (stk.length<2)=false:=by simp;omega
    have HE3:Hid ((stk.length:Int)-2=((stk.length-2:Nat):Int)):=Lh (by omega)
    have hln2:stk.length-2<(stk.map eN).length:=by simp;omega
    have hgl2:(stk.map eN)[stk.length-2]? = some [.int .i64 (tl:Int)]:=by rw[Ym,←hkt,t1];rfl
    clear t1 hkt h2 hne
    (repeat'(first|((with_reducible apply ZO);((simp only[ev,Ue,Uf]);rfl);((simp only[cond_true,cond_false,ev,Ue,Uf]);rfl);(first|(with_reducible exact Zt)|((with_reducible apply QV);rfl;rfl;simp only[Ue,Uf]));simp only[Uc,Uz])|(go_big_may;(first|(rw[HE1.out])|(rw[HE3.out])|(first|(with_reducible first|apply NQ.mk|apply EQ.mk|exact Zf|apply Zh)|((with_reducible apply Zg);rfl;rfl)|((with_reducible apply Zl);rfl)|((with_reducible refine Zo ?_ ?_);focus((with_reducible apply ZF);rfl;rfl))|(show ZX _ _ _;rfl)|((with_reducible apply Za hs);exact Ii;rfl;(with_reducible repeat first|exact Qh|apply Qk);rfl;rfl;simp only[Uc,Uz])|((with_reducible apply ZU hs);exact Ii;rfl;(with_reducible repeat first|exact Qh|apply Qk);rfl;rfl;simp only[Uc,Uz])|((with_reducible apply Zk hs);exact Ii;rfl;assumption;(with_reducible repeat first|exact Qh|apply Qk);rfl;(assumption);rfl;rfl;simp only[Uc,Uz])|((with_reducible apply ZJ hs);exact Ii;exact Ii;rfl;assumption;rfl;(with_reducible exact Qh);rfl;(assumption);rfl;simp only[Uc,Uz])|((with_reducible apply ZA hs);exact Ii;exact Ii;rfl;rfl;(with_reducible repeat first|exact Qh|apply Qk);rfl;(assumption);rfl;intro b off hat;simp only[Uc,Uz])|((with_reducible apply Zp hs);exact Ii;rfl;(with_reducible exact Qh);rfl;simp only[Uc,Uz]))|(go_at_call 29;(refine(hNx.out).at hs (by with_reducible repeat first|exact Qh|apply Qb|apply Qk) ?_;clear hs;intro w hs;(try simp only[Em,Ma]at hs)))|(go_at_call 30;((refine(hCh.out).at hs (by (focus with_reducible (repeat first|exact Qh|apply Qb);done)) ?_);clear hs;intro v w hs;(try simp only[Em,Ma]at hs));(obtain⟨ac,nc,rfl⟩:=ZY (hs.pull (A:=sl 3 1 (stk.map eN) _) (by (with_reducible exact Qh))));(simp only[List.length_map]at hs ⊢))|(go_at_call 31;((refine(HB5.out).at hs (by (focus((repeat(with_reducible exact Qn));done))) ?_);clear hs;intro w hs;(try simp only[Em,Ma]at hs)))|(go_at_call 32;first|((refine(hPL1.out).at hs (by (focus((repeat(with_reducible exact Qn));done))) ?_);clear hs;intro w hs;(try simp only[Em,Ma]at hs))|((refine(hPL2.out).at hs (by (focus((repeat(with_reducible exact Qn));done))) ?_);clear hs;intro w hs;(try simp only[Em,Ma]at hs)))|(go_at_call 33;((refine((hBe.out a1 k1 a2 k2 a3 k3 a4 k4)).at hs (by (with_reducible repeat first|exact Qh|apply Qb|apply Qk)) ?_);clear hs;intro v w hs;(try simp only[Em,Ma]at hs));(simp only[ZB,Ma,Zw]at hs);(obtain⟨vs1,vs2,rfl,hs⟩:=hs);(obtain⟨as_,ns,rfl⟩:=ZY (hs.pull (A:=stR st vs1) (by (with_reducible exact Qh))));(simp only[List.length_map]at hs ⊢))|((with_reducible refine Wp (id:=7) (Paz [.eff 5 [0,1,2,3],.neu 6,.neu 7,.neu 8]) hs rfl ?_ ?_);kernel_rfl;clear hs;intro w hs)|((with_reducible refine Wp (id:=13) (Paz (Pbz [.neu 10,.neu 11,.eff 12 [],.neu 13,.neu 14,.neu 15,.neu 16,.neu 17])) hs rfl ?_ ?_);kernel_rfl;clear hs;intro w hs)))|go_guarded|go_step|(dsimp only)))
   all_goals(
    go_loopw [14,94] (fun q p wr=>∃i:Nat,i≤st.length∧q=.int .i64 ((cnt3 (st.take i):Nat):Int)∧p=.int .i64 (i:Int)∧Sat O wr (sl 3 1 (stk.map eN) (.slice ac stk.length nc)*(sl 88 1 (st.map eI) (.slice as_ st.length ns)*(pt bM (.cells #[.int .i64 d1,.int .i64 d2,.int .i64 d3,.int .i64 d4,.int .i64 d5,.int .i64 d6,.int .i64 d7,.slice a9 N k9,.int .i64 ((k+1:Nat):Int)] 76)*(sl 79 1 ((W (k+1)).map eU) (.slice a9 N k9)*(pt bR (.cells #[.slice a1 cs.length k1,.slice a2 lg.length k2,.slice a3 sh.length k3,.slice a4 ws.length k4] 30)*(pt bC (.cells #[.int .i64 d1,.int .i64 d2,.int .i64 d3,.int .i64 d4,.int .i64 d5,.int .i64 d6,.int .i64 d7] 23)*(sl 59 9 (cs.map Cll.e) (.slice a1 cs.length k1)*(sl 87 7 (lg.map Acc.e) (.slice a2 lg.length k2)*(sl 102 5 (sh.map Shf.e) (.slice a3 sh.length k3)*(sl 79 1 (ws.map eU) (.slice a4 ws.length k4)*(A*F)))))))))))) (fun _ p _=>st.length+1-(intOf p).toNat)
    case atStart=>exact⟨0,by omega,by simp[cnt3],rfl,by (with_reducible apply Sat.fin hs;repeat first|exact Ql|exact Qh|apply Qb|apply Qk)⟩
    case round=>
     obtain⟨i,il,rfl,rfl,hs⟩:=hrel
     by_cases hir:i=st.length
     ·subst hir
      have hlt:decide ((st.length:Int)<(st.length:Int))=false:=by simp
      have hlt2:decide (st.length<st.length)=false:=by simp
      have hct:Hid (cnt3 (st.take st.length)=cnt3 st):=Lh (by rw[List.take_length])
      clear il
      (repeat'(first|(go_big_may;((with_reducible apply Zp hs);exact Ii;rfl;(with_reducible exact Qh);rfl;simp only[Uc,Uz]))|go_step))
      rw[hct.out]
      clear hct
      go_loopw [105] (fun p wr=>∃i:Nat,i≤stk.length∧p=.int .i64 (i:Int)∧Sat O wr (sl 3 1 (stk.map eN) (.slice ac stk.length nc)*(sl 88 1 (st.map eI) (.slice as_ st.length ns)*(pt bM (.cells #[.int .i64 d1,.int .i64 d2,.int .i64 d3,.int .i64 d4,.int .i64 d5,.int .i64 d6,.int .i64 d7,.slice a9 N k9,.int .i64 ((k+1:Nat):Int)] 76)*(sl 79 1 ((W (k+1)).map eU) (.slice a9 N k9)*(pt bR (.cells #[.slice a1 cs.length k1,.slice a2 lg.length k2,.slice a3 sh.length k3,.slice a4 ws.length k4] 30)*(pt bC (.cells #[.int .i64 d1,.int .i64 d2,.int .i64 d3,.int .i64 d4,.int .i64 d5,.int .i64 d6,.int .i64 d7] 23)*(sl 59 9 (cs.map Cll.e) (.slice a1 cs.length k1)*(sl 87 7 (lg.map Acc.e) (.slice a2 lg.length k2)*(sl 102 5 (sh.map Shf.e) (.slice a3 sh.length k3)*(sl 79 1 (ws.map eU) (.slice a4 ws.length k4)*(A*F)))))))))))) (fun p _=>stk.length+1-(intOf p).toNat)
      case atStart=>exact⟨0,by omega,rfl,by ((with_reducible apply Sat.fin hs);(with_reducible exact Ql))⟩
      case round=>
       obtain⟨i,il,rfl,hs⟩:=hrel
       by_cases hir:i=stk.length
       ·subst hir
        have hlt:decide ((stk.length:Int)<(stk.length:Int))=false:=by simp
        have hlt2:decide (stk.length<stk.length)=false:=by simp
        clear il
        rcases hcnt.out with⟨hx0,hc0⟩|⟨hx0,hc0⟩
        case' inl=>
         have n8:(x != 0)=false:=by simp[hx0]
         have n9:(((cnt3 st:Nat):Int) != (stk.length:Int))=false:=by simp[hc0]
         clear hx0 hc0
        case' inr=>
         have n8:(x != 0)=true:=by simp[hx0]
         have n9:(((cnt3 st:Nat):Int)-1 != (stk.length:Int))=false:=by simp[hc0]
         have hcl:cnt3 st<4294967296:=by have:=cnt3_le st;have:=hstl.out;omega
         have hc1:1≤cnt3 st:=by omega
         clear hx0 hc0
        all_goals(
         (repeat'(first|(go_big_may;(first|(with_reducible first|apply NQ.mk|apply EQ.mk|exact Zf|apply Zh)|((with_reducible apply Zg);rfl;rfl)|((with_reducible apply Zl);rfl)|((with_reducible refine Zo ?_ ?_);focus((with_reducible apply ZF);rfl;rfl))|(show ZX _ _ _;rfl)|((with_reducible apply Za hs);exact Ii;rfl;(with_reducible repeat first|exact Qh|apply Qk);rfl;rfl;simp only[Uc,Uz])|((with_reducible apply ZU hs);exact Ii;rfl;(with_reducible repeat first|exact Qh|apply Qk);rfl;rfl;simp only[Uc,Uz])|((with_reducible apply Zk hs);exact Ii;rfl;assumption;(with_reducible repeat first|exact Qh|apply Qk);rfl;(assumption);rfl;rfl;simp only[Uc,Uz])|((with_reducible apply ZJ hs);exact Ii;exact Ii;rfl;assumption;rfl;(with_reducible repeat first|exact Qh|apply Qk);rfl;(assumption);rfl;simp only[Uc,Uz])|((with_reducible apply Zp hs);exact Ii;rfl;(with_reducible exact Qh);rfl;simp only[Uc,Uz])|(go_at_call 31;((refine(HB2.out).at hs (by (focus((repeat(with_reducible exact Qn));done))) ?_);clear hs;intro w hs;(try simp only[Em,Ma]at hs)))|((with_reducible refine Wp (id:=27) (Paz [.eff 5 [0,1,2,3],.neu 6,.neu 7,.neu 8]) hs rfl ?_ ?_);kernel_rfl;clear hs;intro w hs)))|go_step|(dsimp only)))
         go_roundg (lg.length-(k+1))
         case measure=>have:=hkl.out;omega
         case rel=>exact⟨k+1,(by have:=hkl.out;omega),rfl,by (with_reducible apply Sat.fin hs;repeat first|exact Ql|exact Qh|apply Qb|apply Qk)⟩)
       ·have hil:i<stk.length:=by omega
        have hlt:decide ((i:Int)<(stk.length:Int))=true:=by simp;omega
        have hlt2:decide (i<stk.length)=true:=by simp;omega
        have hiw:i+1<4294967296:=by have:=hstk.out;have:=hS0.out;omega
        have hI:=Lh hil
        obtain⟨s,hsk⟩:∃s,stk[i]? = some s:=⟨_,Yd hil⟩
        obtain⟨g1,g2,_⟩:=hlkq.out i s hsk
        have hn1:i<(stk.map eN).length:=by simpa using hil
        have hgz:(stk.map eN)[i]? = some [.int .i64 (s:Int)]:=by rw[Ym,hsk];rfl
        have hn2:s<(st.map eI).length:=by simpa using (List.getElem?_eq_some_iff.1 g2).1
        have hgs:(st.map eI)[s]? = some [.int .i64 3]:=by rw[Ym,g2];rfl
        clear hsk g1 g2 hir hil
        (repeat'(first|(go_big_may;(first|((with_reducible apply Zk hs);exact Ii;rfl;assumption;(with_reducible repeat first|exact Qh|apply Qk);rfl;(assumption);rfl;rfl;simp only[Uc,Uz])|((with_reducible apply ZJ hs);exact Ii;exact Ii;rfl;assumption;rfl;(with_reducible exact Qh);rfl;(assumption);rfl;simp only[Uc,Uz])|((with_reducible apply ZA hs);exact Ii;exact Ii;rfl;rfl;(with_reducible repeat first|exact Qh|apply Qk);rfl;(assumption);rfl;intro b off hat;simp only[Uc,Uz])))|go_step))
        go_roundw
        case rel=>exact⟨i+1,by have:=hI.out;omega,by simp,by ((with_reducible apply Sat.fin hs);(with_reducible exact Ql))⟩
        case measure=>have:=hI.out;simp[intOf];omega
     ·have hil:i<st.length:=by omega
      have hlt:decide ((i:Int)<(st.length:Int))=true:=by simp;omega
      have hlt2:decide (i<st.length)=true:=by simp;omega
      have hiw:i+1<4294967296:=by have:=hstl.out;omega
      have hI:=Lh hil
      obtain⟨z,hz⟩:∃z,st[i]? = some z:=⟨_,Yd hil⟩
      have hn1:i<(st.map eI).length:=by simpa using hil
      have hgz:(st.map eI)[i]? = some [.int .i64 z]:=by rw[Ym,hz];rfl
      have hct:cnt3 (st.take i)<4294967295:=by have h1:=cnt3_le (st.take i);rw[List.length_take]at h1;have:=hstl.out;omega
      have hC3:=Lh (cnt3_take hz)
      clear hz hir hil
      by_cases hz3:z=3
      ·subst hz3
       (repeat'(first|(go_big_may;(first|((with_reducible apply Zk hs);exact Ii;rfl;assumption;(with_reducible repeat first|exact Qh|apply Qk);rfl;(assumption);rfl;rfl;simp only[Uc,Uz])|((with_reducible apply ZA hs);exact Ii;exact Ii;rfl;rfl;(with_reducible repeat first|exact Qh|apply Qk);rfl;(assumption);rfl;intro b off hat;simp only[Uc,Uz])))|go_step))
       go_roundw
       case rel=>exact⟨i+1,by have:=hI.out;omega,by rw[hC3.out];simp,by simp,by ((with_reducible apply Sat.fin hs);(with_reducible exact Ql))⟩
       case measure=>have:=hI.out;simp[intOf];omega
      ·have n7:(z==3)=false:=by simpa using hz3
       have hC4:Hid (cnt3 (st.take (i+1))=cnt3 (st.take i)):=Lh (by rw[hC3.out,if_neg hz3];rfl)
       clear hz3 hC3
       (repeat'(first|(go_big_may;(first|((with_reducible apply Zk hs);exact Ii;rfl;assumption;(with_reducible repeat first|exact Qh|apply Qk);rfl;(assumption);rfl;rfl;simp only[Uc,Uz])|((with_reducible apply ZA hs);exact Ii;exact Ii;rfl;rfl;(with_reducible repeat first|exact Qh|apply Qk);rfl;(assumption);rfl;intro b off hat;simp only[Uc,Uz])))|go_step))
       go_roundw
       case rel=>exact⟨i+1,by have:=hI.out;omega,by rw[hC4.out],by simp,by ((with_reducible apply Sat.fin hs);(with_reducible exact Ql))⟩
       case measure=>have:=hI.out;simp[intOf];omega)
end
end Go.Proofs.YtefjbdajgakgpaaGreat
