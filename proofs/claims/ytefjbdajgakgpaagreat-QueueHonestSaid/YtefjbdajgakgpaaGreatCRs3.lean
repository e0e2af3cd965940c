import Derived.Test.YtefjbdajgakgpaaGreatCQCen
set_option linter.all false
namespace Go.Proofs.YtefjbdajgakgpaaGreat
open Go.RowKit Hp
set_option maxRecDepth 100000
section
set_option maxHeartbeats 1000000
attribute [local irreducible] Go.Calls
structure RunLen (cs:List Cll)(lg:List Acc)(sh:List Shf)(ws:List Int):Prop where
 l1:cs.length<100000000
 l2:lg.length<100000000
 l3:sh.length<100000000
 l4:ws.length<100000000
theorem runR_mk {O w:World}{F:Zb}{cs:List Cll}{lg:List Acc}{sh:List Shf}{ws:List Int}{vc vt vs vw:Value}
  (hs:Sat O w (sl 59 9 (cs.map Cll.e) vc*(sl 87 7 (lg.map Acc.e) vt*(sl 102 5 (sh.map Shf.e) vs*(sl 79 1 (ws.map eU) vw*F))))):Sat O w (RunR cs lg sh ws (.agg #[vc,vt,vs,vw])*F):=by
 unfold RunR
 simp only[ZC,Ma,Zy]
 exact⟨_,_,_,_,rfl,hs⟩
theorem runR_get {O w:World}{F:Zb}{cs:List Cll}{lg:List Acc}{sh:List Shf}{ws:List Int}{v:Value}(hs:Sat O w (RunR cs lg sh ws v*F)) :
  ∃a1 k1 a2 k2 a3 k3 a4 k4,v=.agg #[.slice a1 cs.length k1,.slice a2 lg.length k2,.slice a3 sh.length k3,.slice a4 ws.length k4] ∧
   Sat O w (sl 59 9 (cs.map Cll.e) (.slice a1 cs.length k1)*(sl 87 7 (lg.map Acc.e) (.slice a2 lg.length k2)*(sl 102 5 (sh.map Shf.e) (.slice a3 sh.length k3)*(sl 79 1 (ws.map eU) (.slice a4 ws.length k4)*F)))):=by
 unfold RunR at hs
 simp only[ZC,Ma,Zy]at hs
 obtain⟨vc,vt,vs,vw,rfl,hs⟩:=hs
 obtain⟨_,_,rfl⟩:=Qi (hs.pull (A:=sl 59 9 _ vc) (by (with_reducible exact Qh)))
 obtain⟨_,_,rfl⟩:=Qi (hs.pull (A:=sl 87 7 _ vt) (by (with_reducible repeat first|exact Qh|apply Qk)))
 obtain⟨_,_,rfl⟩:=Qi (hs.pull (A:=sl 102 5 _ vs) (by (with_reducible repeat first|exact Qh|apply Qk)))
 obtain⟨_,_,rfl⟩:=Qi (hs.pull (A:=sl 79 1 _ vw) (by (with_reducible repeat first|exact Qh|apply Qk)))
 simp only[List.length_map]at hs ⊢
 exact⟨_,_,_,_,_,_,_,_,rfl,hs⟩
end
section
set_option maxHeartbeats 8000000
attribute [local irreducible] Go.Calls
abbrev stR (l:List Int)(v:Value):Zb:=sl 88 1 (l.map eI) v
abbrev hoR (l:List Int)(v:Value):Zb:=sl 3 1 (l.map eI) v
abbrev Shf.v (x:Shf):Value:=.agg (Shf.e x).toArray
def bgS (n:Nat):List Int:=if n=0 then [] else (List.replicate n 0).set 0 3
theorem bgS_snoc (n:Nat):bgS (n+1)=bgS n++[if n=0 then 3 else 0]:=by
 unfold bgS
 by_cases h:n=0
 ·subst h;rfl
 ·rw[if_neg (by omega),if_neg h,if_neg h,List.replicate_succ',List.set_append_left _ _ (by simp;omega)]
theorem bgS_len (n:Nat):(bgS n).length=n:=by
 unfold bgS
 split
 ·rename_i h;subst h;rfl
 ·simp
theorem cen_begin (c:Cfg)(hok:c.Ok):Does Tryz.prog 46 #[c.v,.int .i64 1] emp (fun u=>ex fun v1=>ex fun v2=>pu (u=.tuple #[v1,v2])*(stR (bgS c.Sl.toNat) v1*hoR (List.replicate c.Sl.toNat (-1)) v2)):=by
 intro O w F hs
 have hS1:=hok.S1
 have hS2:=hok.S2
 obtain⟨S0,hS0⟩:∃S0:Nat,c.Sl=(S0:Int):=⟨c.Sl.toNat,by omega⟩
 have hSn:c.Sl.toNat=S0:=by omega
 rw[hSn]
 obtain⟨c1,c2,c3,c4,c5,c6,c7⟩:=c
 simp only[]at hS0 hS1 hS2
 subst hS0
 have hSl:S0≤1024:=by omega
 clear hok hSn hS1 hS2
 have hs:=sl_nil (E:=88) (sz:=1) hs (by omega)
 have hs:=sl_nil (E:=3) (sz:=1) hs (by omega)
 go_enter Tryz.func46,Tryz.ntmps46
 (repeat'(first|(go_big_may;((with_reducible apply Zq hs);rfl;rfl;rfl;clear hs;intro w b hs;simp only[Uc,Uz]))|go_step))
 obtain⟨bC,hbC⟩:∃x,x=b:=⟨_,rfl⟩
 subst hbC
 go_loopw [6,7,8] (fun v1 v2 q wr=>∃n:Nat,n≤S0∧q=.int .i64 (n:Int)∧Sat O wr (stR (bgS n) v1*(hoR (List.replicate n (-1)) v2*(pt bC (.cells #[.int .i64 c1,.int .i64 c2,.int .i64 c3,.int .i64 c4,.int .i64 c5,.int .i64 (S0:Int),.int .i64 c7] 23)*F)))) (fun _ _ q _=>S0+1-(intOf q).toNat)
 case atStart=>exact⟨0,by omega,rfl,by simp only[bgS,if_true,List.replicate_zero,Yj];((with_reducible apply Sat.fin hs);(focus((repeat(first|with_reducible exact Ql|with_reducible exact Qh|with_reducible apply Qb|exact Qh|with_reducible apply Qk));done)))⟩
 case round=>
  obtain⟨n,kn,rfl,hs⟩:=hrel
  have hnl:(bgS n).length<4294967296:=by rw[bgS_len];omega
  have hnl2:(List.replicate n (-1:Int)).length<4294967296:=by simp;omega
  by_cases hkr:n=S0
  ·have hkr:=hkr.symm
   subst hkr
   have hlt:decide ((S0:Int)<(S0:Int))=false:=by simp
   (repeat'(first|(go_big_may;((with_reducible apply Za hs);exact Ii;rfl;(with_reducible repeat first|exact Qh|apply Qk);rfl;rfl;simp only[Uc,Uz]))|go_step))
   (go_ret2)
   refine⟨_,rfl,?_⟩
   simp only[ZC,Ma,Zy]
   exact⟨_,_,rfl,by ((with_reducible apply Sat.fin hs);(focus((repeat(first|with_reducible exact Ql|with_reducible apply Qb|exact Qh|with_reducible apply Qk));done)))⟩
  ·have hlt:decide ((n:Int)<(S0:Int))=true:=by simp;omega
   have hlt2:decide (n<S0)=true:=by simp;omega
   have hnL:=Lh (show n<S0 by omega)
   have e2:Hid (List.replicate (n+1) (-1:Int)=List.replicate n (-1)++[-1]):=Lh List.replicate_succ'
   by_cases hn0:n=0
   ·have hn1:decide ((n:Int)<1)=true:=by simp;omega
    have e1:Hid (bgS (n+1)=bgS n++[3]):=Lh (by rw[bgS_snoc,if_pos hn0])
    clear hkr hn0
    generalize bgS n=l1 at *
    generalize List.replicate n (-1:Int)=l2 at *
    (repeat'(first|(go_big_may;(first|((with_reducible apply Za hs);exact Ii;rfl;(with_reducible repeat first|exact Qh|apply Qk);rfl;rfl;simp only[Uc,Uz])|((with_reducible apply wl_bs hs);exact Ii;exact Ii;rfl;rfl;rfl;rfl;exact Vb rfl;rfl;clear hs;intro w v hs;simp only[Uc,Uz])|((with_reducible apply Jn hs);exact Ii;exact Ii;rfl;rfl;(focus with_reducible (repeat first|exact Qh|apply Qk);done);(with_reducible exact Qh);(simp only[Wm,Ws,Wa,Wc,Wn,Wr]at *;omega);exact Vb rfl;rfl;clear hs;intro w v hs;simp only[Uc,Uz])))|go_step))
    go_roundw
    case rel=>exact⟨n+1,(by have:=hnL.out;omega),by simp,by rw[e1.out,e2.out];simp only[stR,hoR];((try simp only[Yh,Yi,Yj,Yk,Yl]);(try simp only[Yh,Yi,Yj,Yk,Yl]at hs);(with_reducible apply Sat.fin hs;repeat first|exact Ql|exact Qh|apply Qb|apply Qk))⟩
    case measure=>have:=hnL.out;simp[intOf];omega
   ·have hn1:decide ((n:Int)<1)=false:=by simp;omega
    have e1:Hid (bgS (n+1)=bgS n++[0]):=Lh (by rw[bgS_snoc,if_neg hn0])
    clear hkr hn0
    generalize bgS n=l1 at *
    generalize List.replicate n (-1:Int)=l2 at *
    (repeat'(first|(go_big_may;(first|((with_reducible apply Za hs);exact Ii;rfl;(with_reducible repeat first|exact Qh|apply Qk);rfl;rfl;simp only[Uc,Uz])|((with_reducible apply wl_bs hs);exact Ii;exact Ii;rfl;rfl;rfl;rfl;exact Vb rfl;rfl;clear hs;intro w v hs;simp only[Uc,Uz])|((with_reducible apply Jn hs);exact Ii;exact Ii;rfl;rfl;(focus with_reducible (repeat first|exact Qh|apply Qk);done);(with_reducible exact Qh);(simp only[Wm,Ws,Wa,Wc,Wn,Wr]at *;omega);exact Vb rfl;rfl;clear hs;intro w v hs;simp only[Uc,Uz])))|go_step))
    go_roundw
    case rel=>exact⟨n+1,(by have:=hnL.out;omega),by simp,by rw[e1.out,e2.out];simp only[stR,hoR];((try simp only[Yh,Yi,Yj,Yk,Yl]);(try simp only[Yh,Yi,Yj,Yk,Yl]at hs);(with_reducible apply Sat.fin hs;repeat first|exact Ql|exact Qh|apply Qb|apply Qk))⟩
    case measure=>have:=hnL.out;simp[intOf];omega
def putS (l:List Int)(x:Shf):List Int:=l.set x.slot.toNat x.to
def putH (l:List Int)(x:Shf):List Int:=l.set x.slot.toNat (if x.to=0∨x.to=3 then -1 else x.thread)
theorem cen_put (l1 l2:List Int)(x:Shf)(v1 v2:Value)(i:Nat)(hi:x.slot=(i:Int))(h1:i<l1.length)(h2:i<l2.length)(hl1:l1.length<4294967296)(hl2:l2.length<4294967296) :
  Zl Tryz.prog 45 #[v1,v2,x.v] (stR l1 v1*hoR l2 v2) (.tuple #[]) (stR (putS l1 x) v1*hoR (putH l2 x) v2):=by
 intro O w F hs
 simp only[Ma]at hs
 obtain⟨a1,k1,rfl⟩:=Qi (hs.pull (A:=stR l1 v1) (by (with_reducible exact Qh)))
 obtain⟨a2,k2,rfl⟩:=Qi (hs.pull (A:=hoR l2 v2) (by (with_reducible repeat first|exact Qh|apply Qk)))
 simp only[List.length_map]at hs ⊢
 obtain⟨x1,x2,x3,x4,x5⟩:=x
 simp only[]at hi
 subst hi
 obtain⟨y1,hy1⟩:∃y,l1[i]? = some y:=⟨_,Yd h1⟩
 obtain⟨y2,hy2⟩:∃y,l2[i]? = some y:=⟨_,Yd h2⟩
 have g1:(l1.map eI)[i]? = some (eI y1):=by rw[Ym,hy1];rfl
 have g2:(l2.map eI)[i]? = some (eI y2):=by rw[Ym,hy2];rfl
 have g3:((l2.map eI).set i (eI x2))[i]? = some (eI x2):=by rw[Ye (by simpa using h2)]
 have b1:i<(l1.map eI).length:=by simpa using h1
 have b2:i<(l2.map eI).length:=by simpa using h2
 have b3:i<((l2.map eI).set i (eI x2)).length:=by simpa using h2
 have d1:decide (i<l1.length)=true:=by simpa using h1
 have d2:decide (i<l2.length)=true:=by simpa using h2
 have hin:((i:Nat):Int).toNat=i:=Yo i
 clear hy1 hy2
 by_cases e0:x5=0
 ·subst e0
  have eH:putH l2 ⟨x1,x2,(i:Int),x4,0⟩=(l2.set i x2).set i (-1):=by simp[putH,Yl]
  have eS:putS l1 ⟨x1,x2,(i:Int),x4,0⟩=l1.set i 0:=by simp[putS]
  rw[eH,eS]
  clear eH eS
  go_enter Tryz.func45,Tryz.ntmps45
  (repeat'(first|(((with_reducible apply Z8);rfl;rfl;((simp only[ev,Ue,Uf]);rfl);rfl;simp only[Uc,Uz]);(repeat((with_reducible apply Z8);rfl;rfl;((simp only[ev,Ue,Uf]);rfl);rfl;simp only[Uc,Uz])))|((with_reducible apply ZT);((simp only[ev,Ue,Uf]);rfl);((simp only[cond_true,cond_false,ev,Ue,Uf]);rfl);(with_reducible exact Zv);simp only[Uc,Uz])|(go_big_may;(first|((with_reducible apply Za hs);exact Ii;rfl;(with_reducible repeat first|exact Qh|apply Qk);rfl;rfl;simp only[Uc,Uz])|((with_reducible apply Zq hs);rfl;rfl;rfl;clear hs;intro w b hs;simp only[Uc,Uz])|((with_reducible apply ZS hs);exact Ii;rfl;rfl;assumption;(with_reducible repeat first|exact Qh|apply Qk);rfl;(assumption);exact Vb rfl;rfl;rfl;clear hs;intro w hs)|((with_reducible apply ZU hs);exact Ii;exact Ii;rfl;assumption;rfl;(with_reducible exact Qh);rfl;(assumption);rfl;simp only[Uc,Uz])|((with_reducible apply ZE hs);exact Ii;exact Ii;rfl;rfl;(with_reducible repeat first|exact Qh|apply Qk);rfl;(assumption);rfl;intro b off hat;simp only[Uc,Uz])))|go_step))
  (go_end0)
  exact⟨rfl,by simp only[stR,hoR,Ma];((try simp only[Yh,Yi,Yj,Yk,Yl]);(try simp only[Yh,Yi,Yj,Yk,Yl]at hs);((with_reducible apply Sat.fin hs);(focus((repeat(first|with_reducible exact Ql|with_reducible apply Qb|exact Qh|with_reducible apply Qk));done))))⟩
 ·by_cases e3:x5=3
  ·subst e3
   have eH:putH l2 ⟨x1,x2,(i:Int),x4,3⟩=(l2.set i x2).set i (-1):=by simp[putH,Yl]
   have eS:putS l1 ⟨x1,x2,(i:Int),x4,3⟩=l1.set i 3:=by simp[putS]
   rw[eH,eS]
   clear eH eS e0
   go_enter Tryz.func45,Tryz.ntmps45
   (repeat'(first|((with_reducible apply ZT);((simp only[ev,Ue,Uf]);rfl);((simp only[cond_true,cond_false,ev,Ue,Uf]);rfl);(with_reducible exact Zv);simp only[Uc,Uz])|(go_big_may;(first|((with_reducible apply Za hs);exact Ii;rfl;(with_reducible repeat first|exact Qh|apply Qk);rfl;rfl;simp only[Uc,Uz])|((with_reducible apply Zq hs);rfl;rfl;rfl;clear hs;intro w b hs;simp only[Uc,Uz])|((with_reducible apply ZS hs);exact Ii;rfl;rfl;assumption;(with_reducible repeat first|exact Qh|apply Qk);rfl;(assumption);exact Vb rfl;rfl;rfl;clear hs;intro w hs)|((with_reducible apply ZU hs);exact Ii;exact Ii;rfl;assumption;rfl;(with_reducible exact Qh);rfl;(assumption);rfl;simp only[Uc,Uz])|((with_reducible apply ZE hs);exact Ii;exact Ii;rfl;rfl;(with_reducible repeat first|exact Qh|apply Qk);rfl;(assumption);rfl;intro b off hat;simp only[Uc,Uz])))|go_guarded|go_step))
   (go_end0)
   exact⟨rfl,by simp only[stR,hoR,Ma];((try simp only[Yh,Yi,Yj,Yk,Yl]);(try simp only[Yh,Yi,Yj,Yk,Yl]at hs);((with_reducible apply Sat.fin hs);(focus((repeat(first|with_reducible exact Ql|with_reducible apply Qb|exact Qh|with_reducible apply Qk));done))))⟩
  ·have f0:(x5==0)=false:=by simpa using e0
   have f3:(x5==3)=false:=by simpa using e3
   have eH:putH l2 ⟨x1,x2,(i:Int),x4,x5⟩=l2.set i x2:=by simp[putH,e0,e3]
   have eS:putS l1 ⟨x1,x2,(i:Int),x4,x5⟩=l1.set i x5:=by simp[putS]
   rw[eH,eS]
   clear eH eS e0 e3
   go_enter Tryz.func45,Tryz.ntmps45
   (repeat'(first|((with_reducible apply ZT);((simp only[ev,Ue,Uf]);rfl);((simp only[cond_true,cond_false,ev,Ue,Uf]);rfl);(with_reducible exact Zv);simp only[Uc,Uz])|(go_big_may;(first|((with_reducible apply Za hs);exact Ii;rfl;(with_reducible repeat first|exact Qh|apply Qk);rfl;rfl;simp only[Uc,Uz])|((with_reducible apply Zq hs);rfl;rfl;rfl;clear hs;intro w b hs;simp only[Uc,Uz])|((with_reducible apply ZS hs);exact Ii;rfl;rfl;assumption;(with_reducible repeat first|exact Qh|apply Qk);rfl;(assumption);exact Vb rfl;rfl;rfl;clear hs;intro w hs)|((with_reducible apply ZE hs);exact Ii;exact Ii;rfl;rfl;(with_reducible repeat first|exact Qh|apply Qk);rfl;(assumption);rfl;intro b off hat;simp only[Uc,Uz])))|go_guarded|go_step))
   (go_end0)
   exact⟨rfl,by simp only[stR,hoR,Ma];((try simp only[Yh,Yi,Yj,Yk,Yl]);(try simp only[Yh,Yi,Yj,Yk,Yl]at hs);((with_reducible apply Sat.fin hs);(focus((repeat(first|with_reducible exact Ql|with_reducible apply Qb|exact Qh|with_reducible apply Qk));done))))⟩
end
section
set_option maxHeartbeats 8000000
attribute [local irreducible] Go.Calls Go.wpList
theorem map_put_st (sl:List Slt)(x:Shf):putS (sl.map Slt.state) x=(put sl x).map Slt.state:=by simp[putS,put,Yk]
theorem map_put_ho (sl:List Slt)(x:Shf):putH (sl.map Slt.holder) x=(put sl x).map Slt.holder:=by simp[putH,put,Yk]
theorem puts_snoc (sl:List Slt)(l:List Shf)(x:Shf):puts sl (l++[x])=put (puts sl l) x:=by rw[puts_append];rfl
theorem take_filter_yes {α:Type}{p:α→Bool}{l:List α}{k:Nat}{e:α}(he:l[k]? = some e)(h:p e=true):(l.take (k+1)).filter p=(l.take k).filter p++[e]:=by
 rw[List.take_add_one,he,List.filter_append];simp[h]
theorem take_filter_no {α:Type}{p:α→Bool}{l:List α}{k:Nat}{e:α}(he:l[k]? = some e)(h:p e=false):(l.take (k+1)).filter p=(l.take k).filter p:=by
 rw[List.take_add_one,he,List.filter_append];simp[h]
theorem s0_st {c:Cfg}(hok:c.Ok):(s0 c).map Slt.state=bgS c.Sl.toNat:=by
 have:=hok.S1
 unfold bgS
 rw[if_neg (by omega)]
 simp[s0,are1,Yk]
theorem s0_ho {c:Cfg}(hok:c.Ok):(s0 c).map Slt.holder=List.replicate c.Sl.toNat (-1):=by
 have:=hok.S1
 simp only[s0,are1,Yk,List.map_replicate]
 exact List.set_getElem?_self' (by rw[List.getElem?_replicate,if_pos (by omega)])
theorem cen_states (c:Cfg)(hok:c.Ok)(cs:List Cll)(lg:List Acc)(sh:List Shf)(ws:List Int)(u:Value)(hl:RunLen cs lg sh ws)(n:Int)(hr:∀d∈sh,∃i:Nat,d.slot=(i:Int)∧(i:Int)<c.Sl) :
  Does Tryz.prog 40 #[c.v,.int .i64 1,u,.int .i64 n] (RunR cs lg sh ws u) (fun v=>(ex fun v1=>ex fun v2=>pu (v=.tuple #[v1,v2])*(stR ((puts (s0 c) (sh.filter (fun x=>decide (x.move<n)))).map Slt.state) v1*hoR ((puts (s0 c) (sh.filter (fun x=>decide (x.move<n)))).map Slt.holder) v2))*RunR cs lg sh ws u):=by
 intro O w F hs
 have hg:=runR_get hs
 clear hs
 obtain⟨a1,k1,a2,k2,a3,k3,a4,k4,rfl,hs⟩:=hg
 obtain⟨g1,g2,g3,g4⟩:=hl
 have hB:=Lh (cen_begin c hok)
 have hS1:=hok.S1
 have hS2:=hok.S2
 have hLen:=s0_len hok
 rw[←s0_st hok,←s0_ho hok]at hB
 obtain⟨Z0,hZ0⟩:∃Z,Z=s0 c:=⟨_,rfl⟩
 rw[←hZ0]at hB hLen ⊢
 clear hZ0 hok
 obtain⟨S0,hS0⟩:∃S0:Nat,c.Sl=(S0:Int):=⟨c.Sl.toNat,by omega⟩
 obtain⟨c1,c2,c3,c4,c5,c6,c7⟩:=c
 simp only[]at hS0 hS1 hS2 hr hLen
 subst hS0
 have hSl:S0≤1024:=by omega
 have hLen:Z0.length=S0:=by omega
 clear hS1 hS2
 have hr:=Lh hr
 go_enter Tryz.func40,Tryz.ntmps40
 (repeat'(first|(go_big_may;(first|((show wpList _ _ _ (Oper.mk (some 4) _ _ _ _ _::_) _ _);(with_reducible apply Zq hs);rfl;rfl;rfl;clear hs;intro w bC hs;simp only[Uc,Uz])|((show wpList _ _ _ (Oper.mk (some 6) _ _ _ _ _::_) _ _);(with_reducible apply Zq hs);rfl;rfl;rfl;clear hs;intro w bR hs;simp only[Uc,Uz])|((with_reducible apply ZZ hs);exact Ii;rfl;(with_reducible repeat first|exact Qh|apply Qk);rfl;rfl;simp only[Uc,Uz])|(go_at_call 46;((refine(hB.out).at hs (by (focus((repeat(with_reducible exact Qn));done))) ?_);clear hs;intro v w hs;(try simp only[Em,Ma]at hs));(simp only[ZC,Ma,Zy]at hs);(obtain⟨v1,v2,rfl,hs⟩:=hs))))|go_step|(dsimp only)))
 go_loopw [12] (fun q wr=>∃(k:Nat) (sn:List Slt),k≤sh.length∧q=.int .i64 (k:Int)∧Hid (sn=puts Z0 ((sh.take k).filter (fun x=>decide (x.move<n))))∧Sat O wr (stR (sn.map Slt.state) v1*(hoR (sn.map Slt.holder) v2*(pt bR (.cells #[.slice a1 cs.length k1,.slice a2 lg.length k2,.slice a3 sh.length k3,.slice a4 ws.length k4] 30)*(pt bC (.cells #[.int .i64 c1,.int .i64 c2,.int .i64 c3,.int .i64 c4,.int .i64 c5,.int .i64 (S0:Int),.int .i64 c7] 23)*(sl 59 9 (cs.map Cll.e) (.slice a1 cs.length k1)*(sl 87 7 (lg.map Acc.e) (.slice a2 lg.length k2)*(sl 102 5 (sh.map Shf.e) (.slice a3 sh.length k3)*(sl 79 1 (ws.map eU) (.slice a4 ws.length k4)*F))))))))) (fun q _=>sh.length+1-(intOf q).toNat)
 case atStart=>exact⟨0,Z0,by omega,rfl,Lh rfl,by ((with_reducible apply Sat.fin hs);(with_reducible exact Ql))⟩
 case round=>
  obtain⟨k,sn,kk,rfl,hsn,hs⟩:=hrel
  have hsnl:sn.length=S0:=by rw[hsn.out,puts_len];exact hLen
  by_cases hkr:k=sh.length
  ·subst hkr
   have hlt:decide ((sh.length:Int)<(sh.length:Int))=false:=by simp
   clear hsnl
   (repeat'(first|(go_big_may;(first|((with_reducible apply Za hs);exact Ii;rfl;(with_reducible repeat first|exact Qh|apply Qk);rfl;rfl;simp only[Uc,Uz])|((with_reducible apply Zp hs);exact Ii;rfl;(with_reducible repeat first|exact Qh|apply Qk);rfl;simp only[Uc,Uz])))|go_step))
   (go_ret2)
   refine⟨_,rfl,?_⟩
   simp only[ZC,Ma,Zy]
   have hsn:=hsn.out
   rw[List.take_length]at hsn
   rw[←hsn]
   refine⟨v1,v2,rfl,?_⟩
   have hs:Sat O _ (RunR cs lg sh ws (.agg #[.slice a1 cs.length k1,.slice a2 lg.length k2,.slice a3 sh.length k3,.slice a4 ws.length k4])*(stR (sn.map Slt.state) v1*(hoR (sn.map Slt.holder) v2*F))):=runR_mk (by (with_reducible apply Sat.fin hs;repeat first|exact Ql|exact Qh|apply Qb|apply Qk))
   (with_reducible apply Sat.fin hs;repeat first|exact Ql|exact Qh|apply Qb|apply Qk)
  ·have hlt:decide ((k:Int)<(sh.length:Int))=true:=by simp;omega
   have hlt2:decide (k<sh.length)=true:=by simp;omega
   have hln:k<(sh.map Shf.e).length:=by simp;omega
   obtain⟨e,he⟩:∃e,sh[k]? = some e:=⟨_,Yd (by omega)⟩
   obtain⟨i,hi,hiS⟩:=hr.out e (Yc he)
   have hnL:=Lh (show k<sh.length by omega)
   have hPut:=Lh (cen_put (sn.map Slt.state) (sn.map Slt.holder) e v1 v2 i hi (by simp;omega) (by simp;omega) (by simp;omega) (by simp;omega))
   rw[map_put_st,map_put_ho]at hPut
   have hyes:=Lh (fun h:decide (e.move<n)=true=>show put sn e=puts Z0 ((sh.take (k+1)).filter (fun x=>decide (x.move<n))) by rw[take_filter_yes he h,puts_snoc,←hsn.out])
   have hno:=Lh (fun h:decide (e.move<n)=false=>show sn=puts Z0 ((sh.take (k+1)).filter (fun x=>decide (x.move<n))) by rw[take_filter_no he h];exact hsn.out)
   generalize put sn e=sn' at hPut hyes
   obtain⟨e1,e2,e3,e4,e5⟩:=e
   have hgv:(sh.map Shf.e)[k]? = some (Shf.e ⟨e1,e2,e3,e4,e5⟩):=by rw[Ym,he];rfl
   simp only[]at hyes hno
   clear he hkr hlt hsn hsnl hi hiS
   by_cases hd:e1<n
   ·have hd':decide (e1<n)=true:=by simpa using hd
    have hyes:=Lh (hyes.out hd')
    clear hno hd
    (repeat'(first|(go_big_may;(first|((with_reducible apply Za hs);exact Ii;rfl;(with_reducible repeat first|exact Qh|apply Qk);rfl;rfl;simp only[Uc,Uz])|((with_reducible apply Zn hs);exact Ii;rfl;assumption;(with_reducible repeat first|exact Qh|apply Qk);rfl;(assumption);rfl;rfl;simp only[Uc,Uz])|((with_reducible apply QE (k:=0) hs);exact Ii;rfl;assumption;(with_reducible repeat first|exact Qh|apply Qk);(exact(Nat.add_zero _).symm);(assumption);exact Vb rfl;rfl;rfl;simp only[Uc,Uz])|((with_reducible apply ZU hs);exact Ii;exact Ii;rfl;assumption;rfl;(with_reducible repeat first|exact Qh|apply Qk);rfl;(assumption);rfl;simp only[Uc,Uz])|((with_reducible apply ZE hs);exact Ii;exact Ii;rfl;rfl;(with_reducible repeat first|exact Qh|apply Qk);rfl;(assumption);rfl;intro b off hat;simp only[Uc,Uz])|((with_reducible apply Zp hs);exact Ii;rfl;(with_reducible repeat first|exact Qh|apply Qk);rfl;simp only[Uc,Uz])|(go_at_call 45;((refine(hPut.out).at hs (by (focus with_reducible (repeat first|exact Qh|apply Qb);done)) ?_);clear hs;intro w hs;(try simp only[Em,Ma]at hs)))))|go_step|(dsimp only)))
    go_roundw
    case rel=>exact⟨k+1,sn',(by have:=hnL.out;omega),by simp,hyes,by ((with_reducible apply Sat.fin hs);(with_reducible exact Ql))⟩
    case measure=>have:=hnL.out;simp[intOf];omega
   ·have hd':decide (e1<n)=false:=by simpa using hd
    have hno:=Lh (hno.out hd')
    clear hyes hd
    (repeat'(first|(go_big_may;(first|((with_reducible apply Za hs);exact Ii;rfl;(with_reducible repeat first|exact Qh|apply Qk);rfl;rfl;simp only[Uc,Uz])|((with_reducible apply Zn hs);exact Ii;rfl;assumption;(with_reducible repeat first|exact Qh|apply Qk);rfl;(assumption);rfl;rfl;simp only[Uc,Uz])|((with_reducible apply ZE hs);exact Ii;exact Ii;rfl;rfl;(with_reducible repeat first|exact Qh|apply Qk);rfl;(assumption);rfl;intro b off hat;simp only[Uc,Uz])|((with_reducible apply Zp hs);exact Ii;rfl;(with_reducible repeat first|exact Qh|apply Qk);rfl;simp only[Uc,Uz])))|go_step))
    go_roundw
    case rel=>exact⟨k+1,sn,(by have:=hnL.out;omega),by simp,hno,by ((with_reducible apply Sat.fin hs);(with_reducible exact Ql))⟩
    case measure=>have:=hnL.out;simp[intOf];omega
end
section
set_option maxHeartbeats 1000000
attribute [local irreducible] Go.Calls
section
variable {c:Cfg}{Lg S N:Nat}{h:Haz}{a:Are}{m m':Mch}
variable {n:Int}{Z Y:Int→Nat}{F stk:List Int}{pr:Int→Prop}{K L:List Int}{t:Nat}{W:Int→Prop}{x:Sx}{tl z:Int}
theorem Jd {p:Gt}(h:¬gS p)(h2:p.stage≠12):kS (.get p)=[]∧kL (.get p)=[]∧gtSc p=none:=by
 have e:gtSc p=none:=by unfold gtSc;rw[if_neg h2]
 refine⟨?_,?_,e⟩
 ·simp only[kS];rw[if_neg h,e]
 ·simp only[kL];rw[e]
theorem kS_get11 {p:Gt}(h:gS p):kS (.get p)=[p.h0-1]∧kL (.get p)=[]∧gtSc p=none:=by
 have e:gtSc p=none:=by unfold gtSc;rw[if_neg (by have:=h.1;omega)]
 refine⟨?_,?_,e⟩
 ·simp only[kS];rw[if_pos h]
 ·simp only[kL];rw[e]
theorem kS_get12 {p:Gt}{r:Ret}{s:Scn}(h:p.stage=12)(hr:p.retire=some r)(hs:r.scan=some s):kS (.get p)=scnP s∧kL (.get p)=lkS s∧gtSc p=some s:=by
 have e:gtSc p=some s:=by unfold gtSc;rw[if_pos h,hr];exact hs
 refine⟨?_,?_,e⟩
 ·simp only[kS];rw[if_neg (by unfold gS;omega),e]
 ·simp only[kL];rw[e]
theorem Jv {p:Gt}(h:p.stage≠11):¬gS p:=by unfold gS;omega
theorem gtd_vac {p:Gt}(h:p.stage=0∨p.stage=1∨p.stage=2∨p.stage=11)(hg:p.got=false):GtD c t x tl p:=
 ⟨fun _=>by omega,fun _ _=>by omega,fun _ _=>by omega,fun _ _=>by omega,fun _ _=>by omega,fun _=>by omega,fun _ _=>by omega,fun _=>by omega,fun _=>by omega,fun _=>by omega,fun h=>(by unfold gS at h;rw[hg]at h;cases h.2),fun s hs=>(by unfold gtSc at hs;rw[if_neg (by omega)]at hs;cases hs),fun _=>hg⟩
structure GtM (c:Cfg)(t:Nat)(x:Sx)(tl:Int)(p:Gt):Prop where
 pr:x.pr (hz0 c t x)∧x.V.hz (hz0 c t x)=p.h0
 hd:HdQ x (p.h0-1)
 tl:5≤p.stage→p.t≠p.h0→TlGt x tl (p.h0-1)
 gt:9≤p.stage→p.t≠p.h0
 eq8:p.stage=8→p.t=p.h0
 lnk:6≤p.stage→x.V.ln (p.h0-1)=p.n
 hz1:p.stage=7→x.V.hz (hz0 c t x+1)=p.n
 pr1:p.stage=9∨p.stage=10→x.pr (hz0 c t x+1)∧x.V.hz (hz0 c t x+1)=p.n
 val:p.stage=10→p.n-1∈x.stk→p.value=wrap64 (x.V.val (p.n-1))
theorem GtM.d {p:Gt}(M:GtM c t x tl p)(h1:4≤p.stage)(h2:p.stage≤10)(hg:p.got=false):GtD c t x tl p:=
 ⟨fun h=>by omega,fun _ _=>M.pr,fun _ _=>M.hd,fun h _=>M.tl h,fun h _=>M.gt h,M.eq8,fun h _=>M.lnk h,M.hz1,M.pr1,M.val,fun h=>by have:=h.1;omega,fun s hs=>(by unfold gtSc at hs;rw[if_neg (by omega)]at hs;cases hs),fun _=>hg⟩
theorem GtD.mid {p:Gt}(D:GtD c t x tl p)(h1:4≤p.stage)(h2:p.stage≤10):GtM c t x tl p:=
 ⟨D.pr h1 h2,D.hd h1 h2,fun h=>D.tl h h2,fun h=>D.gt h h2,D.eq8,fun h=>D.lnk h h2,D.hz1,D.pr1,D.val⟩
theorem get_swp (C:Core c Lg S N h a m)(T:TlI stk (tlw c m))(G:Gd c n Z Y F (sx stk pr c h a m) K L){o z:Int}(hz:z≠0)(hl:tlw c m=o→(mv c m).ln (o-1)=z) :
  sx stk pr c h a (m.swap (adr c 5 0) (m.word (adr c 5 0)) o z)=sx stk pr c h a m∧QRl (sx stk pr c h a m) (tlw c m) (sx stk pr c h a m) (tlw c (m.swap (adr c 5 0) (m.word (adr c 5 0)) o z))∧TlI stk (tlw c (m.swap (adr c 5 0) (m.word (adr c 5 0)) o z)):=by
 have hok:=C.ok
 have hA5:=C.lt (adr5_lt hok)
 by_cases hw:m.word (adr c 5 0)=o
 ·have htw:tlw c m=o:=hw
  have ews:(m.swap (adr c 5 0) (m.word (adr c 5 0)) o z).mem.words=m.mem.words.set (adr c 5 0) z:=by simp only[Mch.swap];rw[if_pos hw]
  have e:sx stk pr c h a (m.swap (adr c 5 0) (m.word (adr c 5 0)) o z)=sx stk pr c h a m:=by
   unfold sx
   rw[mv_tail hok ews hA5]
  have et:tlw c (m.swap (adr c 5 0) (m.word (adr c 5 0)) o z)=z:=by
   unfold tlw
   rw[Jx ews hA5,if_pos rfl]
  obtain⟨pre,s,u,y1,y2,y3⟩:=tl_adv G T (by rw[htw];exact hl htw) hz
  rw[et]
  exact⟨e,.adv pre s u y1 rfl y2 y3,TlI.adv y1 y3⟩
 ·have e:sx stk pr c h a (m.swap (adr c 5 0) (m.word (adr c 5 0)) o z)=sx stk pr c h a m:=ZR (by simp only[Mch.swap];rw[if_neg hw])
  have et:tlw c (m.swap (adr c 5 0) (m.word (adr c 5 0)) o z)=tlw c m:=QQ (by simp only[Mch.swap];rw[if_neg hw])
  rw[et]
  exact⟨e,.same rfl rfl,T⟩
theorem TlI.tail {stk rest:List Int}{b u:Int}(T:TlI stk tl)(e:stk=b::rest)(hn:b∉rest)(hu:u∈rest)(e2:tl=u+1):TlI rest tl:=by
 obtain⟨pre,s,post,e3,hp,e4⟩:=T
 have hsu:s=u:=by omega
 subst hsu
 cases pre with
 | nil=>
  rw[e]at e3
  injection e3 with q1 q2
  exact absurd (q1▸hu) hn
 | cons b' pre=>
  rw[e]at e3
  injection e3 with q1 q2
  exact⟨pre,s,post,q2,hp,e4⟩
theorem get_kd {p:Gt}{i:Nat}{cl:Cll}{se:Sea}(C:Core c Lg S N h a m)(ht:(t:Int)<c.T)(hm:m.thread=(t:Int))(hu:p.thread=(t:Int))(hus:m.used=false)(hd:0≤h.held.getD t 0)(I:GtI c p)(hn:n<4294967295)(T:TlI stk (tlw c m))
  (G:Gd c n Z Y F (sx stk pr c h a m) (kS (.get p)) (kL (.get p))) (D:GtD c t (sx stk pr c h a m) (tlw c m) p):KP stk (quStk c m stk (.get p)) c (n+1) Z Y pr h a m t (Jb (h,a) m i t cl se (.get p)):=by
 have hok:=C.ok
 obtain rfl:=C.hc
 haveI:=q_qok hok
 obtain⟨r1,_⟩:=C.hget ht
 have hlt:t<h.held.length:=by rw[C.held];omega
 have hh:h.held[t]? = some (h.held.getD t 0):=by rw[Yb,Yd hlt];rfl
 have ho:∀k:Int,0≤k→k≤1→Own h.c t (sx stk pr h.c h a m) (hz0 h.c t (sx stk pr h.c h a m)+k):=fun k k0 k1=>own_hz0 hok ⟨_,hh,hd,r1⟩ k0 k1
 have ho0:=ho 0 (by omega) (by omega)
 rw[Int.add_zero]at ho0
 have ho1:=ho 1 (by omega) (by omega)
 obtain⟨j0,j1⟩:=JG hok ho0
 obtain⟨j2,j3⟩:=JG hok ho1
 have hpt:p.thread.toNat=t:=by omega
 have hpz:∀k:Int,qHz h p.thread k=adr h.c 9 (hz0 h.c t (sx stk pr h.c h a m)+k):=by
  intro k
  unfold qHz adr hz0
  rw[hpt,Int.add_assoc];rfl
 have hpz0:qHz h p.thread 0=adr h.c 9 (hz0 h.c t (sx stk pr h.c h a m)):=by rw[hpz 0,Int.add_zero]
 have hZ:∀k,0≤k→k≤1→qQ h.c (qHz h p.thread k):=fun k k0 k1=>hz_q C ht hu hd k0 k1
 have i7:=Lh I.ret
 obtain⟨i1,i2,i3,i4,i5,i6,_⟩:=I
 have hk10:¬(p.stage=10∧m.word (adr h.c 4 0)=p.h0)→quStk h.c m stk (.get p)=stk:=fun h8=>by simp only[quStk];rw[if_neg h8]
 have eld:∀A u,sx stk pr h.c h a (m.load A u)=sx stk pr h.c h a m:=fun A u=>ZR rfl
 have etl0:∀A u,tlw h.c (m.load A u)=tlw h.c m:=fun A u=>QQ rfl
 have tp:m.word (adr h.c 4 0)=p.h0→1≤p.h0→∃rest,stk=(p.h0-1)::rest:=by
  intro hw h1
  have hk:=G.lk
  have hk:Chain (mv h.c m).ln (m.word (adr h.c 4 0)) stk:=hk
  rw[hw]at hk
  cases stk with
  | nil=>have:p.h0=0:=hk;omega
  | cons s rest=>
   obtain⟨k1,k2,k3⟩:=hk
   exact⟨rest,by rw[show p.h0-1=s by omega]⟩
 have ng:=D.ng
 have ld:∀(A:Nat) (u:Int) (p':Gt),¬gS p→p.stage≠12→¬gS p'→p'.stage≠12→GtD h.c t (sx stk pr h.c h a m) (tlw h.c m) p'→KP stk stk h.c (n+1) Z Y pr h a m t (false,(h,a),m.load A u,.get p'):=by
  intro A u p' a1 a2 a3 a4 D'
  obtain⟨y1,y2,_⟩:=Jd a1 a2
  obtain⟨z1,z2,_⟩:=Jd a3 a4
  rw[y1,y2]at G
  refine⟨pr,F,?_,?_,fun _ => ?_,.same rfl (etl0 _ _),by simp only[];rw[etl0];exact T⟩
  ·simp only[Yn,if_false]
   rw[z1,z2,eld]
   exact G.mono (by omega)
  ·simp only[];rw[eld];exact Rl.refl ..
  ·simp only[]
   rw[eld,etl0]
   exact D'
 simp only[Jb]
 unfold QD
 simp only[]
 by_cases s1:p.stage=1
 ·rw[hk10 (by omega),if_pos s1]
  exact ld _ _ _ (Jv (by omega)) (by omega) (Jv (by simp)) (by simp) (gtd_vac (.inr (.inr (.inl rfl))) (ng (by omega)))
 rw[if_neg s1]
 have h0:=i2 (by omega)
 by_cases s2:p.stage=2
 ·rw[hk10 (by omega),if_pos s2]
  obtain⟨y1,y2,_⟩:=Jd (p:=p) (Jv (by omega)) (by omega)
  rw[y1,y2]at G
  have hZ0:=hZ 0 (by omega) (by omega)
  rw[hpz0]at hZ0 ⊢
  obtain⟨pr',g1',g2',g3'⟩:=hzq_gd (n:=n) (Z:=Z) (Y:=Y) (F:=F) C ho0 p.h0 G
  have htl:tlw h.c (m.store (adr h.c 9 (hz0 h.c t (sx stk pr h.c h a m))) (m.word (adr h.c 9 (hz0 h.c t (sx stk pr h.c h a m)))) p.h0)=tlw h.c m:=tl_nt (Q4 (Q:=qQ h.c) _ hZ0 _ _)
  obtain⟨z1,z2,z3⟩:=Jd (p:={ p with stage:=3 }) (Jv (by simp)) (by simp)
  refine⟨pr',F,?_,g2'.weaken (fun j hj=>by rw[hj];exact⟨ho0,_,rfl,rfl,Qm hok 9 (JG hok ho0).1⟩),fun _=>⟨fun _ => ?_,fun hf=>by simp at hf,fun hf=>by simp at hf,fun hf=>by simp at hf,fun hf=>by simp at hf,fun hf=>by simp at hf,fun hf=>by simp at hf,fun hf=>by simp at hf,fun hf=>by simp at hf,fun hf=>by simp at hf,fun hf=>absurd hf (Jv (by simp)),fun s hs=>(by rw[z3]at hs;cases hs),fun _=>ng (by omega)⟩,.same rfl htl,by simp only[];rw[htl];exact T⟩
  ·simp only[Yn,if_false]
   rw[z1,z2]
   exact g1'.mono (by omega)
  ·show(mv h.c _).hz _=p.h0
   rw[g3']
   exact Qs ..
 rw[if_neg s2]
 by_cases s3:p.stage=3
 ·rw[hk10 (by omega),if_pos s3]
  split
  ·rename_i hw
   obtain⟨rest,hst⟩:=tp hw h0.1
   have hz:=D.hz s3
   refine ld _ _ _ (Jv (by omega)) (by omega) (Jv (by simp)) (by simp) (GtM.d ⟨⟨G.pr2 _ j0 j1 (by rw[hz];exact h0.1) ?_,hz⟩,.inl ⟨rest,hst⟩,fun hf=>by simp at hf,fun hf=>by simp at hf,fun hf=>by simp at hf,fun hf=>by simp at hf,fun hf=>by simp at hf,fun hf=>by simp at hf,fun hf=>by simp at hf⟩ (by simp) (by simp) (ng (by omega)))
   rw[hz]
   exact G.stK _ (by show p.h0-1∈stk;rw[hst];exact List.mem_cons_self ..)
  ·exact ld _ _ _ (Jv (by omega)) (by omega) (Jv (by simp)) (by simp) (gtd_vac (.inr (.inr (.inl rfl))) (ng (by omega)))
 rw[if_neg s3]
 by_cases s4:p.stage=4
 ·rw[hk10 (by omega),if_pos s4]
  have M:=D.mid (by omega) (by omega)
  refine ld _ _ _ (Jv (by omega)) (by omega) (Jv (by simp)) (by simp) (GtM.d ⟨M.pr,M.hd,fun _ hne => ?_,fun hf=>by simp at hf,fun hf=>by simp at hf,fun hf=>by simp at hf,fun hf=>by simp at hf,fun hf=>by simp at hf,fun hf=>by simp at hf⟩ (by simp) (by simp) (ng (by omega)))
  intro pre post hst
  have hst:stk=pre++(p.h0-1)::post:=hst
  have hmem:=T.mem
  have hne:tlw h.c m≠p.h0:=hne
  obtain⟨n1,n2⟩:=G.nodup (s:=p.h0-1) hst
  rcases M.hd with⟨rest,e⟩|⟨e,_⟩
  ·have e:stk=(p.h0-1)::rest:=e
   have hp:pre=[]:=by
    cases pre with
    | nil=>rfl
    | cons b pre=>
     rw[e]at hst
     injection hst with q1 q2
     exact absurd (q1▸List.mem_cons_self ..) n1
   subst hp
   rw[hst]at hmem
   rcases List.mem_cons.1 hmem with q|q
   ·omega
   ·exact⟨_,q,by omega⟩
  ·exact absurd (by show p.h0-1∈stk;rw[hst];simp) e
 rw[if_neg s4]
 by_cases s5:p.stage=5
 ·rw[hk10 (by omega),if_pos s5]
  have M:=D.mid (by omega) (by omega)
  split
  ·exact ld _ _ _ (Jv (by omega)) (by omega) (Jv (by simp)) (by simp) (GtM.d ⟨M.pr,M.hd,fun _=>M.tl (by omega),fun hf=>by simp at hf,fun hf=>by simp at hf,fun _=>ln_at (s:=p.h0-1) (by omega) (by omega),fun hf=>by simp at hf,fun hf=>by simp at hf,fun hf=>by simp at hf⟩ (by simp) (by simp) (ng (by omega)))
  ·obtain⟨y1,y2,_⟩:=Jd (p:=p) (Jv (by omega)) (by omega)
   rw[y1,y2]at G
   have hng:p.got=false:=ng (by omega)
   obtain⟨z1,z2,_⟩:=Jd (p:={ p with n:=m.word (adr h.c 13 (p.h0-1)),stage:=11 }) (fun hg=>by rw[show p.got=true from hg.2]at hng;cases hng) (by simp)
   have e:sx stk pr h.c h a (((m.load (adr h.c 13 (p.h0-1)) (m.word (adr h.c 13 (p.h0-1)))).point i cl m.now).answer t se 3 0)=sx stk pr h.c h a m:=ZR rfl
   have et:tlw h.c (((m.load (adr h.c 13 (p.h0-1)) (m.word (adr h.c 13 (p.h0-1)))).point i cl m.now).answer t se 3 0)=tlw h.c m:=QQ rfl
   refine⟨pr,F,?_,?_,fun _=>gtd_vac (.inr (.inr (.inr rfl))) hng,.same rfl et,by simp only[];rw[et];exact T⟩
   ·simp only[Yn,if_false]
    rw[z1,z2,e]
    exact G.mono (by omega)
   ·simp only[];rw[e];exact Rl.refl ..
 rw[if_neg s5]
 by_cases s6:p.stage=6
 ·rw[hk10 (by omega),if_pos s6]
  have M:=D.mid (by omega) (by omega)
  obtain⟨y1,y2,_⟩:=Jd (p:=p) (Jv (by omega)) (by omega)
  rw[y1,y2]at G
  have hZ1:=hZ 1 (by omega) (by omega)
  rw[hpz 1]at hZ1 ⊢
  obtain⟨pr',g1',g2',g3'⟩:=hzq_gd (n:=n) (Z:=Z) (Y:=Y) (F:=F) C ho1 p.n G
  have htl:tlw h.c (m.store (adr h.c 9 (hz0 h.c t (sx stk pr h.c h a m)+1)) (m.word (adr h.c 9 (hz0 h.c t (sx stk pr h.c h a m)+1))) p.n)=tlw h.c m:=tl_nt (Q4 (Q:=qQ h.c) _ hZ1 _ _)
  obtain⟨z1,z2,z3⟩:=Jd (p:={ p with stage:=7 }) (Jv (by simp)) (by simp)
  have hq:=g2'.hz (hz0 h.c t (sx stk pr h.c h a m)) (by omega)
  have hln:∀s,(mv h.c (m.store (adr h.c 9 (hz0 h.c t (sx stk pr h.c h a m)+1)) (m.word (adr h.c 9 (hz0 h.c t (sx stk pr h.c h a m)+1))) p.n)).ln s=(mv h.c m).ln s:=fun s=>by rw[g3']
  refine⟨pr',F,?_,g2'.weaken (fun j hj=>by rw[hj];exact⟨ho1,_,rfl,rfl,Qm hok 9 (JG hok ho1).1⟩),fun _=>GtM.d ⟨⟨hq.2 M.pr.1,hq.1.trans M.pr.2⟩,?_,fun _ hne => ?_,fun hf=>by simp at hf,fun hf=>by simp at hf,fun _=>(hln _).trans (M.lnk (by omega)),fun _ => ?_,fun hf=>by simp at hf,fun hf=>by simp at hf⟩ (by simp) (by simp) (ng (by omega)),.same rfl htl,by simp only[];rw[htl];exact T⟩
  ·simp only[Yn,if_false]
   rw[z1,z2]
   exact g1'.mono (by omega)
  ·rcases M.hd with e|⟨e1,e2⟩
   ·exact .inl e
   ·exact .inr ⟨e1,fun hf=>e2 ((hln _).symm.trans hf)⟩
  ·intro pre post hst
   simp only[htl]
   exact M.tl (by omega) hne pre post hst
  ·show(mv h.c _).hz _=p.n
   rw[g3']
   exact Qs ..
 rw[if_neg s6]
 by_cases s7:p.stage=7
 ·rw[hk10 (by omega),if_pos s7]
  have M:=D.mid (by omega) (by omega)
  have hn4:=i4 (by omega) (by omega)
  split
  ·rename_i hw
   split
   ·rename_i hht
    exact ld _ _ _ (Jv (by omega)) (by omega) (Jv (by simp)) (by simp) (GtM.d ⟨M.pr,M.hd,fun _=>M.tl (by omega),fun hf=>by simp at hf,fun _=>hht.symm,fun _=>M.lnk (by omega),fun hf=>by simp at hf,fun hf=>by simp at hf,fun hf=>by simp at hf⟩ (by simp) (by simp) (ng (by omega)))
   ·rename_i hht
    obtain⟨rest,hst⟩:=tp hw h0.1
    have hl:=M.lnk (by omega)
    have hl:(mv h.c m).ln (p.h0-1)=p.n:=hl
    have hk:=G.lk
    have hk:Chain (mv h.c m).ln (mv h.c m).top stk:=hk
    rw[hst]at hk
    obtain⟨k1,k2,k3⟩:=hk
    rw[hl]at k3
    have hz1:=M.hz1 s7
    refine ld _ _ _ (Jv (by omega)) (by omega) (Jv (by simp)) (by simp) (GtM.d ⟨M.pr,M.hd,fun _=>M.tl (by omega),fun _ hf=>hht hf.symm,fun hf=>by simp at hf,fun _=>M.lnk (by omega),fun hf=>by simp at hf,fun _=>⟨G.pr2 _ j2 j3 (by rw[hz1];exact hn4.1) ?_,hz1⟩,fun hf=>by simp at hf⟩ (by simp) (by simp) (ng (by omega)))
    rw[hz1]
    refine G.stK _ ?_
    show p.n-1∈stk
    cases rest with
    | nil=>have:p.n=0:=k3;omega
    | cons b rest=>
     have:p.n=b+1:=k3.1
     rw[hst,show p.n-1=b by omega]
     simp
  ·exact ld _ _ _ (Jv (by omega)) (by omega) (Jv (by simp)) (by simp) (gtd_vac (.inr (.inr (.inl rfl))) (ng (by omega)))
 rw[if_neg s7]
 by_cases s8:p.stage=8
 ·rw[hk10 (by omega),if_pos s8]
  have M:=D.mid (by omega) (by omega)
  have hn4:=i4 (by omega) (by omega)
  obtain⟨y1,y2,_⟩:=Jd (p:=p) (Jv (by omega)) (by omega)
  rw[y1,y2]at G
  obtain⟨z1,z2,_⟩:=Jd (p:={ p with stage:=1 }) (Jv (by simp)) (by simp)
  obtain⟨e,Q,T2⟩:=get_swp (o:=p.t) (z:=p.n) C T G (by omega) (fun _=>by rw[M.eq8 s8];exact M.lnk (by omega))
  refine⟨pr,F,?_,?_,fun _=>gtd_vac (.inr (.inl rfl)) (ng (by omega)),?_,T2⟩
  ·simp only[Yn,if_false]
   rw[z1,z2,e]
   exact G.mono (by omega)
  ·simp only[];rw[e];exact Rl.refl ..
  ·simp only[];rw[e];exact Q
 rw[if_neg s8]
 by_cases s9:p.stage=9
 ·rw[hk10 (by omega),if_pos s9]
  have M:=D.mid (by omega) (by omega)
  have hn4:=i4 (by omega) (by omega)
  refine ld _ _ _ (Jv (by omega)) (by omega) (Jv (by simp)) (by simp) (GtM.d ⟨M.pr,M.hd,fun _=>M.tl (by omega),fun _=>M.gt (by omega),fun hf=>by simp at hf,fun _=>M.lnk (by omega),fun hf=>by simp at hf,fun _=>M.pr1 (.inl s9),fun _ _ => ?_⟩ (by simp) (by simp) (ng (by omega)))
  show wrap64 _=wrap64 ((mv h.c m).val (p.n-1))
  rw[val_at (by omega) (by omega)]
 rw[if_neg s9]
 by_cases s10:p.stage=10
 ·rw[if_pos s10]
  have M:=D.mid (by omega) (by omega)
  have hn4:=i4 (by omega) (by omega)
  obtain⟨y1,y2,_⟩:=Jd (p:=p) (Jv (by omega)) (by omega)
  rw[y1,y2]at G
  have hA:adr h.c 4 0<m.mem.words.length:=C.lt (adr4_lt hok)
  split
  ·rename_i hw
   obtain⟨rest,hst⟩:=tp hw h0.1
   have hk:quStk h.c m stk (.get p)=rest:=by simp only[quStk];rw[if_pos ⟨s10,hw⟩,hst];rfl
   rw[hk]
   obtain⟨u,u1,u2⟩:=M.tl (by omega) (M.gt (by omega)) [] rest hst
   obtain⟨b,rest',hr⟩:∃b rest',rest=b::rest':=by
    cases rest with
    | nil=>simp at u1
    | cons b r=>exact⟨b,r,rfl⟩
   obtain⟨_,hnr⟩:=G.nodup (pre:=[]) (post:=rest) hst
   obtain⟨G2,R2⟩:=G.detach (t:=t) (W:=fun _=>False) hst ⟨4,(t:Int)⟩ rfl
   have hl:(mv h.c m).ln (p.h0-1)=p.n:=M.lnk (by omega)
   have hslt:(p.h0-1).toNat<a.slots.length:=by rw[C.slots];omega
   have e3:=Jy (a:=a) (th:=m.thread) (to:=4) (s:=p.h0-1) (by omega) hslt
   rw[if_neg (by omega),hm]at e3
   obtain⟨z1,z2,z3⟩:=kS_get11 (p:={ p with got:=true,stage:=11 }) ⟨rfl,rfl⟩
   have ews:∀x1,(((m.swap (adr h.c 4 0) (m.word (adr h.c 4 0)) p.h0 p.n).point i cl m.now).shift (p.h0-1) x1 4).mem.words=m.mem.words.set (adr h.c 4 0) p.n:=by
    intro x1
    simp only[Mch.shift,Mch.point,Mch.swap]
    rw[if_pos hw]
   have e:∀x1,sx rest pr h.c h (a.shift (p.h0-1).toNat m.thread 4) (((m.swap (adr h.c 4 0) (m.word (adr h.c 4 0)) p.h0 p.n).point i cl m.now).shift (p.h0-1) x1 4) =
     { sx stk pr h.c h a m with stk:=rest,V:={ (mv h.c m) with top:=(mv h.c m).ln (p.h0-1) },sl:=updS a.sl (p.h0-1) ⟨4,(t:Int)⟩ }:=by
    intro x1
    unfold sx
    rw[mv_top hok (z:=p.n) (m:=m) (ews x1) hA,hm,e3,hl];rfl
   have et:∀x1,tlw h.c (((m.swap (adr h.c 4 0) (m.word (adr h.c 4 0)) p.h0 p.n).point i cl m.now).shift (p.h0-1) x1 4)=tlw h.c m:=by
    intro x1
    unfold tlw
    rw[Jx (ews x1) hA,if_neg (q45 hok).symm]
   refine⟨pr,F,?_,?_,fun _ => ?_,.det (p.h0-1) b rest' (by rw[←hr];exact hst) hr (et _),by simp only[];rw[et];exact T.tail hst hnr u1 u2⟩
   ·simp only[Yn,if_false]
    rw[z1,z2,e]
    exact G2.mono (by omega)
   ·simp only[];rw[e];exact R2.weaken (fun _ h=>h.elim)
   ·simp only[]
    rw[e]
    exact⟨fun hf=>by simp at hf,fun _ hf=>by simp at hf,fun _ hf=>by simp at hf,fun _ hf=>by simp at hf,fun _ hf=>by simp at hf,fun hf=>by simp at hf,fun _ hf=>by simp at hf,fun hf=>by simp at hf,fun hf=>by simp at hf,fun hf=>by simp at hf,fun _=>Qv ..,fun s hs=>(by rw[z3]at hs;cases hs),fun hf=>by simp at hf⟩
  ·rename_i hw
   rw[hk10 (by rintro⟨_,h⟩;exact hw h)]
   have e:sx stk pr h.c h a (m.swap (adr h.c 4 0) (m.word (adr h.c 4 0)) p.h0 p.n)=sx stk pr h.c h a m:=ZR (by simp only[Mch.swap];rw[if_neg hw])
   have et:tlw h.c (m.swap (adr h.c 4 0) (m.word (adr h.c 4 0)) p.h0 p.n)=tlw h.c m:=QQ (by simp only[Mch.swap];rw[if_neg hw])
   obtain⟨z1,z2,z3⟩:=Jd (p:={ p with stage:=1 }) (Jv (by simp)) (by simp)
   refine⟨pr,F,?_,?_,fun _=>gtd_vac (.inr (.inl rfl)) (ng (by omega)),.same rfl et,by simp only[];rw[et];exact T⟩
   ·simp only[Yn,if_false]
    rw[z1,z2,e]
    exact G.mono (by omega)
   ·simp only[];rw[e];exact Rl.refl ..
 rw[if_neg s10,hk10 (by omega)]
 by_cases s11:p.stage=11
 ·rw[if_pos s11]
  have hcl:=i6 s11
  have hZc:=hZ p.cleared (by omega) (by omega)
  have hoc:=ho p.cleared (by omega) (by omega)
  unfold gtEnd
  simp only[]
  rw[hpz p.cleared]at hZc ⊢
  obtain⟨pr',g1,g2,g3⟩:=hzq_gd (n:=n) (Z:=Z) (Y:=Y) (F:=F) C hoc 0 G
  have htl:tlw h.c (m.store (adr h.c 9 (hz0 h.c t (sx stk pr h.c h a m)+p.cleared)) (m.word (adr h.c 9 (hz0 h.c t (sx stk pr h.c h a m)+p.cleared))) 0)=tlw h.c m:=tl_nt (Q4 (Q:=qQ h.c) _ hZc _ _)
  have g2w:=g2.weaken (W':=OwW h.c t (sx stk pr h.c h a m) m.mem.log (m.store (adr h.c 9 (hz0 h.c t (sx stk pr h.c h a m)+p.cleared)) (m.word (adr h.c 9 (hz0 h.c t (sx stk pr h.c h a m)+p.cleared))) 0).mem.log) (fun j hj=>by rw[hj];exact⟨hoc,_,rfl,rfl,Qm hok 9 (JG hok hoc).1⟩)
  split
  ·refine⟨pr',F,?_,g2w,fun _ => ?_,.same rfl htl,by simp only[];rw[htl];exact T⟩
   ·simp only[Yn,if_false]
    exact g1.mono (by omega)
   ·by_cases hg:p.got=true
    ·exact⟨fun hf=>by simp only[s11]at hf;omega,fun _ hf=>by simp only[s11]at hf;omega,fun _ hf=>by simp only[s11]at hf;omega,fun _ hf=>by simp only[s11]at hf;omega,fun _ hf=>by simp only[s11]at hf;omega,fun hf=>by simp only[s11]at hf;omega,fun _ hf=>by simp only[s11]at hf;omega,fun hf=>by simp only[s11]at hf;omega,fun hf=>by simp only[s11]at hf;omega,fun hf=>by simp only[s11]at hf;omega,fun _=>D.own ⟨s11,hg⟩,fun s hs=>(by unfold gtSc at hs;rw[if_neg (by simp only[s11];omega)]at hs;cases hs),fun hf=>by simp only[s11]at hf;omega⟩
    ·exact gtd_vac (.inr (.inr (.inr s11))) (by simpa using hg)
  ·split
   ·rename_i hg
    obtain⟨y1,y2,_⟩:=Jd (p:=p) (fun hf=>by rw[hf.2]at hg;cases hg) (by omega)
    rw[y1,y2]at g1
    refine⟨pr',F,?_,g2w,fun hf=>(by cases hf),.same rfl htl,by simp only[];rw[htl];exact T⟩
    simp only[if_true]
    exact g1.mono (by omega)
   ·rename_i hg
    have hgt:p.got=true:=by simpa using hg
    obtain⟨y1,y2,_⟩:=kS_get11 (p:=p) ⟨s11,hgt⟩
    rw[y1,y2]at g1
    have hsl:a.sl (p.h0-1)=⟨4,(t:Int)⟩:=D.own ⟨s11,hgt⟩
    have hth:((m.store (adr h.c 9 (hz0 h.c t (sx stk pr h.c h a m)+p.cleared)) (m.word (adr h.c 9 (hz0 h.c t (sx stk pr h.c h a m)+p.cleared))) 0).answer t se 2 p.value).thread=(t:Int):=hm
    have hwd:((m.store (adr h.c 9 (hz0 h.c t (sx stk pr h.c h a m)+p.cleared)) (m.word (adr h.c 9 (hz0 h.c t (sx stk pr h.c h a m)+p.cleared))) 0).answer t se 2 p.value).mem.words=(m.store (adr h.c 9 (hz0 h.c t (sx stk pr h.c h a m)+p.cleared)) (m.word (adr h.c 9 (hz0 h.c t (sx stk pr h.c h a m)+p.cleared))) 0).mem.words:=rfl
    have htl2:=(QQ (c:=h.c) hwd).trans htl
    have hlg:((m.store (adr h.c 9 (hz0 h.c t (sx stk pr h.c h a m)+p.cleared)) (m.word (adr h.c 9 (hz0 h.c t (sx stk pr h.c h a m)+p.cleared))) 0).answer t se 2 p.value).mem.log=(m.store (adr h.c 9 (hz0 h.c t (sx stk pr h.c h a m)+p.cleared)) (m.word (adr h.c 9 (hz0 h.c t (sx stk pr h.c h a m)+p.cleared))) 0).mem.log:=rfl
    generalize (m.store (adr h.c 9 (hz0 h.c t (sx stk pr h.c h a m)+p.cleared)) (m.word (adr h.c 9 (hz0 h.c t (sx stk pr h.c h a m)+p.cleared))) 0).answer t se 2 p.value=mw at hth hwd htl2 hlg ⊢
    have e0:=ZR (stk:=stk) (pr:=pr') (c:=h.c) (h:=h) (a:=a) hwd
    rw[←e0]at g1 g2w
    rw[←hlg]at g2w
    obtain⟨G4,R4⟩:=g1.state (t:=t) (W:=fun _=>False) (s:=p.h0-1) (List.mem_cons_self ..) ⟨5,(t:Int)⟩ (by simp) (.inl rfl)
    obtain⟨f1,f2,f3⟩:=C.lget hd r1
    have hslt:(p.h0-1).toNat<a.slots.length:=by rw[C.slots];omega
    obtain⟨G5,R5⟩:=G4.list (t:=t) (W:=fun _=>False) hd r1 (by exact hh) (l:=h.lists.getD (h.held.getD t 0).toNat []) (l':=h.lists.getD (h.held.getD t 0).toNat []++[p.h0-1]) (K':=[]) f1 (fun s'=>by
     simp only[List.count_append,List.count_nil];omega) (fun s0 h0'=>by
     show(updS a.sl (p.h0-1) ⟨5,(t:Int)⟩ s0).state=5
     rcases List.mem_append.1 h0' with h0'|h0'
     ·by_cases es:s0=p.h0-1
      ·rw[es,Qv]
      ·rw[updS_ne _ _ es]
       exact g1.stL _ (Yc f1) s0 h0'
     ·simp at h0';rw[h0',Qv])
    have R6:=g2w.trans ((R4.trans R5).weaken (W':=OwW h.c t (sx stk pr h.c h a m) m.mem.log mw.mem.log) (fun _ h=>h.elim))
    unfold Zx
    simp only[hpt,hth]
    have e7:=Jy (a:=a) (th:=(t:Int)) (to:=5) (s:=p.h0-1) (by omega) hslt
    rw[if_neg (by omega)]at e7
    have e:∀x1,sx stk pr' h.c { h with lists:=h.lists.set (h.held.getD t 0).toNat (h.lists.getD (h.held.getD t 0).toNat []++[p.h0-1]) } (a.shift (p.h0-1).toNat (t:Int) 5) (mw.shift (p.h0-1) x1 5) =
      { sx stk pr' h.c h a mw with sl:=updS a.sl (p.h0-1) ⟨5,(t:Int)⟩,lists:=h.lists.set (h.held.getD t 0).toNat (h.lists.getD (h.held.getD t 0).toNat []++[p.h0-1]) }:=by
     intro x1
     unfold sx
     rw[e7,mv_same (m:=mw) (m':=mw.shift (p.h0-1) x1 5) rfl];rfl
    have et:∀x1,tlw h.c (mw.shift (p.h0-1) x1 5)=tlw h.c m:=fun x1=>(QQ rfl).trans htl2
    split
    ·refine⟨pr',F,?_,?_,fun hf=>(by cases hf),.same rfl (et _),by simp only[];rw[et];exact T⟩
     ·simp only[if_true];rw[e];exact G5.mono (by omega)
     ·simp only[];rw[e];exact R6
    ·generalize hh1:({ h with lists:=h.lists.set (h.held.getD t 0).toNat (h.lists.getD (h.held.getD t 0).toNat []++[p.h0-1]) }:Haz)=h1
     obtain⟨n1,n2,n3,n4⟩:=next_sd (h:=h1) (s:={ (⟨p.thread,h.held.getD t 0,6,0,false,fun _=>0,[],none⟩:Scn) with at_ := -1 }) (t:=t) (sx stk pr' h.c h1 (a.shift (p.h0-1).toNat (t:Int) 5) (mw.shift (p.h0-1) (a.slots.getD (p.h0-1).toNat ⟨0,0⟩).state 5)) (by rw[←hh1];exact hh)
     have n2:scnP (ZM h1 ⟨p.thread,h.held.getD t 0,6,0,false,fun _=>0,[],none⟩).2=[]:=n2
     have n3:lkS (ZM h1 ⟨p.thread,h.held.getD t 0,6,0,false,fun _=>0,[],none⟩).2=[]:=n3
     obtain⟨z1,z2,z3⟩:=kS_get12 (p:={ p with cleared:=p.cleared+1,retire:=some { thread:=p.thread,slot:=p.h0-1,scan:=some (ZM h1 ⟨p.thread,h.held.getD t 0,6,0,false,fun _=>0,[],none⟩).2 },stage:=12 }) rfl rfl rfl
     refine⟨pr',F,?_,?_,fun _=>⟨fun hf=>by simp at hf,fun _ hf=>by simp at hf,fun _ hf=>by simp at hf,fun _ hf=>by simp at hf,fun _ hf=>by simp at hf,fun hf=>by simp at hf,fun _ hf=>by simp at hf,fun hf=>by simp at hf,fun hf=>by simp at hf,fun hf=>by simp at hf,fun hf=>by have:=hf.1;simp at this,fun s hs => ?_,fun hf=>by simp at hf⟩,.same rfl (et _),by simp only[];rw[et];exact T⟩
     ·simp only[]
      rw[z1,z2,n2,n3,ite_self,←hh1,e]
      exact G5.mono (by omega)
     ·simp only[];rw[←hh1,e];exact R6
     ·simp only[]at hs ⊢
      rw[z3]at hs
      cases hs
      exact n1
 rw[if_neg s11]
 have s12:p.stage=12:=by omega
 obtain⟨r,sc,e1,e2,e3,e4⟩:=i7.out s12
 obtain⟨y1,y2,y3⟩:=kS_get12 s12 e1 e2
 rw[y1,y2]at G
 rw[e1]
 simp only[e2]
 have Ev:=tl_nt (evq_nt (evq_scan (Q:=qQ h.c) (i:=i) (t:=t) C e3 hus))
 simp only[]at Ev
 obtain⟨⟨F',g1⟩,g2,g3,g4⟩:=scan_gd (W:=fun _=>False) C e3 (e4.trans hu) hm ht hn G (D.scan sc y3)
 generalize Zs h a m sc=q at g1 g2 g3 g4 Ev ⊢
 obtain⟨z1,z2,z3⟩:=kS_get12 (p:={ p with retire:=some { r with scan:=some q.2.2.2.2 } }) s12 rfl rfl
 refine⟨pr,F',?_,g2.weaken (fun _ h=>h.elim),fun _=>⟨fun hf=>by simp only[s12]at hf;omega,fun _ hf=>by simp only[s12]at hf;omega,fun _ hf=>by simp only[s12]at hf;omega,fun _ hf=>by simp only[s12]at hf;omega,fun _ hf=>by simp only[s12]at hf;omega,fun hf=>by simp only[s12]at hf;omega,fun _ hf=>by simp only[s12]at hf;omega,fun hf=>by simp only[s12]at hf;omega,fun hf=>by simp only[s12]at hf;omega,fun hf=>by simp only[s12]at hf;omega,fun hf=>by have:=hf.1;simp only[s12]at this;omega,fun s hs => ?_,fun hf=>by simp only[s12]at hf;omega⟩,.same rfl Ev,by simp only[];rw[Ev];exact T⟩
 ·simp only[z1,z2]
  by_cases hb:q.1=true
  ·have h6:=g4 hb
   have k1:scnP q.2.2.2.2=[]:=by unfold scnP;rw[if_neg (by omega)]
   have k2:lkS q.2.2.2.2=[]:=by unfold lkS;rw[if_neg (by omega)]
   rw[if_pos hb,if_pos hb]
   rw[k1,k2]at g1;exact g1
  ·rw[if_neg hb,if_neg hb];exact g1
 ·rw[z3]at hs
  cases hs
  exact g3
end
end
end Go.Proofs.YtefjbdajgakgpaaGreat
