/-
  StackLinear, walked.
-/
import Derived.Test.YtjagadldibbbbaaGreatDStkM3
set_option linter.all false
namespace Go.Proofs.YtjagadldibbbbaaGreat
open Go.RowKit Hp
set_option maxRecDepth 100000
set_option maxHeartbeats 4000000
attribute [local irreducible] Go.Calls Go.wpList
structure LnW (TP V LK S0:Nat)(cs:List Cll)(ws:List Int)(M:List Nat)(S:Nat→List Int)(stk:List Nat)(l:List Int):Prop where
 byp:BypQ cs M
 lin:LinQ cs M S
 ch:ChQ TP V LK S0 ws stk l
 fin:S M.length=l
 len:∀j,j≤M.length→(S j).length≤j
 ml:M.length≤cs.length
theorem BypQ.lt {cs:List Cll}{M:List Nat}(h:BypQ cs M):∀i∈M,i<cs.length:=fun i hi=>by
 obtain⟨x,h1,_⟩:=(h.mem i).1 hi
 exact(List.getElem?_eq_some_iff.1 h1).1
theorem BypQ.ml {cs:List Cll}{M:List Nat}(h:BypQ cs M):M.length≤cs.length:=by
 have hn:M.Nodup:=(List.Pairwise.imp (fun {a b} hab=>by intro e;subst e;omega) h.srt)
 have:=nodup_len'' (w:=List.range cs.length) hn (fun i hi=>List.mem_range.2 (h.lt i hi))
 simpa using this
theorem LinE.len {x:Cll}{b a:List Int}(h:LinE x b a):a.length≤b.length+1:=by
 rcases h.does with⟨_,_,h⟩|⟨_,_,h,_⟩|⟨_,v,h,_⟩
 ·rw[h];simp
 ·rw[h];simp
 ·rw[h];simp;omega
theorem LinQ.len {cs:List Cll}{M:List Nat}{S:Nat→List Int}(h:LinQ cs M S):∀j,j≤M.length→(S j).length≤j
 | 0,_=>by rw[h.s0];simp
 | j+1,hj=>by
  obtain⟨x,_,hE⟩:=h.ent j M[j] (Yd (by omega))
  have:=hE.len
  have:=LinQ.len h j (by omega)
  omega
theorem ln_w {c:Cfg}{N:Nat}{mvs:List Mv}{y:GW Zm}(hw:∀mv∈mvs,wrap64 mv.arg=mv.arg)(P:PG (SI c) c N y)(J:LnJ c N y)(A:ArgM mvs y) :
  ∃M S stk l,LnW (adr c 3 0) (base c 11).toNat (base c 13).toNat c.Sl.toNat y.m.calls y.m.mem.words M S stk l:=by
 obtain⟨stk,pr,F,o,D,L⟩:=J.ex
 have ha:∀x∈y.m.calls,wrap64 x.arg=x.arg:=fun x hx=>by
  obtain⟨⟨mv,h1,h2⟩,_⟩:=A x hx
  rw[h2];exact hw mv h1
 have hB:=L.byp
 have hL:=L.linq ha
 refine⟨o.map (·.i),stO o (stk.map (vfo c y.m)),stk.map Int.toNat,stk.map (vfo c y.m),hB,hL,D.chq P,?_,hL.len,hB.ml⟩
 unfold stO
 rw[List.length_map,List.getElem?_eq_none (Nat.le_refl _)]
theorem stack_linear (c:Cfg)(mvs:List Mv)(v:Value)(hw0:∀mv∈mvs,wrap64 mv.arg=mv.arg)(A:Zc)(hRd:Rd A 4 (mvs.map Mv.e) v):Zk Tryz.prog 3 #[c.v,v] A (.bool true) A:=by
 intro O w F hs
 have hAw:=Lh law_awake
 by_cases hfit:SFit c mvs
 ·have hF:=Lh (law_fits c mvs v hfit A hRd)
  have hP:=Lh (law_played2 c mvs hfit v (LnJ c) (ln_start hfit.1) (ln_ok c) A hRd)
  have hCh:=Lh (law_chain c hfit.1)
  obtain⟨b1,b2,b8,b9,b10,b11,b12,b13,b14,rh,rh2,b3⟩:=QI hfit.1
  have hTA:=QQ hfit.1 3 (Int.le_refl 0)
  have hS1:=hfit.1.S1
  have hS2:=hfit.1.S2
  have hV0:=(ZD hfit.1 11).1
  have hL0:=(ZD hfit.1 13).1
  have hbl:=base14_le hfit.1
  obtain⟨a0,c0,rfl⟩:=hRd.len
  simp only[List.length_map]at hF hP hs ⊢
  have hN2:=hfit.2
  have hQ:Hid (∀y:GW Zm,PG (SI c) c mvs.length y∧LnJ c mvs.length y∧ArgM mvs y→(∃M S stk l,LnW (adr c 3 0) (base c 11).toNat (base c 13).toNat c.Sl.toNat y.m.calls y.m.mem.words M S stk l)∧y.m.calls.length<100000∧y.m.mem.words.length<4294967296):=Lh (fun y hy=>by
   have hl:=hy.1.calls
   have hwd:=hy.1.core.words
   exact⟨ln_w hw0 hy.1 hy.2.1 hy.2.2,by omega,by omega⟩)
  have e3:base c 3=((adr c 3 0:Nat):Int):=by omega
  have e11:base c 11=(((base c 11).toNat:Nat):Int):=by omega
  have e13:base c 13=(((base c 13).toNat:Nat):Int):=by omega
  have eS:c.Sl=((c.Sl.toNat:Nat):Int):=by omega
  generalize adr c 3 0=TP at hQ e3
  generalize (base c 11).toNat=V at hQ e11
  generalize (base c 13).toNat=LK at hQ e13
  generalize c.Sl.toNat=S0 at hQ eS
  have hCh:Hid (∀(ws:List Int) (stk:List Nat) (l:List Int),ws.length<4294967296→ChQ TP V LK S0 ws stk l→∀a4 c4,Does Tryz.prog 12 #[c.v,.slice a4 ws.length c4] (sl 47 1 (ws.map eU) (.slice a4 ws.length c4))
   (fun u=>(ex fun v=>pu (u=.tuple #[v,.bool true])*sl 3 1 (l.map eI) v)*sl 47 1 (ws.map eU) (.slice a4 ws.length c4))):=Lh (fun ws stk l h1 h2 a4 c4=>hCh.out ws stk l h1 TP V LK S0 e3 e11 e13 eS h2 a4 c4)
  clear hRd hfit b1 b2 b8 b9 b10 b11 b12 b13 b14 rh rh2 b3 hTA hV0 hL0 hbl e3 e11 e13 eS hS1 hS2 hw0
  generalize mvs.length=N at *
  obtain⟨d1,d2,d3,d4,d5,d6,d7⟩:=c
  have hs:=Q8 (E:=3) (sz:=1) hs (by omega)
  go_enter Tryz.func3,Tryz.ntmps3
  (repeat'(first|(go_big_may;(first|((show wpList _ _ _ (Oper.mk (some 2) _ _ _ _ _::_) _ _);(with_reducible apply Zr hs);rfl;rfl;rfl;clear hs;intro w bC hs;(simp only[Uc,Uz]))|((show wpList _ _ _ (Oper.mk (some 5) _ _ _ _ _::_) _ _);(with_reducible apply Zn hs);exact Ii;rfl;clear hs;intro w bR hs;(simp only[Uc,Uz]))|(first|((with_reducible apply Zb hs);exact Ii;rfl;(with_reducible exact Qh);rfl;rfl;(simp only[Uc,Uz]))|((with_reducible apply Z3 hs);exact Ii;rfl;(with_reducible repeat first|exact Qh|apply Qk);rfl;rfl;(simp only[Uc,Uz]))|((with_reducible apply ZH hs);exact Ii;rfl;rfl;(with_reducible exact Qh);rfl;rfl;rfl;rfl;clear hs;intro w hs))|(go_at_call 8;((refine(hF.out).at hs (by (with_reducible repeat first|exact Qh|apply Qk)) ?_);clear hs;intro w hs;(try simp only[Em,Ma]at hs)))|(go_at_call 10;((refine(hP.out).at hs (by (with_reducible exact Qh)) ?_);clear hs;intro v w hs;(try simp only[Em,Ma]at hs));(unfold playedR RunR at hs);(simp only[ZI,Ma,Zx]at hs);(obtain⟨y,vr,⟨hy,rfl⟩,vc,vt,vs,vw,rfl,hs⟩:=hs);(obtain⟨a1,k1,rfl⟩:=ZU (hs.pull (A:=sl 42 9 _ vc) (by (with_reducible exact Qh))));(obtain⟨a2,k2,rfl⟩:=ZU (hs.pull (A:=sl 49 7 _ vt) (by (with_reducible repeat first|exact Qh|apply Qk))));(obtain⟨a3,k3,rfl⟩:=ZU (hs.pull (A:=sl 52 5 _ vs) (by (with_reducible repeat first|exact Qh|apply Qk))));(obtain⟨a4,k4,rfl⟩:=ZU (hs.pull (A:=sl 47 1 _ vw) (by (with_reducible repeat first|exact Qh|apply Qk))));(simp only[List.length_map]at hs ⊢);(obtain⟨⟨M,S,stk,l,hq⟩,hcl,hwl⟩:=hQ.out y hy);(have hBy:=Lh (law_byp y.m.calls M (by omega) hq.byp a1 k1));(have hCc:=Lh (hCh.out y.m.mem.words stk l hwl hq.ch a4 k4));(clear hQ hP hCh hy);(generalize y.m.calls=cs at hs hq hcl hBy ⊢);(generalize y.m.mem.log=lg at hs ⊢);(generalize y.m.shifts=sh at hs ⊢);(generalize y.m.mem.words=ws at hs hq hwl hCc ⊢);(replace hq:=Lh hq))|(go_at_call 11;((refine(hBy.out).at hs (by (with_reducible repeat first|exact Qh|apply Qk)) ?_);clear hs;intro v w hs;(try simp only[Em,Ma]at hs));(obtain⟨a8,k8,rfl⟩:=ZU (hs.pull (A:=sl 3 1 (M.map eN) _) (by (with_reducible exact Qh))));(simp only[List.length_map]at hs ⊢))))|go_step|(dsimp only)))
  have hS0:=hq.out.lin.s0
  have hml:=hq.out.ml
  go_loopw [7,9,10] (fun v7 q _ wr=>∃(j:Nat) (ls:List Int) (ab:Option Addr) (nb:Nat),j≤M.length∧v7=.slice ab ls.length nb∧q=.int .i64 (j:Int)∧Hid (ls=(S j).reverse)∧ls.length≤j ∧
   Sat O wr (sl 3 1 (ls.map eI) (.slice ab ls.length nb)*(sl 3 1 (M.map eN) (.slice a8 M.length k8)*(sl 42 9 (cs.map Cll.e) (.slice a1 cs.length k1)*(pt bR (.cells #[.slice a1 cs.length k1,.slice a2 lg.length k2,.slice a3 sh.length k3,.slice a4 ws.length k4] 32)*(sl 47 1 (ws.map eU) (.slice a4 ws.length k4)*(pt bC (.cells #[.int .i64 d1,.int .i64 d2,.int .i64 d3,.int .i64 d4,.int .i64 d5,.int .i64 d6,.int .i64 d7] 23)*(A*F)))))))) (fun _ q _ _=>M.length+1-(intOf q).toNat)
  case atStart=>exact⟨0,[],none,0,by omega,rfl,rfl,Lh (by rw[hS0];rfl),by simp,by ((with_reducible apply Sat.fin hs);(focus((repeat(first|with_reducible exact Ql|with_reducible exact Qh|with_reducible apply Qb|exact Qh|with_reducible apply Qk));done)))⟩
  case round=>
   obtain⟨j,ls,ab,nb,jl,rfl,rfl,hls,hll,hs⟩:=hrel
   by_cases hjr:j=M.length
   ·subst hjr
    have hlt:decide ((M.length:Int)<(M.length:Int))=false:=by simp
    have hlt2:decide (M.length<M.length)=false:=by simp
    have hfl:Hid (ls=l.reverse):=Lh (by rw[hls.out,hq.out.fin])
    have hll2:Hid (l.length=ls.length):=Lh (by rw[hfl.out,List.length_reverse])
    have hne2:((l.length:Int) != (ls.length:Int))=false:=by rw[hll2.out];simp
    clear hls hS0 hq
    (repeat'(first|((with_reducible apply Qs);((simp only[ev,Ue,Uf]);rfl);((simp only[cond_true,cond_false,ev,Ue,Uf]);rfl);(with_reducible exact ZT);(simp only[Uc,Uz]))|(go_big_may;(first|(first|((with_reducible apply Zb hs);exact Ii;rfl;(with_reducible repeat first|exact Qh|apply Qk);rfl;rfl;(simp only[Uc,Uz]))|((with_reducible apply Z3 hs);exact Ii;rfl;(with_reducible repeat first|exact Qh|apply Qk);rfl;rfl;(simp only[Uc,Uz]))|((with_reducible apply Zw hs);exact Ii;rfl;(with_reducible repeat first|exact Qh|apply Qk);rfl;(simp only[Uc,Uz])))|(go_at_call 12;((refine(hCc.out).at hs (by (with_reducible repeat first|exact Qh|apply Qk)) ?_);clear hs;intro v w hs;(try simp only[Em,Ma]at hs));(simp only[ZI,Ma,Zx]at hs);(obtain⟨v9,rfl,hs⟩:=hs);(obtain⟨a9,k9,rfl⟩:=ZU (hs.pull (A:=sl 3 1 (l.map eI) _) (by (with_reducible exact Qh))));(simp only[List.length_map]at hs ⊢))))|go_guarded|go_step))
    have hq4:=hll2
    go_loopw [13] (fun q wr=>∃i:Nat,i≤l.length∧q=.int .i64 (i:Int)∧Sat O wr (sl 3 1 (l.map eI) (.slice a9 l.length k9)*(sl 3 1 (ls.map eI) (.slice ab ls.length nb)*(A*F)))) (fun q _=>l.length+1-(intOf q).toNat)
    case atStart=>exact⟨0,by omega,rfl,by ((with_reducible apply Sat.fin hs);(with_reducible repeat first|exact Ql|exact Qh|apply Qb|apply Qk))⟩
    case round=>
     obtain⟨i,il,rfl,hs⟩:=hrel
     by_cases hir:i=l.length
     ·subst hir
      have hlt:decide ((l.length:Int)<(l.length:Int))=false:=by simp
      have hlt2:decide (l.length<l.length)=false:=by simp
      (repeat'(first|(go_big_may;((with_reducible apply Zw hs);exact Ii;rfl;(with_reducible exact Qh);rfl;(simp only[Uc,Uz])))|go_step))
      (go_ret)
      exact⟨rfl,by ((with_reducible apply Sat.fin hs);(with_reducible repeat first|exact Ql|exact Qh|apply Qb|apply Qk))⟩
     ·have hil:i<l.length:=by omega
      have hlt:decide ((i:Int)<(l.length:Int))=true:=by simp;omega
      have hlt2:decide (i<l.length)=true:=by simp;omega
      have hiw:i+1<4294967296:=by have:=hll2.out;omega
      have hI:=Lh hil
      obtain⟨z,hz⟩:∃z,l[i]? = some z:=⟨_,Yd hil⟩
      have hz2:ls[ls.length-1-i]? = some z:=by
       rw[hfl.out,List.length_reverse,List.getElem?_reverse (by have:=hll2.out;omega)]
       rw[show l.length-1-(l.length-1-i)=i by have:=hll2.out;omega]
       exact hz
      have hgz:(l.map eI)[i]? = some [.int .i64 z]:=by rw[Ym,hz];rfl
      have hgz2:(ls.map eI)[ls.length-1-i]? = some [.int .i64 z]:=by rw[Ym,hz2];rfl
      have hn1:i<(l.map eI).length:=by have:=hll2.out;simp;omega
      have hn2:ls.length-1-i<(ls.map eI).length:=by have:=hll2.out;simp;omega
      have HE:Hid ((ls.length:Int)-1-(i:Int)=((ls.length-1-i:Nat):Int)):=Lh (by have:=hll2.out;omega)
      have nz:(z != z)=false:=by simp
      clear hz hz2 hir hil
      (repeat'(first|(go_big_may;(first|(rw[HE.out])|(first|(first|(with_reducible refine NQ.mk ?_)|((with_reducible apply Zh);rfl;rfl)|(with_reducible refine Zi ?_))|((with_reducible apply Zu hs);exact Ii;rfl;assumption;(with_reducible repeat first|exact Qh|apply Qk);rfl;(assumption);rfl;rfl;(simp only[Uc,Uz]))|((with_reducible apply ZP hs);exact Ii;exact Ii;rfl;rfl;(with_reducible repeat first|exact Qh|apply Qk);(rfl);(assumption);rfl;intro b off hat;(simp only[Uc,Uz]))|((with_reducible apply Zw hs);exact Ii;rfl;(with_reducible repeat first|exact Qh|apply Qk);rfl;(simp only[Uc,Uz])))|((with_reducible refine Wp (id:=30) (Paz (Pbz [.neu 10,.neu 11,.neu 12])) hs rfl ?_ ?_);kernel_rfl;clear hs;intro w hs)))|go_step))
      go_roundw
      case rel=>exact⟨i+1,by have:=hI.out;omega,by simp,by ((with_reducible apply Sat.fin hs);(with_reducible exact Ql))⟩
      case measure=>have:=hI.out;simp[intOf];omega
   ·have hjl:j<M.length:=by omega
    have hlt:decide ((j:Int)<(M.length:Int))=true:=by simp;omega
    have hlt2:decide (j<M.length)=true:=by simp;omega
    have hjw:j+1<4294967296:=by omega
    have hjn:j<(M.map eN).length:=by simpa using hjl
    obtain⟨i,hi⟩:∃i,M[j]? = some i:=⟨_,Yd hjl⟩
    have hgi:(M.map eN)[j]? = some [.int .i64 (i:Int)]:=by rw[Ym,hi];rfl
    obtain⟨x,hx,hE⟩:=hq.out.lin.ent j i hi
    have hin:i<(cs.map Cll.e).length:=by simpa using (List.getElem?_eq_some_iff.1 hx).1
    have hJ:=Lh (show j+1≤M.length by omega)
    obtain⟨x1,x2,x3,x4,x5,x6,x7,x8,x9⟩:=x
    have hgv:(cs.map Cll.e)[i]? = some (Cll.e ⟨x1,x2,x3,x4,x5,x6,x7,x8,x9⟩):=by rw[Ym,hx];rfl
    obtain⟨f1,f2,f3⟩:=hE
    simp only[]at f1 f2 f3
    have n1:decide (x7≤x5)=false:=by simp;omega
    have hls5:ls.length<4294967295:=by omega
    generalize hSn:S (j+1)=Sn at f3
    generalize S j=Sj at f3 hls
    clear hi hx hjr jl f1 hS0 hjl
    rcases f3 with⟨rfl,g1,g2⟩|⟨rfl,g1,g2,g3⟩|⟨rfl,w0,g1,g2⟩
    ·have hnx:Hid (ls++[x3]=(S (j+1)).reverse):=Lh (by rw[hSn,g2,hls.out,List.reverse_cons])
     clear g2 hls hSn
     have e10:List.map eI ls++[(fun x:Array Value=>x.toList) #[.int .i64 x3]]=(ls++[x3]).map eI:=by simp
     have E10:=Lh e10
     clear e10
     rcases f2 with rfl|⟨f2,f3⟩
     ·clear g1
      (repeat'(first|(((with_reducible apply ZV);rfl;rfl;((simp only[ev,Ue,Uf]);rfl);rfl;(simp only[Uc,Uz]));(repeat((with_reducible apply ZV);rfl;rfl;((simp only[ev,Ue,Uf]);rfl);rfl;(simp only[Uc,Uz]))))|((with_reducible apply Qs);((simp only[ev,Ue,Uf]);rfl);((simp only[cond_true,cond_false,ev,Ue,Uf]);rfl);(first|(with_reducible exact ZT)|((with_reducible apply want_some);rfl;rfl;(simp only[Ue,Uf])));(simp only[Uc,Uz]))|(go_big_may;(first|((show wpList _ _ _ (Oper.mk (some 10) _ _ _ _ _::_) _ _);(with_reducible apply Zn hs);exact Ii;rfl;clear hs;intro w bX hs;(simp only[Uc,Uz]))|(first|(first|(with_reducible refine NQ.mk ?_)|((with_reducible apply Zh);rfl;rfl)|((with_reducible apply Zq);rfl)|(with_reducible refine EQ.mk ?_ ?_)|(first|(with_reducible exact Zf)|((with_reducible refine Zl ?_ ?_);(focus((with_reducible apply ZF);rfl;rfl))))|(with_reducible refine Zi ?_)|(show ZY _ _ _;rfl))|((with_reducible apply Zb hs);exact Ii;rfl;(with_reducible repeat first|exact Qh|apply Qk);rfl;rfl;(simp only[Uc,Uz]))|((with_reducible apply ZH hs);exact Ii;rfl;rfl;(with_reducible exact Qh);rfl;rfl;rfl;rfl;clear hs;intro w hs)|((with_reducible apply Zu hs);exact Ii;rfl;assumption;(with_reducible repeat first|exact Qh|apply Qk);rfl;(assumption);rfl;rfl;(simp only[Uc,Uz]))|((with_reducible apply Qt (k:=0) hs);exact Ii;rfl;assumption;(with_reducible repeat first|exact Qh|apply Qk);(exact(Nat.add_zero _).symm);(assumption);(exact Vb rfl);rfl;rfl;(simp only[Uc,Uz]))|((with_reducible apply QH hs);exact Ii;exact Ii;rfl;assumption;rfl;(with_reducible repeat first|exact Qh|apply Qk);(rfl);(assumption);rfl;(simp only[Uc,Uz]))|((with_reducible apply ZP hs);exact Ii;exact Ii;rfl;rfl;(with_reducible repeat first|exact Qh|apply Qk);(rfl);(assumption);rfl;intro b off hat;(simp only[Uc,Uz]))|((with_reducible apply Zw hs);exact Ii;rfl;(with_reducible repeat first|exact Qh|apply Qk);rfl;(simp only[Uc,Uz]))|((with_reducible apply wl_bs hs);exact Ii;exact Ii;rfl;rfl;rfl;rfl;(exact Vb rfl);rfl;clear hs;intro w v hs;(simp only[Uc,Uz]))|((with_reducible apply QM hs);exact Ii;exact Ii;rfl;rfl;(focus with_reducible (repeat first|exact Qh|apply Qk);done);(with_reducible exact Qh);(simp only[Wm,Ws,Wa,Wc,Wn,Wr]at *;omega);(exact Vb rfl);rfl;clear hs;intro w v hs;(simp only[Uc,Uz])))|((with_reducible refine Wp (id:=11) (Paz [.neu 5,.neu 6,.neu 7,.eff 8 [0,1,2,3,4,5,6,7],.eff 9 []]) hs rfl ?_ ?_);kernel_rfl;clear hs;intro w hs)))|go_guarded|go_step))
      rw[E10.out]at hs
      obtain⟨ac,nc,rfl⟩:=ZU (hs.pull (A:=sl 3 1 _ v) (by (with_reducible exact Qh)))
      simp only[List.length_append,List.length_map,List.length_cons,List.length_nil,Nat.zero_add]at hs ⊢
      go_roundw
      case rel=>exact⟨j+1,ls++[x3],ac,nc,hJ.out,by simp,by simp,hnx,by simp;omega,by simp only[List.length_append,List.length_cons,List.length_nil,Nat.zero_add];((with_reducible apply Sat.fin hs);(with_reducible repeat first|exact Ql|exact Qh|apply Qb|apply Qk))⟩
      case measure=>have:=hJ.out;simp[intOf];omega
     ·have hx8:x8=1:=g1 (by omega)
      subst hx8
      have n2:decide (x6≥0)=true:=by simpa using f2
      have n3:decide (x7>x6)=false:=by simp;omega
      clear g1 f2 f3
      (repeat'(first|((with_reducible apply Qs);((simp only[ev,Ue,Uf]);rfl);((simp only[cond_true,cond_false,ev,Ue,Uf]);rfl);(first|(with_reducible exact ZT)|((with_reducible apply want_some);rfl;rfl;(simp only[Ue,Uf])));(simp only[Uc,Uz]))|(go_big_may;(first|((show wpList _ _ _ (Oper.mk (some 10) _ _ _ _ _::_) _ _);(with_reducible apply Zn hs);exact Ii;rfl;clear hs;intro w bX hs;(simp only[Uc,Uz]))|(first|(first|(with_reducible refine NQ.mk ?_)|((with_reducible apply Zh);rfl;rfl)|((with_reducible apply Zq);rfl)|(with_reducible refine EQ.mk ?_ ?_)|(first|(with_reducible exact Zf)|((with_reducible refine Zl ?_ ?_);(focus((with_reducible apply ZF);rfl;rfl))))|(with_reducible refine Zi ?_)|(show ZY _ _ _;rfl))|((with_reducible apply Zb hs);exact Ii;rfl;(with_reducible repeat first|exact Qh|apply Qk);rfl;rfl;(simp only[Uc,Uz]))|((with_reducible apply ZH hs);exact Ii;rfl;rfl;(with_reducible exact Qh);rfl;rfl;rfl;rfl;clear hs;intro w hs)|((with_reducible apply Zu hs);exact Ii;rfl;assumption;(with_reducible repeat first|exact Qh|apply Qk);rfl;(assumption);rfl;rfl;(simp only[Uc,Uz]))|((with_reducible apply Qt (k:=0) hs);exact Ii;rfl;assumption;(with_reducible repeat first|exact Qh|apply Qk);(exact(Nat.add_zero _).symm);(assumption);(exact Vb rfl);rfl;rfl;(simp only[Uc,Uz]))|((with_reducible apply QH hs);exact Ii;exact Ii;rfl;assumption;rfl;(with_reducible repeat first|exact Qh|apply Qk);(rfl);(assumption);rfl;(simp only[Uc,Uz]))|((with_reducible apply ZP hs);exact Ii;exact Ii;rfl;rfl;(with_reducible repeat first|exact Qh|apply Qk);(rfl);(assumption);rfl;intro b off hat;(simp only[Uc,Uz]))|((with_reducible apply Zw hs);exact Ii;rfl;(with_reducible repeat first|exact Qh|apply Qk);rfl;(simp only[Uc,Uz]))|((with_reducible apply wl_bs hs);exact Ii;exact Ii;rfl;rfl;rfl;rfl;(exact Vb rfl);rfl;clear hs;intro w v hs;(simp only[Uc,Uz]))|((with_reducible apply QM hs);exact Ii;exact Ii;rfl;rfl;(focus with_reducible (repeat first|exact Qh|apply Qk);done);(with_reducible exact Qh);(simp only[Wm,Ws,Wa,Wc,Wn,Wr]at *;omega);(exact Vb rfl);rfl;clear hs;intro w v hs;(simp only[Uc,Uz])))|((with_reducible refine Wp (id:=11) (Paz [.neu 5,.neu 6,.neu 7,.eff 8 [0,1,2,3,4,5,6,7],.eff 9 []]) hs rfl ?_ ?_);kernel_rfl;clear hs;intro w hs)))|go_guarded|go_step))
      rw[E10.out]at hs
      obtain⟨ac,nc,rfl⟩:=ZU (hs.pull (A:=sl 3 1 _ v) (by (with_reducible exact Qh)))
      simp only[List.length_append,List.length_map,List.length_cons,List.length_nil,Nat.zero_add]at hs ⊢
      go_roundw
      case rel=>exact⟨j+1,ls++[x3],ac,nc,hJ.out,by simp,by simp,hnx,by simp;omega,by simp only[List.length_append,List.length_cons,List.length_nil,Nat.zero_add];((with_reducible apply Sat.fin hs);(with_reducible repeat first|exact Ql|exact Qh|apply Qb|apply Qk))⟩
      case measure=>have:=hJ.out;simp[intOf];omega
    ·have hl0:ls=[]:=by rw[hls.out,g1];rfl
     subst hl0
     have hnx:Hid (([]:List Int)=(S (j+1)).reverse):=Lh (by rw[hSn,g2];rfl)
     clear g1 g2 hls hSn
     rcases f2 with rfl|⟨f2,f3⟩
     ·clear g3
      (repeat'(first|(((with_reducible apply ZV);rfl;rfl;((simp only[ev,Ue,Uf]);rfl);rfl;(simp only[Uc,Uz]));(repeat((with_reducible apply ZV);rfl;rfl;((simp only[ev,Ue,Uf]);rfl);rfl;(simp only[Uc,Uz]))))|((with_reducible apply Qs);((simp only[ev,Ue,Uf]);rfl);((simp only[cond_true,cond_false,ev,Ue,Uf]);rfl);(first|(with_reducible exact ZT)|((with_reducible apply want_some);rfl;rfl;(simp only[Ue,Uf])));(simp only[Uc,Uz]))|(go_big_may;(first|((show wpList _ _ _ (Oper.mk (some 10) _ _ _ _ _::_) _ _);(with_reducible apply Zn hs);exact Ii;rfl;clear hs;intro w bX hs;(simp only[Uc,Uz]))|(first|(first|(with_reducible refine NQ.mk ?_)|((with_reducible apply Zh);rfl;rfl)|((with_reducible apply Zq);rfl)|(with_reducible refine EQ.mk ?_ ?_)|(first|(with_reducible exact Zf)|((with_reducible refine Zl ?_ ?_);(focus((with_reducible apply ZF);rfl;rfl))))|(with_reducible refine Zi ?_)|(show ZY _ _ _;rfl))|((with_reducible apply Zb hs);exact Ii;rfl;(with_reducible repeat first|exact Qh|apply Qk);rfl;rfl;(simp only[Uc,Uz]))|((with_reducible apply ZH hs);exact Ii;rfl;rfl;(with_reducible exact Qh);rfl;rfl;rfl;rfl;clear hs;intro w hs)|((with_reducible apply Zu hs);exact Ii;rfl;assumption;(with_reducible repeat first|exact Qh|apply Qk);rfl;(assumption);rfl;rfl;(simp only[Uc,Uz]))|((with_reducible apply Qt (k:=0) hs);exact Ii;rfl;assumption;(with_reducible repeat first|exact Qh|apply Qk);(exact(Nat.add_zero _).symm);(assumption);(exact Vb rfl);rfl;rfl;(simp only[Uc,Uz]))|((with_reducible apply QH hs);exact Ii;exact Ii;rfl;assumption;rfl;(with_reducible repeat first|exact Qh|apply Qk);(rfl);(assumption);rfl;(simp only[Uc,Uz]))|((with_reducible apply ZP hs);exact Ii;exact Ii;rfl;rfl;(with_reducible repeat first|exact Qh|apply Qk);(rfl);(assumption);rfl;intro b off hat;(simp only[Uc,Uz]))|((with_reducible apply Zw hs);exact Ii;rfl;(with_reducible repeat first|exact Qh|apply Qk);rfl;(simp only[Uc,Uz])))|((with_reducible refine Wp (id:=11) (Paz [.neu 5,.neu 6,.neu 7,.eff 8 [0,1,2,3,4,5,6,7],.eff 9 []]) hs rfl ?_ ?_);kernel_rfl;clear hs;intro w hs)))|go_guarded|go_step))
      go_roundw
      case rel=>exact⟨j+1,[],ab,nb,hJ.out,by simp,by simp,hnx,by simp,by ((with_reducible apply Sat.fin hs);(with_reducible repeat first|exact Ql|exact Qh|apply Qb|apply Qk))⟩
      case measure=>have:=hJ.out;simp[intOf];omega
     ·have hx8:x8=3:=g3 (by omega)
      subst hx8
      have n2:decide (x6≥0)=true:=by simpa using f2
      have n3:decide (x7>x6)=false:=by simp;omega
      clear g3 f2 f3
      (repeat'(first|((with_reducible apply Qs);((simp only[ev,Ue,Uf]);rfl);((simp only[cond_true,cond_false,ev,Ue,Uf]);rfl);(first|(with_reducible exact ZT)|((with_reducible apply want_some);rfl;rfl;(simp only[Ue,Uf])));(simp only[Uc,Uz]))|(go_big_may;(first|((show wpList _ _ _ (Oper.mk (some 10) _ _ _ _ _::_) _ _);(with_reducible apply Zn hs);exact Ii;rfl;clear hs;intro w bX hs;(simp only[Uc,Uz]))|(first|(first|(with_reducible refine NQ.mk ?_)|((with_reducible apply Zh);rfl;rfl)|((with_reducible apply Zq);rfl)|(with_reducible refine EQ.mk ?_ ?_)|(first|(with_reducible exact Zf)|((with_reducible refine Zl ?_ ?_);(focus((with_reducible apply ZF);rfl;rfl))))|(with_reducible refine Zi ?_)|(show ZY _ _ _;rfl))|((with_reducible apply Zb hs);exact Ii;rfl;(with_reducible repeat first|exact Qh|apply Qk);rfl;rfl;(simp only[Uc,Uz]))|((with_reducible apply ZH hs);exact Ii;rfl;rfl;(with_reducible exact Qh);rfl;rfl;rfl;rfl;clear hs;intro w hs)|((with_reducible apply Zu hs);exact Ii;rfl;assumption;(with_reducible repeat first|exact Qh|apply Qk);rfl;(assumption);rfl;rfl;(simp only[Uc,Uz]))|((with_reducible apply Qt (k:=0) hs);exact Ii;rfl;assumption;(with_reducible repeat first|exact Qh|apply Qk);(exact(Nat.add_zero _).symm);(assumption);(exact Vb rfl);rfl;rfl;(simp only[Uc,Uz]))|((with_reducible apply QH hs);exact Ii;exact Ii;rfl;assumption;rfl;(with_reducible repeat first|exact Qh|apply Qk);(rfl);(assumption);rfl;(simp only[Uc,Uz]))|((with_reducible apply ZP hs);exact Ii;exact Ii;rfl;rfl;(with_reducible repeat first|exact Qh|apply Qk);(rfl);(assumption);rfl;intro b off hat;(simp only[Uc,Uz]))|((with_reducible apply Zw hs);exact Ii;rfl;(with_reducible repeat first|exact Qh|apply Qk);rfl;(simp only[Uc,Uz])))|((with_reducible refine Wp (id:=11) (Paz [.neu 5,.neu 6,.neu 7,.eff 8 [0,1,2,3,4,5,6,7],.eff 9 []]) hs rfl ?_ ?_);kernel_rfl;clear hs;intro w hs)))|go_guarded|go_step))
      go_roundw
      case rel=>exact⟨j+1,[],ab,nb,hJ.out,by simp,by simp,hnx,by simp,by ((with_reducible apply Sat.fin hs);(with_reducible repeat first|exact Ql|exact Qh|apply Qb|apply Qk))⟩
      case measure=>have:=hJ.out;simp[intOf];omega
    ·have hl0:ls=Sn.reverse++[w0]:=by rw[hls.out,g1,List.reverse_cons]
     generalize hlp:Sn.reverse=lp at hl0
     subst hl0
     have hnx:Hid (lp=(S (j+1)).reverse):=Lh (by rw[hSn];exact hlp.symm)
     clear g1 hls hlp hSn
     simp only[List.length_append,List.length_cons,List.length_nil,Nat.zero_add]at hs hll hls5 ⊢
     have HE:Hid (((lp.length+1:Nat):Int)-1=(lp.length:Int)):=Lh (by omega)
     have n5:(((lp.length+1:Nat):Int)==0)=false:=by simp;omega
     have hgw:((lp++[w0]).map eI)[lp.length]? = some [.int .i64 w0]:=by simp
     have hgn:lp.length<((lp++[w0]).map eI).length:=by simp
     rcases f2 with rfl|⟨f2,f3⟩
     ·clear g2
      (repeat'(first|(((with_reducible apply ZV);rfl;rfl;((simp only[ev,Ue,Uf]);rfl);rfl;(simp only[Uc,Uz]));(repeat((with_reducible apply ZV);rfl;rfl;((simp only[ev,Ue,Uf]);rfl);rfl;(simp only[Uc,Uz]))))|((with_reducible apply Qs);((simp only[ev,Ue,Uf]);rfl);((simp only[cond_true,cond_false,ev,Ue,Uf]);rfl);(first|(with_reducible exact ZT)|((with_reducible apply want_some);rfl;rfl;(simp only[Ue,Uf])));(simp only[Uc,Uz]))|(go_big_may;(first|((show wpList _ _ _ (Oper.mk (some 10) _ _ _ _ _::_) _ _);(with_reducible apply Zn hs);exact Ii;rfl;clear hs;intro w bX hs;(simp only[Uc,Uz]))|(first|(first|(with_reducible refine NQ.mk ?_)|((with_reducible apply Zh);rfl;rfl)|((with_reducible apply Zq);rfl)|(with_reducible refine EQ.mk ?_ ?_)|(first|(with_reducible exact Zf)|((with_reducible refine Zl ?_ ?_);(focus((with_reducible apply ZF);rfl;rfl))))|(with_reducible refine Zi ?_)|(show ZY _ _ _;rfl))|((with_reducible apply Zb hs);exact Ii;rfl;(with_reducible repeat first|exact Qh|apply Qk);rfl;rfl;(simp only[Uc,Uz]))|((with_reducible apply ZH hs);exact Ii;rfl;rfl;(with_reducible exact Qh);rfl;rfl;rfl;rfl;clear hs;intro w hs)|((with_reducible apply Zu hs);exact Ii;rfl;assumption;(with_reducible repeat first|exact Qh|apply Qk);rfl;(assumption);rfl;rfl;(simp only[Uc,Uz]))|((with_reducible apply Qt (k:=0) hs);exact Ii;rfl;assumption;(with_reducible repeat first|exact Qh|apply Qk);(exact(Nat.add_zero _).symm);(assumption);(exact Vb rfl);rfl;rfl;(simp only[Uc,Uz]))|((with_reducible apply QH hs);exact Ii;exact Ii;rfl;assumption;rfl;(with_reducible repeat first|exact Qh|apply Qk);(rfl);(assumption);rfl;(simp only[Uc,Uz]))|((with_reducible apply ZP hs);exact Ii;exact Ii;rfl;rfl;(with_reducible repeat first|exact Qh|apply Qk);(rfl);(assumption);rfl;intro b off hat;(simp only[Uc,Uz]))|((with_reducible apply Zw hs);exact Ii;rfl;(with_reducible repeat first|exact Qh|apply Qk);rfl;(simp only[Uc,Uz]))|((with_reducible apply wl_reH hs);exact Ii;exact Ii;rfl;rfl;(with_reducible repeat first|exact Qh|apply Qk);(rfl);(simp only[Wm,Ws,Wa,Wc,Wn,Wr]at *;omega);rfl;(simp only[Uc,Uz])))|((with_reducible refine Wp (id:=11) (Paz [.neu 5,.neu 6,.neu 7,.eff 8 [0,1,2,3,4,5,6,7],.eff 9 []]) hs rfl ?_ ?_);kernel_rfl;clear hs;intro w hs)|((with_reducible refine Wp (id:=21) (Paz (Pbz [.neu 10,.neu 11,.neu 12,.neu 13,.neu 14])) hs rfl ?_ ?_);kernel_rfl;clear hs;intro w hs)))|go_guarded|go_step))
      replace hs:=sl_takeH (h:=lp.length) (hs.pull (A:=sl 3 1 ((lp++[w0]).map eI) (.slice ab (lp.length+1) nb)) (by (with_reducible repeat first|exact Qh|apply Qk))) (by simp)
      have e12:((lp++[w0]).map eI).take lp.length=lp.map eI:=by rw[←List.map_take,List.take_left]
      have e13:resH (.slice ab (lp.length+1) nb) lp.length=.slice ab lp.length nb:=rfl
      rw[e12,e13]at hs
      go_roundw
      case rel=>exact⟨j+1,lp,ab,nb,hJ.out,rfl,by simp,hnx,by omega,by ((with_reducible apply Sat.fin hs);(with_reducible repeat first|exact Ql|exact Qh|apply Qb|apply Qk))⟩
      case measure=>have:=hJ.out;simp[intOf];omega
     ·obtain⟨hx8,hx9⟩:=g2 (by omega)
      subst hx8
      subst hx9
      have n2:decide (x6≥0)=true:=by simpa using f2
      have n3:decide (x7>x6)=false:=by simp;omega
      have n4:(x9 != x9)=false:=by simp
      have e9:(List.take 9 (List.drop 0 (Cll.e ⟨x1,31,x3,x4,x5,x6,x7,2,x9⟩))).toArray = #[.int .i64 x1,.int .i64 31,.int .i64 x3,.int .i64 x4,.int .i64 x5,.int .i64 x6,.int .i64 x7,.int .i64 2,.int .i64 x9]:=rfl
      have E9:=Lh e9
      clear g2 f2 f3 e9
      (repeat'(first|((with_reducible apply Qs);((simp only[ev,Ue,Uf]);rfl);((simp only[cond_true,cond_false,ev,Ue,Uf]);rfl);(first|(with_reducible exact ZT)|((with_reducible apply want_some);rfl;rfl;(simp only[Ue,Uf])));(simp only[Uc,Uz]))|(go_big_may;(first|((show wpList _ _ _ (Oper.mk (some 44) _ _ _ _ _::_) _ _);(rw[E9.out]at hs))|((show wpList _ _ _ (Oper.mk (some 95) _ _ _ _ _::_) _ _);((with_reducible apply wl_ldN hs);exact Ii;rfl;(with_reducible exact Qh);(simp only[List.size_toArray,List.length_cons,List.length_nil];omega);rfl;rfl;(simp only[Uc,Uz])))|((show wpList _ _ _ (Oper.mk (some 10) _ _ _ _ _::_) _ _);(with_reducible apply Zn hs);exact Ii;rfl;clear hs;intro w bX hs;(simp only[Uc,Uz]))|(first|(first|(with_reducible refine NQ.mk ?_)|((with_reducible apply Zh);rfl;rfl)|((with_reducible apply Zq);rfl)|(with_reducible refine EQ.mk ?_ ?_)|(first|(with_reducible exact Zf)|((with_reducible refine Zl ?_ ?_);(focus((with_reducible apply ZF);rfl;rfl))))|(with_reducible refine Zi ?_)|(show ZY _ _ _;rfl))|((with_reducible apply Zb hs);exact Ii;rfl;(with_reducible repeat first|exact Qh|apply Qk);rfl;rfl;(simp only[Uc,Uz]))|((with_reducible apply ZH hs);exact Ii;rfl;rfl;(with_reducible exact Qh);rfl;rfl;rfl;rfl;clear hs;intro w hs)|((with_reducible apply Zu hs);exact Ii;rfl;assumption;(with_reducible repeat first|exact Qh|apply Qk);rfl;(assumption);rfl;rfl;(simp only[Uc,Uz]))|((with_reducible apply Qt (k:=0) hs);exact Ii;rfl;assumption;(with_reducible repeat first|exact Qh|apply Qk);(exact(Nat.add_zero _).symm);(assumption);(exact Vb rfl);rfl;rfl;(simp only[Uc,Uz]))|((with_reducible apply QH hs);exact Ii;exact Ii;rfl;assumption;rfl;(with_reducible repeat first|exact Qh|apply Qk);(rfl);(assumption);rfl;(simp only[Uc,Uz]))|((with_reducible apply ZP hs);exact Ii;exact Ii;rfl;rfl;(with_reducible repeat first|exact Qh|apply Qk);(rfl);(assumption);rfl;intro b off hat;(simp only[Uc,Uz]))|((with_reducible apply Zw hs);exact Ii;rfl;(with_reducible repeat first|exact Qh|apply Qk);rfl;(simp only[Uc,Uz]))|((with_reducible apply wl_reH hs);exact Ii;exact Ii;rfl;rfl;(with_reducible repeat first|exact Qh|apply Qk);(rfl);(simp only[Wm,Ws,Wa,Wc,Wn,Wr]at *;omega);rfl;(simp only[Uc,Uz])))|((with_reducible refine Wp (id:=11) (Paz [.neu 5,.neu 6,.neu 7,.eff 8 [0,1,2,3,4,5,6,7],.eff 9 []]) hs rfl ?_ ?_);kernel_rfl;clear hs;intro w hs)|((with_reducible refine Wp (id:=21) (Paz (Pbz [.neu 10,.neu 11,.neu 12,.neu 13,.neu 14])) hs rfl ?_ ?_);kernel_rfl;clear hs;intro w hs)))|go_guarded|go_step))
      replace hs:=sl_takeH (h:=lp.length) (hs.pull (A:=sl 3 1 ((lp++[x9]).map eI) (.slice ab (lp.length+1) nb)) (by (with_reducible repeat first|exact Qh|apply Qk))) (by simp)
      have e12:((lp++[x9]).map eI).take lp.length=lp.map eI:=by rw[←List.map_take,List.take_left]
      have e13:resH (.slice ab (lp.length+1) nb) lp.length=.slice ab lp.length nb:=rfl
      rw[e12,e13]at hs
      go_roundw
      case rel=>exact⟨j+1,lp,ab,nb,hJ.out,rfl,by simp,hnx,by omega,by ((with_reducible apply Sat.fin hs);(with_reducible repeat first|exact Ql|exact Qh|apply Qb|apply Qk))⟩
      case measure=>have:=hJ.out;simp[intOf];omega
 ·have hF:=Lh (law_fits_no c mvs v hfit A hRd)
  obtain⟨a0,c0,rfl⟩:=hRd.len
  simp only[List.length_map]at hF hs ⊢
  clear hRd hfit
  obtain⟨d1,d2,d3,d4,d5,d6,d7⟩:=c
  go_enter Tryz.func3,Tryz.ntmps3
  (repeat'(first|(go_big_may;(first|(first|((with_reducible apply Z3 hs);exact Ii;rfl;(with_reducible exact Qh);rfl;rfl;(simp only[Uc,Uz]))|((with_reducible apply Zr hs);rfl;rfl;rfl;clear hs;intro w b hs;(simp only[Uc,Uz])))|(go_at_call 8;((refine(hF.out).at hs (by (with_reducible repeat first|exact Qh|apply Qk)) ?_);clear hs;intro w hs;(try simp only[Em,Ma]at hs)))|(go_at_call 9;((refine(hAw.out).at hs (by (focus((repeat(with_reducible exact Qn));done))) ?_);clear hs;intro w hs;(try simp only[Em,Ma]at hs)))))|go_step|(dsimp only)))
  (go_ret)
  exact⟨rfl,by ((with_reducible apply Sat.fin hs);(with_reducible repeat first|exact Ql|exact Qh|apply Qb|apply Qk))⟩
end Go.Proofs.YtjagadldibbbbaaGreat
