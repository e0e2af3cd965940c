/-
  stack.Play, by what its moves keep; the calls' arguments are the moves'.
-/
import Derived.Test.YtjagadldibbbbaaGreatDEvq
import Derived.Test.YtjagadldibbbbaaGreatDStkN2
import Derived.Test.YtjagadldibbbbaaGreatDRun
import Derived.Lib.Hide
set_option linter.all false
namespace Go.Proofs.YtjagadldibbbbaaGreat
section
open Go.RowKit Hp
set_option maxRecDepth 100000
set_option maxHeartbeats 1000000
attribute [local irreducible] Go.Calls Go.wpList
def ArgM (mvs:List Mv)(y:GW Zm):Prop:=∀x∈y.m.calls,(∃mv∈mvs,x.arg=mv.arg)∧(x.end_ = -1∧x.kind=0∨0≤x.end_)
theorem arg_move {c:Cfg}{bh ba n:Nat}{CX:Zc}{K:Int→Option Value}{mvs:List Mv}{mv:Mv}{b:Bool}{y y':GW Zm}(P:PG (SI c) c n y)(hn:n<65536)(hmv:mv∈mvs)(A:ArgM mvs y)(hM:MoveTo (skT bh ba CX) K sTask y mv b y'):ArgM mvs y':=by
 rcases g_open (skT_good bh ba CX) (sk_inv c _ _) P hn hM with rfl|⟨t,k,v,vc,ht,htT,hop,hk,hKn,hmk,rfl⟩|⟨t,i,cl,se,k,r1,r,ht,hop,G,rfl⟩
 ·exact A
 ·intro x hx
  simp only[ZC]at hx
  rcases List.mem_append.1 hx with h|h
  ·exact A x h
  ·simp at h
   subst h
   exact⟨⟨mv,hmv,rfl⟩,.inl ⟨rfl,rfl⟩⟩
 ·intro x hx
  obtain⟨z,q,v,O⟩:=G.out P
  rw[O.calls]at hx
  rcases List.mem_or_eq_of_mem_set hx with h|h
  ·exact A x h
  ·obtain⟨⟨mv',h1,h2⟩,h3⟩:=A cl (Yc G.hc)
   rw[h]
   split
   ·exact⟨⟨mv',h1,h2⟩,.inr (by simp only[];omega)⟩
   ·exact⟨⟨mv',h1,h2⟩,h3⟩
theorem stk_playJ2 (c:Cfg)(h:c.Ok)(v:Value)(mvs:List Mv)(hl:mvs.length≤65536)(J:Nat→GW Zm→Prop)(J0:∀km vs,J 0 (gst0 Zm c km vs))
  (hJ:∀bh ba CX,JG (skT bh ba CX) sTask (SI c) c sOps J) (A:Zc) (hRd:Rd A 4 (mvs.map Mv.e) v) :
  Does Tryz.prog 17 #[c.v,v] A (fun u=>gplayR (fun y=>PG (SI c) c mvs.length y∧J mvs.length y∧ArgM mvs y) u*A):=by
 have hT2:=h.T2
 refine stk_playR c h v mvs hl (fun k y=>PG (SI c) c k y∧J k y∧ArgM mvs y) (fun km vs=>⟨PG.start _ h km vs,J0 km vs,fun x hx=>by simp[gst0,mch0]at hx⟩) ?_ ?_ ?_ A hRd
 ·intro CX bh ba k y mv hmv hj
  have:=(List.getElem?_eq_some_iff.1 hmv).1
  exact hj.1.may core_kok (skT_good bh ba CX) (sk_inv c _ _) (by omega) mv
 ·intro CX bh ba x z k y mv b y' hmv hj hm
  have:=(List.getElem?_eq_some_iff.1 hmv).1
  exact⟨hj.1.move (skT_good bh ba CX) (sk_inv c _ _) (by omega) hm,(hJ bh ba CX).move (skT_good bh ba CX) (sk_inv c _ _) (fun o=>(jFn_known x z o).1) hj.1 hj.2.1 (by omega) hm,arg_move hj.1 (by omega) (Yc hmv) hj.2.2 hm⟩
 ·intro y hj
  obtain⟨p1,p2,p3,p4,p5,p6,p7⟩:=hj.1
  have:=p3.log
  have:=p3.shifts
  have:=p3.words
  have:=base14_le h
  have:=h.T1
  omega
theorem law_played2 (c:Cfg)(mvs:List Mv)(h:SFit c mvs)(v:Value)(J:Nat→GW Zm→Prop)(J0:∀km vs,J 0 (gst0 Zm c km vs))
  (hJ:∀bh ba CX,JG (skT bh ba CX) sTask (SI c) c sOps J) (A:Zc) (hRd:Rd A 4 (mvs.map Mv.e) v) :
  Does Tryz.prog 10 #[c.v,v] A (fun u=>playedR (fun y=>PG (SI c) c mvs.length y∧J mvs.length y∧ArgM mvs y) u*A):=by
 intro O w F hs
 have hP:=Lh (stk_playJ2 c h.1 v mvs h.2 J J0 hJ A hRd)
 have hS:=Lh (ref_size c h.1)
 have hN:=Lh (law_num 0)
 have hA:=Lh law_awake
 have hb:=(ZD h.1 14).1
 obtain⟨a0,c0,rfl⟩:=hRd.len
 simp only[List.length_map]at hP hs ⊢
 have hW:∀y:GW Zm,PG (SI c) c mvs.length y→((y.m.mem.words.length:Int)==base c 14)=true:=fun y hy=>by
  have:=hy.core.words
  simp only[beq_iff_eq]
  omega
 have hW:=Lh hW
 have hM:∀y:GW Zm,PG (SI c) c mvs.length y∧J mvs.length y∧ArgM mvs y→PG (SI c) c mvs.length y:=fun y hy=>hy.1
 have hM:=Lh hM
 generalize hJJ:(fun y:GW Zm=>PG (SI c) c mvs.length y∧J mvs.length y∧ArgM mvs y)=JJ at hP ⊢
 have hM:Hid (∀y:GW Zm,JJ y→PG (SI c) c mvs.length y):=Lh (fun y hy=>hM.out y (by rw[←hJJ]at hy;exact hy))
 clear hRd hJ J0 h hb hJJ
 generalize hB:base c 14=B at hS hW
 have hB:=Lh hB
 obtain⟨d1,d2,d3,d4,d5,d6,d7⟩:=c
 go_enter Tryz.func10,Tryz.ntmps10
 go_wp2_with (first|(first|(first|(with_reducible refine NQ.mk ?_)|((with_reducible apply Zh);rfl;rfl)|((with_reducible apply Zq);rfl)|(with_reducible refine EQ.mk ?_ ?_)|(first|(with_reducible exact Zf)|((with_reducible refine Zl ?_ ?_);(focus((with_reducible apply ZF);rfl;rfl))))|(with_reducible refine Zi ?_)|(show ZY _ _ _;rfl))|((with_reducible apply Zb hs);exact Ii;rfl;(with_reducible repeat first|exact Qh|apply Qk);rfl;rfl;(simp only[Uc,Uz]))|((with_reducible apply Z3 hs);exact Ii;rfl;(with_reducible repeat first|exact Qh|apply Qk);rfl;rfl;(simp only[Uc,Uz]))|((with_reducible apply ZH hs);exact Ii;rfl;rfl;(with_reducible repeat first|exact Qh|apply Qk);rfl;rfl;rfl;rfl;clear hs;intro w hs)|((with_reducible apply Zn hs);exact Ii;rfl;clear hs;intro w b hs;(simp only[Uc,Uz]))|((with_reducible apply Zr hs);rfl;rfl;rfl;clear hs;intro w b hs;(simp only[Uc,Uz]))|((with_reducible apply Zw hs);exact Ii;rfl;(with_reducible repeat first|exact Qh|apply Qk);rfl;(simp only[Uc,Uz])))|((show ZY _ _ _);(simp only[List.length_map]);rfl)|(go_at_call 17;((refine(hP.out).at hs (by (with_reducible repeat first|exact Qh|apply Qk)) ?_);clear hs;intro v w hs;(try simp only[Em,Ma]at hs));(unfold gplayR RunR at hs);(simp only[ZI,Ma,Zx]at hs);(obtain⟨y,vr,⟨hy,rfl⟩,vc,vt,vs,vw,rfl,hs⟩:=hs);(obtain⟨_,_,rfl⟩:=ZU (hs.pull (A:=sl 42 9 _ vc) (by (with_reducible exact Qh))));(obtain⟨_,_,rfl⟩:=ZU (hs.pull (A:=sl 49 7 _ vt) (by (with_reducible repeat first|exact Qh|apply Qk))));(obtain⟨_,_,rfl⟩:=ZU (hs.pull (A:=sl 52 5 _ vs) (by (with_reducible repeat first|exact Qh|apply Qk))));(obtain⟨_,_,rfl⟩:=ZU (hs.pull (A:=sl 47 1 _ vw) (by (with_reducible repeat first|exact Qh|apply Qk))));(simp only[List.length_map]at hs ⊢);(have hwl:=hW.out y (hM.out y hy)))|(go_at_call 19;((refine(hS.out).at hs (by (focus((repeat(with_reducible exact Qn));done))) ?_);clear hs;intro w hs;(try simp only[Em,Ma]at hs)))|(go_at_call 18;((refine(hN.out).at hs (by (focus((repeat(with_reducible exact Qn));done))) ?_);clear hs;intro w hs;(try simp only[Em,Ma]at hs)))|(go_at_call 9;((refine(hA.out).at hs (by (focus((repeat(with_reducible exact Qn));done))) ?_);clear hs;intro w hs;(try simp only[Em,Ma]at hs)))|((with_reducible refine Wp (id:=2) [.neu 0,.neu 1,.eff 2 [0],.neu 3,.neu 4,.eff 5 [0],.neu 6,.neu 7,.neu 8,.neu 9,.neu 10,.neu 11,.eff 12 [0,8,9,10],.neu 13,.neu 14,.eff 15 [8,9,10,13,14],.neu 16] hs rfl ?_ ?_);kernel_rfl;clear hs;intro w hs))
 ((try simp only[Exit.inBlock,Exit.then]);(with_reducible apply bodyPost_ret);((with_reducible apply results_ct);rfl;rfl;(with_reducible apply loadF hs);exact Ii;(with_reducible exact Qh);rfl;rfl))
 refine⟨_,rfl,?_⟩
 unfold playedR RunR
 simp only[ZI,Ma,Zx]
 refine⟨y,_,⟨hy,rfl⟩,_,_,_,_,rfl,?_⟩
 ((with_reducible apply Sat.fin hs);(with_reducible repeat first|exact Ql|exact Qh|apply Qb|apply Qk))
end
section
open Go.RowKit Hp
set_option maxRecDepth 100000
set_option maxHeartbeats 1000000
attribute [local irreducible] Go.Calls
def Mine (x:Cll):Prop:=(x.op=30∨x.op=31)∧0≤x.point∧x.kind≠4
structure BypQ (cs:List Cll)(L:List Nat):Prop where
 srt:L.Pairwise (fun a b=>(cs.getD a ⟨0,0,0,0,0,0,0,0,0⟩).point<(cs.getD b ⟨0,0,0,0,0,0,0,0,0⟩).point)
 mem:∀i,i∈L↔∃x,cs[i]? = some x∧Mine x
structure LinE (x:Cll)(b a:List Int):Prop where
 beg:x.begin_<x.point
 fin:x.end_ = -1∨(0≤x.end_∧x.point≤x.end_)
 does:(x.op=30∧(x.end_ ≠ -1→x.kind=1)∧a=x.arg::b)∨(x.op=31∧b=[]∧a=[]∧(x.end_ ≠ -1→x.kind=3))∨(x.op=31∧∃v,b=v::a∧(x.end_ ≠ -1→x.kind=2∧x.value=v))
structure LinQ (cs:List Cll)(L:List Nat)(S:Nat→List Int):Prop where
 ent:∀(j i:Nat),L[j]? = some i→∃x,cs[i]? = some x∧LinE x (S j) (S (j+1))
 s0:S 0=[]
def nxtS:List Nat→Int
 | []=>0
 | s::_=>s+1
structure ChQ (TP V LK S0:Nat)(ws:List Int)(stk:List Nat)(l:List Int):Prop where
 len:stk.length≤S0
 ll:l.length=stk.length
 top:ws[TP]? = some (nxtS stk)
 at_:∀(k s:Nat),stk[k]? = some s→s<S0∧(∃u,ws[V+s]? = some u∧l[k]? = some (wrap64 u))∧ws[LK+s]? = some (nxtS (stk.drop (k+1)))
theorem srt_eq {P:Nat→Int}:∀ {l1 l2:List Nat},l1.Pairwise (fun a b=>P a<P b)→l2.Pairwise (fun a b=>P a<P b)→(∀x,x∈l1↔x∈l2)→l1=l2
 | [],[],_,_,_=>rfl
 | [],b::r,_,_,h=>by have:=(h b).2 (List.mem_cons_self ..);simp at this
 | a::r,[],_,_,h=>by have:=(h a).1 (List.mem_cons_self ..);simp at this
 | a::r1,b::r2,h1,h2,h=>by
  obtain⟨h1a,h1b⟩:=List.pairwise_cons.1 h1
  obtain⟨h2a,h2b⟩:=List.pairwise_cons.1 h2
  have e:a=b:=by
   rcases List.mem_cons.1 ((h a).1 (List.mem_cons_self ..)) with e|e
   ·exact e
   ·rcases List.mem_cons.1 ((h b).2 (List.mem_cons_self ..)) with e'|e'
    ·exact e'.symm
    ·have:=h1a b e'
     have:=h2a a e
     omega
  subst e
  rw[srt_eq h1b h2b (fun x => ?_)]
  constructor
  ·intro hx
   rcases List.mem_cons.1 ((h x).1 (List.mem_cons_of_mem _ hx)) with e|e
   ·subst e;have:=h1a x hx;omega
   ·exact e
  ·intro hx
   rcases List.mem_cons.1 ((h x).2 (List.mem_cons_of_mem _ hx)) with e|e
   ·subst e;have:=h2a x hx;omega
   ·exact e
theorem BypQ.eq {cs:List Cll}{L M:List Nat}(h:BypQ cs L)(h':BypQ cs M):L=M:=srt_eq h.srt h'.srt (fun i=>(h.mem i).trans (h'.mem i).symm)
theorem runs_next:∀ {l0 l:List Int} {o:List En} {j:Nat} {e:En},Runs l0 o l→o[j]? = some e→(match o[j+1]? with|some e'=>e'.bef|none=>l)=e.aft
 | _,_,[],_,_,_,h=>by simp at h
 | _,_,[a],0,e,h,he=>by simp at he;subst he;exact h.2.symm
 | _,_,a::b::r,0,e,h,he=>by simp at he;subst he;exact h.2.1
 | _,_,a::r,j+1,e,h,he=>by
  simp only[Ue]at he ⊢
  exact runs_next h.2 he
theorem runs_zero {l:List Int}{o:List En}(h:Runs [] o l):(match o[0]? with|some e=>e.bef|none=>l)=[]:=by
 cases o with
 | nil=>exact h.symm
 | cons a r=>exact h.1
section
variable {vf:Int→Int}{stk:List Int}{o:List En}{n:Int}{y:GW Zm}
theorem LinJ.uniq (J:LinJ vf stk o n y){e f:En}(he:e∈o)(hf:f∈o)(h:e.p=f.p):e=f:=by
 have key:∀ {o:List En},o.Pairwise (fun a b=>a.p<b.p)→e∈o→f∈o→e=f:=by
  intro o
  induction o with
  | nil=>intro _ h;simp at h
  | cons a r ih=>
   intro hp he hf
   obtain⟨h1,h2⟩:=List.pairwise_cons.1 hp
   rcases List.mem_cons.1 he with e1|e1
   ·rcases List.mem_cons.1 hf with e2|e2
    ·rw[e1,e2]
    ·have:=h1 f e2;rw[e1]at h;omega
   ·rcases List.mem_cons.1 hf with e2|e2
    ·have:=h1 e e1;rw[e2]at h;omega
    ·exact ih h2 e1 e2
 exact key J.srt he hf
theorem LinJ.byp (J:LinJ vf stk o n y):BypQ y.m.calls (o.map (·.i)):=by
 refine⟨?_,fun i => ?_⟩
 ·refine List.pairwise_map.2 ((List.Pairwise.imp_of_mem ?_) J.srt)
  intro a b ha hb hab
  obtain⟨x,h1,h2,_⟩:=J.st a ha
  obtain⟨z,k1,k2,_⟩:=J.st b hb
  rw[Yb,Yb,h1,k1]
  simp only[Option.getD_some]
  omega
 ·constructor
  ·intro h
   obtain⟨e,he,rfl⟩:=List.mem_map.1 h
   obtain⟨x,h1,h2,h3,h4,h5,h6,h7,h8,h9⟩:=J.st e he
   exact⟨x,h1,h9,by omega,h7⟩
  ·rintro⟨x,h1,h2,h3,h4⟩
   obtain⟨l,hl⟩:=J.all i x h1 h2 h3 h4
   exact List.mem_map.2 ⟨_,hl,rfl⟩
def stO (o:List En)(l:List Int)(j:Nat):List Int:=match o[j]? with|some e=>e.bef|none=>l
theorem LinJ.linq (J:LinJ vf stk o n y)(ha:∀x∈y.m.calls,wrap64 x.arg=x.arg):LinQ y.m.calls (o.map (·.i)) (stO o (stk.map vf)):=by
 refine⟨fun j i hi => ?_,runs_zero J.run⟩
 rw[Ym]at hi
 cases he:o[j]? with
 | none=>rw[he]at hi;cases hi
 | some e=>
  rw[he]at hi
  simp only[Option.map_some,Option.some.injEq]at hi
  subst hi
  have hm:=Yc he
  obtain⟨x,h1,h2,h3,h4,h5,h6,h7,h8,h9⟩:=J.st e hm
  have hb:stO o (stk.map vf) j=e.bef:=by unfold stO;rw[he]
  have hn:stO o (stk.map vf) (j+1)=e.aft:=runs_next J.run he
  have hw:=ha x (Yc h1)
  refine⟨x,h1,by omega,?_,?_⟩
  ·by_cases hx:x.end_ = -1
   ·exact .inl hx
   ·have:=h6 hx;exact .inr ⟨by omega,by omega⟩
  rw[hb,hn]
  have hhas:∀l,HasE o e.i x l→l=e.bef:=by
   intro l hl
   have:=J.uniq hl hm (by simp only[];omega)
   rw[←this]
  unfold En.aft
  rcases h9 with h9|h9
  ·rw[if_pos (by omega),←h4,hw]
   refine .inl ⟨h9,fun hx => ?_,rfl⟩
   rcases(J.ans e.i x h1 hx).1 h9 with a|⟨a,_⟩
   ·exact absurd a h7
   ·exact a
  ·rw[if_neg (by omega)]
   cases hbe:e.bef with
   | nil=>
    refine .inr (.inl ⟨h9,rfl,rfl,fun hx => ?_⟩)
    rcases(J.ans e.i x h1 hx).2 h9 with⟨a,_⟩|⟨a,rest,b⟩
    ·exact a
    ·have:=hhas _ b;rw[hbe]at this;cases this
   | cons v rest=>
    refine .inr (.inr ⟨h9,v,rfl,fun hx => ?_⟩)
    rcases(J.ans e.i x h1 hx).2 h9 with⟨a,b⟩|⟨a,rest',b⟩
    ·have:=hhas _ b;rw[hbe]at this;cases this
    ·have:=hhas _ b;rw[hbe]at this;cases this
     exact⟨a,rfl⟩
end
theorem nodup_len'' {α:Type}[DecidableEq α]:∀ {l w:List α},l.Nodup→(∀z∈l,z∈w)→l.length≤w.length
 | [],w,_,_=>Nat.zero_le _
 | a::r,w,h1,h2=>by
  obtain⟨h3,h4⟩:=List.nodup_cons.1 h1
  have:=nodup_len'' (l:=r) (w:=w.erase a) h4 (fun z hz=>(List.mem_erase_of_ne (by rintro rfl;exact h3 hz)).2 (h2 z (List.mem_cons_of_mem _ hz)))
  rw[List.length_erase_of_mem (h2 a (List.mem_cons_self ..))]at this
  have:=List.length_pos_of_mem (h2 a (List.mem_cons_self ..))
  simp only[List.length_cons]
  omega
theorem nodup_of_count:∀ {l:List Int},(∀s,l.count s≤1)→l.Nodup
 | [],_=>List.nodup_nil
 | a::r,h=>by
  refine List.nodup_cons.2 ⟨fun hm => ?_,nodup_of_count fun s => ?_⟩
  ·have h1:=h a
   have h2:=cpos hm
   rw[List.count_cons_self]at h1
   omega
  ·have h1:=h s
   rw[List.count_cons]at h1
   omega
section
variable {c:Cfg}{stk:List Int}{pr:Int→Prop}{F:List Int}{n:Nat}{y:GW Zm}
theorem chain_next:∀ {ln:Int→Int} {z:Int} {l:List Int},Chain ln z l→(∀s∈l,0≤s)→z=nxtS (l.map Int.toNat)
 | _,_,[],h,_=>h
 | _,_,s::r,h,hp=>by
  have:=hp s (List.mem_cons_self ..)
  rw[h.1]
  show s+1=((s.toNat:Nat):Int)+1
  omega
theorem chain_drop:∀ {ln:Int→Int} {z:Int} {l:List Int} {k:Nat} {s:Int},Chain ln z l→l[k]? = some s→Chain ln (ln s) (l.drop (k+1))
 | _,_,[],_,_,_,h=>by simp at h
 | _,_,a::r,0,s,h,hs=>by simp at hs;subst hs;exact h.2.2
 | _,_,a::r,k+1,s,h,hs=>by
  simp only[Ue]at hs
  have:=chain_drop (k:=k) h.2.2 hs
  exact this
theorem DK.chq (D:DK c stk pr F n y)(P:PG (SI c) c n y):ChQ (adr c 3 0) (base c 11).toNat (base c 13).toNat c.Sl.toNat y.m.mem.words (stk.map Int.toNat) (stk.map (vfo c y.m)):=by
 have G:=D.gd
 have C:=P.core
 have hok:=C.ok
 have hS:=hok.S1
 have hrange:∀s∈stk,0≤s∧s<c.Sl:=fun s hs=>by
  refine G.range (s:=s) ?_
  have:=cpos hs
  show 0<_+stk.count s
  omega
 have hnd:stk.Nodup:=by
  refine nodup_of_count fun s => ?_
  have:=G.le s
  have h:List.count s (sx stk pr c y.s.1 y.s.2 y.m).stk=stk.count s:=rfl
  omega
 have hw:∀A:Nat,A<y.m.mem.words.length→y.m.mem.words[A]? = some (y.m.word A):=by
  intro A hA
  unfold Mch.word
  rw[Yb,Yd hA];rfl
 have hlk:Chain (mv c y.m).ln (y.m.word (adr c 3 0)) stk:=G.lk
 have ead:∀(r:Nat) (s:Int),0≤s→(base c r).toNat+s.toNat=adr c r s:=by
  intro r s h0
  have:=(ZD hok r).1
  unfold adr
  omega
 refine⟨?_,by simp,?_,?_⟩
 ·rw[List.length_map]
  have:=nodup_len'' (l:=stk.map Int.toNat) (w:=List.range c.Sl.toNat) ?_ ?_
  ·simpa using this
  ·refine List.pairwise_map.2 ((List.Pairwise.imp_of_mem ?_) hnd)
   intro a b h1 h2 hab e
   have:=hrange a h1
   have:=hrange b h2
   exact hab (by omega)
  ·intro z hz
   obtain⟨s,hs,rfl⟩:=List.mem_map.1 hz
   have:=hrange s hs
   rw[List.mem_range]
   omega
 ·rw[hw _ (C.lt (top_lt hok)),chain_next hlk (fun s hs=>(hrange s hs).1)]
 ·intro k s' hk
  rw[Ym]at hk
  cases hs:stk[k]? with
  | none=>rw[hs]at hk;cases hk
  | some s=>
   rw[hs]at hk
   simp only[Option.map_some,Option.some.injEq]at hk
   subst hk
   obtain⟨h0,h1⟩:=hrange s (Yc hs)
   refine⟨by omega,⟨y.m.word (adr c 11 s),?_,?_⟩,?_⟩
   ·rw[ead 11 s h0]
    exact hw _ (C.lt (adr_lt' hok (r:=11) (.inr ⟨.inr (.inl rfl),rfl⟩) h0 h1))
   ·rw[Ym,hs]
    show some (wrap64 ((mv c y.m).val s))=_
    rw[val_at h0 h1]
   ·rw[ead 13 s h0,hw _ (C.lt (adr_lt' hok (r:=13) (.inr ⟨.inr (.inr rfl),rfl⟩) h0 h1))]
    have:=chain_drop hlk hs
    rw[ln_at h0 h1]at this
    rw[chain_next this (fun s hs=>(hrange s (List.mem_of_mem_drop hs)).1),List.map_drop]
end
end
section
open Go.RowKit
namespace Hp
theorem wl_pass {P:Program}{ops:Array Oper}{Q:Exit→Act→World→Prop}{w:World}{rest:List Oper}{l:List Value}{ds:List Deferred}{d:Nat}{op:Op}{ty:TypeId}{pos:String}{after:Array Edge}{g:Nat×Bool}
  (hw:Region.wanted { dst:=some d,op:=op,type:=ty,pos,after,guard:=some g } (yielded ops l.toArray)=false) (kk:wpList P ops Q rest ⟨(l.set d undef).toArray,ds⟩ w) :
  wpList P ops Q ({ dst:=some d,op:=op,type:=ty,pos,after,guard:=some g }::rest) ⟨l.toArray,ds⟩ w:=by
 refine wpList_skip hw ?_
 have e:(Act.put ⟨l.toArray,ds⟩ (some d) undef:Act)=⟨(l.set d undef).toArray,ds⟩:=ZW
 show wpList P ops Q rest (Act.put ⟨l.toArray,ds⟩ (some d) undef) w
 rw[e];exact kk
theorem ZV {P:Program}{ops:Array Oper}{Q:Exit→Act→World→Prop}{w:World}{rest:List Oper}{l:List Value}{ds:List Deferred}{d:Nat}{op:Op}{ty:TypeId}{pos:String}{after:Array Edge}{i:Nat}{b z:Bool}{o:Oper}{e:Nat}
  (ho:ops[i]? = some o) (hd:o.dst=some e) (hv:l[e]? = some (.bool z)) (hb:(z==b)=false) (kk:wpList P ops Q rest ⟨(l.set d undef).toArray,ds⟩ w) :
  wpList P ops Q ({ dst:=some d,op:=op,type:=ty,pos,after,guard:=some (i,b) }::rest) ⟨l.toArray,ds⟩ w:=by
 refine wl_pass ?_ kk
 have hv':l.toArray[e]? = some (.bool z):=by simpa using hv
 simp only[Region.wanted,yielded,ho,Option.bind_some,hd,hv']
 cases z<;>cases b<;>first|rfl|cases hb
theorem Qs {P:Program}{ops:Array Oper}{Q:Exit→Act→World→Prop}{w:World}{rest:List Oper}{l:List Value}{ds:List Deferred}{d:Nat}{c x y:Operand}{ty:TypeId}{pos:String}{after:Array Edge}{gd:Option (Nat×Bool)}{z:Bool}{v:Value}
  (hc:ev l c=some (.bool z)) (hv:ev l (cond z x y)=some v)
  (hg:Region.wanted { dst:=some d,op:=.pick c x y,type:=ty,pos,after,guard:=gd } (yielded ops l.toArray)=true)
  (kk:wpList P ops Q rest ⟨(l.set d v).toArray,ds⟩ w) :
  wpList P ops Q ({ dst:=some d,op:=.pick c x y,type:=ty,pos,after,guard:=gd }::rest) ⟨l.toArray,ds⟩ w:=by
 refine Qz (v:=v) (w':=w) hg ?_ (ZW▸kk)
 have h1:=Zo (ds:=ds) hc
 have h2:=Zo (ds:=ds) hv
 cases z<;>simp[execOp,h1,asBool]<;>simpa using h2
theorem ZT {d:Option Nat}{op:Op}{ty:TypeId}{pos:String}{after:Array Edge}{f:Nat→Option Bool}:Region.wanted { dst:=d,op:=op,type:=ty,pos,after,guard:=none } f=true:=rfl
theorem want_some {ops:Array Oper}{l:List Value}{d:Option Nat}{op:Op}{ty:TypeId}{pos:String}{after:Array Edge}{i:Nat}{b:Bool}{o:Oper}{e:Nat}
  (ho:ops[i]? = some o) (hd:o.dst=some e) (hv:l[e]? = some (.bool b)):Region.wanted { dst:=d,op:=op,type:=ty,pos,after,guard:=some (i,b) } (yielded ops l.toArray)=true:=by
 have hv':l.toArray[e]? = some (.bool b):=by simpa using hv
 simp only[Region.wanted,yielded,ho,Option.bind_some,hd,hv']
 cases b<;>rfl
end Hp
end
section
open Go.RowKit
namespace Hp
section
variable {P:Program}{ops:Array Oper}{Q:Exit→Act→World→Prop}{w:World}{rest:List Oper}{l:List Value}{ds:List Deferred}{T T' ty:TypeId}{pos:String}{after:Array Edge}{gd:Option (Nat×Bool)}{d:Nat}{x y:Operand}{K:IntKind}{a b:Int}{r:Bool}
end
end Hp
end
section
open Go.RowKit Hp
set_option maxRecDepth 100000
set_option maxHeartbeats 4000000
attribute [local irreducible] Go.Calls Go.wpList
theorem law_mine_yes (x:Cll)(h:Mine x):Zk Tryz.prog 15 #[.agg #[.int .i64 x.thread,.int .i64 x.op,.int .i64 x.arg,.int .i64 x.data,.int .i64 x.begin_,.int .i64 x.end_,.int .i64 x.point,.int .i64 x.kind,.int .i64 x.value]] emp (.bool true) emp:=by
 obtain⟨x1,x2,x3,x4,x5,x6,x7,x8,x9⟩:=x
 obtain⟨h1,h2,h3⟩:=h
 simp only[]at h1 h2 h3
 have n1:decide (x7≥0)=true:=by simpa using h2
 have n2:(x8 != 4)=true:=by simpa using h3
 clear h2 h3
 intro O w F hs
 rcases h1 with rfl|rfl
 all_goals
  go_enter Tryz.func15,Tryz.ntmps15
  (repeat'(first|(((with_reducible apply ZV);rfl;rfl;((simp only[ev,Ue,Uf]);rfl);rfl;(simp only[Uc,Uz]));(repeat((with_reducible apply ZV);rfl;rfl;((simp only[ev,Ue,Uf]);rfl);rfl;(simp only[Uc,Uz]))))|((with_reducible apply Qs);((simp only[ev,Ue,Uf]);rfl);((simp only[cond_true,cond_false,ev,Ue,Uf]);rfl);(with_reducible exact ZT);(simp only[Uc,Uz]))|(go_big_may;(first|((with_reducible apply Zb hs);exact Ii;rfl;(with_reducible exact Qh);rfl;rfl;(simp only[Uc,Uz]))|((with_reducible apply Zr hs);rfl;rfl;rfl;clear hs;intro w b hs;(simp only[Uc,Uz]))))|go_guarded|go_step))
  (go_ret)
  exact⟨rfl,by ((with_reducible apply Sat.fin hs);(focus with_reducible (repeat first|exact Ql|exact Qn|apply Qb|apply Qk);done))⟩
theorem law_mine_no (x:Cll)(h:¬Mine x):Zk Tryz.prog 15 #[.agg #[.int .i64 x.thread,.int .i64 x.op,.int .i64 x.arg,.int .i64 x.data,.int .i64 x.begin_,.int .i64 x.end_,.int .i64 x.point,.int .i64 x.kind,.int .i64 x.value]] emp (.bool false) emp:=by
 obtain⟨x1,x2,x3,x4,x5,x6,x7,x8,x9⟩:=x
 have hc:((x2==30)=false∧(x2==31)=false)∨((x2=30∨x2=31)∧decide (x7≥0)=false)∨((x2=30∨x2=31)∧decide (x7≥0)=true∧x8=4):=by
  by_cases h1:x2=30∨x2=31
  ·by_cases h2:0≤x7
   ·refine .inr (.inr ⟨h1,by simpa using h2,?_⟩)
    apply Classical.byContradiction
    intro h3
    exact h ⟨h1,h2,h3⟩
   ·exact .inr (.inl ⟨h1,by simp;omega⟩)
  ·simp only[not_or]at h1
   exact .inl ⟨by simpa using h1.1,by simpa using h1.2⟩
 clear h
 intro O w F hs
 rcases hc with⟨n1,n2⟩|⟨rfl|rfl,n1⟩|⟨rfl|rfl,n1,rfl⟩
 all_goals
  go_enter Tryz.func15,Tryz.ntmps15
  (repeat'(first|(((with_reducible apply ZV);rfl;rfl;((simp only[ev,Ue,Uf]);rfl);rfl;(simp only[Uc,Uz]));(repeat((with_reducible apply ZV);rfl;rfl;((simp only[ev,Ue,Uf]);rfl);rfl;(simp only[Uc,Uz]))))|((with_reducible apply Qs);((simp only[ev,Ue,Uf]);rfl);((simp only[cond_true,cond_false,ev,Ue,Uf]);rfl);(with_reducible exact ZT);(simp only[Uc,Uz]))|(go_big_may;(first|((with_reducible apply Zb hs);exact Ii;rfl;(with_reducible exact Qh);rfl;rfl;(simp only[Uc,Uz]))|((with_reducible apply Zr hs);rfl;rfl;rfl;clear hs;intro w b hs;(simp only[Uc,Uz]))))|go_guarded|go_step))
  (go_ret)
  exact⟨rfl,by ((with_reducible apply Sat.fin hs);(focus with_reducible (repeat first|exact Ql|exact Qn|apply Qb|apply Qk);done))⟩
abbrev c0:Cll:=⟨0,0,0,0,0,0,0,0,0⟩
abbrev eN (i:Nat):List Value:=[.int .i64 (i:Int)]
def ptA (cs:List Cll)(i:Nat):Int:=(cs.getD i ⟨0,0,0,0,0,0,0,0,0⟩).point
theorem ptA_at {cs:List Cll}{i:Nat}{x:Cll}(h:cs[i]? = some x):ptA cs i=x.point:=by unfold ptA;rw[Yb,h];rfl
structure BpI (cs:List Cll)(k:Nat)(L:List Nat):Prop where
 srt:L.Pairwise (fun a b=>ptA cs a<ptA cs b)
 mem:∀i,i∈L↔i<k∧∃x,cs[i]? = some x∧Mine x
 len:L.length≤k
theorem BpI.no {cs:List Cll}{k:Nat}{L:List Nat}(h:BpI cs k L){x:Cll}(hx:cs[k]? = some x)(hm:¬Mine x):BpI cs (k+1) L:=by
 refine⟨h.srt,fun i => ?_,by have:=h.len;omega⟩
 rw[h.mem]
 constructor
 ·rintro⟨h1,h2⟩;exact⟨by omega,h2⟩
 ·rintro⟨h1,z,h2,h3⟩
  refine⟨?_,z,h2,h3⟩
  by_cases e:i=k
  ·subst e;rw[hx]at h2;cases h2;exact absurd h3 hm
  ·omega
structure BpG (cs:List Cll)(k:Nat)(L:List Nat)(a:Nat)(B:List Nat):Prop where
 le:a≤L.length
 is:B=L.take a++k::L.drop a
 gt:∀z∈L.drop a,ptA cs k<ptA cs z
theorem BpG.len {cs:List Cll}{k a:Nat}{L B:List Nat}(h:BpG cs k L a B):B.length=L.length+1:=by
 rw[h.is]
 have:=h.le
 simp only[List.length_append,List.length_take,List.length_cons,List.length_drop]
 omega
theorem BpG.at_ {cs:List Cll}{k a:Nat}{L B:List Nat}(h:BpG cs k L a B):B[a]? = some k:=by
 have:=h.le
 rw[h.is,List.getElem?_append_right (by rw[List.length_take];omega),List.length_take]
 rw[show a-min a L.length=0 by omega];rfl
theorem BpG.pre {cs:List Cll}{k a:Nat}{L B:List Nat}(h:BpG cs k L a B)(h1:0<a):∃u,L[a-1]? = some u∧B[a-1]? = some u:=by
 have:=h.le
 refine⟨L[a-1],Yd (by omega),?_⟩
 rw[h.is,List.getElem?_append_left (by rw[List.length_take];omega),List.getElem?_take,if_pos (by omega),Yd (by omega)]
theorem BpG.swap {cs:List Cll}{k a u:Nat}{L B:List Nat}(h:BpG cs k L a B)(h1:0<a)(hu:L[a-1]? = some u)(hlt:ptA cs k<ptA cs u):BpG cs k L (a-1) ((B.set (a-1) k).set a u):=by
 have hle:=h.le
 have hd:L.drop (a-1)=u::L.drop a:=by
  obtain⟨h2,h3⟩:=List.getElem?_eq_some_iff.1 hu
  rw[List.drop_eq_getElem_cons h2,h3,show a-1+1=a by omega]
 refine⟨by omega,?_,?_⟩
 ·rw[hd]
  apply List.ext_getElem?
  intro j
  have hB:=h.is
  have hBl:=h.len
  by_cases j1:j=a
  ·subst j1
   rw[Ye (by rw[List.length_set];omega),List.getElem?_append_right (by rw[List.length_take];omega),List.length_take,show j-min (j-1) L.length=1 by omega]
   rfl
  ·rw[Yf (by omega)]
   by_cases j2:j=a-1
   ·subst j2
    rw[Ye (by omega),List.getElem?_append_right (by rw[List.length_take];omega),List.length_take,show a-1-min (a-1) L.length=0 by omega]
    rfl
   ·rw[Yf (by omega),hB]
    by_cases j3:j<a-1
    ·rw[List.getElem?_append_left (by rw[List.length_take];omega),List.getElem?_append_left (by rw[List.length_take];omega),List.getElem?_take,List.getElem?_take,if_pos (by omega),if_pos j3]
    ·rw[List.getElem?_append_right (by rw[List.length_take];omega),List.getElem?_append_right (by rw[List.length_take];omega),List.length_take,List.length_take]
     obtain⟨q,hq⟩:∃q,j=a+1+q:=⟨j-(a+1),by omega⟩
     rw[show j-min a L.length=q+1 by omega,show j-min (a-1) L.length=q+1+1 by omega]
     rfl
 ·intro z hz
  rw[hd]at hz
  rcases List.mem_cons.1 hz with rfl|hz
  ·exact hlt
  ·exact h.gt z hz
theorem BpG.done {cs:List Cll}{k a:Nat}{L B:List Nat}{x:Cll}(h:BpG cs k L a B)(hI:BpI cs k L)(hx:cs[k]? = some x)(hm:Mine x)(h0:a=0∨∃u,L[a-1]? = some u∧ptA cs u<ptA cs k):BpI cs (k+1) B:=by
 have hle:=h.le
 have hst:(L.take a).Pairwise (fun a b=>ptA cs a<ptA cs b):=hI.srt.sublist (List.take_sublist ..)
 have hsd:(L.drop a).Pairwise (fun a b=>ptA cs a<ptA cs b):=hI.srt.sublist (List.drop_sublist ..)
 have hall:∀z∈L.take a,ptA cs z<ptA cs k:=by
  intro z hz
  rcases h0 with rfl|⟨u,h1,h2⟩
  ·simp at hz
  ·obtain⟨j,hj⟩:=List.getElem?_of_mem hz
   rw[List.getElem?_take]at hj
   split at hj
   ·rename_i hja
    obtain⟨j1,rfl⟩:=List.getElem?_eq_some_iff.1 hj
    obtain⟨u1,rfl⟩:=List.getElem?_eq_some_iff.1 h1
    by_cases e:j=a-1
    ·subst e;exact h2
    ·have:=List.pairwise_iff_getElem.1 hI.srt j (a-1) j1 u1 (by omega)
     omega
   ·cases hj
 refine⟨?_,fun i => ?_,by rw[h.len];have:=hI.len;omega⟩
 ·rw[h.is]
  refine List.pairwise_append.2 ⟨hst,List.pairwise_cons.2 ⟨fun z hz=>h.gt z hz,hsd⟩,fun p hp q hq => ?_⟩
  have h1:=hall p hp
  rcases List.mem_cons.1 hq with rfl|hq
  ·exact h1
  ·have:=h.gt q hq;omega
 ·have hmem:i∈B↔i=k∨i∈L:=by
   rw[h.is,Yp,List.mem_cons]
   have:i∈L↔i∈L.take a∨i∈L.drop a:=by rw[←Yp,List.take_append_drop]
   rw[this]
   constructor
   ·rintro(h|h|h)
    ·exact .inr (.inl h)
    ·exact .inl h
    ·exact .inr (.inr h)
   ·rintro(h|h|h)
    ·exact .inr (.inl h)
    ·exact .inl h
    ·exact .inr (.inr h)
  rw[hmem,hI.mem]
  constructor
  ·rintro(rfl|⟨h1,h2⟩)
   ·exact⟨by omega,x,hx,hm⟩
   ·exact⟨by omega,h2⟩
  ·rintro⟨h1,h2⟩
   by_cases e:i=k
   ·exact .inl e
   ·exact .inr ⟨by omega,h2⟩
def PtD (cs:List Cll):Prop:=∀(i j:Nat) (x z:Cll),cs[i]? = some x→cs[j]? = some z→Mine x→Mine z→i≠j→x.point≠z.point
theorem BypQ.ptd {cs:List Cll}{L:List Nat}(h:BypQ cs L):PtD cs:=by
 intro i j x z hx hz mx mz hne e
 have hi:=(h.mem i).2 ⟨x,hx,mx⟩
 have hj:=(h.mem j).2 ⟨z,hz,mz⟩
 obtain⟨p,hp⟩:=List.getElem?_of_mem hi
 obtain⟨q,hq⟩:=List.getElem?_of_mem hj
 obtain⟨p1,p2⟩:=List.getElem?_eq_some_iff.1 hp
 obtain⟨q1,q2⟩:=List.getElem?_eq_some_iff.1 hq
 have key:∀ {p q:Nat} (p1:p<L.length) (q1:q<L.length) {i j:Nat} {x z:Cll},L[p]=i→L[q]=j→cs[i]? = some x→cs[j]? = some z→p<q→x.point<z.point:=by
  intro p q p1 q1 i j x z e1 e2 hx hz hlt
  have:=List.pairwise_iff_getElem.1 h.srt p q p1 q1 hlt
  rw[e1,e2,Yb,Yb,hx,hz]at this
  exact this
 rcases Nat.lt_trichotomy p q with h'|h'|h'
 ·have:=key p1 q1 p2 q2 hx hz h';omega
 ·subst h';exact hne (p2.symm.trans q2)
 ·have:=key q1 p1 q2 p2 hz hx h';omega
theorem BpI.fin {cs:List Cll}{L M:List Nat}(h:BpI cs cs.length L)(hM:BypQ cs M):L=M:=by
 refine BypQ.eq ⟨h.srt,fun i => ?_⟩ hM
 rw[h.mem]
 constructor
 ·exact fun h=>h.2
 ·rintro⟨x,h1,h2⟩
  exact⟨(List.getElem?_eq_some_iff.1 h1).1,x,h1,h2⟩
end
end Go.Proofs.YtjagadldibbbbaaGreat
