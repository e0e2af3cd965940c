/-
  StackKept: what was pushed is what was popped and what is there.
-/
import Derived.Test.YtjagadldibbbbaaGreatDStkNW
import Derived.Test.YtjagadldibbbbaaGreatDLog
set_option linter.all false
namespace Go.Proofs.YtjagadldibbbbaaGreat
open Go.RowKit Hp
set_option maxRecDepth 100000
attribute [local irreducible] Go.Calls Go.wpList
section
set_option maxHeartbeats 1000000
instance (x:Cll):Decidable (Mine x):=by unfold Mine;exact Ii
def iC (x:Cll):List Int:=if x.op=30∧Mine x then [x.arg] else []
def oC (x:Cll):List Int:=if x.op=31∧x.kind=2 then [x.value] else []
def nC (x:Cll):List Int:=if (x.op=31∧x.end_<0)∧0≤x.point then [0] else []
structure KeptQ (cs:List Cll)(l:List Int):Prop where
 ex:∃R:List Int,(cs.flatMap iC).Perm ((l++cs.flatMap oC)++R)∧R.length≤(cs.flatMap nC).length
 fin:∀x∈cs,x.end_ = -1∧x.kind=0∨0≤x.end_
def atC (cs:List Cll)(i:Nat):Cll:=cs.getD i ⟨0,0,0,0,0,0,0,0,0⟩
theorem atC_at {cs:List Cll}{i:Nat}{x:Cll}(h:cs[i]? = some x):atC cs i=x:=by unfold atC;rw[Yb,h];rfl
theorem flat_range (cs:List Cll)(f:Cll→List Int):cs.flatMap f=(List.range cs.length).flatMap (fun i=>f (atC cs i)):=by
 have e:cs=(List.range cs.length).map (atC cs):=by
  apply List.ext_getElem?
  intro j
  rw[Ym]
  by_cases hj:j<cs.length
  ·rw[List.getElem?_range hj,Yd hj]
   simp only[Option.map_some]
   rw[atC_at (Yd hj)]
  ·rw[List.getElem?_eq_none (by omega),List.getElem?_eq_none (by simp;omega)];rfl
 have e2:cs.flatMap f=((List.range cs.length).map (atC cs)).flatMap f:=congrArg (fun l=>l.flatMap f) e
 rw[e2,List.flatMap_map]
theorem flat_filter {f:Nat→List Int}{p:Nat→Bool}:∀ {r:List Nat},(∀i∈r,p i=false→f i=[])→(r.filter p).flatMap f=r.flatMap f
 | [],_=>rfl
 | a::r,h=>by
  have ih:=flat_filter (r:=r) (fun i hi=>h i (List.mem_cons_of_mem _ hi))
  rw[List.filter_cons]
  split
  ·simp only[List.flatMap_cons,ih]
  ·rename_i hp
   rw[List.flatMap_cons,h a (List.mem_cons_self ..) (by simpa using hp),ih];rfl
theorem perm_of_same:∀ {l m:List Nat},l.Nodup→m.Nodup→(∀x,x∈l↔x∈m)→l.Perm m
 | [],m,_,_,h=>by
  cases m with
  | nil=>exact .refl _
  | cons a r=>have:=(h a).2 (List.mem_cons_self ..);simp at this
 | a::r,m,h1,h2,h=>by
  obtain⟨n1,n2⟩:=List.nodup_cons.1 h1
  have ha:=(h a).1 (List.mem_cons_self ..)
  refine List.Perm.trans (List.Perm.cons a (perm_of_same (m:=m.erase a) n2 (h2.erase a) (fun x => ?_))) (List.perm_cons_erase ha).symm
  rw[List.Nodup.mem_erase_iff h2]
  constructor
  ·intro hx
   exact⟨by rintro rfl;exact n1 hx,(h x).1 (List.mem_cons_of_mem _ hx)⟩
  ·rintro⟨hne,hx⟩
   rcases List.mem_cons.1 ((h x).2 hx) with e|e
   ·exact absurd e hne
   ·exact e
theorem BypQ.flat {cs:List Cll}{M:List Nat}(h:BypQ cs M){f:Cll→List Int}(hf:∀x∈cs,¬Mine x→f x=[]):(cs.flatMap f).Perm (M.flatMap (fun i=>f (atC cs i))):=by
 rw[flat_range]
 have hM:M.Nodup:=(List.Pairwise.imp (fun {a b} hab=>by intro e;subst e;omega) h.srt)
 have hp:((List.range cs.length).filter (fun i=>decide (Mine (atC cs i)))).Perm M:=by
  refine perm_of_same (List.nodup_range.filter _) hM (fun i => ?_)
  rw[List.mem_filter,List.mem_range,h.mem]
  constructor
  ·rintro⟨h1,h2⟩
   rw[decide_eq_true_eq,atC_at (Yd h1)]at h2
   exact⟨_,Yd h1,h2⟩
  ·rintro⟨x,h1,h2⟩
   exact⟨(List.getElem?_eq_some_iff.1 h1).1,by rw[decide_eq_true_eq,atC_at h1];exact h2⟩
 rw[←flat_filter (p:=fun i=>decide (Mine (atC cs i))) (fun i hi hn => ?_)]
 ·exact hp.flatMap_right _
 ·have hi:=List.mem_range.1 hi
  rw[atC_at (Yd hi)]at hn ⊢
  exact hf _ (List.getElem_mem hi) (by simpa using hn)
theorem LinQ.kept {cs:List Cll}{M:List Nat}{S:Nat→List Int}(h:LinQ cs M S)(hB:BypQ cs M)(hk:∀x∈cs,x.end_ = -1∧x.kind=0∨0≤x.end_):∀j,j≤M.length →
  ∃R:List Int,((M.take j).flatMap (fun i=>iC (atC cs i))).Perm (((M.take j).flatMap (fun i=>oC (atC cs i))++R)++S j)∧R.length≤((M.take j).flatMap (fun i=>nC (atC cs i))).length
 | 0,_=>⟨[],by rw[h.s0];simp,by simp⟩
 | j+1,hj=>by
  obtain⟨R,p1,p2⟩:=LinQ.kept h hB hk j (by omega)
  have hi:M[j]? = some M[j]:=Yd (by omega)
  generalize M[j]=i at hi
  obtain⟨x,hx,hE⟩:=h.ent j i hi
  have hm:Mine x:=by
   obtain⟨z,h1,h2⟩:=(hB.mem i).1 (Yc hi)
   rw[hx]at h1;cases h1;exact h2
  have hxk:=hk x (Yc hx)
  rw[List.take_add_one,hi]
  simp only[List.flatMap_append,Option.toList_some,List.flatMap_cons,List.flatMap_nil,List.append_nil,atC_at hx]
  rcases hE.does with⟨g1,g2,g3⟩|⟨g1,g2,g3,g4⟩|⟨g1,v,g2,g3⟩
  ·have e1:iC x=[x.arg]:=if_pos ⟨g1,hm⟩
   have e2:oC x=[]:=if_neg (by omega)
   have e3:nC x=[]:=if_neg (by omega)
   rw[e1,e2,e3,g3]
   refine⟨R,?_,by simpa using p2⟩
   rw[List.append_nil]
   refine(p1.append_right [x.arg]).trans ?_
   rw[List.append_assoc]
   refine List.Perm.append_left _ ?_
   exact List.perm_append_comm
  ·have e1:iC x=[]:=if_neg (by omega)
   have e2:oC x=[]:=if_neg (by
    rintro⟨_,h2⟩
    rcases hxk with⟨a,b⟩|a
    ·omega
    ·have:=g4 (by omega);omega)
   rw[e1,e2,g3,List.append_nil,List.append_nil]
   rw[g2]at p1
   exact⟨R,p1,by rw[List.length_append];omega⟩
  ·have e1:iC x=[]:=if_neg (by omega)
   rw[e1,List.append_nil]
   rw[g2]at p1
   rcases hxk with⟨a,b⟩|a
   ·have e2:oC x=[]:=if_neg (by omega)
    have e3:nC x=[0]:=if_pos ⟨⟨g1,by omega⟩,hm.2.1⟩
    rw[e2,e3,List.append_nil]
    refine⟨R++[v],?_,by simp only[List.length_append,List.length_cons,List.length_nil];omega⟩
    refine p1.trans ?_
    simp only[List.append_assoc,List.singleton_append]
    exact .refl _
   ·obtain⟨k1,k2⟩:=g3 (by omega)
    have e2:oC x=[v]:=by unfold oC;rw[if_pos ⟨g1,k1⟩,k2]
    have e3:nC x=[]:=if_neg (by omega)
    rw[e2,e3,List.append_nil]
    refine⟨R,?_,p2⟩
    refine p1.trans ?_
    simp only[List.append_assoc,List.singleton_append]
    refine List.Perm.append_left _ ?_
    exact List.perm_middle
theorem LnW.kept {TP V LK S0:Nat}{cs:List Cll}{ws:List Int}{M:List Nat}{S:Nat→List Int}{stk:List Nat}{l:List Int}(h:LnW TP V LK S0 cs ws M S stk l)(hk:∀x∈cs,x.end_ = -1∧x.kind=0∨0≤x.end_)
  (ho:∀x∈cs,x.op=31→x.kind=2→Mine x):KeptQ cs l:=by
 obtain⟨R,p1,p2⟩:=h.lin.kept h.byp hk M.length (Nat.le_refl _)
 rw[List.take_length,h.fin]at p1
 rw[List.take_length]at p2
 have f1:=h.byp.flat (f:=iC) (fun x _ hm=>if_neg (fun hf=>hm hf.2))
 have f2:=h.byp.flat (f:=oC) (fun x hx hm=>if_neg (fun hf=>hm (ho x hx hf.1 hf.2)))
 have f3:=h.byp.flat (f:=nC) (fun x hx hm=>if_neg (fun hf=>hm ⟨.inr hf.1.1,hf.2,by
  rcases hk x hx with⟨a,b⟩|a
  ·omega
  ·omega⟩))
 refine⟨⟨R,?_,by rw[f3.length_eq];exact p2⟩,hk⟩
 refine f1.trans (p1.trans ?_)
 refine List.perm_append_comm.trans ?_
 rw[←List.append_assoc]
 exact((f2.symm.append_left l)).append_right R
/-! ## the law's own search -/
theorem swap_perm {v a:Int}:∀ {A:List Int} {p:Nat},A[p]? = some v→(v::A.set p a).Perm (a::A)
 | [],_,h=>by simp at h
 | b::A,0,h=>by simp at h;subst h;exact List.Perm.swap ..
 | b::A,p+1,h=>by
  simp only[Ue]at h
  have:=swap_perm (a:=a) h
  rw[Uc]
  exact(List.Perm.swap ..).trans ((this.cons b).trans (List.Perm.swap ..))
structure KeB (out R:List Int)(n i:Nat)(ins:List Int):Prop where
 len:ins.length=n
 perm:(ins.drop i).Perm (out.drop i++R)
theorem KeB.find {out R:List Int}{n i:Nat}{ins:List Int}{v:Int}(h:KeB out R n i ins)(hv:out[i]? = some v):∃q,i≤q∧q<n∧ins[q]? = some v:=by
 have hm:v∈ins.drop i:=by
  rw[h.perm.mem_iff]
  refine List.mem_append_left _ ?_
  obtain⟨h1,rfl⟩:=List.getElem?_eq_some_iff.1 hv
  rw[List.drop_eq_getElem_cons h1]
  exact List.mem_cons_self ..
 obtain⟨j,hj⟩:=List.getElem?_of_mem hm
 rw[List.getElem?_drop]at hj
 have:=(List.getElem?_eq_some_iff.1 hj).1
 exact⟨i+j,by omega,by rw[←h.len];exact this,hj⟩
theorem KeB.swap {out R:List Int}{n i q:Nat}{ins:List Int}{v a:Int}(h:KeB out R n i ins)(hv:out[i]? = some v)(hq:ins[q]? = some v)(hi:i≤q)(ha:ins[i]? = some a):KeB out R n (i+1) ((ins.set i v).set q a):=by
 refine⟨by rw[List.length_set,List.length_set];exact h.len,?_⟩
 have hil:=(List.getElem?_eq_some_iff.1 ha).1
 have hol:=(List.getElem?_eq_some_iff.1 hv).1
 have hd:ins.drop i=a::ins.drop (i+1):=by
  rw[List.drop_eq_getElem_cons hil,(List.getElem?_eq_some_iff.1 ha).2]
 have ho:out.drop i=v::out.drop (i+1):=by
  rw[List.drop_eq_getElem_cons hol,(List.getElem?_eq_some_iff.1 hv).2]
 have hp:=h.perm
 rw[hd,ho]at hp
 by_cases e:q=i
 ·subst e
  rw[ha]at hq
  cases hq
  rw[Yl,List.drop_set,if_pos (by omega)]
  exact hp.cons_inv
 ·have e1:((ins.set i v).set q a).drop (i+1)=(ins.drop (i+1)).set (q-(i+1)) a:=by
   rw[List.drop_set,if_neg (by omega),List.drop_set,if_pos (by omega)]
  rw[e1]
  have hq2:(ins.drop (i+1))[q-(i+1)]? = some v:=by
   rw[List.getElem?_drop,show i+1+(q-(i+1))=q by omega];exact hq
  exact((swap_perm (a:=a) hq2).trans hp).cons_inv
end
section
set_option maxHeartbeats 4000000
theorem kept_of {c:Cfg}{N:Nat}{mvs:List Mv}{y:GW Zm}(hw:∀mv∈mvs,wrap64 mv.arg=mv.arg)(P:PG (SI c) c N y)(J:LnJ c N y)(A:ArgM mvs y) :
  ∃stk l,ChQ (adr c 3 0) (base c 11).toNat (base c 13).toNat c.Sl.toNat y.m.mem.words stk l∧KeptQ y.m.calls l∧l.length≤y.m.calls.length:=by
 obtain⟨M,S,stk,l,h⟩:=ln_w hw P J A
 obtain⟨stk',pr,F,o,D,L⟩:=J.ex
 refine⟨stk,l,h.ch,h.kept (fun x hx=>(A x hx).2) (fun x hx h1 h2 => ?_),by have h1:=h.len M.length (Nat.le_refl _);have:=h.ml;rw[h.fin]at h1;omega⟩
 obtain⟨i,hi⟩:=List.getElem?_of_mem hx
 rcases(A x hx).2 with⟨a,b⟩|a
 ·omega
 ·rcases(L.ans i x hi (by omega)).2 h1 with⟨b,_⟩|⟨b,rest,b2⟩
  ·omega
  ·obtain⟨x',k1,k2,_,_,_,_,_,k8,_⟩:=L.st _ b2
   simp only[]at k2 k8
   exact⟨.inr h1,k8,by omega⟩
theorem flat_next {cs:List Cll}{f:Cll→List Int}{k:Nat}{x:Cll}(h:cs[k]? = some x):(cs.take (k+1)).flatMap f=(cs.take k).flatMap f++f x:=by
 rw[List.take_add_one,h,List.flatMap_append];simp
theorem stack_kept (c:Cfg)(mvs:List Mv)(v:Value)(hw0:∀mv∈mvs,wrap64 mv.arg=mv.arg)(A:Zc)(hRd:Rd A 4 (mvs.map Mv.e) v):Zk Tryz.prog 7 #[c.v,v] A (.bool true) A:=by
 intro O w F hs
 have hAw:=Lh law_awake
 by_cases hfit:SFit c mvs
 ·have hF:=Lh (law_fits c mvs v hfit A hRd)
  have hP:=Lh (law_played2 c mvs hfit v (LnJ c) (ln_start hfit.1) (ln_ok c) A hRd)
  have hCh:=Lh (law_chain c hfit.1)
  obtain⟨b1,b2,b8,b9,b10,b11,b12,b13,b14,rh,rh2,b3⟩:=QI hfit.1
  have hTA:=QQ hfit.1 3 (Int.le_refl 0)
  have hS1:=hfit.1.S1
  have hS2:=hfit.1.S2
  have hV0:=(ZD hfit.1 11).1
  have hL0:=(ZD hfit.1 13).1
  have hbl:=base14_le hfit.1
  obtain⟨a0,c0,rfl⟩:=hRd.len
  simp only[List.length_map]at hF hP hs ⊢
  have hN2:=hfit.2
  have hQ:Hid (∀y:GW Zm,PG (SI c) c mvs.length y∧LnJ c mvs.length y∧ArgM mvs y→(∃stk l,ChQ (adr c 3 0) (base c 11).toNat (base c 13).toNat c.Sl.toNat y.m.mem.words stk l∧KeptQ y.m.calls l∧l.length≤y.m.calls.length)∧y.m.calls.length<100000∧y.m.mem.words.length<4294967296):=Lh (fun y hy=>by
   have hl:=hy.1.calls
   have hwd:=hy.1.core.words
   exact⟨kept_of hw0 hy.1 hy.2.1 hy.2.2,by omega,by omega⟩)
  have e3:base c 3=((adr c 3 0:Nat):Int):=by omega
  have e11:base c 11=(((base c 11).toNat:Nat):Int):=by omega
  have e13:base c 13=(((base c 13).toNat:Nat):Int):=by omega
  have eS:c.Sl=((c.Sl.toNat:Nat):Int):=by omega
  generalize adr c 3 0=TP at hQ e3
  generalize (base c 11).toNat=V at hQ e11
  generalize (base c 13).toNat=LK at hQ e13
  generalize c.Sl.toNat=S0 at hQ eS
  have hCh:Hid (∀(ws:List Int) (stk:List Nat) (l:List Int),ws.length<4294967296→ChQ TP V LK S0 ws stk l→∀a4 c4,Does Tryz.prog 12 #[c.v,.slice a4 ws.length c4] (sl 47 1 (ws.map eU) (.slice a4 ws.length c4))
   (fun u=>(ex fun v=>pu (u=.tuple #[v,.bool true])*sl 3 1 (l.map eI) v)*sl 47 1 (ws.map eU) (.slice a4 ws.length c4))):=Lh (fun ws stk l h1 h2 a4 c4=>hCh.out ws stk l h1 TP V LK S0 e3 e11 e13 eS h2 a4 c4)
  clear hRd hfit b1 b2 b8 b9 b10 b11 b12 b13 b14 rh rh2 b3 hTA hV0 hL0 hbl e3 e11 e13 eS hS1 hS2 hw0
  generalize mvs.length=N at *
  obtain⟨d1,d2,d3,d4,d5,d6,d7⟩:=c
  have hs:=Q8 (E:=3) (sz:=1) hs (by omega)
  go_enter Tryz.func7,Tryz.ntmps7
  (repeat'(first|(go_big_may;(first|((show wpList _ _ _ (Oper.mk (some 2) _ _ _ _ _::_) _ _);(with_reducible apply Zr hs);rfl;rfl;rfl;clear hs;intro w bC hs;(simp only[Uc,Uz]))|((show wpList _ _ _ (Oper.mk (some 5) _ _ _ _ _::_) _ _);(with_reducible apply Zn hs);exact Ii;rfl;clear hs;intro w bR hs;(simp only[Uc,Uz]))|((show wpList _ _ _ (Oper.mk (some 39) _ _ _ _ _::_) _ _);((with_reducible apply wl_bs0 hs);exact Ii;exact Ii;rfl;clear hs;intro w v hs;(simp only[Uc,Uz])))|(first|((with_reducible apply Zb hs);exact Ii;rfl;(with_reducible exact Qh);rfl;rfl;(simp only[Uc,Uz]))|((with_reducible apply Z3 hs);exact Ii;rfl;(with_reducible repeat first|exact Qh|apply Qk);rfl;rfl;(simp only[Uc,Uz]))|((with_reducible apply ZH hs);exact Ii;rfl;rfl;(with_reducible exact Qh);rfl;rfl;rfl;rfl;clear hs;intro w hs)|((with_reducible apply QM hs);exact Ii;exact Ii;rfl;rfl;(with_reducible exact Qh);(with_reducible exact Qh);(simp only[Wm,Ws,Wa,Wc,Wn,Wr]at *;omega);(exact Vb rfl);rfl;clear hs;intro w v hs;(simp only[Uc,Uz])))|(go_at_call 8;((refine(hF.out).at hs (by (with_reducible repeat first|exact Qh|apply Qk)) ?_);clear hs;intro w hs;(try simp only[Em,Ma]at hs)))|(go_at_call 10;((refine(hP.out).at hs (by (with_reducible exact Qh)) ?_);clear hs;intro v w hs;(try simp only[Em,Ma]at hs));(unfold playedR RunR at hs);(simp only[ZI,Ma,Zx]at hs);(obtain⟨y,vr,⟨hy,rfl⟩,vc,vt,vs,vw,rfl,hs⟩:=hs);(obtain⟨a1,k1,rfl⟩:=ZU (hs.pull (A:=sl 42 9 _ vc) (by (with_reducible exact Qh))));(obtain⟨a2,k2,rfl⟩:=ZU (hs.pull (A:=sl 49 7 _ vt) (by (with_reducible repeat first|exact Qh|apply Qk))));(obtain⟨a3,k3,rfl⟩:=ZU (hs.pull (A:=sl 52 5 _ vs) (by (with_reducible repeat first|exact Qh|apply Qk))));(obtain⟨a4,k4,rfl⟩:=ZU (hs.pull (A:=sl 47 1 _ vw) (by (with_reducible repeat first|exact Qh|apply Qk))));(simp only[List.length_map]at hs ⊢);(obtain⟨⟨stk,l,hqc,hq,hll⟩,hcl,hwl⟩:=hQ.out y hy);(have hCc:=Lh (hCh.out y.m.mem.words stk l hwl hqc a4 k4));(clear hQ hP hCh hy hqc);(generalize y.m.calls=cs at hs hq hcl hll ⊢);(generalize y.m.mem.log=lg at hs ⊢);(generalize y.m.shifts=sh at hs ⊢);(generalize y.m.mem.words=ws at hs hwl hCc ⊢);(replace hq:=Lh hq))|(go_at_call 12;((refine(hCc.out).at hs (by (with_reducible repeat first|exact Qh|apply Qk)) ?_);clear hs;intro v w hs;(try simp only[Em,Ma]at hs));(simp only[ZI,Ma,Zx]at hs);(obtain⟨v9,rfl,hs⟩:=hs);(obtain⟨a9,k9,rfl⟩:=ZU (hs.pull (A:=sl 3 1 (l.map eI) _) (by (with_reducible exact Qh))));(simp only[List.length_map]at hs ⊢);(have hl65:l.length<4294967295:=by omega))))|go_step|(dsimp only)))
  obtain⟨a8,k8,rfl⟩:=ZU (hs.pull (A:=sl 3 1 ([]++List.map eI l) v) (by (with_reducible exact Qh)))
  simp only[List.nil_append,List.length_map]at hs ⊢
  have hs:=Q8 (E:=3) (sz:=1) hs (by omega)
  go_loopw [9,10,11,12,13] (fun v9 v10 v11 q _ wr=>∃(k:Nat) (ins outs:List Int) (nop:Nat) (ai:Option Addr) (ni:Nat) (ao:Option Addr) (no:Nat),k≤cs.length∧v9=.slice ai ins.length ni∧v10=.int .i64 (nop:Int)∧v11=.slice ao outs.length no∧q=.int .i64 (k:Int) ∧
   Hid (ins=(cs.take k).flatMap iC∧outs=l++(cs.take k).flatMap oC∧nop=((cs.take k).flatMap nC).length)∧ins.length≤k∧outs.length≤l.length+k∧nop≤k ∧
   Sat O wr (sl 3 1 (ins.map eI) (.slice ai ins.length ni)*(sl 3 1 (outs.map eI) (.slice ao outs.length no)*(sl 42 9 (cs.map Cll.e) (.slice a1 cs.length k1)*(pt bR (.cells #[.slice a1 cs.length k1,.slice a2 lg.length k2,.slice a3 sh.length k3,.slice a4 ws.length k4] 32)*(A*F)))))) (fun _ _ _ q _ _=>cs.length+1-(intOf q).toNat)
  case atStart=>exact⟨0,[],l,0,none,0,a8,k8,by omega,rfl,rfl,rfl,rfl,Lh ⟨by simp,by simp,by simp⟩,by simp,by simp,by simp,by ((with_reducible apply Sat.fin hs);(focus((repeat(first|with_reducible exact Ql|with_reducible exact Qh|with_reducible apply Qb|exact Qh|with_reducible apply Qk));done)))⟩
  case round=>
   obtain⟨k,ins,outs,nop,ai,ni,ao,no,kl,rfl,rfl,rfl,rfl,hL,b1,b2,b3,hs⟩:=hrel
   by_cases hkr:k=cs.length
   ·subst hkr
    obtain⟨R,hp,hR⟩:=hq.out.ex
    rw[List.take_length]at hL
    obtain⟨g1,g2,g3⟩:=hL.out
    rw[←g1,←g2]at hp
    rw[←g3]at hR
    have hpl:=hp.length_eq
    rw[List.length_append]at hpl
    have hlt:decide ((cs.length:Int)<(cs.length:Int))=false:=by simp
    have hlt2:decide (cs.length<cs.length)=false:=by simp
    have n1:decide ((ins.length:Int)<(outs.length:Int))=false:=by simp;omega
    have n2:decide ((ins.length:Int)>(outs.length:Int)+(nop:Int))=false:=by simp;omega
    have n3:decide (ins.length<outs.length)=false:=by simp;omega
    have hK0:Hid (KeB outs R ins.length 0 ins):=Lh ⟨rfl,by simpa using hp⟩
    have ho65:outs.length<4294967295:=by omega
    have hi65:ins.length<4294967295:=by omega
    have hno:nop<4294967295:=by omega
    have hn0:=Lh (show ins.length=ins.length from rfl)
    clear hL g1 g2 g3 hp hpl hR hq kl b1 b2 b3 hn0
    (repeat'(first|((with_reducible apply Qs);((simp only[ev,Ue,Uf]);rfl);((simp only[cond_true,cond_false,ev,Ue,Uf]);rfl);(with_reducible exact ZT);(simp only[Uc,Uz]))|(go_big_may;(first|((with_reducible apply Zb hs);exact Ii;rfl;(with_reducible repeat first|exact Qh|apply Qk);rfl;rfl;(simp only[Uc,Uz]))|((with_reducible apply Zw hs);exact Ii;rfl;(with_reducible repeat first|exact Qh|apply Qk);rfl;(simp only[Uc,Uz]))))|go_guarded|go_step))
    have hlen:ins.length=ins.length:=rfl
    generalize hn:ins.length=n at hs hK0 hi65 ⊢
    clear hlen hn n1 n2 n3
    go_loopw [14,15,16] (fun q _ _ wr=>∃(i:Nat) (jn:List Int),i≤outs.length∧q=.int .i64 (i:Int)∧Hid (KeB outs R n i jn) ∧
     Sat O wr (sl 3 1 (jn.map eI) (.slice ai n ni)*(sl 3 1 (outs.map eI) (.slice ao outs.length no)*(A*F)))) (fun q _ _ _=>outs.length+1-(intOf q).toNat)
    case atStart=>exact⟨0,ins,by omega,rfl,hK0,by ((with_reducible apply Sat.fin hs);(with_reducible repeat first|exact Ql|exact Qh|apply Qb|apply Qk))⟩
    case round=>
     obtain⟨i,jn,il,rfl,hK,hs⟩:=hrel
     by_cases hir:i=outs.length
     ·subst hir
      have hlt:decide ((outs.length:Int)<(outs.length:Int))=false:=by simp
      have hlt2:decide (outs.length<outs.length)=false:=by simp
      clear hK
      (repeat'(first|(go_big_may;((with_reducible apply Zw hs);exact Ii;rfl;(with_reducible repeat first|exact Qh|apply Qk);rfl;(simp only[Uc,Uz])))|go_step))
      (go_ret)
      exact⟨rfl,by ((with_reducible apply Sat.fin hs);(with_reducible repeat first|exact Ql|exact Qh|apply Qb|apply Qk))⟩
     ·have hil:i<outs.length:=by omega
      have hlt:decide ((i:Int)<(outs.length:Int))=true:=by simp;omega
      have hlt2:decide (i<outs.length)=true:=by simp;omega
      have hiw:i+1<4294967296:=by omega
      have hIL:=Lh hil
      obtain⟨z,hz⟩:∃z,outs[i]? = some z:=⟨_,Yd hil⟩
      have HZ:=Lh hz
      have hgo:(outs.map eI)[i]? = some [.int .i64 z]:=by rw[Ym,hz];rfl
      have hon:i<(outs.map eI).length:=by simpa using hil
      have hjl:(jn.map eI).length=n:=by rw[List.length_map];exact hK.out.len
      obtain⟨p0,hp0,hp1,hp2⟩:=hK.out.find hz
      have HF:Hid (∃q,i≤q∧q<n∧jn[q]? = some z):=Lh ⟨p0,hp0,hp1,hp2⟩
      have hin:i<n:=by omega
      clear hz hil hir hp0 hp1 hp2 il
      (repeat'(first|(go_big_may;((with_reducible apply Zw hs);exact Ii;rfl;(with_reducible repeat first|exact Qh|apply Qk);rfl;(simp only[Uc,Uz])))|go_step))
      go_loopw [15,16] (fun v15 v16 wr=>∃(q:Nat) (f:Int),i≤q∧q≤n∧v16=.int .i64 (q:Int)∧v15=.int .i64 f∧Hid ((f = -1∧∀p,i≤p→p<q→jn[p]? ≠ some z)∨∃p:Nat,f=(p:Int)∧i≤p∧p<q∧jn[p]? = some z) ∧
       Sat O wr (sl 3 1 (jn.map eI) (.slice ai n ni)*(sl 3 1 (outs.map eI) (.slice ao outs.length no)*(A*F)))) (fun _ v16 _=>n+1-(intOf v16).toNat)
      case atStart=>exact⟨i,-1,Nat.le_refl _,by omega,rfl,rfl,Lh (.inl ⟨rfl,fun p h1 h2=>by omega⟩),by ((with_reducible apply Sat.fin hs);(with_reducible exact Ql))⟩
      case round=>
       obtain⟨q,f,iq,qn,rfl,rfl,hf,hs⟩:=hrel
       by_cases hqr:q=n
       ·have hlt3:decide ((q:Int)<(n:Int))=false:=by simp;omega
        have hlt4:decide (q<n)=false:=by simp;omega
        obtain⟨p,rfl,ip,pn,hp⟩:∃p:Nat,f=(p:Int)∧i≤p∧p<n∧jn[p]? = some z:=by
         rcases hf.out with⟨_,h⟩|⟨p,h1,h2,h3,h4⟩
         ·obtain⟨q',h1,h2,h3⟩:=HF.out
          exact absurd h3 (h q' h1 (by omega))
         ·exact⟨p,h1,h2,by omega,h4⟩
        obtain⟨a,ha⟩:∃a,jn[i]? = some a:=⟨_,Yd (by have:=hK.out.len;omega)⟩
        have hnx:=Lh (hK.out.swap HZ.out hp ip ha)
        have f0:decide ((p:Int)<0)=false:=by simp
        have hgp:(jn.map eI)[p]? = some [.int .i64 z]:=by rw[Ym,hp];rfl
        have hga:(jn.map eI)[i]? = some [.int .i64 a]:=by rw[Ym,ha];rfl
        have hpn:p<(jn.map eI).length:=by omega
        have hia:i<(jn.map eI).length:=by omega
        have hpn2:p<((jn.map eI).set i [.int .i64 z]).length:=by rw[List.length_set];exact hpn
        have hgp2:((jn.map eI).set i [.int .i64 z])[p]? = some [.int .i64 z]:=by
         by_cases e:p=i
         ·subst e;rw[Ye hia]
         ·rw[Yf (Ne.symm e)];exact hgp
        clear hf hqr hp ha HF
        (repeat'(first|(go_big_may;(first|(first|(first|(with_reducible refine NQ.mk ?_)|((with_reducible apply Zh);rfl;rfl)|((with_reducible apply Zq);rfl)|(with_reducible refine EQ.mk ?_ ?_)|(first|(with_reducible exact Zf)|((with_reducible refine Zl ?_ ?_);(focus((with_reducible apply ZF);rfl;rfl))))|(with_reducible refine Zi ?_)|(show ZY _ _ _;rfl))|((with_reducible apply Zu hs);exact Ii;rfl;assumption;(with_reducible exact Qh);rfl;(assumption);rfl;rfl;(simp only[Uc,Uz]))|((with_reducible apply QE hs);exact Ii;rfl;rfl;assumption;(with_reducible exact Qh);rfl;(assumption);(exact Vb rfl);(rfl);rfl;clear hs;intro w hs)|((with_reducible apply QH hs);exact Ii;exact Ii;rfl;assumption;rfl;(with_reducible exact Qh);(rfl);(assumption);rfl;(simp only[Uc,Uz]))|((with_reducible apply ZP hs);exact Ii;exact Ii;rfl;rfl;(with_reducible exact Qh);(rfl);(assumption);rfl;intro b off hat;(simp only[Uc,Uz]))|((with_reducible apply Zw hs);exact Ii;rfl;(with_reducible exact Qh);rfl;(simp only[Uc,Uz])))|((with_reducible refine Wp (id:=35) (Paz (Pbz [.neu 10,.neu 11,.neu 12,.eff 13 [2,3],.neu 14,.eff 15 []])) hs rfl ?_ ?_);kernel_rfl;clear hs;intro w hs)))|go_step))
        have e11:((jn.map eI).set i [.int .i64 z]).set p [.int .i64 a]=((jn.set i z).set p a).map eI:=by rw[Yk,Yk]
        simp only[Uz]at hs
        rw[e11]at hs
        go_roundw
        case rel=>exact⟨i+1,_,by have:=hIL.out;omega,by simp,hnx,by ((with_reducible apply Sat.fin hs);(with_reducible exact Ql))⟩
        case measure=>have:=hIL.out;simp[intOf];omega
       ·have hlt3:decide ((q:Int)<(n:Int))=true:=by simp;omega
        have hlt4:decide (q<n)=true:=by simp;omega
        have hqw:q+1<4294967296:=by omega
        obtain⟨u,hu⟩:∃u,jn[q]? = some u:=⟨_,Yd (by have:=hK.out.len;omega)⟩
        have hgu:(jn.map eI)[q]? = some [.int .i64 u]:=by rw[Ym,hu];rfl
        have hqn2:q<(jn.map eI).length:=by omega
        have hQN:=Lh (show q+1≤n by omega)
        by_cases huz:u=z
        ·subst huz
         have hf2:Hid (((q:Int) = -1∧∀p,i≤p→p<q+1→jn[p]? ≠ some u)∨∃p:Nat,(q:Int)=(p:Int)∧i≤p∧p<q+1∧jn[p]? = some u):=Lh (.inr ⟨q,rfl,iq,by omega,hu⟩)
         clear hf hu hqr
         (repeat'(first|(go_big_may;(first|(first|(first|(with_reducible refine NQ.mk ?_)|((with_reducible apply Zh);rfl;rfl)|(with_reducible refine Zi ?_))|((with_reducible apply Zu hs);exact Ii;rfl;assumption;(with_reducible repeat first|exact Qh|apply Qk);rfl;(assumption);rfl;rfl;(simp only[Uc,Uz]))|((with_reducible apply ZP hs);exact Ii;exact Ii;rfl;rfl;(with_reducible repeat first|exact Qh|apply Qk);(rfl);(assumption);rfl;intro b off hat;(simp only[Uc,Uz]))|((with_reducible apply Zw hs);exact Ii;rfl;(with_reducible exact Qh);rfl;(simp only[Uc,Uz])))|((with_reducible refine Wp (id:=31) (Paz [.neu 5,.neu 6,.neu 7,.neu 8]) hs rfl ?_ ?_);kernel_rfl;clear hs;intro w hs)))|go_step))
         go_roundw
         case rel=>exact⟨q+1,q,by omega,hQN.out,by simp,rfl,hf2,by ((with_reducible apply Sat.fin hs);(with_reducible exact Ql))⟩
         case measure=>have:=hQN.out;simp[intOf];omega
        ·have nu:(u==z)=false:=by simpa using huz
         have hf2:Hid ((f = -1∧∀p,i≤p→p<q+1→jn[p]? ≠ some z)∨∃p:Nat,f=(p:Int)∧i≤p∧p<q+1∧jn[p]? = some z):=Lh (by
          rcases hf.out with⟨h1,h2⟩|⟨p,h1,h2,h3,h4⟩
          ·refine .inl ⟨h1,fun p g1 g2 => ?_⟩
           by_cases e:p=q
           ·subst e;rw[hu];intro h;cases h;exact huz rfl
           ·exact h2 p g1 (by omega)
          ·exact .inr ⟨p,h1,h2,by omega,h4⟩)
         clear hf hu hqr huz
         (repeat'(first|(go_big_may;(first|(first|(first|(with_reducible refine NQ.mk ?_)|((with_reducible apply Zh);rfl;rfl)|(with_reducible refine Zi ?_))|((with_reducible apply Zu hs);exact Ii;rfl;assumption;(with_reducible repeat first|exact Qh|apply Qk);rfl;(assumption);rfl;rfl;(simp only[Uc,Uz]))|((with_reducible apply ZP hs);exact Ii;exact Ii;rfl;rfl;(with_reducible repeat first|exact Qh|apply Qk);(rfl);(assumption);rfl;intro b off hat;(simp only[Uc,Uz]))|((with_reducible apply Zw hs);exact Ii;rfl;(with_reducible exact Qh);rfl;(simp only[Uc,Uz])))|((with_reducible refine Wp (id:=31) (Paz [.neu 5,.neu 6,.neu 7,.neu 8]) hs rfl ?_ ?_);kernel_rfl;clear hs;intro w hs)))|go_step))
         go_roundw
         case rel=>exact⟨q+1,f,by omega,hQN.out,by simp,rfl,hf2,by ((with_reducible apply Sat.fin hs);(with_reducible exact Ql))⟩
         case measure=>have:=hQN.out;simp[intOf];omega
   ·have hkl:k<cs.length:=by omega
    have hlt:decide ((k:Int)<(cs.length:Int))=true:=by simp;omega
    have hlt2:decide (k<cs.length)=true:=by simp;omega
    have hkw:k+1<4294967296:=by omega
    have hnw:nop+1<4294967296:=by omega
    have hi65:ins.length<4294967295:=by omega
    have ho65:outs.length<4294967295:=by omega
    have HK:=Lh (show k+1≤cs.length by omega)
    obtain⟨x,hx⟩:∃x,cs[k]? = some x:=⟨_,Yd hkl⟩
    have hin:k<(cs.map Cll.e).length:=by simpa using hkl
    have HN:Hid (ins++iC x=(cs.take (k+1)).flatMap iC∧outs++oC x=l++(cs.take (k+1)).flatMap oC∧nop+(nC x).length=((cs.take (k+1)).flatMap nC).length):=Lh (by
     rw[flat_next hx,flat_next hx,flat_next hx,List.length_append,←hL.out.1,←hL.out.2.2,←List.append_assoc,←hL.out.2.1]
     exact⟨rfl,rfl,rfl⟩)
    have hfin:=hq.out.fin x (Yc hx)
    obtain⟨x1,x2,x3,x4,x5,x6,x7,x8,x9⟩:=x
    have hgv:(cs.map Cll.e)[k]? = some (Cll.e ⟨x1,x2,x3,x4,x5,x6,x7,x8,x9⟩):=by rw[Ym,hx];rfl
    simp only[]at hfin
    clear hx hkr hkl hL kl
    by_cases h30:x2=30
    ·subst h30
     have o0:oC ⟨x1,30,x3,x4,x5,x6,x7,x8,x9⟩=[]:=if_neg (by simp)
     have n0:nC ⟨x1,30,x3,x4,x5,x6,x7,x8,x9⟩=[]:=if_neg (by simp)
     by_cases hm:Mine ⟨x1,30,x3,x4,x5,x6,x7,x8,x9⟩
     ·have i0:iC ⟨x1,30,x3,x4,x5,x6,x7,x8,x9⟩=[x3]:=if_pos ⟨rfl,hm⟩
      rw[i0,o0,n0,List.append_nil]at HN
      have hM:=Lh (law_mine_yes _ hm)
      simp only[]at hM
      clear hm i0 o0 n0 hfin
      have E9:Hid ((List.take 9 (List.drop 0 (Cll.e ⟨x1,30,x3,x4,x5,x6,x7,x8,x9⟩))).toArray = #[.int .i64 x1,.int .i64 30,.int .i64 x3,.int .i64 x4,.int .i64 x5,.int .i64 x6,.int .i64 x7,.int .i64 x8,.int .i64 x9]):=Lh rfl
      (repeat'(first|(((with_reducible apply ZV);rfl;rfl;((simp only[ev,Ue,Uf]);rfl);rfl;(simp only[Uc,Uz]));(repeat((with_reducible apply ZV);rfl;rfl;((simp only[ev,Ue,Uf]);rfl);rfl;(simp only[Uc,Uz]))))|((with_reducible apply Qs);((simp only[ev,Ue,Uf]);rfl);((simp only[cond_true,cond_false,ev,Ue,Uf]);rfl);(with_reducible exact ZT);(simp only[Uc,Uz]))|(go_big_may;(first|((show wpList _ _ _ (Oper.mk (some 13) _ _ _ _ _::_) _ _);(with_reducible apply Zn hs);exact Ii;rfl;clear hs;intro w bX hs;(simp only[Uc,Uz]))|((show wpList _ _ _ (Oper.mk (some 54) _ _ _ _ _::_) _ _);(rw[E9.out]at hs))|(first|((with_reducible apply Zb hs);exact Ii;rfl;(with_reducible repeat first|exact Qh|apply Qk);rfl;rfl;(simp only[Uc,Uz]))|((with_reducible apply Z3 hs);exact Ii;rfl;(with_reducible exact Qh);rfl;rfl;(simp only[Uc,Uz]))|((with_reducible apply ZH hs);exact Ii;rfl;rfl;(with_reducible exact Qh);rfl;rfl;rfl;rfl;clear hs;intro w hs)|((with_reducible apply Qt (k:=0) hs);exact Ii;rfl;assumption;(with_reducible repeat first|exact Qh|apply Qk);(exact(Nat.add_zero _).symm);(assumption);(exact Vb rfl);rfl;rfl;(simp only[Uc,Uz]))|((with_reducible apply ZP hs);exact Ii;exact Ii;rfl;rfl;(with_reducible repeat first|exact Qh|apply Qk);(rfl);(assumption);rfl;intro b off hat;(simp only[Uc,Uz]))|((with_reducible apply Zw hs);exact Ii;rfl;(with_reducible repeat first|exact Qh|apply Qk);rfl;(simp only[Uc,Uz]))|((with_reducible apply wl_bs hs);exact Ii;exact Ii;rfl;rfl;rfl;rfl;(exact Vb rfl);rfl;clear hs;intro w v hs;(simp only[Uc,Uz]))|((with_reducible apply QM hs);exact Ii;exact Ii;rfl;rfl;(focus with_reducible (repeat first|exact Qh|apply Qk);done);(with_reducible exact Qh);(simp only[Wm,Ws,Wa,Wc,Wn,Wr]at *;omega);(exact Vb rfl);rfl;clear hs;intro w v hs;(simp only[Uc,Uz])))|(go_at_call 15;((refine(hM.out).at hs (by (focus((repeat(with_reducible exact Qn));done))) ?_);clear hs;intro w hs;(try simp only[Em,Ma]at hs)))))|go_guarded|go_step|(dsimp only)))
      have e10:List.map eI ins++[(fun x:Array Value=>x.toList) #[.int .i64 x3]]=(ins++[x3]).map eI:=by simp
      rw[e10]at hs
      obtain⟨ac,nc,rfl⟩:=ZU (hs.pull (A:=sl 3 1 _ v) (by (with_reducible exact Qh)))
      simp only[List.length_append,List.length_map,List.length_cons,List.length_nil,Nat.zero_add]at hs ⊢
      go_roundw
      case rel=>exact⟨k+1,ins++[x3],outs,nop,ac,nc,ao,no,HK.out,(by simp),by simp,(by simp),by simp,HN,(by (try simp only[List.length_append,List.length_cons,List.length_nil,Nat.zero_add]);omega),(by (try simp only[List.length_append,List.length_cons,List.length_nil,Nat.zero_add]);omega),(by (try simp only[List.length_append,List.length_cons,List.length_nil,Nat.zero_add]);omega),by (try simp only[List.length_append,List.length_cons,List.length_nil,Nat.zero_add]);((with_reducible apply Sat.fin hs);(with_reducible repeat first|exact Ql|exact Qh|apply Qb|apply Qk))⟩
      case measure=>have:=HK.out;simp[intOf];omega
     ·have i0:iC ⟨x1,30,x3,x4,x5,x6,x7,x8,x9⟩=[]:=if_neg (fun h=>hm h.2)
      rw[i0,o0,n0,List.append_nil,List.append_nil]at HN
      have hM:=Lh (law_mine_no _ hm)
      simp only[]at hM
      clear hm i0 o0 n0 hfin
      have E9:Hid ((List.take 9 (List.drop 0 (Cll.e ⟨x1,30,x3,x4,x5,x6,x7,x8,x9⟩))).toArray = #[.int .i64 x1,.int .i64 30,.int .i64 x3,.int .i64 x4,.int .i64 x5,.int .i64 x6,.int .i64 x7,.int .i64 x8,.int .i64 x9]):=Lh rfl
      (repeat'(first|(((with_reducible apply ZV);rfl;rfl;((simp only[ev,Ue,Uf]);rfl);rfl;(simp only[Uc,Uz]));(repeat((with_reducible apply ZV);rfl;rfl;((simp only[ev,Ue,Uf]);rfl);rfl;(simp only[Uc,Uz]))))|((with_reducible apply Qs);((simp only[ev,Ue,Uf]);rfl);((simp only[cond_true,cond_false,ev,Ue,Uf]);rfl);(with_reducible exact ZT);(simp only[Uc,Uz]))|(go_big_may;(first|((show wpList _ _ _ (Oper.mk (some 13) _ _ _ _ _::_) _ _);(with_reducible apply Zn hs);exact Ii;rfl;clear hs;intro w bX hs;(simp only[Uc,Uz]))|((show wpList _ _ _ (Oper.mk (some 54) _ _ _ _ _::_) _ _);(rw[E9.out]at hs))|(first|((with_reducible apply Zb hs);exact Ii;rfl;(with_reducible repeat first|exact Qh|apply Qk);rfl;rfl;(simp only[Uc,Uz]))|((with_reducible apply Z3 hs);exact Ii;rfl;(with_reducible exact Qh);rfl;rfl;(simp only[Uc,Uz]))|((with_reducible apply ZH hs);exact Ii;rfl;rfl;(with_reducible exact Qh);rfl;rfl;rfl;rfl;clear hs;intro w hs)|((with_reducible apply Qt (k:=0) hs);exact Ii;rfl;assumption;(with_reducible repeat first|exact Qh|apply Qk);(exact(Nat.add_zero _).symm);(assumption);(exact Vb rfl);rfl;rfl;(simp only[Uc,Uz]))|((with_reducible apply ZP hs);exact Ii;exact Ii;rfl;rfl;(with_reducible repeat first|exact Qh|apply Qk);(rfl);(assumption);rfl;intro b off hat;(simp only[Uc,Uz]))|((with_reducible apply Zw hs);exact Ii;rfl;(with_reducible repeat first|exact Qh|apply Qk);rfl;(simp only[Uc,Uz])))|(go_at_call 15;((refine(hM.out).at hs (by (focus((repeat(with_reducible exact Qn));done))) ?_);clear hs;intro w hs;(try simp only[Em,Ma]at hs)))))|go_guarded|go_step|(dsimp only)))
      go_roundw
      case rel=>exact⟨k+1,ins,outs,nop,ai,ni,ao,no,HK.out,(by simp),by simp,(by simp),by simp,HN,(by (try simp only[List.length_append,List.length_cons,List.length_nil,Nat.zero_add]);omega),(by (try simp only[List.length_append,List.length_cons,List.length_nil,Nat.zero_add]);omega),(by (try simp only[List.length_append,List.length_cons,List.length_nil,Nat.zero_add]);omega),by (try simp only[List.length_append,List.length_cons,List.length_nil,Nat.zero_add]);((with_reducible apply Sat.fin hs);(with_reducible repeat first|exact Ql|exact Qh|apply Qb|apply Qk))⟩
      case measure=>have:=HK.out;simp[intOf];omega
    ·by_cases h31:x2=31
     ·subst h31
      have i0:iC ⟨x1,31,x3,x4,x5,x6,x7,x8,x9⟩=[]:=if_neg (by simp)
      rcases hfin with⟨rfl,rfl⟩|h6
      ·have o0:oC ⟨x1,31,x3,x4,x5,-1,x7,0,x9⟩=[]:=if_neg (by simp)
       by_cases h7:0≤x7
       ·have n0:nC ⟨x1,31,x3,x4,x5,-1,x7,0,x9⟩=[0]:=if_pos ⟨⟨rfl,by simp⟩,h7⟩
        rw[i0,o0,n0,List.append_nil,List.append_nil]at HN
        have f7:decide (x7≥0)=true:=by simpa using h7
        clear i0 o0 n0 h7 h30
        have E9:Hid ((List.take 9 (List.drop 0 (Cll.e ⟨x1,31,x3,x4,x5,-1,x7,0,x9⟩))).toArray = #[.int .i64 x1,.int .i64 31,.int .i64 x3,.int .i64 x4,.int .i64 x5,.int .i64 (-1),.int .i64 x7,.int .i64 0,.int .i64 x9]):=Lh rfl
        (repeat'(first|(((with_reducible apply ZV);rfl;rfl;((simp only[ev,Ue,Uf]);rfl);rfl;(simp only[Uc,Uz]));(repeat((with_reducible apply ZV);rfl;rfl;((simp only[ev,Ue,Uf]);rfl);rfl;(simp only[Uc,Uz]))))|((with_reducible apply Qs);((simp only[ev,Ue,Uf]);rfl);((simp only[cond_true,cond_false,ev,Ue,Uf]);rfl);(with_reducible exact ZT);(simp only[Uc,Uz]))|(go_big_may;(first|((show wpList _ _ _ (Oper.mk (some 13) _ _ _ _ _::_) _ _);(with_reducible apply Zn hs);exact Ii;rfl;clear hs;intro w bX hs;(simp only[Uc,Uz]))|((show wpList _ _ _ (Oper.mk (some 54) _ _ _ _ _::_) _ _);(rw[E9.out]at hs))|(first|((with_reducible apply Zb hs);exact Ii;rfl;(with_reducible repeat first|exact Qh|apply Qk);rfl;rfl;(simp only[Uc,Uz]))|((with_reducible apply ZH hs);exact Ii;rfl;rfl;(with_reducible exact Qh);rfl;rfl;rfl;rfl;clear hs;intro w hs)|((with_reducible apply Qt (k:=0) hs);exact Ii;rfl;assumption;(with_reducible repeat first|exact Qh|apply Qk);(exact(Nat.add_zero _).symm);(assumption);(exact Vb rfl);rfl;rfl;(simp only[Uc,Uz]))|((with_reducible apply ZP hs);exact Ii;exact Ii;rfl;rfl;(with_reducible repeat first|exact Qh|apply Qk);(rfl);(assumption);rfl;intro b off hat;(simp only[Uc,Uz]))|((with_reducible apply Zw hs);exact Ii;rfl;(with_reducible repeat first|exact Qh|apply Qk);rfl;(simp only[Uc,Uz])))))|go_guarded|go_step))
        go_roundw
        case rel=>exact⟨k+1,ins,outs,nop+1,ai,ni,ao,no,HK.out,(by simp),by simp,(by simp),by simp,HN,(by (try simp only[List.length_append,List.length_cons,List.length_nil,Nat.zero_add]);omega),(by (try simp only[List.length_append,List.length_cons,List.length_nil,Nat.zero_add]);omega),(by (try simp only[List.length_append,List.length_cons,List.length_nil,Nat.zero_add]);omega),by (try simp only[List.length_append,List.length_cons,List.length_nil,Nat.zero_add]);((with_reducible apply Sat.fin hs);(with_reducible repeat first|exact Ql|exact Qh|apply Qb|apply Qk))⟩
        case measure=>have:=HK.out;simp[intOf];omega
       ·have n0:nC ⟨x1,31,x3,x4,x5,-1,x7,0,x9⟩=[]:=if_neg (fun h=>h7 h.2)
        rw[i0,o0,n0,List.append_nil,List.append_nil]at HN
        have f7:decide (x7≥0)=false:=by simpa using h7
        clear i0 o0 n0 h7 h30
        have E9:Hid ((List.take 9 (List.drop 0 (Cll.e ⟨x1,31,x3,x4,x5,-1,x7,0,x9⟩))).toArray = #[.int .i64 x1,.int .i64 31,.int .i64 x3,.int .i64 x4,.int .i64 x5,.int .i64 (-1),.int .i64 x7,.int .i64 0,.int .i64 x9]):=Lh rfl
        (repeat'(first|(((with_reducible apply ZV);rfl;rfl;((simp only[ev,Ue,Uf]);rfl);rfl;(simp only[Uc,Uz]));(repeat((with_reducible apply ZV);rfl;rfl;((simp only[ev,Ue,Uf]);rfl);rfl;(simp only[Uc,Uz]))))|((with_reducible apply Qs);((simp only[ev,Ue,Uf]);rfl);((simp only[cond_true,cond_false,ev,Ue,Uf]);rfl);(with_reducible exact ZT);(simp only[Uc,Uz]))|(go_big_may;(first|((show wpList _ _ _ (Oper.mk (some 13) _ _ _ _ _::_) _ _);(with_reducible apply Zn hs);exact Ii;rfl;clear hs;intro w bX hs;(simp only[Uc,Uz]))|((show wpList _ _ _ (Oper.mk (some 54) _ _ _ _ _::_) _ _);(rw[E9.out]at hs))|(first|((with_reducible apply Zb hs);exact Ii;rfl;(with_reducible repeat first|exact Qh|apply Qk);rfl;rfl;(simp only[Uc,Uz]))|((with_reducible apply ZH hs);exact Ii;rfl;rfl;(with_reducible exact Qh);rfl;rfl;rfl;rfl;clear hs;intro w hs)|((with_reducible apply Qt (k:=0) hs);exact Ii;rfl;assumption;(with_reducible repeat first|exact Qh|apply Qk);(exact(Nat.add_zero _).symm);(assumption);(exact Vb rfl);rfl;rfl;(simp only[Uc,Uz]))|((with_reducible apply ZP hs);exact Ii;exact Ii;rfl;rfl;(with_reducible repeat first|exact Qh|apply Qk);(rfl);(assumption);rfl;intro b off hat;(simp only[Uc,Uz]))|((with_reducible apply Zw hs);exact Ii;rfl;(with_reducible repeat first|exact Qh|apply Qk);rfl;(simp only[Uc,Uz])))))|go_guarded|go_step))
        go_roundw
        case rel=>exact⟨k+1,ins,outs,nop,ai,ni,ao,no,HK.out,(by simp),by simp,(by simp),by simp,HN,(by (try simp only[List.length_append,List.length_cons,List.length_nil,Nat.zero_add]);omega),(by (try simp only[List.length_append,List.length_cons,List.length_nil,Nat.zero_add]);omega),(by (try simp only[List.length_append,List.length_cons,List.length_nil,Nat.zero_add]);omega),by (try simp only[List.length_append,List.length_cons,List.length_nil,Nat.zero_add]);((with_reducible apply Sat.fin hs);(with_reducible repeat first|exact Ql|exact Qh|apply Qb|apply Qk))⟩
        case measure=>have:=HK.out;simp[intOf];omega
      ·have n0:nC ⟨x1,31,x3,x4,x5,x6,x7,x8,x9⟩=[]:=if_neg (fun h=>by have:=h.1.2;simp only[]at this;omega)
       have f6:decide (x6<0)=false:=by simpa using h6
       by_cases h8:x8=2
       ·subst h8
        have o0:oC ⟨x1,31,x3,x4,x5,x6,x7,2,x9⟩=[x9]:=if_pos ⟨rfl,rfl⟩
        rw[i0,o0,n0,List.append_nil]at HN
        clear i0 o0 n0 h6 h30
        have E9:Hid ((List.take 9 (List.drop 0 (Cll.e ⟨x1,31,x3,x4,x5,x6,x7,2,x9⟩))).toArray = #[.int .i64 x1,.int .i64 31,.int .i64 x3,.int .i64 x4,.int .i64 x5,.int .i64 x6,.int .i64 x7,.int .i64 2,.int .i64 x9]):=Lh rfl
        (repeat'(first|(((with_reducible apply ZV);rfl;rfl;((simp only[ev,Ue,Uf]);rfl);rfl;(simp only[Uc,Uz]));(repeat((with_reducible apply ZV);rfl;rfl;((simp only[ev,Ue,Uf]);rfl);rfl;(simp only[Uc,Uz]))))|((with_reducible apply Qs);((simp only[ev,Ue,Uf]);rfl);((simp only[cond_true,cond_false,ev,Ue,Uf]);rfl);(with_reducible exact ZT);(simp only[Uc,Uz]))|(go_big_may;(first|((show wpList _ _ _ (Oper.mk (some 13) _ _ _ _ _::_) _ _);(with_reducible apply Zn hs);exact Ii;rfl;clear hs;intro w bX hs;(simp only[Uc,Uz]))|((show wpList _ _ _ (Oper.mk (some 54) _ _ _ _ _::_) _ _);(rw[E9.out]at hs))|(first|((with_reducible apply Zb hs);exact Ii;rfl;(with_reducible repeat first|exact Qh|apply Qk);rfl;rfl;(simp only[Uc,Uz]))|((with_reducible apply ZH hs);exact Ii;rfl;rfl;(with_reducible exact Qh);rfl;rfl;rfl;rfl;clear hs;intro w hs)|((with_reducible apply Qt (k:=0) hs);exact Ii;rfl;assumption;(with_reducible repeat first|exact Qh|apply Qk);(exact(Nat.add_zero _).symm);(assumption);(exact Vb rfl);rfl;rfl;(simp only[Uc,Uz]))|((with_reducible apply ZP hs);exact Ii;exact Ii;rfl;rfl;(with_reducible repeat first|exact Qh|apply Qk);(rfl);(assumption);rfl;intro b off hat;(simp only[Uc,Uz]))|((with_reducible apply Zw hs);exact Ii;rfl;(with_reducible repeat first|exact Qh|apply Qk);rfl;(simp only[Uc,Uz]))|((with_reducible apply wl_bs hs);exact Ii;exact Ii;rfl;rfl;rfl;rfl;(exact Vb rfl);rfl;clear hs;intro w v hs;(simp only[Uc,Uz]))|((with_reducible apply QM hs);exact Ii;exact Ii;rfl;rfl;(focus with_reducible (repeat first|exact Qh|apply Qk);done);(with_reducible exact Qh);(simp only[Wm,Ws,Wa,Wc,Wn,Wr]at *;omega);(exact Vb rfl);rfl;clear hs;intro w v hs;(simp only[Uc,Uz])))))|go_guarded|go_step))
        have e10:List.map eI outs++[(fun x:Array Value=>x.toList) #[.int .i64 x9]]=(outs++[x9]).map eI:=by simp
        rw[e10]at hs
        obtain⟨ac,nc,rfl⟩:=ZU (hs.pull (A:=sl 3 1 _ v) (by (with_reducible exact Qh)))
        simp only[List.length_append,List.length_map,List.length_cons,List.length_nil,Nat.zero_add]at hs ⊢
        go_roundw
        case rel=>exact⟨k+1,ins,outs++[x9],nop,ai,ni,ac,nc,HK.out,(by simp),by simp,(by simp),by simp,HN,(by (try simp only[List.length_append,List.length_cons,List.length_nil,Nat.zero_add]);omega),(by (try simp only[List.length_append,List.length_cons,List.length_nil,Nat.zero_add]);omega),(by (try simp only[List.length_append,List.length_cons,List.length_nil,Nat.zero_add]);omega),by (try simp only[List.length_append,List.length_cons,List.length_nil,Nat.zero_add]);((with_reducible apply Sat.fin hs);(with_reducible repeat first|exact Ql|exact Qh|apply Qb|apply Qk))⟩
        case measure=>have:=HK.out;simp[intOf];omega
       ·have o0:oC ⟨x1,31,x3,x4,x5,x6,x7,x8,x9⟩=[]:=if_neg (fun h=>h8 h.2)
        rw[i0,o0,n0,List.append_nil,List.append_nil]at HN
        have f8:(x8==2)=false:=by simpa using h8
        clear i0 o0 n0 h6 h30 h8
        have E9:Hid ((List.take 9 (List.drop 0 (Cll.e ⟨x1,31,x3,x4,x5,x6,x7,x8,x9⟩))).toArray = #[.int .i64 x1,.int .i64 31,.int .i64 x3,.int .i64 x4,.int .i64 x5,.int .i64 x6,.int .i64 x7,.int .i64 x8,.int .i64 x9]):=Lh rfl
        (repeat'(first|(((with_reducible apply ZV);rfl;rfl;((simp only[ev,Ue,Uf]);rfl);rfl;(simp only[Uc,Uz]));(repeat((with_reducible apply ZV);rfl;rfl;((simp only[ev,Ue,Uf]);rfl);rfl;(simp only[Uc,Uz]))))|((with_reducible apply Qs);((simp only[ev,Ue,Uf]);rfl);((simp only[cond_true,cond_false,ev,Ue,Uf]);rfl);(with_reducible exact ZT);(simp only[Uc,Uz]))|(go_big_may;(first|((show wpList _ _ _ (Oper.mk (some 13) _ _ _ _ _::_) _ _);(with_reducible apply Zn hs);exact Ii;rfl;clear hs;intro w bX hs;(simp only[Uc,Uz]))|((show wpList _ _ _ (Oper.mk (some 54) _ _ _ _ _::_) _ _);(rw[E9.out]at hs))|(first|((with_reducible apply Zb hs);exact Ii;rfl;(with_reducible repeat first|exact Qh|apply Qk);rfl;rfl;(simp only[Uc,Uz]))|((with_reducible apply ZH hs);exact Ii;rfl;rfl;(with_reducible exact Qh);rfl;rfl;rfl;rfl;clear hs;intro w hs)|((with_reducible apply Qt (k:=0) hs);exact Ii;rfl;assumption;(with_reducible repeat first|exact Qh|apply Qk);(exact(Nat.add_zero _).symm);(assumption);(exact Vb rfl);rfl;rfl;(simp only[Uc,Uz]))|((with_reducible apply ZP hs);exact Ii;exact Ii;rfl;rfl;(with_reducible repeat first|exact Qh|apply Qk);(rfl);(assumption);rfl;intro b off hat;(simp only[Uc,Uz]))|((with_reducible apply Zw hs);exact Ii;rfl;(with_reducible repeat first|exact Qh|apply Qk);rfl;(simp only[Uc,Uz])))))|go_guarded|go_step))
        go_roundw
        case rel=>exact⟨k+1,ins,outs,nop,ai,ni,ao,no,HK.out,(by simp),by simp,(by simp),by simp,HN,(by (try simp only[List.length_append,List.length_cons,List.length_nil,Nat.zero_add]);omega),(by (try simp only[List.length_append,List.length_cons,List.length_nil,Nat.zero_add]);omega),(by (try simp only[List.length_append,List.length_cons,List.length_nil,Nat.zero_add]);omega),by (try simp only[List.length_append,List.length_cons,List.length_nil,Nat.zero_add]);((with_reducible apply Sat.fin hs);(with_reducible repeat first|exact Ql|exact Qh|apply Qb|apply Qk))⟩
        case measure=>have:=HK.out;simp[intOf];omega
     ·have i0:iC ⟨x1,x2,x3,x4,x5,x6,x7,x8,x9⟩=[]:=if_neg (fun h=>h30 h.1)
      have o0:oC ⟨x1,x2,x3,x4,x5,x6,x7,x8,x9⟩=[]:=if_neg (fun h=>h31 h.1)
      have n0:nC ⟨x1,x2,x3,x4,x5,x6,x7,x8,x9⟩=[]:=if_neg (fun h=>h31 h.1.1)
      rw[i0,o0,n0,List.append_nil,List.append_nil]at HN
      have f30:(x2==30)=false:=by simpa using h30
      have f31:(x2==31)=false:=by simpa using h31
      clear i0 o0 n0 h30 h31 hfin
      have E9:Hid ((List.take 9 (List.drop 0 (Cll.e ⟨x1,x2,x3,x4,x5,x6,x7,x8,x9⟩))).toArray = #[.int .i64 x1,.int .i64 x2,.int .i64 x3,.int .i64 x4,.int .i64 x5,.int .i64 x6,.int .i64 x7,.int .i64 x8,.int .i64 x9]):=Lh rfl
      (repeat'(first|(((with_reducible apply ZV);rfl;rfl;((simp only[ev,Ue,Uf]);rfl);rfl;(simp only[Uc,Uz]));(repeat((with_reducible apply ZV);rfl;rfl;((simp only[ev,Ue,Uf]);rfl);rfl;(simp only[Uc,Uz]))))|((with_reducible apply Qs);((simp only[ev,Ue,Uf]);rfl);((simp only[cond_true,cond_false,ev,Ue,Uf]);rfl);(with_reducible exact ZT);(simp only[Uc,Uz]))|(go_big_may;(first|((show wpList _ _ _ (Oper.mk (some 13) _ _ _ _ _::_) _ _);(with_reducible apply Zn hs);exact Ii;rfl;clear hs;intro w bX hs;(simp only[Uc,Uz]))|((show wpList _ _ _ (Oper.mk (some 54) _ _ _ _ _::_) _ _);(rw[E9.out]at hs))|(first|((with_reducible apply Zb hs);exact Ii;rfl;(with_reducible repeat first|exact Qh|apply Qk);rfl;rfl;(simp only[Uc,Uz]))|((with_reducible apply ZH hs);exact Ii;rfl;rfl;(with_reducible exact Qh);rfl;rfl;rfl;rfl;clear hs;intro w hs)|((with_reducible apply Qt (k:=0) hs);exact Ii;rfl;assumption;(with_reducible repeat first|exact Qh|apply Qk);(exact(Nat.add_zero _).symm);(assumption);(exact Vb rfl);rfl;rfl;(simp only[Uc,Uz]))|((with_reducible apply ZP hs);exact Ii;exact Ii;rfl;rfl;(with_reducible repeat first|exact Qh|apply Qk);(rfl);(assumption);rfl;intro b off hat;(simp only[Uc,Uz]))|((with_reducible apply Zw hs);exact Ii;rfl;(with_reducible repeat first|exact Qh|apply Qk);rfl;(simp only[Uc,Uz])))))|go_step))
      go_roundw
      case rel=>exact⟨k+1,ins,outs,nop,ai,ni,ao,no,HK.out,(by simp),by simp,(by simp),by simp,HN,(by (try simp only[List.length_append,List.length_cons,List.length_nil,Nat.zero_add]);omega),(by (try simp only[List.length_append,List.length_cons,List.length_nil,Nat.zero_add]);omega),(by (try simp only[List.length_append,List.length_cons,List.length_nil,Nat.zero_add]);omega),by (try simp only[List.length_append,List.length_cons,List.length_nil,Nat.zero_add]);((with_reducible apply Sat.fin hs);(with_reducible repeat first|exact Ql|exact Qh|apply Qb|apply Qk))⟩
      case measure=>have:=HK.out;simp[intOf];omega
 ·have hF:=Lh (law_fits_no c mvs v hfit A hRd)
  obtain⟨a0,c0,rfl⟩:=hRd.len
  simp only[List.length_map]at hF hs ⊢
  clear hRd hfit
  obtain⟨d1,d2,d3,d4,d5,d6,d7⟩:=c
  go_enter Tryz.func7,Tryz.ntmps7
  (repeat'(first|(go_big_may;(first|(first|((with_reducible apply Z3 hs);exact Ii;rfl;(with_reducible exact Qh);rfl;rfl;(simp only[Uc,Uz]))|((with_reducible apply Zr hs);rfl;rfl;rfl;clear hs;intro w b hs;(simp only[Uc,Uz])))|(go_at_call 8;((refine(hF.out).at hs (by (with_reducible repeat first|exact Qh|apply Qk)) ?_);clear hs;intro w hs;(try simp only[Em,Ma]at hs)))|(go_at_call 9;((refine(hAw.out).at hs (by (focus((repeat(with_reducible exact Qn));done))) ?_);clear hs;intro w hs;(try simp only[Em,Ma]at hs)))))|go_step|(dsimp only)))
  (go_ret)
  exact⟨rfl,by ((with_reducible apply Sat.fin hs);(with_reducible repeat first|exact Ql|exact Qh|apply Qb|apply Qk))⟩
end
end Go.Proofs.YtjagadldibbbbaaGreat
