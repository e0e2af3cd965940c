import Derived.Test.YtefjbdajgakgpaaGreatRows
import Derived.ProofKit
import Derived.OpenShut
import Derived.Deep.Fields
import Derived.Deep.SlicePairs
import Derived.Test.YtefjbdajgakgpaaGreatDQAlnW
set_option linter.all false
namespace Go.Proofs.YtefjbdajgakgpaaGreat
open Go.ChangeShapes Go.WideShapes Go.ChangeAt Go.RowKit Hp
section
namespace Hp
def full (W:World):Zc:=⟨fun h=>h=fun k=>W.heap[k]?⟩
theorem sat_full (W:World):Sat W W (full W):=⟨rfl,rfl,rfl,Nat.le_refl _,_,rfl,fun _ _ h=>h⟩
theorem below_full {W w':World}(h:Sat W w' (full W)):Below W.heap.size W w':=by
 refine⟨h.os,h.tape,h.output,h.size,fun k hk => ?_⟩
 obtain⟨x,hx,hh⟩:=h.has
 have hx':x=fun k=>W.heap[k]? := hx
 have:=hh k W.heap[k] (by rw[hx'];simp[hk])
 rw[this];simp[hk]
end Hp
section
variable {H:Type}{enc:TypeId×Value→H}{P:Program}
theorem all_trod (hl:laidOutB P=true){W W':World}(hb:Below W.heap.size W W'):∀(ts:List TypeId) (vs:List Value) (ds:List (DataW H)) (ps:List MemPlace),(∀t∈ts,P.readableRec t=true∧t<P.types.size) →
  DataW.TrodAll enc P W 0 (fun _=>true) true ts vs ds ps→(∀x∈ps,x.block<W.heap.size)→DataW.TrodAll enc P W' 0 (fun b=>decide (b<W.heap.size)) true ts vs ds ps
 | [],vs,ds,ps,_,h,_=>by
  obtain⟨rfl,rfl,rfl⟩:=trodAll_nil h
  exact trodAll_mk0
 | t::ts,vs,ds,ps,hr,h,hlt=>by
  obtain⟨v,vs',d,ds',p,q,rfl,rfl,rfl,h0,h1⟩:=trodAll_cons h
  exact trodAll_cons_mk (Below.trod hl (hr t (by simp)).1 (hr t (by simp)).2 h0 hb (fun x hx=>hlt x (by simp[hx]))) (all_trod hl hb ts vs' ds' q (fun t' ht=>hr t' (by simp[ht])) h1 (fun x hx=>hlt x (by simp[hx])))
theorem post_true {f:Func}{s:ChangeSpec}{W W':World}{args:Array Value}{ds:List (DataW H)}{before:List MemPlace}{t:TypeId}(hl:laidOutB P=true)(hv:s.vars=[])
  (hW:DataW.Whole enc P f.params.toList s.vars false W args.toList ds [] before) (hr:∀t∈f.params.toList,P.readableRec t=true∧t<P.types.size)
  (hb:Below W.heap.size W W') (ht:f.resultTypes = #[t]) (hu:P.underlying t=some .bool)
  (e1:(s.fn H (ds++[])).results=[.lit (.bool true)]) (e2:(s.fn H (ds++[])).args=ds) (e3:(s.fn H (ds++[])).vars=[]) :
  s.post enc P f false true false false W args (.bool true) W':=by
 have hlt:=fun p hp=>hW.lt (p:=p) hp
 have hW0:=hW
 obtain⟨p,q,hA,hV,hpq,_,_⟩:=hW
 rw[hv]at hV
 obtain⟨_,rfl⟩:=trodVars_none hV
 refine⟨ds,[],before,[],p,[],hW0,?_,?_,?_,hb.frame _,fun h=>by cases h⟩
 ·rw[e1,ht]
  exact trodAll_mk1 (shut_bool hu true)
 ·rw[e2]
  exact all_trod hl hb _ _ _ _ hr hA (fun x hx=>by have:=hlt x (by rw[hpq];simp[hx]);simpa using this)
 ·rw[e3,hv];rfl
end
namespace Hp
section
variable {H:Type}{enc:TypeId×Value→H}{P:Program}{w:World}{base:Nat}{spare:Nat→Bool}{held:Bool}
theorem open_int7 {r:Reach}{b0:Nat}{t e:TypeId}{f0 f1 f2 f3 f4 f5 f6:Field}{v:Value}{d:DataW H}{p:List MemPlace}(hs:P.underlying t=some (.struct #[f0,f1,f2,f3,f4,f5,f6]))(hone:Deep.oneCellFields P #[f0,f1,f2,f3,f4,f5,f6]=true)(hC:P.cellsOf t=7)
  (hu:P.underlying e=some (.int .i64)) (e0:f0.type=e) (e1:f1.type=e) (e2:f2.type=e) (e3:f3.type=e) (e4:f4.type=e) (e5:f5.type=e) (e6:f6.type=e)
  (hv:Value.okWide P w r b0 t v) (h:DataW.Trod enc P w base spare held t v d p) :
  ∃z0 z1 z2 z3 z4 z5 z6:Int,v=.agg #[.int .i64 z0,.int .i64 z1,.int .i64 z2,.int .i64 z3,.int .i64 z4,.int .i64 z5,.int .i64 z6]∧p=[]∧(Lit.int .i64 z0).wf=true∧(Lit.int .i64 z1).wf=true∧(Lit.int .i64 z2).wf=true∧(Lit.int .i64 z3).wf=true∧(Lit.int .i64 z4).wf=true∧(Lit.int .i64 z5).wf=true∧(Lit.int .i64 z6).wf=true:=by
 obtain⟨cs,rfl,hsz⟩:=okWide_struct hs hv
 obtain⟨l⟩:=cs
 match l,hsz.trans hC with
 | [c0,c1,c2,c3,c4,c5,c6],_=>
  obtain⟨fuel,hf⟩:=h
  obtain⟨xs,n,_,hx,_,hlen,hg⟩:=DataW.trod_struct hs hf
  obtain⟨o0,k0⟩:=Deep.hone_of hone 0 f0 rfl
  obtain⟨o1,k1⟩:=Deep.hone_of hone 1 f1 rfl
  obtain⟨o2,k2⟩:=Deep.hone_of hone 2 f2 rfl
  obtain⟨o3,k3⟩:=Deep.hone_of hone 3 f3 rfl
  obtain⟨o4,k4⟩:=Deep.hone_of hone 4 f4 rfl
  obtain⟨o5,k5⟩:=Deep.hone_of hone 5 f5 rfl
  obtain⟨o6,k6⟩:=Deep.hone_of hone 6 f6 rfl
  match xs,hlen with
  | [y0,y1,y2,y3,y4,y5,y6],_=>
   have h0:DataW.trod enc P w base spare held n f0.type [c0]=some y0:=by simpa[Value.cells,o0,k0] using hg 0 f0 rfl
   rw[e0]at h0
   obtain⟨z0,g0,q0,w0⟩:=DataW.trod_int hu h0
   have h1:DataW.trod enc P w base spare held n f1.type [c1]=some y1:=by simpa[Value.cells,o1,k1] using hg 1 f1 rfl
   rw[e1]at h1
   obtain⟨z1,g1,q1,w1⟩:=DataW.trod_int hu h1
   have h2:DataW.trod enc P w base spare held n f2.type [c2]=some y2:=by simpa[Value.cells,o2,k2] using hg 2 f2 rfl
   rw[e2]at h2
   obtain⟨z2,g2,q2,w2⟩:=DataW.trod_int hu h2
   have h3:DataW.trod enc P w base spare held n f3.type [c3]=some y3:=by simpa[Value.cells,o3,k3] using hg 3 f3 rfl
   rw[e3]at h3
   obtain⟨z3,g3,q3,w3⟩:=DataW.trod_int hu h3
   have h4:DataW.trod enc P w base spare held n f4.type [c4]=some y4:=by simpa[Value.cells,o4,k4] using hg 4 f4 rfl
   rw[e4]at h4
   obtain⟨z4,g4,q4,w4⟩:=DataW.trod_int hu h4
   have h5:DataW.trod enc P w base spare held n f5.type [c5]=some y5:=by simpa[Value.cells,o5,k5] using hg 5 f5 rfl
   rw[e5]at h5
   obtain⟨z5,g5,q5,w5⟩:=DataW.trod_int hu h5
   have h6:DataW.trod enc P w base spare held n f6.type [c6]=some y6:=by simpa[Value.cells,o6,k6] using hg 6 f6 rfl
   rw[e6]at h6
   obtain⟨z6,g6,q6,w6⟩:=DataW.trod_int hu h6
   simp only[List.cons.injEq,and_true]at g0 g1 g2 g3 g4 g5 g6
   subst g0 g1 g2 g3 g4 g5 g6
   simp only[Prod.mk.injEq]at hx
   refine⟨z0,z1,z2,z3,z4,z5,z6,rfl,?_,w0,w1,w2,w3,w4,w5,w6⟩
   rw[hx.2]
   simp[q0,q1,q2,q3,q4,q5,q6]
end
end Hp
end
section
namespace Hp
theorem full_cell {O w W:World}{F:Zc}(hs:Sat O w (full W*F)){a:Addr}{x:Value}(h:W.cell? a=some x):w.cell? a=some x:=by
 have hs2:Sat O w (full W):=hs.fin (Pull.here _ _)
 obtain⟨y,hy,hh⟩:=hs2.has
 have hy':y=fun k=>W.heap[k]? := hy
 unfold World.cell? at h ⊢
 cases hb:W.heap[a.block]? with
 | none=>rw[hb]at h;simp at h
 | some o=>
  have:=hh a.block o (by rw[hy'];exact hb)
  rw[this]
  rw[hb]at h
  exact h
theorem rd_full {W:World}{sz:Nat}{css:List (List Value)}{v:Value}(h1:(css=[]∧v=.slice none 0 0)∨∃a cap,css.length≤cap∧v=.slice (some a) css.length cap)(h2:∀c∈css,c.length=sz)
  (h3:∀a n cap,v=.slice (some a) n cap→∀i c,css[i]? = some c→∀j x,c[j]? = some x→W.cell? ((a.add (i*sz)).add j)=some x):Rd (full W) sz css v:=
 ⟨h1,h2,fun _ _ _ hs a n cap e i c hi j x hj=>full_cell hs (h3 a n cap e i c hi j x hj)⟩
theorem Zk.belowA {P:Program}{f:FuncId}{args:Array Value}{v:Value}{W:World}(h:Zk P f args (full W) v (full W)) :
  Calls P f args W fun e W'=>e=.returned v∧Below W.heap.size W W' :=
 (h W W emp ((sat_full W).cast (mul_emp _).symm)).mono fun _ _ ⟨he,hs⟩=>⟨he,below_full (hs.cast (mul_emp _))⟩
end Hp
section
variable {H:Type}{enc:TypeId×Value→H}{P:Program}{w:World}{base:Nat}{spare:Nat→Bool}{held:Bool}
theorem open_mv {t:TypeId}{f0 f1 f2 f3:Field}{fuel:Nat}{cs:List Value}{x:DataW H×List MemPlace}(hs:P.underlying t=some (.struct #[f0,f1,f2,f3]))(hone:Deep.oneCellFields P #[f0,f1,f2,f3]=true)(hlen:cs.length=4)
  (u0:P.underlying f0.type=some (.int .i64)) (u1:P.underlying f1.type=some (.int .i64)) (u2:P.underlying f2.type=some (.int .i64)) (u3:P.underlying f3.type=some (.int .i64))
  (h:DataW.trod enc P w base spare held fuel t cs=some x):∃m:Mv,cs=Mv.e m:=by
 match cs,hlen with
 | [c0,c1,c2,c3],_=>
  obtain⟨xs,n,_,hx,_,hl,hg⟩:=DataW.trod_struct hs h
  obtain⟨o0,k0⟩:=Deep.hone_of hone 0 f0 rfl
  obtain⟨o1,k1⟩:=Deep.hone_of hone 1 f1 rfl
  obtain⟨o2,k2⟩:=Deep.hone_of hone 2 f2 rfl
  obtain⟨o3,k3⟩:=Deep.hone_of hone 3 f3 rfl
  match xs,hl with
  | [y0,y1,y2,y3],_=>
   have h0:DataW.trod enc P w base spare held n f0.type [c0]=some y0:=by simpa[o0,k0] using hg 0 f0 rfl
   obtain⟨z0,g0,q0,w0⟩:=DataW.trod_int u0 h0
   have h1:DataW.trod enc P w base spare held n f1.type [c1]=some y1:=by simpa[o1,k1] using hg 1 f1 rfl
   obtain⟨z1,g1,q1,w1⟩:=DataW.trod_int u1 h1
   have h2:DataW.trod enc P w base spare held n f2.type [c2]=some y2:=by simpa[o2,k2] using hg 2 f2 rfl
   obtain⟨z2,g2,q2,w2⟩:=DataW.trod_int u2 h2
   have h3:DataW.trod enc P w base spare held n f3.type [c3]=some y3:=by simpa[o3,k3] using hg 3 f3 rfl
   obtain⟨z3,g3,q3,w3⟩:=DataW.trod_int u3 h3
   simp only[List.cons.injEq,and_true]at g0 g1 g2 g3
   subst g0 g1 g2 g3
   exact⟨⟨z0,z1,z2,z3⟩,rfl⟩
instance :Inhabited Mv:=⟨⟨0,0,0,0⟩⟩
theorem open_moves {ts t:TypeId}{f0 f1 f2 f3:Field}{W:World}{v:Value}{d:DataW H}{p:List MemPlace}(hts:P.underlying ts=some (.slice t))(hs:P.underlying t=some (.struct #[f0,f1,f2,f3]))(hone:Deep.oneCellFields P #[f0,f1,f2,f3]=true)(hC:P.cellsOf t=4)
  (u0:P.underlying f0.type=some (.int .i64)) (u1:P.underlying f1.type=some (.int .i64)) (u2:P.underlying f2.type=some (.int .i64)) (u3:P.underlying f3.type=some (.int .i64))
  (hv:∃a len cap,v=.slice a len cap) (h:DataW.Trod enc P W base spare held ts v d p):∃mvs:List Mv,Rd (full W) 4 (mvs.map Mv.e) v:=by
 obtain⟨fuel,hf⟩:=h
 obtain⟨a0,len0,cap0,rfl⟩:=hv
 rcases Deep.open_slice hts hf with⟨h1,_⟩|⟨a,len,cap,m,n,D,Pl,h1,_,hl,hcm,hm,_,hx⟩
 ·refine⟨[],rd_full (.inl ⟨rfl,?_⟩) (by simp) (by simp)⟩
  simpa[Value.cells] using h1
 ·have hlm:len≤m:=by rw[hm];split<;>omega
  rw[hC]at hx
  obtain⟨M,hM⟩:=Deep.choose_lt (α:=Mv) (n:=len) (p:=fun i mv=>∀j x,(Mv.e mv)[j]? = some x→W.cell? ((a.add (i*4)).add j)=some x) (fun i hi=>by
   obtain⟨cs,g1,g2⟩:=hx i (by omega)
   obtain⟨_,hlen,Qx⟩:=World.cells?_some g1
   obtain⟨mv,rfl⟩:=open_mv hs hone hlen u0 u1 u2 u3 g2
   refine⟨mv,fun j x hj => ?_⟩
   have hjl:=(List.getElem?_eq_some_iff.1 hj).1
   rw[hlen]at hjl
   rw[←hj]
   have:=Qx j hjl
   rw[this])
  refine⟨(List.range len).map M,rd_full (.inr ⟨a,cap,by simpa using hl,?_⟩) ?_ ?_⟩
  ·simpa[Value.cells] using h1
  ·intro c hc
   obtain⟨mv,_,rfl⟩:=List.mem_map.1 hc
   rfl
  ·intro a' n' cap' e i c hi j x hj
   have e2:a0=some a∧len0=len∧cap0=cap:=by simpa[Value.cells] using h1
   obtain⟨rfl,rfl,rfl⟩:=e2
   injection e with e _ _
   injection e with e
   subst e
   rw[List.map_map,Ym]at hi
   cases hr:(List.range len0)[i]? with
   | none=>rw[hr]at hi;simp at hi
   | some q=>
    rw[hr]at hi
    simp at hi
    obtain⟨hq,hqe⟩:=List.getElem?_eq_some_iff.1 hr
    simp at hq hqe
    subst hqe
    subst hi
    exact hM i hq j x hj
end
end
section
theorem own : ownKnob Tryz.prog.godebug = none := by kernel_rfl
theorem laidOutHere : laidOutB Tryz.prog = true := by kernel_rfl
theorem readCfg : Tryz.prog.readableRec 23 = true ∧ decide (23 < Tryz.prog.types.size) = true := ⟨by kernel_rfl,by kernel_rfl⟩
theorem readMoves : Tryz.prog.readableRec 24 = true ∧ decide (24 < Tryz.prog.types.size) = true := ⟨by kernel_rfl,by kernel_rfl⟩
theorem readInt : Tryz.prog.readableRec 3 = true ∧ decide (3 < Tryz.prog.types.size) = true := ⟨by kernel_rfl,by kernel_rfl⟩
set_option maxRecDepth 100000 in
theorem alone_lifted (os : Os) (started : os.Started) (H : Type) (enc : TypeId × Value → H) :
  ReturnsInHanded {} Tryz.checked os 7 .any (Rows.queueAloneSpec.pre6 enc Tryz.prog Tryz.f7 Rows.queueAloneRow.domain false) (Rows.queueAloneSpec.post enc Tryz.prog Tryz.f7 false true false false) := by
 refine returnsInHanded_of_change (C := Tryz.checked) own started (by kernel_rfl) Tryz.func7
  (ChangeSpec.witness6 (enc := enc) (C := Tryz.checked) false ⟨#[],#[.agg #[.int .i64 0,.int .i64 0,.int .i64 0,.int .i64 0,.int .i64 0,.int .i64 0,.int .i64 0],.slice none 0 0,.int .i64 0],[]⟩ 8 (by kernel_rfl) (by kernel_rfl) (by kernel_rfl) (by kernel_rfl)) ?_
 intro W base args ds gs before hval0 hW hcnd _
 have hval : ∀ (j : Nat) t v,Tryz.f7.params[j]? = some t → args[j]? = some v → Value.okWide Tryz.prog W .any base t v := hval0
 have hW' := hW
 obtain ⟨p,q,hA0,hV,rfl,hfz,hnd⟩ := hW
 have hA : DataW.TrodAll enc Tryz.prog W 0 (fun _ => true) true Tryz.f7.params.toList args.toList ds p := hA0
 rw [Tryz.params7] at hA hval
 obtain ⟨v0,v1,v2,d0,d1,d2,p0,p1,p2,rfl,rfl,rfl,h0,h1,h2⟩ := trodAll_three hA
 obtain ⟨rfl,rfl⟩ := trodVars_none hV
 obtain ⟨z0,z1,z2,z3,z4,z5,z6,rfl,-,-⟩ := open_int7 Tryz.underlying23 (by kernel_rfl) (by kernel_rfl) Tryz.underlying3 rfl rfl rfl rfl rfl rfl rfl (hval 0 23 v0 rfl rfl) h0
 obtain ⟨mvs,hRd⟩ := open_moves Tryz.underlying24 Tryz.underlying90 (by kernel_rfl) (by kernel_rfl) Tryz.underlying3 Tryz.underlying54 Tryz.underlying3 Tryz.underlying3 (okWide_slice Tryz.underlying24 (hval 1 24 v1 rfl rfl)) h1
 obtain ⟨a2,rfl,-,-,-⟩ := open_int Tryz.underlying3 (hval 2 3 v2 rfl rfl) h2
 refine (Zk.belowA (que_alone ⟨z0,z1,z2,z3,z4,z5,z6⟩ mvs _ a2 (full W) hRd)).mono fun e W' ⟨he,hg⟩ => ?_
 subst he
 refine ⟨_,rfl,post_true laidOutHere rfl hW' ?_ hg rfl Tryz.underlying4 rfl rfl rfl⟩
 intro t ht
 rw [Tryz.params7] at ht
 simp only [List.mem_cons,List.not_mem_nil,or_false] at ht
 rcases ht with rfl|rfl|rfl
 ·exact ⟨readCfg.1,of_decide_eq_true readCfg.2⟩
 ·exact ⟨readMoves.1,of_decide_eq_true readMoves.2⟩
 ·exact ⟨readInt.1,of_decide_eq_true readInt.2⟩
theorem queueAlone_holds : Rows.QueueAloneSaid :=
 OpenClaim.holds_of_wide 7 Tryz.f7 rfl rfl rfl rfl rfl rfl rfl ⟨rfl,rfl,rfl,rfl,rfl⟩ rfl rfl rfl rfl rfl (by kernel_rfl) Tryz.func7 (by kernel_rfl)
  (of_decide_eq_true (by kernel_rfl)) (by unfold Func.isWrapper;(rw [if_neg (by decide +kernel)];exact ⟨rfl,rfl⟩))
  (fun os started H enc _ => alone_lifted os started H enc)
#print axioms queueAlone_holds
end
end Go.Proofs.YtefjbdajgakgpaaGreat
