/-
  StackLinear, StackKept: the calls by their points, and what each half of a step does to them.
-/
import Derived.Test.YtjagadldibbbbaaGreatDStkR3
import Derived.Test.YtjagadldibbbbaaGreatDQs5
set_option linter.all false
namespace Go.Proofs.YtjagadldibbbbaaGreat
open Go.RowKit Hp
set_option maxRecDepth 100000
set_option maxHeartbeats 1000000
attribute [local irreducible] Go.Calls
section
structure En where
 i:Nat
 p:Int
 op:Int
 arg:Int
 bef:List Int
def En.aft (e:En):List Int:=if e.op=30 then wrap64 e.arg::e.bef else e.bef.tail
def Runs:List Int→List En→List Int→Prop
 | l,[],l'=>l=l'
 | l,e::r,l'=>e.bef=l∧Runs e.aft r l'
theorem Runs.snoc:∀ {l0 l:List Int} {o:List En} {e:En},Runs l0 o l→e.bef=l→Runs l0 (o++[e]) e.aft
 | _,_,[],e,h,he=>⟨he.trans h.symm,rfl⟩
 | _,_,a::r,e,h,he=>⟨h.1,Runs.snoc h.2 he⟩
def vfo (c:Cfg)(m:Mch)(s:Int):Int:=wrap64 ((mv c m).val s)
def HasE (o:List En)(i:Nat)(cl:Cll)(l:List Int):Prop:=(⟨i,cl.point,cl.op,cl.arg,l⟩:En)∈o
def LB (vf:Int→Int)(o:List En)(i:Nat)(cl:Cll)(se:Sea):Zm→Prop
 | .hz _=>cl.op≠30∧cl.op≠31
 | .psh p=>cl.op=30∧p.value=cl.arg∧cl.point = -1
 | .pop p=>cl.op=31∧(p.stage≤5→cl.point = -1)∧(p.stage=6∨p.stage=7→∃rest,HasE o i cl (vf (p.top-1)::rest))∧(p.stage=8→se.kind=3∧HasE o i cl [])∧(p.stage=9→se.kind=2∧∃rest,HasE o i cl (se.value::rest))
def LE (o:List En)(i:Nat)(cl:Cll):Prop:=(cl.op=30→cl.kind=4∨cl.kind=1∧∃l,HasE o i cl l)∧(cl.op=31→cl.kind=3∧HasE o i cl []∨cl.kind=2∧∃rest,HasE o i cl (cl.value::rest))
structure LH (vf vf':Int→Int)(o:List En)(stk stk':List Int)(now:Int)(i t:Nat)(cl:Cll)(b:Bool)(m':Mch)(k':Zm):Prop where
 ex:∃(cl':Cll) (s':Sea) (o':List En),ZG m' i t cl' s'∧cl'.op=cl.op∧cl'.arg=cl.arg ∧
  (o'=o∧stk'=stk∧(cl'.point=cl.point∨cl.point = -1∨cl.op≠30∧cl.op≠31)∨o'=o++[⟨i,now,cl.op,cl.arg,stk.map vf⟩]∧cl.point = -1∧cl'.point=now∧(cl.op=30∨cl.op=31)∧(b=true→s'.kind≠4)∧stk'.map vf'=(⟨i,now,cl.op,cl.arg,stk.map vf⟩:En).aft) ∧
  (b=false→LB vf' o' i cl' s' k')∧(b=true→LE o' i { cl' with kind:=s'.kind,value:=s'.value })
structure LA (vf':Int→Int)(o:List En)(i t:Nat)(cl:Cll)(b:Bool)(m':Mch)(k':Zm):Prop where
 ex:∃(cl':Cll) (s':Sea),ZG m' i t cl' s'∧cl'.op=cl.op∧cl'.arg=cl.arg∧(cl'.point=cl.point∨cl.point = -1∨cl.op≠30∧cl.op≠31)∧(b=false→LB vf' o i cl' s' k')∧(b=true→LE o i { cl' with kind:=s'.kind,value:=s'.value })
theorem LA.toLH {vf vf':Int→Int}{o:List En}{stk:List Int}{now:Int}{i t:Nat}{cl:Cll}{b:Bool}{m':Mch}{k':Zm}(A:LA vf' o i t cl b m' k'):LH vf vf' o stk stk now i t cl b m' k':=by
 obtain⟨cl',s',a1,a2,a3,a4,a5,a6⟩:=A
 exact⟨cl',s',o,a1,a2,a3,.inl ⟨rfl,rfl,a4⟩,a5,a6⟩
theorem wrap_mod (z:Int):wrap64 (z%18446744073709551616)=wrap64 z:=by unfold wrap64;omega
section
variable {c:Cfg}{Lg S N:Nat}{h:Haz}{a:Are}{m:Mch}{i t:Nat}{cl:Cll}{se:Sea}{stk:List Int}{pr:Int→Prop}{o:List En}
theorem vfo_words {m':Mch}(e:m'.mem.words=m.mem.words):vfo c m'=vfo c m:=by funext s;unfold vfo;rw[mv_same e]
theorem vfo_top {m':Mch}(hok:c.Ok){z:Int}(e:m'.mem.words=m.mem.words.set (adr c 3 0) z)(hA:adr c 3 0<m.mem.words.length):vfo c m'=vfo c m:=by funext s;unfold vfo;rw[mv_top hok e hA]
theorem ln_hz {vf vf':Int→Int}{m':Mch}(hc:ZG m i t cl se)(f:Qp i t cl se m m')(b:Bool)(k k':Qd)(E:LB vf o i cl se (.hz k)):LA vf' o i t cl b m' (.hz k'):=by
 obtain⟨z,q,v,hc'⟩:=f.curIn hc
 exact⟨_,_,hc',rfl,rfl,.inr (.inr E),fun _=>E,fun _=>⟨fun h=>absurd h E.1,fun h=>absurd h E.2⟩⟩
theorem LA.none {vf':Int→Int}{b:Bool}{m':Mch}{k':Zm}{s':Sea}(hc:ZG m' i t cl s')(h1:b=false→LB vf' o i cl s' k')(h2:b=true→LE o i { cl with kind:=s'.kind,value:=s'.value }):LA vf' o i t cl b m' k' :=
 ⟨cl,s',hc,rfl,rfl,.inl rfl,h1,h2⟩
theorem LH.none {vf vf':Int→Int}{now:Int}{b:Bool}{m':Mch}{k':Zm}{s':Sea}(hc:ZG m' i t cl s')(h1:b=false→LB vf' o i cl s' k')(h2:b=true→LE o i { cl with kind:=s'.kind,value:=s'.value }):LH vf vf' o stk stk now i t cl b m' k' :=
 ⟨cl,s',o,hc,rfl,rfl,.inl ⟨rfl,rfl,.inl rfl⟩,h1,h2⟩
theorem ln_taken {vf vf':Int→Int}{p:Pu}(hc:ZG m i t cl se)(E:LB vf o i cl se (.psh p)):LA vf' o i t cl (ZZ m i t cl se p).1 (ZZ m i t cl se p).2.1 (.psh (ZZ m i t cl se p).2.2):=by
 obtain⟨e1,e2,e3⟩:=E
 unfold ZZ
 split
 ·exact⟨_,_,cur_both hc m.now 4 0,rfl,rfl,.inr (.inl e3),fun hf=>(by cases hf),fun _=>⟨fun _=>.inl rfl,fun(h:cl.op=31)=>by omega⟩⟩
 ·exact .none hc (fun _=>⟨e1,e2,e3⟩) (fun hf=>(by cases hf))
theorem ln_rdy {vf vf':Int→Int}{k:Zm}(hc:ZG m i t cl se)(h0:K0 k)(E:LB vf o i cl se k):LA vf' o i t cl (QV (h,a) m i t cl se k).1 (QV (h,a) m i t cl se k).2.2.1 (QV (h,a) m i t cl se k).2.2.2:=by
 cases k with
 | hz k=>exact ln_hz hc ((hzT_good 0 0 emp).fr (h,a) m i t cl se k hc) _ k _ E
 | psh p=>
  simp only[QV]
  unfold QF
  simp only[]
  have hS:=ZN a m p.take
  split
  ·exact ln_taken (vf:=vf) (p:={ p with take:=(Zg a m p.take).2.2.2,stage:=1 }) (hS.curIn hc) E
  ·exact .none (hS.curIn hc) (fun _=>E) (fun hf=>(by cases hf))
 | pop p=>
  obtain⟨e1,e2,_⟩:=E
  have h0:p.stage=0:=h0
  exact .none hc (fun _=>⟨e1,fun _=>e2 (by omega),fun hf=>by simp at hf,fun hf=>by simp at hf,fun hf=>by simp at hf⟩) (fun hf=>(by cases hf))
theorem ln_psh {p:Pu}(C:Core c Lg S N h a m)(hc:ZG m i t cl se)(E:LB (vfo c m) o i cl se (.psh p))(I:PuI c p)(D:PuD t (sx stk pr c h a m) p) :
  LH (vfo c m) (vfo c (Qm (h,a) m i t cl se (.psh p)).2.2.1) o stk (Q4 c m stk (.psh p)) m.now i t cl (Qm (h,a) m i t cl se (.psh p)).1 (Qm (h,a) m i t cl se (.psh p)).2.2.1 (Qm (h,a) m i t cl se (.psh p)).2.2.2:=by
 have hok:=C.ok
 obtain rfl:=C.hc
 obtain⟨i1,i2,i3,i4⟩:=I
 obtain⟨d1,d2,d3,d4⟩:=D
 have E0:=E
 obtain⟨e1,e2,e3⟩:=E
 have hk5:¬(p.stage=5∧m.word (adr h.c 3 0)=p.top)→Q4 h.c m stk (.psh p)=stk:=fun h5=>by simp only[Q4];rw[if_neg h5]
 simp only[Qm]
 unfold Jf
 simp only[]
 by_cases s1:p.stage=1
 ·rw[hk5 (by omega),if_pos s1]
  unfold puTake
  simp only[]
  have hS:=same_take a m p.take
  split
  ·exact(ln_taken (vf:=vfo h.c m) (p:={ p with take:=(Zj a m p.take).2.2.2 }) (hS.curIn hc) E0).toLH
  ·exact .none (hS.curIn hc) (fun _=>E0) (fun hf=>(by cases hf))
 rw[if_neg s1]
 by_cases s2:p.stage=2
 ·rw[hk5 (by omega),if_pos s2]
  exact .none ((ZS ..).curIn hc) (fun _=>⟨e1,e2,e3⟩) (fun hf=>(by cases hf))
 rw[if_neg s2]
 by_cases s3:p.stage=3
 ·rw[hk5 (by omega),if_pos s3]
  exact .none ((ZB ..).curIn hc) (fun _=>⟨e1,e2,e3⟩) (fun hf=>(by cases hf))
 rw[if_neg s3]
 by_cases s4:p.stage=4
 ·rw[hk5 (by omega),if_pos s4]
  exact .none ((ZS ..).curIn hc) (fun _=>⟨e1,e2,e3⟩) (fun hf=>(by cases hf))
 rw[if_neg s4]
 have s5:p.stage=5:=by omega
 have hA:=C.lt (top_lt hok)
 split
 ·rename_i hw
  have hk:Q4 h.c m stk (.psh p)=p.slot::stk:=by simp only[Q4];rw[if_pos ⟨s5,hw⟩]
  rw[hk]
  unfold puDone
  simp only[]
  have hcu:=cur_answer ((QO _ p.slot (a.slots.getD p.slot.toNat ⟨0,0⟩).state 3).curIn (cur_point ((Z7 m (adr h.c 3 0) (m.word (adr h.c 3 0)) p.top (p.slot+1)).curIn hc) m.now)) 1 0
  have hv:vfo h.c ((((m.swap (adr h.c 3 0) (m.word (adr h.c 3 0)) p.top (p.slot+1)).point i cl m.now).shift p.slot (a.slots.getD p.slot.toNat ⟨0,0⟩).state 3).answer t se 1 0)=vfo h.c m:=
   vfo_top hok (z:=p.slot+1) (by simp only[Mch.answer,Mch.shift,Mch.point,Mch.swap];rw[if_pos hw]) hA
  refine⟨_,_,_,hcu,rfl,rfl,.inr ⟨rfl,e3,rfl,.inl e1,fun _=>(by simp),?_⟩,fun hf=>(by cases hf),fun _=>⟨fun _=>.inr ⟨rfl,_,List.mem_append_right _ (List.mem_cons_self ..)⟩,fun(hf:cl.op=31)=>by omega⟩⟩
  have hvs:(mv h.c m).val p.slot=p.value%18446744073709551616:=d3 (.inr (.inr s5))
  show(p.slot::stk).map (vfo h.c ((((m.swap (adr h.c 3 0) (m.word (adr h.c 3 0)) p.top (p.slot+1)).point i cl m.now).shift p.slot (a.slots.getD p.slot.toNat ⟨0,0⟩).state 3).answer t se 1 0))=_
  rw[hv]
  unfold En.aft
  rw[if_pos e1]
  simp only[Yi,List.cons.injEq,and_true]
  unfold vfo
  rw[hvs,wrap_mod,e2]
 ·rename_i hw
  rw[hk5 (by rintro⟨_,h⟩;exact hw h)]
  exact .none ((Z7 ..).curIn hc) (fun _=>⟨e1,e2,e3⟩) (fun hf=>(by cases hf))
theorem ln_seen {vf vf':Int→Int}{p:Po}{n0:Bool}(hn:p.named=n0)(hc:ZG m i t cl se)(e1:cl.op=31)(e3:cl.point = -1)(hst:¬0≤p.top-1→stk=[]) :
  LH vf vf' o stk stk m.now i t cl (Z4 m i t cl se p).1 (Z4 m i t cl se p).2.1 (.pop (Z4 m i t cl se p).2.2):=by
 unfold Z4
 split
 ·exact .none hc (fun _=>⟨e1,fun _=>e3,fun hf=>by simp at hf,fun hf=>by simp at hf,fun hf=>by simp at hf⟩) (fun hf=>(by cases hf))
 ·rename_i h0
  rw[hst h0]
  refine⟨_,_,_,cur_both hc m.now 3 0,rfl,rfl,.inr ⟨rfl,e3,rfl,.inr e1,fun _=>(by simp),?_⟩,fun _=>⟨e1,fun hf=>by simp at hf,fun hf=>by simp at hf,fun _=>⟨rfl,List.mem_append_right _ (List.mem_cons_self ..)⟩,fun hf=>by simp at hf⟩,fun _=>⟨fun(hf:cl.op=30)=>by omega,fun _=>.inl ⟨rfl,List.mem_append_right _ (List.mem_cons_self ..)⟩⟩⟩
  unfold En.aft
  rw[if_neg (by simp only[];omega)]
  rfl
theorem ln_pop {p:Po}(C:Core c Lg S N h a m)(hc:ZG m i t cl se)(E:LB (vfo c m) o i cl se (.pop p))(I:PpI c p)(D:PoD c t (sx stk pr c h a m) p)(hlk:Chain (mv c m).ln (m.word (adr c 3 0)) stk) :
  LH (vfo c m) (vfo c (Qm (h,a) m i t cl se (.pop p)).2.2.1) o stk (Q4 c m stk (.pop p)) m.now i t cl (Qm (h,a) m i t cl se (.pop p)).1 (Qm (h,a) m i t cl se (.pop p)).2.2.1 (Qm (h,a) m i t cl se (.pop p)).2.2.2:=by
 have hok:=C.ok
 obtain rfl:=C.hc
 have htw:=C.topW
 obtain⟨i1,i2,i3,i4⟩:=I
 obtain⟨d1,d2,d3,d4,d5,d6⟩:=D
 obtain⟨e1,e2,e3,e4,e5⟩:=E
 have hk5:¬(p.stage=5∧m.word (adr h.c 3 0)=p.top)→Q4 h.c m stk (.pop p)=stk:=fun h5=>by simp only[Q4];rw[if_neg h5]
 have nil_:¬0≤m.word (adr h.c 3 0)-1→stk=[]:=by
  intro h0
  cases stk with
  | nil=>rfl
  | cons s rest=>
   obtain⟨k1,k2,k3⟩:=hlk
   omega
 simp only[Qm]
 unfold QX
 simp only[]
 by_cases s1:p.stage=1
 ·rw[hk5 (by omega),if_pos s1]
  exact ln_seen (p:={ p with top:=m.word (adr h.c 3 0) }) rfl ((ZB m _ _).curIn hc) e1 (e2 (by omega)) nil_
 rw[if_neg s1]
 by_cases s2:p.stage=2
 ·rw[hk5 (by omega),if_pos s2]
  exact .none ((ZS ..).curIn hc) (fun _=>⟨e1,fun _=>e2 (by omega),fun hf=>by simp at hf,fun hf=>by simp at hf,fun hf=>by simp at hf⟩) (fun hf=>(by cases hf))
 rw[if_neg s2]
 by_cases s3:p.stage=3
 ·rw[hk5 (by omega),if_pos s3]
  split
  ·exact .none ((ZB ..).curIn hc) (fun _=>⟨e1,fun _=>e2 (by omega),fun hf=>by simp at hf,fun hf=>by simp at hf,fun hf=>by simp at hf⟩) (fun hf=>(by cases hf))
  ·exact ln_seen (p:={ p with top:=m.word (adr h.c 3 0) }) rfl ((ZB m _ _).curIn hc) e1 (e2 (by omega)) nil_
 rw[if_neg s3]
 by_cases s4:p.stage=4
 ·rw[hk5 (by omega),if_pos s4]
  exact .none ((ZB ..).curIn hc) (fun _=>⟨e1,fun _=>e2 (by omega),fun hf=>by simp at hf,fun hf=>by simp at hf,fun hf=>by simp at hf⟩) (fun hf=>(by cases hf))
 rw[if_neg s4]
 by_cases s5:p.stage=5
 ·rw[if_pos s5]
  have hA:=C.lt (top_lt hok)
  obtain⟨h1,h2⟩:=i2 (by omega) (by omega)
  split
  ·rename_i hw
   obtain⟨rest,hst⟩:∃rest,stk=(p.top-1)::rest:=by
    rw[hw]at hlk
    cases stk with
    | nil=>have:p.top=0:=hlk;omega
    | cons s rest=>
     obtain⟨k1,k2,k3⟩:=hlk
     exact⟨rest,by rw[show p.top-1=s by omega]⟩
   have hk:Q4 h.c m stk (.pop p)=rest:=by simp only[Q4];rw[if_pos ⟨s5,hw⟩,hst];rfl
   rw[hk]
   have hcu:=(QO _ (p.top-1) (a.slots.getD (p.top-1).toNat ⟨0,0⟩).state 4).curIn (cur_point ((Z7 m (adr h.c 3 0) (m.word (adr h.c 3 0)) p.top p.behind).curIn hc) m.now)
   have hv:vfo h.c (((m.swap (adr h.c 3 0) (m.word (adr h.c 3 0)) p.top p.behind).point i cl m.now).shift (p.top-1) (a.slots.getD (p.top-1).toNat ⟨0,0⟩).state 4)=vfo h.c m:=
    vfo_top hok (z:=p.behind) (by simp only[Mch.shift,Mch.point,Mch.swap];rw[if_pos hw]) hA
   refine⟨_,_,_,hcu,rfl,rfl,.inr ⟨rfl,e2 (by omega),rfl,.inr e1,fun hf=>(by cases hf),?_⟩,fun _=>⟨e1,fun hf=>by simp at hf,fun _=>⟨rest.map (vfo h.c m),List.mem_append_right _ ?_⟩,fun hf=>by simp at hf,fun hf=>by simp at hf⟩,fun hf=>(by cases hf)⟩
   ·show rest.map (vfo h.c (((m.swap (adr h.c 3 0) (m.word (adr h.c 3 0)) p.top p.behind).point i cl m.now).shift (p.top-1) (a.slots.getD (p.top-1).toNat ⟨0,0⟩).state 4))=_
    rw[hv]
    unfold En.aft
    rw[if_neg (by simp only[];omega),hst]
    rfl
   ·simp only[]
    rw[hv,hst]
    exact List.mem_cons_self ..
  ·rename_i hw
   rw[hk5 (by rintro⟨_,h⟩;exact hw h)]
   exact .none ((Z7 ..).curIn hc) (fun _=>⟨e1,fun _=>e2 (by omega),fun hf=>by simp at hf,fun hf=>by simp at hf,fun hf=>by simp at hf⟩) (fun hf=>(by cases hf))
 rw[if_neg s5,hk5 (by omega)]
 by_cases s6:p.stage=6
 ·rw[if_pos s6]
  refine .none ((ZB ..).curIn hc) (fun _=>⟨e1,fun hf=>by simp at hf,fun _ => ?_,fun hf=>by simp at hf,fun hf=>by simp at hf⟩) (fun hf=>(by cases hf))
  simp only[]
  rw[vfo_words (m:=m) (by rfl)]
  exact e3 (.inl s6)
 rw[if_neg s6]
 by_cases s7:p.stage=7
 ·rw[if_pos s7]
  obtain⟨rest,hr⟩:=e3 (.inr s7)
  have hv:vfo h.c m (p.top-1)=p.value:=(d5 s7).symm
  rw[hv]at hr
  exact .none ((same_retire ..).curIn (cur_answer ((ZS m _ _ _).curIn hc) 2 p.value)) (fun _=>⟨e1,fun hf=>by simp at hf,fun hf=>by simp at hf,fun hf=>by simp at hf,fun _=>⟨rfl,rest,hr⟩⟩) (fun _=>⟨fun(hf:cl.op=30)=>by omega,fun _=>.inr ⟨rfl,rest,hr⟩⟩)
 rw[if_neg s7]
 by_cases s8:p.stage=8
 ·rw[if_pos s8]
  obtain⟨g1,g2⟩:=e4 s8
  exact .none ((ZS ..).curIn hc) (fun hf=>(by cases hf)) (fun _=>⟨fun(hf:cl.op=30)=>by omega,fun _=>.inl ⟨g1,g2⟩⟩)
 rw[if_neg s8]
 have s9:p.stage=9:=by clear i4 e3 e4 e5;omega
 obtain⟨r,sc,q1,q2,_⟩:=i4 s9
 obtain⟨g1,rest,g2⟩:=e5 s9
 rw[q1]
 simp only[q2]
 exact .none ((same_scan ..).curIn hc) (fun _=>⟨e1,fun(hf:p.stage≤5)=>by omega,fun(hf:p.stage=6∨p.stage=7)=>by omega,fun(hf:p.stage=8)=>by omega,fun _=>⟨g1,rest,g2⟩⟩) (fun _=>⟨fun(hf:cl.op=30)=>by omega,fun _=>.inr ⟨g1,rest,g2⟩⟩)
theorem ln_stp {k:Zm}(C:Core c Lg S N h a m)(hc:ZG m i t cl se)(I:SI c t true (h.held.getD t 0) (a.caches.getD t []) k)(E:LB (vfo c m) o i cl se k)(D:KD c t (sx stk pr c h a m) k)(hlk:Chain (mv c m).ln (m.word (adr c 3 0)) stk) :
  LH (vfo c m) (vfo c (Qm (h,a) m i t cl se k).2.2.1) o stk (Q4 c m stk k) m.now i t cl (Qm (h,a) m i t cl se k).1 (Qm (h,a) m i t cl se k).2.2.1 (Qm (h,a) m i t cl se k).2.2.2:=by
 cases k with
 | hz k=>exact(ln_hz hc ((hzT_good 0 0 emp).fs (h,a) m i t cl se k hc) _ k _ E).toLH
 | psh p=>exact ln_psh C hc E (I.2.2 rfl) D
 | pop p=>exact ln_pop C hc E (I.2.2 rfl) D hlk
end
end
section
structure LinJ (vf:Int→Int)(stk:List Int)(o:List En)(n:Int)(y:GW Zm):Prop where
 srt:o.Pairwise (fun a b=>a.p<b.p)
 lt:∀e∈o,e.p<n
 st:∀e∈o,∃x,y.m.calls[e.i]? = some x∧x.point=e.p∧x.op=e.op∧x.arg=e.arg∧x.begin_<e.p∧(x.end_ ≠ -1→e.p≤x.end_)∧x.kind≠4∧0≤e.p∧(x.op=30∨x.op=31)
 all:∀(i:Nat) (x:Cll),y.m.calls[i]? = some x→x.op=30∨x.op=31→0≤x.point→x.kind≠4→∃l,HasE o i x l
 ans:∀(i:Nat) (x:Cll),y.m.calls[i]? = some x→x.end_ ≠ -1→LE o i x
 run:Runs [] o (stk.map vf)
 busy:∀(t:Nat) (k:Zm) (se:Sea) (i:Nat) (cl:Cll),y.tasks[t]? = some (some k)→y.m.seats[t]? = some se→se.last=(i:Int)→y.m.calls[i]? = some cl→LB vf o i cl se k∧cl.kind=0
section
variable {vf vf':Int→Int}{o o':List En}{i:Nat}{cl:Cll}{se:Sea}{k:Zm}
theorem LE.mono (E:LE o i cl)(h:∀e∈o,e∈o'):LE o' i cl:=
 ⟨fun h0=>(E.1 h0).imp id fun⟨h1,l,h2⟩=>⟨h1,l,h _ h2⟩,fun h0=>(E.2 h0).imp (fun⟨h1,h2⟩=>⟨h1,h _ h2⟩) fun⟨h1,l,h2⟩=>⟨h1,l,h _ h2⟩⟩
theorem LB.mono (E:LB vf o i cl se k)(h:∀e∈o,e∈o')(hv:∀p:Po,k=.pop p→p.stage=6∨p.stage=7→vf' (p.top-1)=vf (p.top-1)):LB vf' o' i cl se k:=by
 cases k with
 | hz k=>exact E
 | psh p=>exact E
 | pop p=>
  obtain⟨e1,e2,e3,e4,e5⟩:=E
  refine⟨e1,e2,fun h6 => ?_,fun h8=>⟨(e4 h8).1,h _ (e4 h8).2⟩,fun h9 => ?_⟩
  ·obtain⟨rest,hr⟩:=e3 h6
   rw[hv p rfl h6]
   exact⟨rest,h _ hr⟩
  ·obtain⟨g1,rest,hr⟩:=e5 h9
   exact⟨g1,rest,h _ hr⟩
theorem LB.has (E:LB vf o i cl se k)(h1:cl.op=30∨cl.op=31)(h2:0≤cl.point)(hs:∀p:Po,k=.pop p→p.stage≤9):∃l,HasE o i cl l:=by
 cases k with
 | hz k=>obtain⟨e1,e2⟩:=E;omega
 | psh p=>obtain⟨e1,e2,e3⟩:=E;omega
 | pop p=>
  obtain⟨e1,e2,e3,e4,e5⟩:=E
  have:=hs p rfl
  by_cases h5:p.stage≤5
  ·have:=e2 h5;omega
  ·by_cases h6:p.stage=6∨p.stage=7
   ·obtain⟨rest,hr⟩:=e3 h6;exact⟨_,hr⟩
   ·by_cases h8:p.stage=8
    ·exact⟨_,(e4 h8).2⟩
    ·obtain⟨_,rest,hr⟩:=e5 (by clear e3 e4 e5;omega)
     exact⟨_,hr⟩
end
structure LnJ (c:Cfg)(n:Nat)(y:GW Zm):Prop where
 rm:RmJ c n y
 ex:∃(stk:List Int) (pr:Int→Prop) (F:List Int) (o:List En),DK c stk pr F n y∧LinJ (vfo c y.m) stk o n y
theorem ln_start {c:Cfg}(hok:c.Ok)(km:Nat)(vs:Value):LnJ c 0 (gst0 Zm c km vs):=by
 refine⟨rm_start c km vs,_,_,_,[],DK.start hok km vs,⟨.nil,by simp,by simp,fun i x hx=>by simp[gst0,mch0]at hx,fun i x hx=>by simp[gst0,mch0]at hx,rfl,fun t k se i cl hk => ?_⟩⟩
 simp only[gst0,List.getElem?_replicate]at hk
 split at hk<;>simp at hk
theorem LinJ.tick {vf:Int→Int}{stk:List Int}{o:List En}{n n':Int}{y:GW Zm}(J:LinJ vf stk o n y)(h:n≤n'):LinJ vf stk o n' y.tick:=
 ⟨J.srt,fun e he=>by have:=J.lt e he;omega,J.st,J.all,J.ans,J.run,J.busy⟩
theorem LinJ.begin {c:Cfg}{vf:Int→Int}{stk:List Int}{o:List En}{n n':Int}{y:GW Zm}{mv:Mv}{v vc:Value}{t:Nat}{k:Zm}(J:LinJ vf stk o n y)(h:n≤n')(hk:y.tasks[t]? = some none)(hl:y.tasks.length=y.m.seats.length)
  (hb:∀(j:Nat) (k:Zm) (se:Sea),y.tasks[j]? = some (some k)→y.m.seats[j]? = some se→∃(i:Nat) (cl:Cll),se.last=(i:Int)∧y.m.calls[i]? = some cl) (hm:sTask y.s t mv=some k) :
  LinJ vf stk o n' ⟨y.s,ZC y.m t mv v vc,y.tasks.set t (some k)⟩:=by
 have hlt:=(List.getElem?_eq_some_iff.1 hk).1
 have old:∀(i:Nat) (x:Cll),y.m.calls[i]? = some x→(ZC y.m t mv v vc).calls[i]? = some x:=by
  intro i x hx
  have:=(List.getElem?_eq_some_iff.1 hx).1
  simp only[ZC]
  rw[List.getElem?_append_left this]
  exact hx
 have split_:∀(i:Nat) (x:Cll),(ZC y.m t mv v vc).calls[i]? = some x→y.m.calls[i]? = some x∨x=⟨mv.thread,mv.op,mv.arg,mv.data,y.m.moves,-1,-1,0,0⟩:=by
  intro i x hx
  simp only[ZC]at hx
  by_cases hi:i<y.m.calls.length
  ·rw[List.getElem?_append_left hi]at hx
   exact .inl hx
  ·rw[List.getElem?_append_right (by omega)]at hx
   have:=Yc hx
   simp at this
   exact .inr this
 refine⟨J.srt,fun e he=>by have:=J.lt e he;omega,fun e he => ?_,fun i x hx h1 h2 h3 => ?_,fun i x hx h1 => ?_,J.run,?_⟩
 ·obtain⟨x,hx,hr⟩:=J.st e he
  exact⟨x,old _ _ hx,hr⟩
 ·rcases split_ i x hx with hx|rfl
  ·exact J.all i x hx h1 h2 h3
  ·simp only[]at h2;omega
 ·rcases split_ i x hx with hx|rfl
  ·exact J.ans i x hx h1
  ·exact absurd rfl h1
 ·intro j kj sj i cl hkj hsj hi hcl
  simp only[]at hkj
  have hsj:(y.m.seats.set t ⟨v,false,(y.m.calls.length:Int),1,0⟩)[j]? = some sj:=hsj
  by_cases hj:j=t
  ·subst hj
   rw[Ye hlt]at hkj
   rw[Ye (by omega)]at hsj
   cases hkj
   cases hsj
   have hi:(y.m.calls.length:Int)=(i:Int):=hi
   have hcl':cl=⟨mv.thread,mv.op,mv.arg,mv.data,y.m.moves,-1,-1,0,0⟩:=by
    rcases split_ i cl hcl with h|h
    ·have:=(List.getElem?_eq_some_iff.1 h).1;omega
    ·exact h
   subst hcl'
   refine⟨?_,rfl⟩
   have:=sTask_op hm
   cases k with
   | hz k=>exact this
   | psh p=>exact⟨this.1,this.2.1,rfl⟩
   | pop p=>
    obtain⟨g1,g2⟩:=this
    exact⟨g1,fun _=>rfl,fun hf=>by rw[g2]at hf;omega,fun hf=>by rw[g2]at hf;omega,fun hf=>by rw[g2]at hf;omega⟩
  ·rw[ZX hj]at hkj hsj
   obtain⟨i',cl',g1,g2⟩:=hb j kj sj hkj hsj
   have:i'=i:=by omega
   subst this
   rw[old _ _ g2]at hcl
   cases hcl
   exact J.busy j kj sj i' _ hkj hsj hi g2
theorem LinJ.step {c:Cfg}{bh ba:Nat}{CX:Zc}{vf vf' vf1:Int→Int}{stk stk':List Int}{o:List En}{n t i:Nat}{y:GW Zm}{cl cl':Cll}{se s':Sea}{k:Zm}{r1 r2:GR Zm}{z q v:Int}{o':List En}(J:LinJ vf stk o n y)
  (G:GStep (skT bh ba CX) (SI c) c n y t i cl se k r1 r2) (O:GOut n y t i cl se r2 z q v) (ht:cl.thread=(t:Int)) (he:cl.end_ = -1) (hbg:cl.begin_<n)
  (hb:∀(j:Nat) (k:Zm) (se:Sea),y.tasks[j]? = some (some k)→y.m.seats[j]? = some se→∃(i:Nat) (cl:Cll),se.last=(i:Int)∧y.m.calls[i]? = some cl∧cl.thread=(j:Int))
  (hc:ZG r2.2.2.1 i t cl' s')
  (hal:(o'=o∧stk'=stk∧(cl'.point=cl.point∨cl.point = -1∨cl.op≠30∧cl.op≠31))∨(o'=o++[⟨i,n,cl.op,cl.arg,stk.map vf1⟩]∧cl.point = -1∧cl'.point=n∧(cl.op=30∨cl.op=31)∧(r2.1=true→s'.kind≠4)∧stk'.map vf'=(⟨i,n,cl.op,cl.arg,stk.map vf1⟩:En).aft))
  (hB:r2.1=false→LB vf' o' i cl' s' r2.2.2.2) (hE:r2.1=true→LE o' i { cl' with kind:=s'.kind,value:=s'.value })
  (hv1:∀s∈stk,vf1 s=vf s) (hv2:stk'=stk→∀s∈stk,vf' s=vf s)
  (hvo:∀(j:Nat) (p:Po),j≠t→y.tasks[j]? = some (some (.pop p))→p.stage=6∨p.stage=7→vf' (p.top-1)=vf (p.top-1)) :
  LinJ vf' stk' o' ((n+1:Nat):Int) (QY y t i r2):=by
 have hlt:=(List.getElem?_eq_some_iff.1 G.hse).1
 have hlk:=(List.getElem?_eq_some_iff.1 G.hk).1
 have hli:=(List.getElem?_eq_some_iff.1 G.hc).1
 obtain⟨B0,hk0⟩:=J.busy t k se i cl G.hk G.hse G.hl G.hc
 obtain⟨rfl,rfl⟩:=O.cur.same hc
 obtain⟨x',hx',hcs,x1,x2,x3,x4,x5,x6⟩:∃x':Cll,x'=(if r2.1=true then { cl with point:=z,end_:=n,kind:=q,value:=v } else { cl with point:=z })∧(QY y t i r2).m.calls=y.m.calls.set i x'∧x'.op=cl.op∧x'.arg=cl.arg∧x'.point=z∧x'.begin_=cl.begin_ ∧
   (x'.end_ ≠ -1→r2.1=true∧x'.end_=n∧x'.kind=q∧x'.value=v)∧(r2.1=false→x'.kind=0):=by
  refine⟨_,rfl,O.calls,?_⟩
  by_cases hb:r2.1=true
  ·rw[if_pos hb]
   exact⟨rfl,rfl,rfl,rfl,fun _=>⟨hb,rfl,rfl,rfl⟩,fun hf=>by rw[hb]at hf;cases hf⟩
  ·rw[if_neg hb]
   exact⟨rfl,rfl,rfl,rfl,fun hf=>absurd he hf,fun _=>hk0⟩
 have hsub:∀e∈o,e∈o':=by
  intro e h
  rcases hal with⟨rfl,_⟩|⟨rfl,_⟩
  ·exact h
  ·exact List.mem_append_left _ h
 have hown:∀e∈o,e.i=i→cl.point=e.p∧0≤e.p∧cl.op=31:=by
  intro e h hi
  obtain⟨x,g1,g2,_,_,_,_,_,g8,g9⟩:=J.st e h
  rw[hi,G.hc]at g1
  cases g1
  refine⟨g2,g8,?_⟩
  cases k with
  | hz k=>obtain⟨b1,b2⟩:=B0;omega
  | psh p=>obtain⟨b1,b2,b3⟩:=B0;omega
  | pop p=>exact B0.1
 have hpt:∀e∈o,e.i=i→z=e.p:=by
  intro e h hi
  obtain⟨g1,g2,g3⟩:=hown e h hi
  rcases hal with⟨_,_,ha|ha|ha⟩|⟨_,ha,_⟩
  ·have ha:z=cl.point:=ha;omega
  ·omega
  ·omega
  ·omega
 have hst2:∀p:Po,r2.2.2.2=.pop p→r2.1=false→p.stage≤9:=by
  intro p hp hb
  have hI:=G.h2.fin hb
  rw[hp]at hI
  have:=(hI.2.2 rfl).stage
  omega
 have hset:∀j,j≠i→(QY y t i r2).m.calls[j]? = y.m.calls[j]? := fun j hj=>by rw[hcs,ZX hj]
 have hseti:(QY y t i r2).m.calls[i]? = some x':=by rw[hcs];exact Ye hli
 have hE':r2.1=true→LE o' i x':=by
  intro hb
  have:=hE hb
  rw[hx',if_pos hb]
  exact this
 have hHas:∀l,HasE o' i { cl with point:=z } l→HasE o' i x' l:=by
  intro l h
  unfold HasE at h ⊢
  rw[x1,x2,x3]
  exact h
 refine⟨?_,?_,?_,?_,?_,?_,?_⟩
 ·rcases hal with⟨rfl,_⟩|⟨rfl,_⟩
  ·exact J.srt
  ·exact List.pairwise_append.2 ⟨J.srt,List.pairwise_singleton ..,fun a ha b hb=>by simp at hb;subst hb;exact J.lt a ha⟩
 ·intro e h
  rcases hal with⟨rfl,_⟩|⟨rfl,_⟩
  ·have:=J.lt e h;omega
  ·rcases List.mem_append.1 h with h|h
   ·have:=J.lt e h;omega
   ·simp at h;subst h;simp only[];omega
 ·have oldE:∀e∈o,∃x,(QY y t i r2).m.calls[e.i]? = some x∧x.point=e.p∧x.op=e.op∧x.arg=e.arg∧x.begin_<e.p∧(x.end_ ≠ -1→e.p≤x.end_)∧x.kind≠4∧0≤e.p∧(x.op=30∨x.op=31):=by
   intro e h
   obtain⟨x,g1,g2,g3,g4,g5,g6,g7,g8,g9⟩:=J.st e h
   by_cases hi:e.i=i
   ·obtain⟨p1,p2,p3⟩:=hown e h hi
    have p4:=hpt e h hi
    have g1':=g1
    rw[hi,G.hc]at g1'
    cases g1'
    refine⟨x',by rw[hi];exact hseti,by rw[x3];exact p4,by rw[x1];exact g3,by rw[x2];exact g4,by rw[x4];exact g5,fun hf => ?_,?_,g8,by rw[x1];exact g9⟩
    ·have:=J.lt e h;rw[(x5 hf).2.1];omega
    ·by_cases hb:r2.1=true
     ·have hL:=(hE' hb).2 (by rw[x1];exact p3)
      rcases hL with hL|hL
      ·rw[hL.1];simp
      ·rw[hL.1];simp
     ·rw[x6 (by simpa using hb)];simp
   ·exact⟨x,by rw[hset _ hi];exact g1,g2,g3,g4,g5,g6,g7,g8,g9⟩
  intro e h
  rcases hal with⟨rfl,_⟩|⟨rfl,h1,h2,h3,h4,_⟩
  ·exact oldE e h
  ·rcases List.mem_append.1 h with h|h
   ·exact oldE e h
   ·simp at h
    subst h
    have h2:z=(n:Int):=h2
    refine⟨x',hseti,by rw[x3];exact h2,x1,x2,by rw[x4];exact hbg,fun hf=>by rw[(x5 hf).2.1];simp,?_,by simp only[];omega,by rw[x1];exact h3⟩
    by_cases hb:r2.1=true
    ·have hk4:q≠4:=h4 hb
     have:x'.kind=q:=by rw[hx',if_pos hb]
     rw[this];exact hk4
    ·rw[x6 (by simpa using hb)];simp
 ·intro j x hx h1 h2 h3
  by_cases hj:j=i
  ·subst hj
   rw[hseti]at hx
   cases hx
   by_cases hb:r2.1=true
   ·obtain⟨a1,a2⟩:=hE' hb
    rcases h1 with h1|h1
    ·rcases a1 h1 with a|⟨_,l,a⟩
     ·exact absurd a h3
     ·exact⟨l,a⟩
    ·rcases a2 h1 with⟨_,a⟩|⟨_,l,a⟩
     ·exact⟨_,a⟩
     ·exact⟨_,a⟩
   ·obtain⟨l,hl⟩:=(hB (by simpa using hb)).has (by rw[x1]at h1;exact h1) (by rw[x3]at h2;exact h2) (fun p hp=>hst2 p hp (by simpa using hb))
    exact⟨l,hHas l hl⟩
  ·rw[hset _ hj]at hx
   obtain⟨l,hl⟩:=J.all j x hx h1 h2 h3
   exact⟨l,hsub _ hl⟩
 ·intro j x hx h1
  by_cases hj:j=i
  ·subst hj
   rw[hseti]at hx
   cases hx
   exact hE' (x5 h1).1
  ·rw[hset _ hj]at hx
   exact(J.ans j x hx h1).mono hsub
 ·rcases hal with⟨rfl,rfl,_⟩|⟨rfl,_,_,_,_,hm⟩
  ·have e:stk'.map vf'=stk'.map vf:=List.map_congr_left (hv2 rfl)
   rw[e];exact J.run
  ·rw[hm]
   have e:stk.map vf1=stk.map vf:=List.map_congr_left hv1
   exact J.run.snoc e
 ·intro j kj sj i' cl2 hkj hsj hi' hcl2
  have hkj:(y.tasks.set t (if r2.1=true then none else some r2.2.2.2))[j]? = some (some kj):=hkj
  rw[O.seats]at hsj
  by_cases hj:j=t
  ·subst hj
   rw[Ye hlk]at hkj
   rw[Ye hlt]at hsj
   by_cases hb:r2.1=true
   ·rw[if_pos hb]at hkj;cases hkj
   ·rw[if_neg hb]at hkj hsj
    cases hkj
    cases hsj
    have hi2:i'=i:=by have:=G.hl;have hi':se.last=(i':Int):=hi';omega
    subst hi2
    rw[hseti]at hcl2
    cases hcl2
    rw[hx',if_neg hb]
    exact⟨hB (by simpa using hb),hk0⟩
  ·rw[ZX hj]at hkj hsj
   obtain⟨i2,cl3,g1,g2,g3⟩:=hb j kj sj hkj hsj
   have hi2:i2=i':=by omega
   subst hi2
   have hne:i2≠i:=by
    intro e
    subst e
    rw[G.hc]at g2
    cases g2
    omega
   rw[hset _ hne]at hcl2
   obtain⟨b1,b2⟩:=J.busy j kj sj i2 cl2 hkj hsj hi' hcl2
   exact⟨b1.mono hsub (fun p hp h6=>hvo j p hj (by rw[←hp];exact hkj) h6),b2⟩
theorem ln_ok (c:Cfg)(bh ba:Nat)(CX:Zc):JG (skT bh ba CX) sTask (SI c) c sOps (LnJ c):=by
 refine⟨?_,?_,?_⟩
 ·rintro n y hn P ⟨R,stk,pr,F,o,D,J⟩
  exact⟨(rm_ok c bh ba CX).tick n y hn P R,stk,pr,F,o,D.tick,J.tick (by omega)⟩
 ·rintro n y mv t k v vc hn P ⟨R,stk,pr,F,o,D,J⟩ ht htT hop hk hm
  refine⟨(rm_ok c bh ba CX).beg n y mv t k v vc hn P R ht htT hop hk hm,stk,pr,F,o,D.begin P htT hk hm,?_⟩
  rw[show vfo c (⟨y.s,ZC y.m t mv v vc,y.tasks.set t (some k)⟩:GW Zm).m=vfo c y.m from vfo_words rfl]
  refine J.begin (c:=c) (by omega) hk (P.tasks.trans P.seats.symm) (fun j k se h1 h2 => ?_) hm
  obtain⟨i,cl,a1,a2,_⟩:=R.run.busy j k se h1 h2
  exact⟨i,cl,a1,a2⟩
 ·rintro n y t i cl se k r1 r2 hn P G P' ⟨R,stk,pr,F,o,D,J⟩
  have R':=(rm_ok c bh ba CX).step n y t i cl se k r1 r2 hn P G P' R
  obtain⟨Z,Y,F0,pr1,F1,pr2,F2,hZ,g0,d0,g1,d1,rl1,rl2,D'⟩:=(D.step hn P G).ex
  obtain⟨z,q,v,O⟩:=G.out P
  obtain⟨i0,cl0,a1,a2,a3,a4,hb,hp⟩:=R.run.busy t k se G.hk G.hse
  have hi0:i0=i:=by have:=G.hl;omega
  subst hi0
  have hcl:cl0=cl:=by have:=G.hc;rw[a2]at this;cases this;rfl
  subst hcl
  have hlt:=(List.getElem?_eq_some_iff.1 G.hse).1
  have hci:ZG (QC y t i0 se) i0 t cl0 { se with ready:=true }:=⟨rfl,G.hc,by simp[QC,Mch.prep,Wst.tick,hlt]⟩
  have hmv:y.m.moves=(n:Int):=P.moves
  obtain⟨B0,hk0⟩:=J.busy t k se i0 cl0 G.hk G.hse G.hl G.hc
  have B0':LB (vfo c y.m) o i0 cl0 { se with ready:=true } k:=by
   cases k<;>exact B0
  have H1:LA (vfo c r1.2.2.1) o i0 t cl0 r1.1 r1.2.2.1 r1.2.2.2:=by
   rcases G.rdy with⟨hf,e⟩|⟨_,e⟩
   ·rw[e]
    exact ln_rdy (vf:=vfo c y.m) hci (D.fresh t k se G.hk G.hse hf) B0'
   ·rw[e]
    refine .none hci (fun _ => ?_) (fun hf=>(by cases hf))
    rw[show vfo c (false,y.s,QC y t i0 se,k).2.2.1=vfo c y.m from vfo_words rfl]
    exact B0'
  have hnow1:r1.2.2.1.now=(n:Int):=by rw[G.h1.frame.now];exact hmv
  have v1:∀s,0<Z s∨s∈stk→vfo c r1.2.2.1 s=vfo c y.m s:=fun s hs=>by
   have:=rl1.val s hs
   unfold vfo
   exact congrArg wrap64 this
  have v2:∀s,0<Z s∨s∈stk→vfo c r2.2.2.1 s=vfo c r1.2.2.1 s:=fun s hs=>by
   have:=rl2.val s hs
   unfold vfo
   exact congrArg wrap64 this
  have hvm:vfo c (QY y t i0 r2).m=vfo c r2.2.2.1:=vfo_words (by rw[O.mem])
  obtain⟨c1,s1,hc1,b1,b2,b3,b4,b5⟩:=H1.ex
  have H2:∃(cl':Cll) (s':Sea) (o':List En),ZG r2.2.2.1 i0 t cl' s' ∧
    ((o'=o∧stkOf c stk r1=stk∧(cl'.point=cl0.point∨cl0.point = -1∨cl0.op≠30∧cl0.op≠31))∨(o'=o++[⟨i0,n,cl0.op,cl0.arg,stk.map (vfo c r1.2.2.1)⟩]∧cl0.point = -1∧cl'.point=n∧(cl0.op=30∨cl0.op=31)∧(r2.1=true→s'.kind≠4)∧(stkOf c stk r1).map (vfo c r2.2.2.1)=(⟨i0,n,cl0.op,cl0.arg,stk.map (vfo c r1.2.2.1)⟩:En).aft)) ∧
    (r2.1=false→LB (vfo c r2.2.2.1) o' i0 cl' s' r2.2.2.2)∧(r2.1=true→LE o' i0 { cl' with kind:=s'.kind,value:=s'.value }):=by
   rcases G.stp with⟨hb1,e⟩|⟨hb1,z1,q1,w1,hcu,e⟩
   ·have hs:stkOf c stk r1=stk:=by unfold stkOf;rw[if_pos hb1]
    rw[hs,e]
    exact⟨c1,s1,o,hc1,.inl ⟨rfl,rfl,b3⟩,b4,b5⟩
   ·have hs:stkOf c stk r1=Q4 c r1.2.2.1 stk r1.2.2.2:=by unfold stkOf;rw[if_neg (by simp[hb1])]
    rw[hs]
    obtain⟨rfl,rfl⟩:=hcu.same hc1
    have X:=ln_stp (o:=o) (stk:=stk) (pr:=pr1) G.h1.core hc1 (G.h1.fin hb1) (b4 hb1) (d1 hb1) g1.lk
    have e':r2=Qm (r1.2.1.1,r1.2.1.2) r1.2.2.1 i0 t { cl0 with point:=z1 } { se with ready:=true,kind:=q1,value:=w1 } r1.2.2.2:=e
    rw[←e']at X
    obtain⟨cl',s',o',x1,x2,x3,x4,x5,x6⟩:=X.ex
    rw[hnow1]at x4
    refine⟨cl',s',o',x1,?_,x5,x6⟩
    rcases x4 with⟨y1,y2,y3⟩|⟨y1,y2,y3,y4,y5⟩
    ·refine .inl ⟨y1,y2,?_⟩
     have y3:cl'.point=z1∨z1 = -1∨cl0.op≠30∧cl0.op≠31:=y3
     have b3:z1=cl0.point∨cl0.point = -1∨cl0.op≠30∧cl0.op≠31:=b3
     rcases b3 with b3|b3|b3
     ·rcases y3 with y3|y3|y3
      ·exact .inl (y3.trans b3)
      ·exact .inr (.inl (by omega))
      ·exact .inr (.inr y3)
     ·exact .inr (.inl b3)
     ·exact .inr (.inr b3)
    ·refine .inr ⟨y1,?_,y3,y4,y5⟩
     have y2:z1 = -1:=y2
     have y4:cl0.op=30∨cl0.op=31:=y4
     have b3:z1=cl0.point∨cl0.point = -1∨cl0.op≠30∧cl0.op≠31:=b3
     omega
  obtain⟨cl',s',o',h1,h2,h3,h4⟩:=H2
  refine⟨R',stkOf c stk r1,pr2,F2,o',D',?_⟩
  rw[hvm]
  refine J.step (vf1:=vfo c r1.2.2.1) G O a3 a4 hb (fun j k se g1 g2 => ?_) h1 h2 h3 h4 (fun s hs=>v1 s (.inr hs)) (fun _ s hs=>(v2 s (.inr hs)).trans (v1 s (.inr hs))) (fun j p hj hk h6 => ?_)
  ·obtain⟨i,cl,a1,a2,a3,_⟩:=R.run.busy j k se g1 g2
   exact⟨i,cl,a1,a2,a3⟩
  ·have hz:0<Z (p.top-1):=by
    rw[hZ]
    refine cnt2_at (i:=j) (l:=kS (.pop p)) ?_ (by rw[(kS_pop6 h6).1];exact List.mem_cons_self ..)
    rw[Ym,ZX hj,hk];rfl
   exact(v2 _ (.inl hz)).trans (v1 _ (.inl hz))
end
end Go.Proofs.YtjagadldibbbbaaGreat
