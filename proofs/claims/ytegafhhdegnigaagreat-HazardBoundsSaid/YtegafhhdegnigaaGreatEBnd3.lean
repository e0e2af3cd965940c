/-
  HazardBounds: how many slots are retired at a time.
-/
import Derived.Test.YtegafhhdegnigaaGreatEBnd2
import Derived.Test.YtegafhhdegnigaaGreatELst
import Derived.Test.YtegafhhdegnigaaGreatELst3
import Derived.Test.YtegafhhdegnigaaGreatECen5
import Derived.Test.YtegafhhdegnigaaGreatEBndW3
set_option linter.all false
namespace Go.Proofs.YtegafhhdegnigaaGreat
section
open Go.RowKit Hp
set_option maxRecDepth 100000
set_option maxHeartbeats 1000000
attribute [local irreducible] Go.Calls
section
variable {c:Cfg}{n:Nat}{y:HW}{pr:Int→Prop}{F:List Int}
theorem ls_bound (hok:c.Ok){s:Scn}(I:ScI c s){l:Int}(H:LsS c s l):l≤Bt c+(c.R-1)*Am c:=by
 have hA:=am_nn hok
 have hR:=hok.R1
 have h0:=am_mono hok (show 0≤c.R-1 by omega)
 rw[Int.zero_mul]at h0
 have hB:=(bt_le c).1
 obtain⟨i1,i2,_,_,i5,i6,_⟩:=I
 have hk:s.stage≤2→hlp s.record s.at_+1≤c.R-1∨hlp s.record s.at_≤c.R-1:=by
  intro h
  obtain⟨a0,a1,a2⟩:=i6 h
  right;unfold hlp;split<;>omega
 rcases i5 with h|h|h|h|h
 ·have h1:=H.try_ (.inl h)
  obtain⟨a0,a1,a2⟩:=i6 (by omega)
  have h2:=am_mono hok (show hlp s.record s.at_≤c.R-1 by unfold hlp;split<;>omega)
  omega
 ·have h1:=H.try_ (.inr h)
  obtain⟨a0,a1,a2⟩:=i6 (by omega)
  have h2:=am_mono hok (show hlp s.record s.at_≤c.R-1 by unfold hlp;split<;>omega)
  omega
 ·have h1:=H.lv h
  obtain⟨a0,a1,a2⟩:=i6 (by omega)
  have h2:=am_mono hok (show hlp s.record s.at_+1≤c.R-1 by unfold hlp;split<;>omega)
  omega
 ·exact(H.look h).1
 ·have h1:=H.done (.inl h)
  omega
theorem lt_bound (hok:c.Ok){t:Nat}{b:Bool}{hd:Int}{ca:List Int}{k:Zz}{l:Int}{Zr:Int→Prop}(I:TI c t b hd ca k)(H:LenT c b l Zr k):l≤Bt c+(c.R-1)*Am c:=by
 have hA:=am_nn hok
 have hR:=hok.R1
 have h0:=am_mono hok (show 0≤c.R-1 by omega)
 rw[Int.zero_mul]at h0
 have hB:=(bt_le c).1
 cases k with
 | reg r=>have H:l<Bt c:=H;omega
 | rdg r=>have H:l<Bt c:=H;omega
 | clr r=>have H:l<Bt c:=H;omega
 | scn s=>
  cases b with
  | false=>
   have H:l<Bt c:=by simpa[LenT] using H
   omega
  | true=>exact ls_bound hok (I.2.2 rfl) H
 | unr u=>
  obtain⟨_,_,j1,_,j3,_⟩:=I
  obtain⟨h1,h2,h3⟩:=H
  rcases j1 with h|h|h|h
  ·have:=(h1 h).1;omega
  ·obtain⟨s,e1,e2,_⟩:=j3 h
   exact ls_bound hok e2 ((h2 h).1 s e1)
  ·have:=(h3 (.inl h)).1;omega
  ·have:=(h3 (.inr h)).1;omega
 | pst p=>
  obtain⟨_,_,j1,j2⟩:=I
  obtain⟨h1,h2⟩:=H
  by_cases h4:p.stage=4
  ·cases b with
   | false=>have:=(j2 rfl).2.1;omega
   | true=>
    obtain⟨r,s,e1,e2,e3,_⟩:=(j1 rfl).ret h4
    exact ls_bound hok e3 (h2 h4 r s e1 e2)
  ·have:=h1 h4;omega
def LLc (c:Cfg):Int:=Bt c+(c.R-1)*Am c
theorem all_ll (P:PI c n y)(J:LenJ c n y){q:Int}(q0:0≤q)(q1:q<c.R):ll y.s.1 q≤LLc c:=by
 have hok:=P.core.ok
 have hA:=am_nn hok
 have hR:=hok.R1
 have h0:=am_mono hok (show 0≤c.R-1 by omega)
 rw[Int.zero_mul]at h0
 have hB:=(bt_le c).1
 unfold LLc
 by_cases hu:Unh y.s.1 q
 ·have:=(J.un q q0 q1 hu).1;omega
 ·unfold Unh at hu
  simp only[Classical.not_forall,Classical.not_not]at hu
  obtain⟨t,ht⟩:=hu
  obtain⟨h1,h2⟩:=J.th t q ht q0
  have htl:t<y.tasks.length:=by
   have:=(List.getElem?_eq_some_iff.1 ht).1
   have:=P.core.held
   have:=P.tasks
   omega
  have hts:t<y.m.seats.length:=by rw[P.seats,←P.tasks];exact htl
  cases hk:y.tasks[t]? with
  | none=>rw[List.getElem?_eq_none_iff]at hk;omega
  | some o=>
   cases o with
   | none=>have:=h1 hk;omega
   | some k=>
    obtain⟨_,I⟩:=P.task t k _ hk (Yd hts)
    exact lt_bound hok I (h2 k _ hk (Yd hts))
def Fre (c:Cfg)(y:HW):Prop:=∀(t:Nat) (k:Zz) (s:Scn) (se:Sea),y.tasks[t]? = some (some k)→y.m.seats[t]? = some se→se.ready=true→scOf k=some s→s.stage=5→((giveL s.give s.pending).length:Int)+ll y.s.1 s.record≤LLc c
theorem flat_le {B:Int}:∀ {ls:List (List Int)},(∀l∈ls,(l.length:Int)≤B)→(ls.flatten.length:Int)≤ls.length*B
 | [],_=>by simp
 | a::r,h=>by
  have h1:=h a (List.mem_cons_self ..)
  have h2:=flat_le (ls:=r) fun l hl=>h l (List.mem_cons_of_mem _ hl)
  simp only[List.flatten_cons,List.length_append,List.length_cons]
  rw[show((r.length+1:Nat):Int)=(r.length:Int)+1 by omega,Int.add_mul,Int.one_mul]
  omega
def idxL (k:Int):Nat→List Slt→List Int
 | _,[]=>[]
 | b,x::r=>if x.state=k then (b:Int)::idxL k (b+1) r else idxL k (b+1) r
theorem idxL_len (k:Int):∀(b:Nat) (sl:List Slt),((idxL k b sl).length:Int)=cN k sl
 | _,[]=>rfl
 | b,x::r=>by
  have:=idxL_len k (b+1) r
  unfold idxL cN
  split
  ·rw[List.length_cons];omega
  ·omega
theorem idxL_mem {k:Int}:∀ {b:Nat} {sl:List Slt} {z:Int},z∈idxL k b sl→∃(i:Nat) (x:Slt),z=(b:Int)+i∧sl[i]? = some x∧x.state=k
 | _,[],_,h=>by simp[idxL]at h
 | b,x::r,z,h=>by
  have key:z∈idxL k (b+1) r→∃(i:Nat) (w:Slt),z=(b:Int)+i∧(x::r)[i]? = some w∧w.state=k:=fun h=>by
   obtain⟨i,w,h1,h2,h3⟩:=idxL_mem h
   exact⟨i+1,w,by omega,by simpa using h2,h3⟩
  unfold idxL at h
  split at h
  ·rename_i hx
   rcases List.mem_cons.1 h with rfl|h
   ·exact⟨0,x,by omega,rfl,hx⟩
   ·exact key h
  ·exact key h
theorem idxL_nodup (k:Int):∀(b:Nat) (sl:List Slt),(idxL k b sl).Nodup
 | _,[]=>List.Pairwise.nil
 | b,x::r=>by
  have ih:=idxL_nodup k (b+1) r
  unfold idxL
  split
  ·refine List.nodup_cons.2 ⟨fun h => ?_,ih⟩
   obtain⟨i,w,h1,_⟩:=idxL_mem h
   omega
  ·exact ih
open Classical in
noncomputable def pnd (y:HW) (r:Nat):List Int:=
 if h:∃(x:Nat×Zz×Scn),y.tasks[x.1]? = some (some x.2.1)∧scOf x.2.1=some x.2.2∧x.2.2.stage=5∧x.2.2.record=(r:Int) then giveL (Classical.choose h).2.2.give (Classical.choose h).2.2.pending else []
noncomputable def lpr (y:HW) (r:Nat):List Int:=y.s.1.lists.getD r []++pnd y r
theorem c5_le {k':Int}(P:PI c n y)(D:DI c pr F k' y)(J:LenJ c n y)(Hf:Fre c y):c5 y.s.2≤c.R*LLc c:=by
 have hok:=P.core.ok
 have hR:=hok.R1
 have G:=D.gd
 have hlen:∀r:Nat,(r:Int)<c.R→((lpr y r).length:Int)≤LLc c:=by
  intro r hr
  have h1:ll y.s.1 (r:Int)=((y.s.1.lists.getD r []).length:Int):=by unfold ll;rw[Yo]
  unfold lpr pnd
  rw[List.length_append]
  split
  ·rename_i h
   obtain⟨g1,g2,g3,g4⟩:=Classical.choose_spec h
   have htl:=(List.getElem?_eq_some_iff.1 g1).1
   have hts:(Classical.choose h).1<y.m.seats.length:=by rw[P.seats,←P.tasks];exact htl
   have hse:=Yd hts
   cases hb:(y.m.seats[(Classical.choose h).1]).ready with
   | true=>
    have:=Hf _ _ _ _ g1 hse hb g2 g3
    rw[g4,h1]at this
    omega
   | false=>
    have hf:=(D.fresh _ _ _ g1 hse hb).1
    unfold hS hP at hf
    rw[g2]at hf
    have hf:=(List.append_eq_nil_iff.1 hf).2
    have hf:scnP (Classical.choose h).2.2=[]:=hf
    unfold scnP at hf
    rw[if_pos g3]at hf
    rw[hf]
    have:=all_ll P J (q:=(r:Int)) (by omega) hr
    rw[h1]at this
    simp only[List.length_nil];omega
  ·have:=all_ll P J (q:=(r:Int)) (by omega) hr
   rw[h1]at this
   simp only[List.length_nil];omega
 have hsub:∀z∈idxL 5 0 y.s.2.slots,z∈((List.range c.R.toNat).map (lpr y)).flatten:=by
  intro z hz
  obtain⟨i,x,e1,e2,e3⟩:=idxL_mem hz
  have hil:=(List.getElem?_eq_some_iff.1 e2).1
  have hsl:(y.s.2.sl z).state=5:=by
   unfold Are.sl
   rw[if_pos (by omega),show z.toNat=i by omega,Yb,e2];exact e3
  have hz1:0≤z∧z<c.Sl:=by
   have:=P.core.slots
   omega
  have ht:=G.tot z
  rw[ind_pos hz1]at ht
  have hin:∀r:Nat,(r:Int)<c.R→z∈lpr y r→z∈((List.range c.R.toNat).map (lpr y)).flatten:=fun r hr h=>
   List.mem_flatten.2 ⟨lpr y r,List.mem_map.2 ⟨r,by simp;omega,rfl⟩,h⟩
  have c1:F.count z=0:=by
   rcases Nat.eq_zero_or_pos (F.count z) with h|h
   ·exact h
   ·have h1:(y.s.2.sl z).state=0:=G.stF z (List.count_pos_iff.1 h)
    omega
  have c2:cnt2 y.s.2.caches z=0:=by
   rcases Nat.eq_zero_or_pos (cnt2 y.s.2.caches z) with h|h
   ·exact h
   ·obtain⟨t,l,h1,h2⟩:=cnt2_pos h
    have h3:y.s.2.sl z=⟨1,(t:Int)⟩:=G.stC t l h1 z h2
    rw[h3]at hsl;cases hsl
  have c3:ind (0≤z∧(mv c y.m).cell=z+1)=0:=by
   refine Ja fun h => ?_
   have h1:(y.s.2.sl z).state=3:=G.stX z h.1 h.2
   omega
  have ht:F.count z+cnt2 y.s.2.caches z+cnt2 (y.tasks.map tS) z+([]:List Int).count z+ind (0≤z∧(mv c y.m).cell=z+1)+cnt2 y.s.1.lists z=1:=ht
  rw[c1,c2,c3,List.count_nil]at ht
  rcases Nat.eq_zero_or_pos (cnt2 (y.tasks.map tS) z) with h|h
  ·have hl:0<cnt2 y.s.1.lists z:=by omega
   obtain⟨r,l,h1,h2⟩:=cnt2_pos hl
   have hr:=(List.getElem?_eq_some_iff.1 h1).1
   have:=P.core.lists
   refine hin r (by omega) ?_
   unfold lpr
   rw[Yb,h1]
   exact List.mem_append_left _ h2
  ·obtain⟨t,l,h1,h2⟩:=cnt2_pos h
   rw[Ym]at h1
   cases ho:y.tasks[t]? with
   | none=>rw[ho]at h1;cases h1
   | some o=>
    rw[ho]at h1
    cases o with
    | none=>
     simp only[Option.map_some,tS,Option.some.injEq]at h1
     subst h1
     simp at h2
    | some k=>
     simp only[Option.map_some,tS,Option.some.injEq]at h1
     subst h1
     have htl:=(List.getElem?_eq_some_iff.1 ho).1
     have hts:t<y.m.seats.length:=by rw[P.seats,←P.tasks];exact htl
     have hse:=Yd hts
     have hrd:(y.m.seats[t]).ready=true:=by
      cases hb:(y.m.seats[t]).ready with
      | true=>rfl
      | false=>
       have:=(D.fresh t k _ ho hse hb).1
       rw[this]at h2;simp at h2
     obtain⟨_,I⟩:=P.task t k _ ho hse
     rw[hrd]at I
     have T:=D.td t k ho
     have h2:z∈hO k++hP k:=h2
     rcases List.mem_append.1 h2 with h2|h2
     ·have h3:y.s.2.sl z=⟨2,(t:Int)⟩:=T.own z h2
      rw[h3]at hsl;cases hsl
     ·unfold hP at h2
      cases hs:scOf k with
      | none=>rw[hs]at h2;simp at h2
      | some s=>
       rw[hs]at h2
       have h2:z∈scnP s:=h2
       unfold scnP at h2
       split at h2
       ·rename_i h5
        have Is:=sci_of I hs
        have hrc:y.s.1.held[t]? = some s.record:=(T.scan s hs).rcd
        refine hin s.record.toNat (by have:=Is.rec0;have:=Is.rec1;omega) ?_
        unfold lpr pnd
        have hex:∃(x:Nat×Zz×Scn),y.tasks[x.1]? = some (some x.2.1)∧scOf x.2.1=some x.2.2∧x.2.2.stage=5∧x.2.2.record=((s.record.toNat:Nat):Int):=⟨(t,k,s),ho,hs,h5,by have:=Is.rec0;simp only[];omega⟩
        rw[dif_pos hex]
        obtain⟨g1,g2,g3,g4⟩:=Classical.choose_spec hex
        have g5:y.s.1.held[(Classical.choose hex).1]? = some (Classical.choose hex).2.2.record:=((D.td _ _ g1).scan _ g2).rcd
        have g6:(Classical.choose hex).2.2.record=s.record:=by have:=Is.rec0;omega
        rw[g6]at g5
        have et:(Classical.choose hex).1=t:=G.alone Is.rec0 Is.rec1 hrc g5
        rw[et,ho]at g1
        injection g1 with g1
        injection g1 with g1
        rw[←g1,hs]at g2
        injection g2 with g2
        rw[←g2]
        exact List.mem_append_right _ h2
       ·simp at h2
 have h1:=nodup_len (idxL_nodup 5 0 y.s.2.slots) hsub
 have h2:=idxL_len 5 0 y.s.2.slots
 have h3:=flat_le (B:=LLc c) (ls:=(List.range c.R.toNat).map (lpr y)) fun l hl=>by
  obtain⟨r,hr,rfl⟩:=List.mem_map.1 hl
  exact hlen r (by simp at hr;omega)
 rw[List.length_map,List.length_range,show((c.R.toNat:Nat):Int)=c.R by omega]at h3
 unfold c5
 omega
theorem c4_no {k':Int}(P:PI c n y)(D:DI c pr F k' y):cN 4 y.s.2.slots=0:=by
 have G:=D.gd
 have h0:=idxL_len 4 0 y.s.2.slots
 cases hI:idxL 4 0 y.s.2.slots with
 | nil=>rw[hI]at h0;simpa using h0.symm
 | cons z r=>
  exfalso
  obtain⟨i,x,e1,e2,e3⟩:=idxL_mem (k:=4) (b:=0) (sl:=y.s.2.slots) (z:=z) (by rw[hI];exact List.mem_cons_self ..)
  have hil:=(List.getElem?_eq_some_iff.1 e2).1
  have hsl:(y.s.2.sl z).state=4:=by
   unfold Are.sl
   rw[if_pos (by omega),show z.toNat=i by omega,Yb,e2];exact e3
  have hz1:0≤z∧z<c.Sl:=by
   have:=P.core.slots
   omega
  have ht:F.count z+cnt2 y.s.2.caches z+cnt2 (y.tasks.map tS) z+([]:List Int).count z+ind (0≤z∧(mv c y.m).cell=z+1)+cnt2 y.s.1.lists z=ind (0≤z∧z<c.Sl):=G.tot z
  rw[ind_pos hz1,List.count_nil]at ht
  rcases Nat.eq_zero_or_pos (F.count z) with h|h
  ·rcases Nat.eq_zero_or_pos (cnt2 y.s.2.caches z) with h2|h2
   ·rcases Nat.eq_zero_or_pos (cnt2 (y.tasks.map tS) z) with h3|h3
    ·by_cases h4:0≤z∧(mv c y.m).cell=z+1
     ·have h1:(y.s.2.sl z).state=3:=G.stX z h4.1 h4.2
      omega
     ·rw[Ja h4]at ht
      have hl:0<cnt2 y.s.1.lists z:=by omega
      obtain⟨r,l,h1,h2⟩:=cnt2_pos hl
      have h5:(y.s.2.sl z).state=5:=G.stL l (Yc h1) z h2
      omega
    ·have h5:(y.s.2.sl z).state=2∨(y.s.2.sl z).state=5:=G.stZ z h3
     omega
   ·obtain⟨t,l,h1,h3⟩:=cnt2_pos h2
    have h3:y.s.2.sl z=⟨1,(t:Int)⟩:=G.stC t l h1 z h3
    rw[h3]at hsl;cases hsl
  ·have h1:(y.s.2.sl z).state=0:=G.stF z (List.count_pos_iff.1 h)
   omega
end
end
section
open Go.RowKit
namespace Hp
def mx (a b:Int):Int:=if a<b then b else a
section
variable {P:Program}{ops:Array Oper}{Q:Exit→Act→World→Prop}{w:World}{rest:List Oper}{O:World}{S R A:Zd}
variable {l:List Value}{ds:List Deferred}{T T' ty:TypeId}{pos:String}{after:Array Edge}{gd:Option (Nat×Bool)}{d:Nat}{x y:Operand}
theorem wl_max {a b:Int}(hx:ev l x=some (.int .i64 a))(hy:ev l y=some (.int .i64 b))
  (hg:Region.wanted { dst:=some d,op:=.call { callee:=.builtin .max,args := #[x,y],argTypes := #[T,T'] },type:=ty,pos,after,guard:=gd } (yielded ops l.toArray)=true)
  (kk:wpList P ops Q rest ⟨(l.set d (.int .i64 (mx a b))).toArray,ds⟩ w) :
  wpList P ops Q ({ dst:=some d,op:=.call { callee:=.builtin .max,args := #[x,y],argTypes := #[T,T'] },type:=ty,pos,after,guard:=gd }::rest) ⟨l.toArray,ds⟩ w:=by
 refine QA (v:=.int .i64 (mx a b)) hg ?_ (Z9▸kk)
 have h1:=Zs (ds:=ds) hx
 have h2:=Zs (ds:=ds) hy
 simp[execOp,resolve,h1,h2,invoke,builtin,Builtin.max_,Builtin.max2,mx]
end
end Hp
open Hp
set_option maxRecDepth 100000
set_option maxHeartbeats 8000000
attribute [local irreducible] Go.Calls Go.wpList
def cI (k:Int):List Int→Int
 | []=>0
 | x::r=>(if x=k then 1 else 0)+cI k r
theorem cI_nn (k:Int):∀l,0≤cI k l∧cI k l≤(l.length:Int)
 | []=>by simp[cI]
 | x::r=>by
  have:=cI_nn k r
  simp only[cI,List.length_cons]
  split<;>omega
theorem cI_app (k:Int):∀(l:List Int) (x:Int),cI k (l++[x])=cI k l+(if x=k then 1 else 0)
 | [],x=>by simp[cI]
 | a::r,x=>by
  have:=cI_app k r x
  simp only[List.cons_append,cI,this];omega
theorem cI_map (k:Int):∀sl:List Slt,cI k (sl.map Slt.state)=cN k sl
 | []=>rfl
 | x::r=>by simp only[Yi,cI,cN,cI_map k r]
theorem cen_count (l:List Int)(k:Int)(v:Value)(hl:l.length<4294967296):ZB Tryz.prog 83 #[v,.int .i64 k] (stR l v) (.int .i64 (cI k l)) (stR l v):=by
 intro O w F hs
 obtain⟨a0,c0,rfl⟩:=Qr (hs.pull (A:=stR l v) (by (with_reducible exact Qh)))
 simp only[List.length_map]at hs ⊢
 go_enter Tryz.func83,Tryz.ntmps83
 (repeat'(first|(go_big_may;((with_reducible apply Zp hs);exact Ii;rfl;(with_reducible exact Qh);rfl;(simp only[Uc,Uz])))|go_step))
 simp only[List.length_map]at hs ⊢
 go_loopw [5,7,10] (fun q5 _ q wr=>∃(j:Nat) (z:Int),j≤l.length∧q5=.int .i64 z∧q=.int .i64 (j:Int)∧Hid (z=cI k (l.take j))∧Sat O wr (stR l (.slice a0 l.length c0)*F)) (fun _ _ q _=>l.length+1-(intOf q).toNat)
 case atStart=>exact⟨0,0,by omega,rfl,rfl,Lh rfl,by ((with_reducible apply Sat.fin hs);(with_reducible exact Ql))⟩
 case round=>
  obtain⟨j,z,k1,rfl,rfl,hz,hs⟩:=hrel
  by_cases hkr:j=l.length
  ·subst hkr
   have hlt:decide ((l.length:Int)<(l.length:Int))=false:=by simp
   have hz:=hz.out
   rw[List.take_length]at hz
   clear k1
   (repeat'(go_step))
   (go_ret)
   exact⟨by rw[hz];rfl,by ((with_reducible apply Sat.fin hs);(with_reducible exact Ql))⟩
  ·have hlt:decide ((j:Int)<(l.length:Int))=true:=by simp;omega
   have hlt2:decide (j<l.length)=true:=by simp;omega
   have hln:j<(l.map eI).length:=by simp;omega
   obtain⟨x,hx⟩:∃x,l[j]? = some x:=⟨_,Yd (by omega)⟩
   have hgv:(l.map eI)[j]? = some (eI x):=by rw[Ym,hx];rfl
   have hn:=cI_app k (l.take j) x
   rw[←hz.out]at hn
   have ht:l.take (j+1)=l.take j++[x]:=by rw[List.take_add_one,hx];rfl
   rw[←ht]at hn
   have hb:=cI_nn k (l.take j)
   rw[←hz.out]at hb
   have hlen:(l.take j).length=j:=by simp;omega
   rw[hlen]at hb
   have hk2:=Lh (show j+1≤l.length by omega)
   have hj65:j<4294967296:=by omega
   have hz0:0≤z:=hb.1
   have hz1:z<4294967296:=by omega
   by_cases hxk:x=k
   ·have f1:(x==k)=true:=by simpa using hxk
    rw[if_pos hxk]at hn
    replace hn:=Lh hn
    clear hz hx ht hb hlen hxk hkr hlt
    have hlt:decide ((j:Int)<(l.length:Int))=true:=by simpa using hlt2
    (repeat'(first|(go_big_may;(first|((with_reducible apply Zt hs);exact Ii;rfl;assumption;(with_reducible exact Qh);rfl;(assumption);rfl;rfl;(simp only[Uc,Uz]))|((with_reducible apply ZN hs);exact Ii;exact Ii;rfl;rfl;(with_reducible exact Qh);(rfl);(assumption);rfl;intro b off hat;(simp only[Uc,Uz]))))|go_step))
    go_roundw
    case rel=>exact⟨j+1,z+1,hk2.out,by simp,by simp,Lh hn.out.symm,by ((with_reducible apply Sat.fin hs);(with_reducible exact Ql))⟩
    case measure=>have:=hk2.out;simp[intOf];omega
   ·have f1:(x==k)=false:=by simpa using hxk
    rw[if_neg hxk,Int.add_zero]at hn
    replace hn:=Lh hn
    clear hz hx ht hb hlen hxk hkr hlt
    have hlt:decide ((j:Int)<(l.length:Int))=true:=by simpa using hlt2
    (repeat'(first|(go_big_may;(first|((with_reducible apply Zt hs);exact Ii;rfl;assumption;(with_reducible exact Qh);rfl;(assumption);rfl;rfl;(simp only[Uc,Uz]))|((with_reducible apply ZN hs);exact Ii;exact Ii;rfl;rfl;(with_reducible exact Qh);(rfl);(assumption);rfl;intro b off hat;(simp only[Uc,Uz]))))|go_step))
    go_roundw
    case rel=>exact⟨j+1,z,hk2.out,rfl,by simp,Lh hn.out.symm,by ((with_reducible apply Sat.fin hs);(with_reducible exact Ql))⟩
    case measure=>have:=hk2.out;simp[intOf];omega
theorem cen_steps (cs:List Cll)(lg:List Acc)(sh:List Shf)(ws:List Int)(u:Value)(hl:RunLen cs lg sh ws)(x:Cll) :
  Does Tryz.prog 85 #[u,x.v] (RunR cs lg sh ws u) (fun v=>(ex fun q:Int=>pu (v=.int .i64 q))*RunR cs lg sh ws u):=by
 intro O w F hs
 have hg:=Jj hs
 clear hs
 obtain⟨a1,k1,a2,k2,a3,k3,a4,k4,rfl,hs⟩:=hg
 obtain⟨g1,g2,g3,g4⟩:=hl
 have hI:=Lh (cen_in x)
 generalize inB x=iB at hI
 obtain⟨x1,x2,x3,x4,x5,x6,x7,x8,x9⟩:=x
 go_enter Tryz.func85,Tryz.ntmps85
 (repeat'(first|(go_big_may;(first|((show wpList _ _ _ (Oper.mk (some 2) _ _ _ _ _::_) _ _);(with_reducible apply Zv hs);rfl;rfl;rfl;clear hs;intro w bR hs;(simp only[Uc,Uz]))|((show wpList _ _ _ (Oper.mk (some 3) _ _ _ _ _::_) _ _);(with_reducible apply Zv hs);rfl;rfl;rfl;clear hs;intro w bC hs;(simp only[Uc,Uz]))))|go_step))
 go_loopw [5,6,7] (fun N L q wr=>∃(n l:Int) (i:Nat),i≤lg.length∧N=.int .i64 n∧L=.int .i64 l∧q=.int .i64 (i:Int)∧(0≤n∧n≤i)∧Sat O wr (pt bC (.cells #[.int .i64 x1,.int .i64 x2,.int .i64 x3,.int .i64 x4,.int .i64 x5,.int .i64 x6,.int .i64 x7,.int .i64 x8,.int .i64 x9] 50)*(pt bR (.cells #[.slice a1 cs.length k1,.slice a2 lg.length k2,.slice a3 sh.length k3,.slice a4 ws.length k4] 32)*(sl 50 9 (cs.map Cll.e) (.slice a1 cs.length k1)*(sl 138 7 (lg.map Acc.e) (.slice a2 lg.length k2)*(sl 127 5 (sh.map Shf.e) (.slice a3 sh.length k3)*(sl 57 1 (ws.map eU) (.slice a4 ws.length k4)*F))))))) (fun _ _ q _=>lg.length+1-(intOf q).toNat)
 case atStart=>exact⟨0,-1,0,by omega,rfl,rfl,rfl,⟨by omega,by omega⟩,by ((with_reducible apply Sat.fin hs);(with_reducible exact Ql))⟩
 case round=>
  obtain⟨n,l,i,ki,rfl,rfl,rfl,hn,hs⟩:=hrel
  have hn65:n<4294967296:=by omega
  have hn0:0≤n:=hn.1
  by_cases hkr:i=lg.length
  ·subst hkr
   have hlt:decide ((lg.length:Int)<(lg.length:Int))=false:=by simp
   have hc:(decide (x6≥0)=false∧decide (0≤x6)=false)∨(decide (x6≥0)=true∧decide (0≤x6)=true∧((l != x6)=true∨(l != x6)=false)):=by
    by_cases h:0≤x6
    ·right
     refine⟨by simpa using h,by simpa using h,?_⟩
     cases (l != x6)<;>simp
    ·left;exact⟨by simp;omega,by simp;omega⟩
   rcases hc with⟨c1,c2⟩|⟨c1,c2,c3|c3⟩
   all_goals(
    (repeat'(first|(((with_reducible apply Z6);rfl;rfl;((simp only[ev,Ue,Uf]);rfl);rfl;(simp only[Uc,Uz]));(repeat((with_reducible apply Z6);rfl;rfl;((simp only[ev,Ue,Uf]);rfl);rfl;(simp only[Uc,Uz]))))|((with_reducible apply Z4);((simp only[ev,Ue,Uf]);rfl);((simp only[cond_true,cond_false,ev,Ue,Uf]);rfl);(with_reducible exact ZG);(simp only[Uc,Uz]))|(go_big_may;(first|((with_reducible apply Zc hs);exact Ii;rfl;(with_reducible repeat first|exact Qh|apply Qk);rfl;rfl;(simp only[Uc,Uz]))|((with_reducible apply Zp hs);exact Ii;rfl;(with_reducible repeat first|exact Qh|apply Qk);rfl;(simp only[Uc,Uz]))))|go_guarded|go_step))
    (go_ret)
    refine⟨_,rfl,?_⟩
    simp only[ZM,Ma,ZH]
    exact⟨_,rfl,runR_mk (by ((with_reducible apply Sat.fin hs);(with_reducible repeat first|exact Ql|exact Qh|apply Qb|apply Qk)))⟩)
  ·have hlt:decide ((i:Int)<(lg.length:Int))=true:=by simp;omega
   have hlt2:decide (i<lg.length)=true:=by simp;omega
   have hln:i<(lg.map Acc.e).length:=by simp;omega
   obtain⟨e,he⟩:∃e,lg[i]? = some e:=⟨_,Yd (by omega)⟩
   have hnL:=Lh (show i<lg.length by omega)
   have hi65:i<4294967296:=by omega
   obtain⟨e1,e2,e3,e4,e5,e6,e7⟩:=e
   have hgv:(lg.map Acc.e)[i]? = some (Acc.e ⟨e1,e2,e3,e4,e5,e6,e7⟩):=by rw[Ym,he];rfl
   have hIe:=Lh (hI.out e1)
   replace hn:=Lh hn
   have hc:(e2==x1)=false∨((e2==x1)=true∧(iB e1=true∨iB e1=false)):=by
    cases (e2==x1)<;>cases iB e1<;>simp
   clear he hkr
   rcases hc with c1|⟨c1,c2|c2⟩
   all_goals try rw[c2]at hIe
   all_goals(
    (repeat'(first|(((with_reducible apply Z6);rfl;rfl;((simp only[ev,Ue,Uf]);rfl);rfl;(simp only[Uc,Uz]));(repeat(fail)))|((with_reducible apply Z4);((simp only[ev,Ue,Uf]);rfl);((simp only[cond_true,cond_false,ev,Ue,Uf]);rfl);(with_reducible exact ZG);(simp only[Uc,Uz]))|(go_big_may;(first|(first|(first|(with_reducible refine NQ.mk ?_)|((with_reducible apply Zl);rfl;rfl)|((with_reducible apply ZF);rfl)|(with_reducible refine EQ.mk ?_ ?_)|(with_reducible exact Zo)|(with_reducible refine Zm ?_))|((with_reducible apply Zc hs);exact Ii;rfl;(with_reducible repeat first|exact Qh|apply Qk);rfl;rfl;(simp only[Uc,Uz]))|((with_reducible apply Z5 hs);exact Ii;rfl;(with_reducible exact Qh);rfl;rfl;(simp only[Uc,Uz]))|((with_reducible apply QI hs);exact Ii;rfl;assumption;(with_reducible repeat first|exact Qh|apply Qk);rfl;(assumption);rfl;rfl;(simp only[Uc,Uz]))|((with_reducible apply Zt hs);exact Ii;rfl;assumption;(with_reducible repeat first|exact Qh|apply Qk);rfl;(assumption);rfl;rfl;(simp only[Uc,Uz]))|((with_reducible apply Z7 hs);exact Ii;exact Ii;rfl;assumption;rfl;(with_reducible repeat first|exact Qh|apply Qk);(rfl);(assumption);rfl;(simp only[Uc,Uz]))|((with_reducible apply ZN hs);exact Ii;exact Ii;rfl;rfl;(with_reducible repeat first|exact Qh|apply Qk);(rfl);(assumption);rfl;intro b off hat;(simp only[Uc,Uz]))|((with_reducible apply Zp hs);exact Ii;rfl;(with_reducible repeat first|exact Qh|apply Qk);rfl;(simp only[Uc,Uz])))|(go_at_call 125;((refine(hIe.out).at hs (by (focus((repeat(with_reducible exact Qn));done))) ?_);clear hs;intro w hs;(try simp only[Em,Ma]at hs)))|((with_reducible refine Wp (id:=6) (Paz (Pbz (Pcz [.neu 15,.neu 16,.eff 17 [],.neu 18]))) hs rfl ?_ ?_);kernel_rfl;clear hs;intro w hs)))|go_guarded|go_step|(dsimp only)))
    go_roundw
    case rel=>exact⟨_,_,i+1,(by have:=hnL.out;omega),rfl,rfl,by simp,(by have:=hn.out;constructor<;>omega),by ((with_reducible apply Sat.fin hs);(with_reducible exact Ql))⟩
    case measure=>have:=hnL.out;simp[intOf];omega)
end
section
open Go.RowKit Hp
set_option maxRecDepth 100000
set_option maxHeartbeats 1000000
attribute [local irreducible] Go.Calls
def oneC (c:Cfg):Int:=scB c+c.Hz+3*c.Ca+11
def caL (y:HW)(t:Nat):Int:=((y.s.2.caches.getD t []).length:Int)
def wT (c:Cfg)(y:HW)(t:Nat):Int:=match y.tasks[t]?,y.m.seats[t]? with
 | some (some k),some se=>if se.ready=true then alC c t y k else oneC c
 | _,_=>oneC c
def sT (c:Cfg)(y:HW)(t:Nat):Int:=match y.tasks[t]?,y.m.seats[t]? with
 | some (some k),some se=>if se.ready=true then sk c (caL y t) k else c.Ca+3
 | _,_=>c.Ca+3
def Phi (c:Cfg)(y:HW):Int:=sumT (wT c y) c.T.toNat+3*c.T*(c5 y.s.2+sumT (sT c y) c.T.toNat)
def phB (c:Cfg):Int:=c.T*oneC c+3*c.T*(c.Sl+c.T*(c.Ca+3))
def stpA (lg:List Acc)(cs:List Cll)(n:Int):Prop:=(∃e∈lg,e.move=n)∨∃x∈cs,x.end_=n
def endA (cs:List Cll)(n:Int):Prop:=∃x∈cs,x.end_=n
open Classical in
noncomputable def gp (lg:List Acc) (cs:List Cll):Nat→Int
 | 0=>0
 | n+1=>if endA cs n then 0 else if stpA lg cs n then gp lg cs n+1 else gp lg cs n
theorem gp_nn (lg:List Acc)(cs:List Cll):∀n,0≤gp lg cs n
 | 0=>Int.le_refl _
 | n+1=>by
  have:=gp_nn lg cs n
  simp only[gp]
  split
  ·omega
  ·split<;>omega
theorem gp_up (lg:List Acc)(cs:List Cll)(n:Nat):gp lg cs (n+1)≤gp lg cs n+1:=by
 have:=gp_nn lg cs n
 simp only[gp]
 split
 ·omega
 ·split<;>omega
theorem gp_end {lg:List Acc}{cs:List Cll}{n:Nat}(h:endA cs n):gp lg cs (n+1)=0:=by simp only[gp];rw[if_pos h]
theorem gp_no {lg:List Acc}{cs:List Cll}{n:Nat}(h:¬stpA lg cs n):gp lg cs (n+1)=gp lg cs n:=by
 have he:¬endA cs n:=fun e=>h (.inr e)
 simp only[gp];rw[if_neg he,if_neg h]
theorem gp_same {lg lg':List Acc}{cs cs':List Cll}:∀ {n:Nat},(∀k:Int,0≤k→k<n→((stpA lg' cs' k↔stpA lg cs k)∧(endA cs' k↔endA cs k)))→gp lg' cs' n=gp lg cs n
 | 0,_=>rfl
 | n+1,h=>by
  have ih:=gp_same (n:=n) fun k h0 h1=>h k h0 (by omega)
  obtain⟨h1,h2⟩:=h n (by omega) (by omega)
  simp only[gp,ih]
  by_cases a:endA cs n
  ·rw[if_pos a,if_pos (h2.2 a)]
  ·rw[if_neg a,if_neg (fun e=>a (h2.1 e))]
   by_cases b:stpA lg cs n
   ·rw[if_pos b,if_pos (h1.2 b)]
   ·rw[if_neg b,if_neg (fun e=>b (h1.1 e))]
section
variable {c:Cfg}{n:Nat}{y y':HW}{pr:Int→Prop}{F:List Int}
theorem sk_le {ca:Int}{k:Zz}(h0:0≤c.Ca)(h:ca≤c.Ca):sk c ca k≤c.Ca+3:=by
 cases k with
 | pst p=>
  simp only[sk]
  repeat' split
  all_goals omega
 | unr u=>
  simp only[sk]
  repeat' split
  all_goals omega
 | _=>simp only[sk];omega
theorem sk_nn {ca:Int}{k:Zz}(h0:0≤c.Ca)(h:0≤ca):0≤sk c ca k:=by
 cases k with
 | pst p=>
  simp only[sk]
  repeat' split
  all_goals omega
 | unr u=>
  simp only[sk]
  repeat' split
  all_goals omega
 | _=>simp only[sk];omega
theorem oneC_nn (hok:c.Ok):0≤oneC c:=by
 have hR:=hok.R1
 have hS:=hok.S1
 have hC:=hok.C1
 have hH:=hok.H1
 have hA:0≤c.R*c.Hz:=Int.mul_nonneg (by omega) (by omega)
 unfold oneC scB scA;omega
theorem caL_le (P:PI c n y){t:Nat}(ht:(t:Int)<c.T):caL y t≤c.Ca:=by
 have htc:t<y.s.2.caches.length:=by rw[P.core.caches];omega
 have hy:y.s.2.caches[t]? = some (y.s.2.caches.getD t []):=by rw[Yb,Yd htc];rfl
 exact P.core.clens _ (Yc hy)
theorem wT_bd {k':Int}(P:PI c n y)(D:DI c pr F k' y)(t:Nat):0≤wT c y t∧wT c y t≤oneC c:=by
 have h1:=oneC_nn P.core.ok
 unfold wT
 split
 ·rename_i k se hk hse
  split
  ·rename_i hr
   have:=alC_bd P D hk hse hr
   unfold oneC
   omega
  ·omega
 ·omega
theorem sT_bd (P:PI c n y){t:Nat}(ht:(t:Int)<c.T):0≤sT c y t∧sT c y t≤c.Ca+3:=by
 have hC:=P.core.ok.C1
 have h1:=caL_le P ht
 unfold sT
 split
 ·split
  ·exact⟨sk_nn hC (by unfold caL;omega),sk_le hC h1⟩
  ·omega
 ·omega
theorem Phi_bd {k':Int}(P:PI c n y)(D:DI c pr F k' y):0≤Phi c y∧Phi c y≤phB c:=by
 have hok:=P.core.ok
 have hT:=hok.T1
 have hS:=hok.S1
 have hTn:((c.T.toNat:Nat):Int)=c.T:=by omega
 have a1:=sumT_le (f:=wT c y) (g:=fun _=>oneC c) (n:=c.T.toNat) fun j _=>(wT_bd P D j).2
 have a2:=sumT_le (f:=fun _=>0) (g:=wT c y) (n:=c.T.toNat) fun j _=>(wT_bd P D j).1
 have a3:=sumT_le (f:=sT c y) (g:=fun _=>c.Ca+3) (n:=c.T.toNat) fun j hj=>(sT_bd P (by omega)).2
 have a4:=sumT_le (f:=fun _=>0) (g:=sT c y) (n:=c.T.toNat) fun j hj=>(sT_bd P (by omega)).1
 rw[sumT_const,hTn]at a1 a2 a3 a4
 have a5:=cN_nn 5 y.s.2.slots
 have a6:(y.s.2.slots.length:Int)≤c.Sl:=by rw[P.core.slots];omega
 have a7:0≤c5 y.s.2∧c5 y.s.2≤c.Sl:=by unfold c5;omega
 have b1:3*c.T*(c5 y.s.2+sumT (sT c y) c.T.toNat)≤3*c.T*(c.Sl+c.T*(c.Ca+3)):=Int.mul_le_mul_of_nonneg_left (by omega) (by omega)
 have b2:0≤3*c.T*(c5 y.s.2+sumT (sT c y) c.T.toNat):=Int.mul_nonneg (by omega) (by simp only[Int.mul_zero]at a4;omega)
 unfold Phi phB
 simp only[Int.mul_zero]at a2
 omega
end
end
end Go.Proofs.YtegafhhdegnigaaGreat
