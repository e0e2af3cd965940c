/-
  HazardBounds: retired and detached slots, along runs.
-/
import Derived.Test.YtegafhhdegnigaaGreatEBnd3
import Derived.Test.YtegafhhdegnigaaGreatEBndW3
import Derived.Test.YtegafhhdegnigaaGreatEBnd10
set_option linter.all false
namespace Go.Proofs.YtegafhhdegnigaaGreat
open Go.RowKit Hp
set_option maxRecDepth 100000
attribute [local irreducible] Go.Calls
section
set_option maxHeartbeats 1000000
section
variable {t:Nat}{c:Cfg}{L S N:Nat}{h:Haz}{a:Are}{m m' m'':Mch}
theorem free_len (th:Int):∀(pend:List Int) (g:Option Psh) (a:Are) (m:Mch),(Zu th pend g a m).1=false→(giveL (Zu th pend g a m).2.2.1 (Zu th pend g a m).2.1).length≤pend.length
 | [],g,a,m=>fun h=>by cases h
 | s::r,g,a,m=>by
  unfold Zu
  intro h
  split at h
  ·rename_i h1
   rw[if_pos h1]
   have:=free_len th r _ _ _ h
   simp only[List.length_cons];omega
  ·rename_i h1
   rw[if_neg h1]
   simp only[giveL,List.length_cons];omega
theorem next_stage (h:Haz)(s:Scn):(ZI h s).2.stage≠5:=by
 unfold ZI
 simp only[]
 generalize (if s.at_+1=s.record then s.at_+2 else s.at_+1)=k
 by_cases h1:k<h.c.R
 ·rw[if_pos h1];show(0:Int)≠5;omega
 ·rw[if_neg h1]
  by_cases h2:(h.lists.getD s.record.toNat []).length=0
  ·rw[if_pos h2];show(6:Int)≠5;omega
  ·rw[if_neg h2];show(3:Int)≠5;omega
theorem filt_two (p:Int→Bool):∀l:List Int,(l.filter p).length+(l.filter (fun x => !p x)).length=l.length
 | []=>rfl
 | x::r=>by
  have:=filt_two p r
  rw[List.filter_cons,List.filter_cons]
  cases h:p x<;>simp[h]<;>omega
theorem ll_set {h:Haz}{r:Int}{l:List Int}(h0:r.toNat<h.lists.length):ll { h with lists:=h.lists.set r.toNat l } r=(l.length:Int):=by
 unfold ll
 rw[Yb,Ye h0];rfl
def FreS (c:Cfg)(h:Haz)(s:Scn):Prop:=s.stage=5→((giveL s.give s.pending).length:Int)+ll h s.record≤LLc c
theorem fre_scan {s:Scn}(C:Core c L S N h a m)(I:ScI c s)(hl:s.stage=3→s.at_+1<c.R*c.Hz∨ll h s.record≤LLc c)(H:FreS c h s):FreS c (Zf h a m s).2.1 (Zf h a m s).2.2.2.2:=by
 have hlen:=C.lists
 obtain rfl:=C.hc
 obtain⟨i1,i2,i3,i4,i5,i6,i7,i8,i9⟩:=I
 have hrl:s.record.toNat<h.lists.length:=by rw[hlen];omega
 unfold Zf
 by_cases s0:s.stage=0
 ·rw[if_pos s0]
  unfold QH
  simp only[]
  split
  ·exact fun e=>absurd e (next_stage h s)
  ·intro e;have e:(1:Int)=5:=e;omega
 rw[if_neg s0]
 by_cases s1:s.stage=1
 ·rw[if_pos s1]
  unfold Qm
  simp only[]
  split
  ·intro e;have e:(2:Int)=5:=e;omega
  ·exact fun e=>absurd e (next_stage h s)
 rw[if_neg s1]
 by_cases s2:s.stage=2
 ·rw[if_pos s2]
  unfold QO
  exact fun e=>absurd e (next_stage h s)
 rw[if_neg s2]
 by_cases s3:s.stage=3
 ·rw[if_pos s3]
  have hp:=i7 (by omega)
  have hl:=hl s3
  unfold Qo
  dsimp only
  split
  ·rename_i hh
   intro e
   have e:s.stage=5:=e
   omega
  ·rename_i hh
   have hh:¬s.at_+1<h.c.R*h.c.Hz:=hh
   have hl:ll h s.record≤LLc h.c:=by rcases hl with e|e;exact absurd e hh;exact e
   simp only[Z2,Qf,hp,List.nil_append]
   generalize Qa s.named (m.word (base h.c 9+s.at_).toNat-1)=nm
   intro e
   have hb:(Zu s.thread ((h.lists.getD s.record.toNat []).filter (Z3 nm)) s.give a (m.load (base h.c 9+s.at_).toNat (m.word (base h.c 9+s.at_).toNat))).1=false:=by
    have e:ZO _=5:=e
    unfold ZO at e
    split at e
    ·omega
    ·rename_i h1;simpa using h1
   have g1:=free_len _ _ _ _ _ hb
   have g2:=ll_set (h:=h) (l:=(h.lists.getD s.record.toNat []).filter (Qq nm)) hrl
   have g3:((h.lists.getD s.record.toNat []).filter (Qq nm)).length+((h.lists.getD s.record.toNat []).filter (Z3 nm)).length=(h.lists.getD s.record.toNat []).length:=by
    exact filt_two (Qq nm) (h.lists.getD s.record.toNat [])
   have g4:ll h s.record=((h.lists.getD s.record.toNat []).length:Int):=rfl
   simp only[]
   rw[g2]
   omega
 rw[if_neg s3]
 have s5:s.stage=5:=by omega
 obtain⟨p,p1,p2,p3,p4⟩:=i9 s5
 rw[p1]
 simp only[]
 have H:=H s5
 rw[p1]at H
 simp only[giveL,List.length_cons]at H
 unfold Qp
 simp only[]
 split
 ·intro e
  have hb:(Zu s.thread s.pending (some (Za a m p).2.2.2) (Za a m p).2.1 (Za a m p).2.2.1).1=false:=by
   have e:ZO _=5:=e
   unfold ZO at e
   split at e
   ·omega
   ·rename_i h1;simpa using h1
  have g1:=free_len _ _ _ _ _ hb
  simp only[]
  omega
 ·intro e
  simp only[giveL,List.length_cons]
  omega
theorem fre_stp {k:Zz}{i:Nat}{cl:Cll}{se:Sea}(C:Core c L S N h a m)(I:TI c t true (h.held.getD t 0) (a.caches.getD t []) k)
  (hl:∀s,scOf k=some s→s.stage=3→s.at_+1<c.R*c.Hz∨ll h s.record≤LLc c) (H:∀s,scOf k=some s→FreS c h s) :
  ∀s,scOf (Zn (h,a) m i t cl se k).2.2.2=some s→FreS c (Zn (h,a) m i t cl se k).2.1.1 s:=by
 have rdy:∀(h:Haz) (x:Scn),∀s,some (ZK h x).2=some s→∀h',FreS c h' s:=by
  intro h x s e h' e5
  injection e with e
  rw[←e]at e5
  exact absurd e5 (next_stage h _)
 cases k with
 | reg r=>intro s hs;cases hs
 | rdg r=>intro s hs;cases hs
 | clr r=>intro s hs;cases hs
 | scn x=>
  intro s hs
  have hs:some (Zf h a m x).2.2.2.2=some s:=hs
  injection hs with hs
  rw[←hs]
  exact fre_scan C (I.2.2 rfl) (hl x rfl) (H x rfl)
 | unr u=>
  obtain⟨_,_,j1,j2,j3,j4⟩:=I
  show ∀s,scOf (.unr (Zg h a m u).2.2.2.2)=some s→FreS c (Zg h a m u).2.1 s
  have emp:∀(a':Are) (u':Unr),scOf (.unr (Qc a' u'))=none:=by
   intro a' u'
   unfold Qc scOf
   simp only[]
   generalize (QB a' ⟨0,0,0,u'.thread⟩).1=b
   cases b
   ·rw[if_neg (by simp)]
   ·rw[if_neg (by simp)]
  unfold Zg
  simp only[]
  by_cases s0:u.stage=0
  ·rw[if_pos s0]
   split
   ·intro s hs
    simp only[scOf,s0,show ¬(0:Int)=1 by decide,if_false]at hs
    cases hs
   ·split
    ·intro s hs;rw[emp]at hs;cases hs
    ·intro s hs
     simp only[scOf,if_true]at hs
     exact rdy _ _ s hs _
  ·rw[if_neg s0]
   by_cases s1:u.stage=1
   ·rw[if_pos s1]
    obtain⟨x,e1,e2,e3⟩:=j3 s1
    rw[e1]
    simp only[]
    have g:=fre_scan C e2 (hl x (by simp only[scOf,if_pos s1];exact e1)) (H x (by simp only[scOf,if_pos s1];exact e1))
    split
    ·intro s hs;rw[emp]at hs;cases hs
    ·intro s hs
     simp only[scOf,s1,if_true]at hs
     injection hs with hs
     rw[←hs];exact g
   ·rw[if_neg s1]
    split
    ·split
     ·intro s hs;simp only[scOf,if_neg s1]at hs;cases hs
     ·intro s hs
      simp only[scOf]at hs
      rw[if_neg (by split<;>omega)]at hs
      cases hs
    ·intro s hs;simp only[scOf,if_neg s1]at hs;cases hs
 | pst p=>
  obtain⟨_,_,j1,_⟩:=I
  obtain⟨⟨k,e1,t0,t1⟩,q1,q2,q3⟩:=j1 rfl
  show ∀s,scOf (.pst (Zj h a m i t cl se p).2.2.2.2)=some s→FreS c (Zj h a m i t cl se p).2.1 s
  have no4:∀p':Pst,p'.stage≠4→∀s,scOf (.pst p')=some s→∀h',FreS c h' s:=by
   intro p' hp s hs
   simp only[scOf,if_neg hp]at hs
   cases hs
  unfold Zj
  rw[e1]
  simp only[]
  by_cases h0:p.stage=0
  ·rw[if_pos h0]
   split
   ·unfold ZE
    split
    ·exact fun s hs=>no4 _ (by show p.stage≠4;omega) s hs _
    ·exact fun s hs=>no4 _ (by show(1:Int)≠4;omega) s hs _
   ·exact fun s hs=>no4 _ (by show p.stage≠4;omega) s hs _
  rw[if_neg h0]
  by_cases h1:p.stage=1
  ·rw[if_pos h1];exact fun s hs=>no4 _ (by show(2:Int)≠4;omega) s hs _
  rw[if_neg h1]
  by_cases h2:p.stage=2
  ·rw[if_pos h2];exact fun s hs=>no4 _ (by show(3:Int)≠4;omega) s hs _
  rw[if_neg h2]
  by_cases h3:p.stage=3
  ·rw[if_pos h3]
   split
   ·unfold ZY
    simp only[]
    split
    ·exact fun s hs=>no4 p (by rw[h3];omega) s hs _
    ·unfold ZA
     simp only[]
     split
     ·intro s hs
      simp only[scOf,if_true]at hs
      cases hs
     ·intro s hs
      simp only[scOf,if_true]at hs
      exact rdy _ _ s hs _
   ·exact fun s hs=>no4 _ (by show(2:Int)≠4;omega) s hs _
  rw[if_neg h3]
  have h4:p.stage=4:=by rcases q1 with h|h|h|h|h<;>first|exact absurd h h0|exact absurd h h1|exact absurd h h2|exact absurd h h3|exact h
  obtain⟨r,sc,e2,e3,e4,e5⟩:=q3 h4
  have hso:scOf (.pst p)=some sc:=by simp only[scOf,if_pos h4,e2];exact e3
  have g:=fre_scan C e4 (hl sc hso) (H sc hso)
  rw[e2]
  simp only[e3]
  intro s hs
  simp only[scOf,h4,if_true]at hs
  injection hs with hs
  rw[←hs];exact g
end
end
section
set_option maxHeartbeats 1000000
def PreJ (c:Cfg)(y:HW):Prop:=∀a b,y.m.shifts=a++b→b≠[]→cN 5 (puts (s0 c) a)≤c.R*LLc c∧cN 4 (puts (s0 c) a)≤1
structure RetJ (c:Cfg)(n:Nat)(y:HW):Prop where
 len:RcJ c n y∧LenJ c n y
 fre:Fre c y
 pre:PreJ c y
section
variable {c:Cfg}{n:Nat}{y y':HW}
variable {pr:Int→Prop}{F:List Int}{t i:Nat}{cl:Cll}{se:Sea}{k:Zz}{Z Y:Int→Nat}{r1:RT}{pr1:Int→Prop}{F1:List Int}{r2:RT}{pr2:Int→Prop}{F2:List Int}
theorem ls_of {l:Int}{Zr:Int→Prop}{b:Bool}{s:Scn}(H:LenT c b l Zr k)(hb:b=true∨∀x,k≠.scn x)(hs:scOf k=some s):LsS c s l:=by
 cases k with
 | reg r=>cases hs
 | rdg r=>cases hs
 | clr r=>cases hs
 | scn x=>
  injection hs with hs
  subst hs
  rcases hb with rfl|hb
  ·exact H
  ·exact absurd rfl (hb x)
 | unr u=>
  simp only[scOf]at hs
  split at hs
  ·rename_i h1
   exact(H.2.1 h1).1 s hs
  ·cases hs
 | pst p=>
  simp only[scOf]at hs
  split at hs
  ·rename_i h1
   cases hr:p.retire with
   | none=>rw[hr]at hs;cases hs
   | some r=>rw[hr]at hs;exact H.2 h1 r s hr hs
  ·cases hs
theorem slots_puts (R:Q4 c n y):y.s.2.slots=puts (s0 c) y.m.shifts:=shfs_puts R.srep
theorem fre_step (P:PI c n y)(R:Q4 c n y)(D:DI c pr F n y)(JL:LenJ c n y)(Hf:Fre c y)(SO:StepO c n pr F y t i cl se k Z Y r1 pr1 F1 r2 pr2 F2):Fre c (Qg y t i r2):=by
 have hok:=P.core.ok
 have htk:=(List.getElem?_eq_some_iff.1 SO.hk).1
 have hst:=(List.getElem?_eq_some_iff.1 SO.hse).1
 have hH:=hok.H1
 have hR:=hok.R1
 have hA:3≤c.R*c.Hz:=hok.rh.1 |> fun _=>by
  calc (3:Int)=1*3:=rfl
   _≤c.R*c.Hz:=Int.mul_le_mul hR hH (by omega) (by omega)
 obtain⟨z,q,v,c1,c2,c3,c4,c5',c6⟩:=SO.call
 intro t' k' s se' hk' hse' hrd hs h5
 by_cases et:t'=t
 ·subst et
  have hk2:(y.tasks.set t' (if r2.1=true then none else some r2.2.2.2))[t']? = some (some k'):=hk'
  rw[Ye htk]at hk2
  by_cases hb:r2.1=true
  ·rw[if_pos hb]at hk2;cases hk2
  rw[if_neg hb]at hk2
  injection hk2 with hk2
  injection hk2 with hk2
  subst hk2
  have hb:r2.1=false:=by simpa using hb
  obtain⟨b1,e2⟩:r1.1=false∧r2=Zn r1.2.1 r1.2.2.1 i t' (getC r1.2.2.1 i) (getS r1.2.2.1 t') r1.2.2.2:=by
   rcases SO.stp with⟨w,e,_⟩|w
   ·rw[e,w]at hb;cases hb
   ·exact w
  have hh1:r1.2.1.1=y.s.1:=by
   rcases SO.rdy with⟨_,w⟩|⟨_,w,_⟩
   ·rw[w];exact held_rdy (h:=y.s.1) (a:=y.s.2) _ i t' cl _ k
   ·rw[w]
  have T1:=SO.h1.td b1
  have I1:=SO.h1.ti b1
  have rcd1:∀x,scOf r1.2.2.2=some x→r1.2.1.1.held[t']? = some x.record:=fun x hx=>(T1.scan x hx).rcd
  have lsY:∀x,scOf r1.2.2.2=some x→(r1.2.2.2=k∧(se.ready=true∨∀x',k≠.scn x'))→LsS c x (ll y.s.1 x.record):=by
   intro x hx ⟨hkk,hor⟩
   have h1:=rcd1 x hx
   rw[hh1]at h1
   have:=(JL.th t' x.record h1 (sci_of I1 hx).rec0).2 k se SO.hk SO.hse
   rw[hkk]at hx
   exact ls_of this hor hx
  have kcase:(r1.2.2.2=k∧(se.ready=true∨∀x',k≠.scn x'))∨∀x,scOf r1.2.2.2=some x→x.stage≠5∧(x.stage=3→x.at_=0):=by
   rcases SO.rdy with⟨hf,w⟩|⟨hf,w,_⟩
   ·cases hk0:k with
    | reg r=>left;rw[w,hk0];exact⟨rfl,.inr fun x' h=>by cases h⟩
    | unr r=>left;rw[w,hk0];exact⟨rfl,.inr fun x' h=>by cases h⟩
    | rdg r=>left;rw[w,hk0];exact⟨rfl,.inr fun x' h=>by cases h⟩
    | clr r=>left;rw[w,hk0];exact⟨rfl,.inr fun x' h=>by cases h⟩
    | scn x0=>
     right
     intro x hx
     rw[w,hk0]at hx
     have hx:some (ZK y.s.1 x0).2=some x:=hx
     injection hx with hx
     rw[←hx]
     refine⟨next_stage _ _,?_⟩
     unfold ZK ZI
     simp only[]
     generalize (if (-1:Int)+1=x0.record then (-1:Int)+2 else -1+1)=kk
     split
     ·intro h;have h:(0:Int)=3:=h;omega
     ·split
      ·intro h;have h:(6:Int)=3:=h;omega
      ·intro _;rfl
    | pst p=>
     right
     intro x hx
     rw[w,hk0]at hx
     have i0:=SO.i0
     rw[hk0,hf]at i0
     obtain⟨_,_,_,j4⟩:=i0
     obtain⟨_,p0,_⟩:=j4 rfl
     have hx:scOf (.pst (Zq y.s.2 (QG y t' i se) i t' cl { se with ready:=true } p).2.2.2)=some x:=hx
     have hst4:(Zq y.s.2 (QG y t' i se) i t' cl { se with ready:=true } p).2.2.2.stage≠4:=by
      unfold Zq
      simp only[]
      split
      ·unfold ZE
       split
       ·show p.stage≠4;omega
       ·show(1:Int)≠4;omega
      ·show p.stage≠4;omega
     simp only[scOf,if_neg hst4]at hx
     cases hx
   ·left;rw[w];exact⟨rfl,.inl hf⟩
  have hse2:se.ready=true→y.m.seats[t']? = some se:=fun _=>SO.hse
  have G:=fre_stp (i:=i) (cl:=getC r1.2.2.1 i) (se:=getS r1.2.2.1 t') SO.h1.core I1 (fun x hx h3 => ?_) (fun x hx => ?_)
  ·have hs2:scOf (Zn (r1.2.1.1,r1.2.1.2) r1.2.2.1 i t' (getC r1.2.2.1 i) (getS r1.2.2.1 t') r1.2.2.2).2.2.2=some s:=by
    rw[e2]at hs;exact hs
   have:=G s hs2 h5
   show _+ll r2.2.1.1 s.record≤_
   rw[e2];exact this
  ·rcases kcase with hc|hc
   ·right
    have:=((lsY x hx hc).look h3).1
    rw[hh1];exact this
   ·left
    have:=(hc x hx).2 h3
    omega
  ·intro e5
   rcases kcase with hc|hc
   ·by_cases hrdy:se.ready=true
    ·rw[hh1]
     rw[hc.1]at hx
     exact Hf t' k x se SO.hk SO.hse hrdy hx e5
    ·have hf:=(SO.fr (by simpa using hrdy)).1
     rw[hc.1]at hx
     unfold hS hP at hf
     rw[hx]at hf
     have hf:=(List.append_eq_nil_iff.1 hf).2
     have hf:scnP x=[]:=hf
     unfold scnP at hf
     rw[if_pos e5]at hf
     rw[hf,hh1]
     have hx':scOf r1.2.2.2=some x:=by rw[hc.1];exact hx
     have:=all_ll P JL (sci_of I1 hx').rec0 (sci_of I1 hx').rec1
     simp only[List.length_nil];omega
   ·exact absurd e5 (hc x hx).1
 ·have hk2:y.tasks[t']? = some (some k'):=by
   have hk':(y.tasks.set t (if r2.1=true then none else some r2.2.2.2))[t']? = some (some k'):=hk'
   rw[Zx et]at hk';exact hk'
  have hse2:y.m.seats[t']? = some se':=by
   have hse':(ZC r2.2.2.1 t i y.m.moves (getC r2.2.2.1 i) (getS r2.2.2.1 t) r2.1).seats[t']? = some se':=hse'
   unfold ZC at hse'
   split at hse'
   ·simp only[]at hse'
    rw[Zx et,c3,Zx et]at hse';exact hse'
   ·rw[c3,Zx et]at hse';exact hse'
  obtain⟨_,I⟩:=P.task t' k' se' hk2 hse2
  rw[hrd]at I
  have Is:=sci_of I hs
  have hr0:y.s.1.held[t']? = some s.record:=((D.td t' k' hk2).scan s hs).rcd
  have hr1:r1.2.1.1.held[t']? = some s.record:=by rw[SO.he1];exact hr0
  have hl1:r1.2.1.1.lists.getD s.record.toNat []=y.s.1.lists.getD s.record.toNat []:=SO.rl1.li t' s.record et hr0 Is.rec0
  have hl2:r2.2.1.1.lists.getD s.record.toNat []=r1.2.1.1.lists.getD s.record.toNat []:=SO.rl2.li t' s.record et hr1 Is.rec0
  have hll:ll r2.2.1.1 s.record=ll y.s.1 s.record:=by unfold ll;rw[hl2,hl1]
  show _+ll r2.2.1.1 s.record≤_
  rw[hll]
  exact Hf t' k' s se' hk2 hse2 hrd hs h5
theorem pre_step (P:PI c n y)(R:Q4 c n y)(D:DI c pr F n y)(JL:LenJ c n y)(Hf:Fre c y)(Hp:PreJ c y)(SO:StepO c n pr F y t i cl se k Z Y r1 pr1 F1 r2 pr2 F2):PreJ c (Qg y t i r2):=by
 have h5:=c5_le P D JL Hf
 have h4:=c4_no P D
 have hsl:=slots_puts R
 have hsh:Shs OkD y.m (Qg y t i r2).m:=by
  have e:(Qg y t i r2).m.shifts=r2.2.2.1.shifts:=by
   show(ZC _ _ _ _ _ _ _).shifts=_
   unfold ZC
   split<;>rfl
  have s1:Shs Pln y.m r1.2.2.1:=by
   rcases SO.rdy with⟨_,w⟩|⟨_,w,_⟩
   ·rw[w];exact(Shs.of (m':=QG y t i se) rfl).trans sh_rdy
   ·rw[w];exact .of rfl
  have s2:Shs OkD r1.2.2.1 r2.2.2.1:=by
   rcases SO.stp with⟨_,w,_⟩|⟨_,w⟩
   ·rw[w];exact(Shs.refl _).ok
   ·rw[w];exact sh_stp
  obtain⟨ds,a1,a2⟩:=s1.then s2
  exact⟨ds,by rw[e];exact a1,a2⟩
 obtain⟨ds,a1,a2⟩:=hsh
 intro a b e hb
 rw[a1]at e
 rcases List.append_eq_append_iff.1 e with⟨w,e1,e2⟩|⟨w,e1,e2⟩
 ·have:=okD_pre a2 e2 hb y.s.2.slots
  rw[e1,Q9,←hsl]
  unfold c5 at h5
  omega
 ·by_cases hw:w=[]
  ·subst hw
   have e1:y.m.shifts=a:=by simpa using e1
   rw[←e1,←hsl]
   unfold c5 at h5
   omega
  ·exact Hp a w e1 hw
theorem retJ_ok (c:Cfg)(hok:c.Ok):JOk2 c (fun n _ y=>RetJ c n y):=by
 have K:=lenJ_ok c hok
 refine⟨fun km vs=>⟨K.start km vs,?_,?_⟩,fun n pr y hn P R D J=>⟨K.tick n pr y hn P R D J.len,J.fre,J.pre⟩,
  fun n pr y mv t k v vc hn P R D J ht htT hop hk hK hmk=>⟨K.beg n pr y mv t k v vc hn P R D J.len ht htT hop hk hK hmk,?_,J.pre⟩,
  fun n pr F y t i cl se k Z Y r1 pr1 F1 r2 pr2 F2 hn P R D SO R' J=>⟨K.step n pr F y t i cl se k Z Y r1 pr1 F1 r2 pr2 F2 hn P R SO R' J.len,fre_step P R D J.len.2 J.fre SO,pre_step P R D J.len.2 J.fre J.pre SO⟩⟩
 ·intro t k s se hk
  have hk:(List.replicate c.T.toNat (none:Option Zz))[t]? = some (some k):=hk
  have:=(List.mem_replicate.1 (Yc hk)).2
  cases this
 ·intro a b e hb
  have e:([]:List Shf)=a++b:=e
  exact absurd (List.append_eq_nil_iff.1 e.symm).2 hb
 ·intro t' k' s se hk' hse' hrd hs h5
  have hlt:=(List.getElem?_eq_some_iff.1 hk).1
  have hsl:t<y.m.seats.length:=by rw[P.seats,←P.tasks];exact hlt
  simp only[ZD]at hk' hse'
  by_cases et:t'=t
  ·subst et
   rw[Ye hsl]at hse'
   cases hse'
   cases hrd
  ·rw[Zx et]at hk' hse'
   exact J.fre t' k' s se hk' hse' hrd hs h5
end
end
section
set_option maxHeartbeats 2000000
theorem JOk2.and {c:Cfg}{J K:Nat→(Int→Prop)→HW→Prop}(hJ:JOk2 c J)(hK:JOk2 c K):JOk2 c (fun n pr y=>J n pr y∧K n pr y):=
 ⟨fun km vs=>⟨hJ.start km vs,hK.start km vs⟩,
  fun n pr y hn P R D j=>⟨hJ.tick n pr y hn P R D j.1,hK.tick n pr y hn P R D j.2⟩,
  fun n pr y mv t k v vc hn P R D j h1 h2 h3 h4 h5 h6=>⟨hJ.beg n pr y mv t k v vc hn P R D j.1 h1 h2 h3 h4 h5 h6,hK.beg n pr y mv t k v vc hn P R D j.2 h1 h2 h3 h4 h5 h6⟩,
  fun n pr F y t i cl se k Z Y r1 pr1 F1 r2 pr2 F2 hn P R D SO R' j=>⟨hJ.step n pr F y t i cl se k Z Y r1 pr1 F1 r2 pr2 F2 hn P R D SO R' j.1,hK.step n pr F y t i cl se k Z Y r1 pr1 F1 r2 pr2 F2 hn P R D SO R' j.2⟩⟩
theorem opJ_ok (c:Cfg):JOk2 c (fun _ _ y=>∀x∈y.m.calls,x.op≠10):=by
 refine⟨fun km vs x hx => ?_,fun n pr y hn P R D J=>J,fun n pr y mv t k v vc hn P R D J ht htT hop hk hK hmk x hx => ?_,fun n pr F y t i cl se k Z Y r1 pr1 F1 r2 pr2 F2 hn P R D SO R' J x hx => ?_⟩
 ·have hx:x∈([]:List Cll):=hx
  simp at hx
 ·rcases List.mem_append.1 hx with hx|hx
  ·exact J x hx
  ·simp at hx;subst hx;show mv.op≠10;omega
 ·obtain⟨z,q,v,c1,c2,c3,c4,c5,c6⟩:=SO.call
  have hc:=J cl (Yc SO.hc)
  cases hr:r2.1 with
  | true=>
   rw[c4 hr]at hx
   rcases ZZ hx with rfl|⟨j,_,hj⟩
   ·exact hc
   ·exact J x (Yc hj)
  | false=>
   rw[(c5 hr).1]at hx
   rcases ZZ hx with rfl|⟨j,_,hj⟩
   ·exact hc
   ·exact J x (Yc hj)
def BndJ (c:Cfg)(n:Nat)(_:Int→Prop)(y:HW):Prop:=GapJ c n y∧RetJ c n y∧HonJ c n y∧∀x∈y.m.calls,x.op≠10
theorem bndJ_ok (c:Cfg)(hok:c.Ok):JOk2 c (BndJ c):=(gapJ_ok c hok).and ((retJ_ok c hok).and ((honJ_ok c hok).and (opJ_ok c)))
section
variable {c:Cfg}{n:Nat}{y:HW}{pr:Int→Prop}{F:List Int}
theorem rngQ (hok:c.Ok)(R:Q4 c n y):∀d∈y.m.shifts,∃i:Nat,d.slot=(i:Int)∧(i:Int)<c.Sl:=by
 intro d hd
 have h:=shfs_rng R.srep d hd
 have hsl:=s0_len hok
 unfold s0 at hsl
 have:=hok.S1
 exact⟨d.slot.toNat,by omega,by omega⟩
theorem gapQ (R:Q4 c n y)(J:GapJ c n y):GapQ y.m.mem.log y.m.calls n (phB c+1):=by
 refine⟨J.all,?_,R.lsort,fun e he=>⟨?_,R.llt e he⟩,fun x hx => ?_⟩
 ·have h1:=J.all 0 (by omega)
  have h2:=gp_nn y.m.mem.log y.m.calls 0
  omega
 ·obtain⟨x,h1,_,h2,_⟩:=(R.lpl e he).who
  have:=(R.cl x h1).b0
  omega
 ·have h:=R.cl x hx
  have h0:=h.b0
  rcases h.e with h|h<;>omega
theorem ll_eq (c:Cfg):LLc c=QR c:=by
 unfold LLc QR Bt mostC Am
 by_cases h:c.Rt<c.R*c.Hz+1
 ·rw[if_pos h,if_pos (by omega)]
 ·rw[if_neg h]
  split<;>omega
theorem pkQ (hok:c.Ok)(P:PI c n y)(R:Q4 c n y)(D:DI c pr F n y)(J:RetJ c n y):PkQ c y.m.shifts 1 (c.R*QR c):=by
 refine⟨by omega,?_,fun i hi => ?_,rngQ hok R⟩
 ·have:=(listed_b hok).1
  have:=hok.R1
  exact Int.mul_nonneg (by omega) (by omega)
 ·rw[←ll_eq]
  by_cases e:i=y.m.shifts.length
  ·subst e
   rw[List.take_length,←slots_puts R]
   have h1:=c5_le P D J.len.2 J.fre
   have h2:=c4_no P D
   unfold c5 at h1
   omega
  ·have h:=J.pre (y.m.shifts.take i) (y.m.shifts.drop i) (by simp) (by
    intro h0
    have:=List.drop_eq_nil_iff.1 h0
    omega)
   omega
theorem win_lt (hok:c.Ok):phB c+1<windowC c (QR c)∧phB c+1<4294967296:=by
 obtain⟨l1,l2⟩:=listed_b hok
 have hb:=Qx hok
 have rh:=hb.rh
 have rh2:=hb.rh2
 have:=hok.R1
 have:=hok.R2
 have:=hok.T1
 have:=hok.T2
 have:=hok.S1
 have:=hok.S2
 have:=hok.C1
 have:=hok.C2
 have:=hok.H1
 have:=hok.H2
 unfold windowC phB oneC scB scA
 generalize QR c=L at *
 have a2:0≤c.R*L:=Int.mul_nonneg (by omega) (by omega)
 have a3:c.T*c.Ca≤16*64:=Int.mul_le_mul (by omega) (by omega) (by omega) (by omega)
 have a4:0≤c.T*c.Ca:=Int.mul_nonneg (by omega) (by omega)
 have a5:15*(7*(c.Sl+c.T)+12)≤(8*c.T+1+c.T*c.Ca+c.R*L+6)*(7*(c.Sl+c.T)+12):=Int.mul_le_mul (by omega) (by omega) (by omega) (by omega)
 have a7:3*(3*c.R+c.R*c.Hz+3*L)≤(c.T+2)*(3*c.R+c.R*c.Hz+3*L):=Int.mul_le_mul (by omega) (by omega) (by omega) (by omega)
 have e1:3*c.T*(c.Sl+c.T*(c.Ca+3))=c.T*(3*c.Sl+3*(c.T*c.Ca)+9*c.T):=by
  rw[Int.mul_comm 3,Int.mul_assoc]
  congr 1
  rw[Int.mul_add c.T]
  omega
 rw[e1,←Int.mul_add]
 generalize hX:(8*c.T+1+c.T*c.Ca+c.R*L+6)*(7*(c.Sl+c.T)+12)+(c.T+2)*(3*c.R+c.R*c.Hz+3*L)+3*(8*c.T+1+c.T*c.Ca+c.R*L)+3*c.Ca+2*c.R+c.Hz+43=X
 generalize hO:3*c.R+(c.R*c.Hz+3*c.Sl+1)+c.Hz+3*c.Ca+11+(3*c.Sl+3*(c.T*c.Ca)+9*c.T)=O
 have h1:O+1≤X:=by omega
 have h2:c.T*(O+1)≤c.T*X:=Int.mul_le_mul_of_nonneg_left h1 (by omega)
 rw[Int.mul_add]at h2
 have h3:c.T*O≤16*100000:=Int.mul_le_mul (by omega) (by omega) (by omega) (by omega)
 omega
end
end
end Go.Proofs.YtegafhhdegnigaaGreat
