/-
  Who holds which record, counted from the calls that began and ended.
-/
import Derived.Test.YtegafhhdegnigaaGreatEOpen
set_option linter.all false
namespace Go.Proofs.YtegafhhdegnigaaGreat
open Go.RowKit Hp
set_option maxRecDepth 100000
set_option maxHeartbeats 1000000
attribute [local irreducible] Go.Calls
abbrev RS:=List Int×List Int
def Jf (mv:Int)(s:RS)(x:Cll):RS:=
 if x.end_=mv then
  if x.op=20 then (if x.kind=4 then s else (s.1.set x.value.toNat x.thread,s.2.set x.thread.toNat x.value))
  else if x.op=21 then (s.1.set (s.2.getD x.thread.toNat 0).toNat (-1),s.2.set x.thread.toNat (-1))
  else s
 else s
structure RcOk (c:Cfg)(mv:Int)(s:RS)(x:Cll):Prop where
 beg:x.begin_=mv→(x.op=20↔s.2.getD x.thread.toNat 0<0)
 reg:x.end_=mv→x.op=20→x.kind≠4→x.kind=2∧(0≤x.value∧x.value<c.R)∧s.1.getD x.value.toNat 0<0
 unr:x.end_=mv→x.op=21→0≤s.2.getD x.thread.toNat 0∧s.2.getD x.thread.toNat 0<c.R
def rcFold (mv:Int)(cs:List Cll)(s:RS):RS:=cs.foldl (Jf mv) s
def rcS (c:Cfg)(cs:List Cll):Nat→RS
 | 0=>(List.replicate c.R.toNat (-1),List.replicate c.T.toNat (-1))
 | n+1=>rcFold n cs (rcS c cs n)
theorem rcNext_ne {mv:Int}{s:RS}{x:Cll}(h:x.end_≠mv):Jf mv s x=s:=by unfold Jf;rw[if_neg h]
theorem rcFold_none {mv:Int}:∀ {cs:List Cll} {s:RS},(∀x∈cs,x.end_≠mv)→rcFold mv cs s=s
 | [],_,_=>rfl
 | x::r,s,h=>by
  show rcFold mv r (Jf mv s x)=s
  rw[rcNext_ne (h x (List.mem_cons_self ..))]
  exact rcFold_none fun z hz=>h z (List.mem_cons_of_mem _ hz)
theorem rcFold_app {mv:Int}(cs ds:List Cll)(s:RS):rcFold mv (cs++ds) s=rcFold mv ds (rcFold mv cs s):=by
 unfold rcFold;rw[List.foldl_append]
theorem rcFold_set {mv:Int}{x':Cll}(h2:x'.end_≠mv):∀ {cs:List Cll} {i:Nat} {x:Cll} {s:RS},cs[i]? = some x→x.end_≠mv→rcFold mv (cs.set i x') s=rcFold mv cs s
 | [],_,_,_,h,_=>by simp at h
 | a::r,0,x,s,h,h1=>by
  simp at h;subst h
  show rcFold mv r (Jf mv s x')=rcFold mv r (Jf mv s a)
  rw[rcNext_ne h1,rcNext_ne h2]
 | a::r,i+1,x,s,h,h1=>by
  simp only[Ue]at h
  show rcFold mv (r.set i x') (Jf mv s a)=rcFold mv r (Jf mv s a)
  exact rcFold_set h2 h h1
theorem rcFold_one {mv:Int}:∀ {cs:List Cll} {i:Nat} {x:Cll} {s:RS},cs[i]? = some x→(∀j z,j≠i→cs[j]? = some z→z.end_≠mv)→rcFold mv cs s=Jf mv s x
 | [],_,_,_,h,_=>by simp at h
 | a::r,0,x,s,h,h1=>by
  simp at h;subst h
  show rcFold mv r (Jf mv s a)=_
  exact rcFold_none fun z hz=>by
   obtain⟨j,hj⟩:=List.getElem?_of_mem hz
   exact h1 (j+1) z (by omega) (by simpa using hj)
 | a::r,i+1,x,s,h,h1=>by
  simp only[Ue]at h
  show rcFold mv r (Jf mv s a)=_
  rw[rcNext_ne (h1 0 a (by omega) (by simp))]
  exact rcFold_one h fun j z hj hz=>h1 (j+1) z (by omega) (by simpa using hz)
theorem rcS_set {c:Cfg}{cs:List Cll}{i:Nat}{x x':Cll}(hi:cs[i]? = some x):∀ {n:Nat},(∀mv:Int,mv<n→0≤mv→x.end_≠mv∧x'.end_≠mv)→rcS c (cs.set i x') n=rcS c cs n
 | 0,_=>rfl
 | n+1,h=>by
  simp only[rcS]
  rw[rcS_set hi (n:=n) fun mv h1 h0=>h mv (by omega) h0]
  exact rcFold_set (h n (by omega) (by omega)).2 hi (h n (by omega) (by omega)).1
theorem rcS_app {c:Cfg}{cs:List Cll}{x:Cll}:∀ {n:Nat},(∀mv:Int,mv<n→0≤mv→x.end_≠mv)→rcS c (cs++[x]) n=rcS c cs n
 | 0,_=>rfl
 | n+1,h=>by
  simp only[rcS]
  rw[rcS_app (n:=n) fun mv h1 h0=>h mv (by omega) h0,rcFold_app]
  exact rcNext_ne (h n (by omega) (by omega))
theorem scan_held (h:Haz)(a:Are)(m:Mch)(s:Scn):(Zf h a m s).2.1.held=h.held:=by
 unfold Zf
 split
 ·rfl
 ·split
  ·unfold Qm;simp only[];split<;>rfl
  ·split
   ·rfl
   ·split
    ·unfold Qo;dsimp only;split<;>rfl
    ·split<;>rfl
theorem retire_held (h:Haz)(a:Are)(m:Mch)(r:Ret):(ZA h a m r).2.1.held=h.held:=by
 unfold ZA
 simp only[]
 split<;>rfl
theorem post_held (h:Haz)(a:Are)(m:Mch)(i t:Nat)(cl:Cll)(se:Sea)(p:Pst):(Zj h a m i t cl se p).2.1.held=h.held:=by
 unfold Zj
 split
 ·rfl
 ·simp only[]
  split
  ·split<;>rfl
  ·split
   ·rfl
   ·split
    ·rfl
    ·split
     ·split
      ·unfold ZY
       simp only[]
       split
       ·rfl
       ·exact retire_held ..
      ·rfl
     ·split
      ·rfl
      ·split
       ·rfl
       ·exact scan_held ..
structure HeldTo (c:Cfg)(t:Nat)(h h':Haz)(m:Mch)(m':Mch)(ended:Bool)(k:Zz):Prop where
 oth:kd k≠20→kd k≠21→h'.held=h.held
 on:ended=false→h'.held=h.held
 unr:kd k=21→ended=true→h'.held=h.held.set t (-1)
 reg:kd k=20→ended=true→(h'.held=h.held∧(getS m' t).kind=4)∨∃r:Int,(0≤r∧r<c.R)∧m.word (adr c 8 r)=0∧h'.held=h.held.set t r∧(getS m' t).kind=2∧(getS m' t).value=r
theorem held_stp {c:Cfg}{L S N:Nat}{h:Haz}{a:Are}{m:Mch}{i t:Nat}{cl:Cll}{se:Sea}{k:Zz}(C:Core c L S N h a m)(hse:m.seats[t]? = some se)(I:TI c t true (h.held.getD t 0) (a.caches.getD t []) k) :
  HeldTo c t h (Zn (h,a) m i t cl se k).2.1.1 m (Zn (h,a) m i t cl se k).2.2.1 (Zn (h,a) m i t cl se k).1 k:=by
 have hc:=C.hc
 have hlt:=(List.getElem?_eq_some_iff.1 hse).1
 cases k with
 | scn s=>exact⟨fun _ _=>scan_held ..,fun _=>scan_held ..,fun hf=>by simp[kd]at hf,fun hf=>by simp[kd]at hf⟩
 | pst p=>exact⟨fun _ _=>post_held ..,fun _=>post_held ..,fun hf=>by simp[kd]at hf,fun hf=>by simp[kd]at hf⟩
 | rdg r=>exact⟨fun _ _=>rfl,fun _=>rfl,fun hf=>by simp[kd]at hf,fun hf=>by simp[kd]at hf⟩
 | clr r=>exact⟨fun _ _=>rfl,fun _=>rfl,fun hf=>by simp[kd]at hf,fun hf=>by simp[kd]at hf⟩
 | unr u=>
  obtain⟨i1,i2,i3⟩:=I
  have key:(Zn (h,a) m i t cl se (.unr u)).1=false∧(Zn (h,a) m i t cl se (.unr u)).2.1.1.held=h.held∨(Zn (h,a) m i t cl se (.unr u)).1=true∧(Zn (h,a) m i t cl se (.unr u)).2.1.1.held=h.held.set t (-1):=by
   simp only[Zn]
   unfold Zg
   simp only[]
   split
   ·split
    ·exact .inl ⟨rfl,rfl⟩
    ·split<;>exact .inl ⟨rfl,rfl⟩
   ·split
    ·split
     ·exact .inl ⟨rfl,rfl⟩
     ·split<;>exact .inl ⟨rfl,scan_held ..⟩
    ·split
     ·split<;>exact .inl ⟨rfl,rfl⟩
     ·refine .inr ⟨rfl,?_⟩
      simp only[]
      rw[i1,Yo]
  rcases key with⟨e1,e2⟩|⟨e1,e2⟩
  ·exact⟨fun _ hf=>absurd rfl hf,fun _=>e2,fun _ hf=>(by rw[e1]at hf;cases hf),fun hf=>by simp[kd]at hf⟩
  ·exact⟨fun _ hf=>absurd rfl hf,fun hf=>by (rw[e1]at hf;cases hf),fun _ _=>e2,fun hf=>by simp[kd]at hf⟩
 | reg r=>
  obtain⟨i1,i2,i3⟩:=I
  have hN:∀m',m'.seats=m.seats→(ZV h m' t se r).2.1=h∧((ZV h m' t se r).1=true→(getS (ZV h m' t se r).2.2.1 t).kind=4):=by
   intro m' hs'
   unfold ZV
   split
   ·exact⟨rfl,fun hf=>by cases hf⟩
   ·refine⟨rfl,fun _ => ?_⟩
    simp only[getS,Mch.answer,Yb]
    rw[Ye (by rw[hs'];exact hlt)];rfl
  refine⟨fun hf=>absurd rfl hf,?_,fun hf=>by simp[kd]at hf,fun _ => ?_⟩
  ·simp only[Zn]
   unfold ZU
   simp only[]
   split
   ·split
    ·intro _;exact congrArg Haz.held (hN (m.load (adr h.c 8 r.i) (m.word (adr h.c 8 r.i))) rfl).1
    ·intro _;rfl
   ·split
    ·intro hf;cases hf
    ·intro _;exact congrArg Haz.held (hN (m.swap (adr h.c 8 r.i) (m.word (adr h.c 8 r.i)) 0 1) rfl).1
  ·simp only[Zn]
   unfold ZU
   simp only[]
   split
   ·split
    ·intro hf;exact .inl ⟨congrArg Haz.held (hN (m.load (adr h.c 8 r.i) (m.word (adr h.c 8 r.i))) rfl).1,(hN (m.load (adr h.c 8 r.i) (m.word (adr h.c 8 r.i))) rfl).2 hf⟩
    ·intro hf;cases hf
   ·split
    ·rename_i hw
     intro _
     refine .inr ⟨r.i,⟨i2,i3⟩,by rw[hc]at hw;exact hw,by simp only[];rw[i1,Yo],?_⟩
     simp only[getS,Mch.answer,Yb]
     rw[Ye (by simp only[Mch.swap];exact hlt)]
     exact⟨rfl,rfl⟩
    ·intro hf;exact .inl ⟨congrArg Haz.held (hN (m.swap (adr h.c 8 r.i) (m.word (adr h.c 8 r.i)) 0 1) rfl).1,(hN (m.swap (adr h.c 8 r.i) (m.word (adr h.c 8 r.i)) 0 1) rfl).2 hf⟩
theorem held_rdy (h:Haz)(a:Are)(m:Mch)(i t:Nat)(cl:Cll)(se:Sea)(k:Zz):(Qj (h,a) m i t cl se k).2.1.1=h:=by cases k<;>rfl
theorem rdy_ended {h:Haz}{a:Are}{m:Mch}{i t:Nat}{cl:Cll}{se:Sea}{k:Zz}(e:(Qj (h,a) m i t cl se k).1=true):kd k=22∨kd k=25:=by
 cases k with
 | pst p=>exact .inl rfl
 | scn p=>exact .inr rfl
 | _=>cases e
theorem kit_op {h:Haz}{a:Are}{t:Nat}{mv:Mv}{k:Zz}(hk:ZW (h,a) t mv=some k)(ho:20≤mv.op∧mv.op≤25):mv.op=kd k∧(mv.op=20↔h.held.getD t 0<0):=by
 unfold ZW at hk
 simp only[]at hk
 repeat'(split at hk)
 all_goals first|(cases hk;done)|(cases hk;simp only[kd];omega)
structure RcJ (c:Cfg)(n:Nat)(y:HW):Prop where
 ok:∀mv:Nat,mv<n→∀x∈y.m.calls,RcOk c mv (rcS c y.m.calls mv) x
 held:(rcS c y.m.calls n).2=y.s.1.held
 hl:(rcS c y.m.calls n).1.length=c.R.toNat
 hold:∀(t:Nat) (r:Int),y.s.1.held[t]? = some r→0≤r→(rcS c y.m.calls n).1[r.toNat]? = some (t:Int)
 free:∀r:Int,0≤r→r<c.R→(∀t:Nat,y.s.1.held[t]? ≠ some r)→(rcS c y.m.calls n).1.getD r.toNat 0 = -1
 op:∀(t i:Nat) (k:Zz) (se:Sea) (cl:Cll),y.tasks[t]? = some (some k)→y.m.seats[t]? = some se→se.last=(i:Int)→y.m.calls[i]? = some cl→cl.op=kd k
section
variable {c:Cfg}{n:Nat}{y y':HW}
theorem RcJ.next (J:RcJ c n y)(hS:∀mv:Nat,mv≤n→rcS c y'.m.calls mv=rcS c y.m.calls mv)(hok:∀mv:Nat,mv≤n→∀x∈y'.m.calls,RcOk c mv (rcS c y.m.calls mv) x)
  (hne:∀x∈y'.m.calls,x.end_≠n) (hh:y'.s.1.held=y.s.1.held)
  (hop:∀(t i:Nat) (k:Zz) (se:Sea) (cl:Cll),y'.tasks[t]? = some (some k)→y'.m.seats[t]? = some se→se.last=(i:Int)→y'.m.calls[i]? = some cl→cl.op=kd k):RcJ c (n+1) y':=by
 have e:rcS c y'.m.calls (n+1)=rcS c y.m.calls n:=by
  simp only[rcS]
  rw[hS n (Nat.le_refl _)]
  exact rcFold_none hne
 refine⟨fun mv hm x hx => ?_,?_,?_,?_,?_,hop⟩
 ·rw[hS mv (by omega)];exact hok mv (by omega) x hx
 ·rw[e,hh];exact J.held
 ·rw[e];exact J.hl
 ·rw[e,hh];exact J.hold
 ·rw[e,hh];exact J.free
theorem rcok_none {c:Cfg}{mv:Int}{s:RS}{x:Cll}(h1:x.begin_≠mv)(h2:x.end_≠mv):RcOk c mv s x:=⟨fun h=>absurd h h1,fun h=>absurd h h2,fun h=>absurd h h2⟩
theorem rcok_old {c:Cfg}{n:Nat}{s:RS}{x:Cll}(h:ClOk c n x):RcOk c n s x:=
 rcok_none (by have:=h.bn;omega) (by rcases h.e with e|e<;>omega)
theorem clok_end {c:Cfg}{n:Nat}{x:Cll}(h:ClOk c n x):x.end_≠(n:Int):=by rcases h.e with e|e<;>omega
theorem rcJ_ok (c:Cfg)(hok:c.Ok):JOk c (fun n _ y=>RcJ c n y):=by
 have hR:=hok.R1
 refine⟨?_,?_,?_,?_⟩
 ·intro km vs
  refine⟨fun mv h=>by omega,rfl,by simp[rcS],?_,?_,?_⟩
  ·intro t r h h0
   have:r = -1:=(List.mem_replicate.1 (Yc h)).2
   omega
  ·intro r r0 r1 _
   show(List.replicate c.R.toNat (-1:Int)).getD r.toNat 0 = -1
   rw[Yb,List.getElem?_replicate,if_pos (by omega)];rfl
  ·intro t i k se cl hk
   have hk:(List.replicate c.T.toNat (none:Option Zz))[t]? = some (some k):=hk
   have:=(List.mem_replicate.1 (Yc hk)).2
   cases this
 ·intro n pr y hn P R _ J
  refine J.next (fun _ _=>rfl) (fun mv hm x hx => ?_) (fun x hx=>clok_end (R.cl x hx)) rfl (fun t i k se cl h1 h2 h3 h4=>J.op t i k se cl h1 h2 h3 h4)
  by_cases e:mv=n
  ·subst e;exact rcok_old (R.cl x hx)
  ·exact J.ok mv (by omega) x hx
 ·intro n pr y mv t k v vc hn P R _ J ht htT hop hk hK hmk
  have hlt:=(List.getElem?_eq_some_iff.1 hk).1
  have hs:t<y.m.seats.length:=by rw[P.seats,←P.tasks];exact hlt
  have hmk':ZW (y.s.1,y.s.2) t mv=some k:=hmk
  obtain⟨ho,hb⟩:=kit_op hmk' hK
  refine J.next (fun mv' hm => ?_) (fun mv' hm x hx => ?_) (fun x hx => ?_) rfl ?_
  ·simp only[ZD]
   exact rcS_app fun z h1 h0=>by simp only[];omega
  ·simp only[ZD]at hx
   rcases List.mem_append.1 hx with hx|hx
   ·by_cases e:mv'=n
    ·subst e;exact rcok_old (R.cl x hx)
    ·exact J.ok mv' (by omega) x hx
   ·simp at hx;subst hx
    refine⟨fun h => ?_,fun h => ?_,fun h => ?_⟩
    ·have h:y.m.moves=(mv':Int):=h
     have e:mv'=n:=by have:=P.moves;omega
     subst e
     simp only[J.held,ht,Yo]
     exact hb
    ·simp only[]at h;omega
    ·simp only[]at h;omega
  ·simp only[ZD]at hx
   rcases List.mem_append.1 hx with hx|hx
   ·exact clok_end (R.cl x hx)
   ·simp at hx;subst hx;simp only[];omega
  ·intro t' i' k' se' cl' h1 h2 h3 h4
   simp only[ZD]at h1 h2 h4
   by_cases hj:t'=t
   ·subst hj
    rw[Ye hlt]at h1
    rw[Ye hs]at h2
    cases h1;cases h2
    simp only[]at h3
    have:i'=y.m.calls.length:=by omega
    subst this
    rw[List.getElem?_append_right (Nat.le_refl _),Nat.sub_self]at h4
    cases h4
    exact ho
   ·rw[Zx hj]at h1 h2
    obtain⟨⟨i2,e1,e2⟩,_⟩:=P.task t' k' se' h1 h2
    have:i'=i2:=by omega
    subst this
    rw[List.getElem?_append_left e2]at h4
    exact J.op t' i' k' se' cl' h1 h2 h3 h4
 ·intro n pr F y t i cl se k Z Y r1 pr1 F1 r2 pr2 F2 hn P R SO R' J
  obtain⟨z,g1,g2,g3,g4⟩:=SO.h2.getC SO.hc
  obtain⟨q,v,s1,s2,s3,s4⟩:=SO.h2.getS SO.hse
  have hilt:=(List.getElem?_eq_some_iff.1 SO.hc).1
  have htlt:=(List.getElem?_eq_some_iff.1 SO.hse).1
  have htk:=(List.getElem?_eq_some_iff.1 SO.hk).1
  have hopk:=J.op t i k se cl SO.hk SO.hse SO.hl SO.hc
  have hth:cl.thread.toNat=t:=by rw[SO.thr];simp
  have hcs:∃cl',(Qg y t i r2).m.calls=y.m.calls.set i cl'∧cl'.thread=cl.thread∧cl'.op=cl.op∧cl'.begin_=cl.begin_∧(r2.1=false∧cl'.end_ = -1∨r2.1=true∧cl'.end_=n∧cl'.kind=q∧cl'.value=v):=by
   by_cases hb:r2.1=true
   ·refine⟨{ cl with point:=z,end_:=y.m.moves,kind:=q,value:=v },?_,rfl,rfl,rfl,.inr ⟨hb,P.moves,rfl,rfl⟩⟩
    show(ZC _ _ _ _ _ _ _).calls=_
    unfold ZC
    rw[if_pos hb]
    simp only[g1,s1,g2,Yl]
   ·refine⟨{ cl with point:=z },?_,rfl,rfl,rfl,.inl ⟨by simpa using hb,SO.end_⟩⟩
    show(ZC _ _ _ _ _ _ _).calls=_
    unfold ZC
    rw[if_neg hb]
    exact g2
  obtain⟨cl',hc1,hc2,hc3,hc4,hc5⟩:=hcs
  have hS:∀mv:Nat,mv≤n→rcS c (Qg y t i r2).m.calls mv=rcS c y.m.calls mv:=by
   intro mv hm
   rw[hc1]
   refine rcS_set SO.hc fun z h1 h0=>⟨by rw[SO.end_];omega,?_⟩
   rcases hc5 with⟨_,e⟩|⟨_,e,_⟩<;>omega
  have hok:∀mv:Nat,mv<n→∀x∈(Qg y t i r2).m.calls,RcOk c mv (rcS c y.m.calls mv) x:=by
   intro mv hm x hx
   rw[hc1]at hx
   rcases ZZ hx with rfl|⟨j,hj,hx⟩
   ·have O:=J.ok mv hm cl (Yc SO.hc)
    refine⟨fun h => ?_,fun h => ?_,fun h => ?_⟩
    ·rw[hc3,hc2];exact O.beg (by rw[←hc4];exact h)
    ·exfalso;rcases hc5 with⟨_,e⟩|⟨_,e,_⟩<;>omega
    ·exfalso;rcases hc5 with⟨_,e⟩|⟨_,e,_⟩<;>omega
   ·exact J.ok mv hm x (Yc hx)
  have hokn:cl'.end_≠n∨RcOk c n (rcS c y.m.calls n) cl'→∀mv:Nat,mv≤n→∀x∈(Qg y t i r2).m.calls,RcOk c mv (rcS c y.m.calls mv) x:=by
   intro hO mv hm x hx
   by_cases e:mv=n
   ·subst e
    rw[hc1]at hx
    rcases ZZ hx with rfl|⟨j,hj,hx⟩
    ·rcases hO with h|h
     ·exact rcok_none (by have:=SO.bn;omega) h
     ·exact h
    ·exact rcok_old (R.cl x (Yc hx))
   ·exact hok mv (by omega) x hx
  have hop:∀(t' i':Nat) (k':Zz) (se':Sea) (cl2:Cll),(Qg y t i r2).tasks[t']? = some (some k')→(Qg y t i r2).m.seats[t']? = some se'→se'.last=(i':Int)→(Qg y t i r2).m.calls[i']? = some cl2→cl2.op=kd k':=by
   intro t' i' k' se' cl2 h1 h2 h3 h4
   rw[hc1]at h4
   simp only[Qg]at h1 h2
   by_cases hj:t'=t
   ·subst hj
    rw[Ye htk]at h1
    by_cases hb:r2.1=true
    ·rw[if_pos hb]at h1;cases h1
    ·rw[if_neg hb]at h1
     cases h1
     unfold ZC at h2
     rw[if_neg hb]at h2
     simp only[]at h2
     rw[s3]at h2
     cases h2
     have:i'=i:=by have:=SO.hl;simp only[]at h3;omega
     subst this
     rw[Ye hilt]at h4
     cases h4
     rw[hc3,hopk,SO.h2.kd]
   ·rw[Zx hj]at h1
    have hs2:y.m.seats[t']? = some se':=by
     unfold ZC at h2
     split at h2
     ·simp only[]at h2
      rw[Zx hj,s2,Zx hj]at h2;exact h2
     ·simp only[]at h2
      rw[s2,Zx hj]at h2;exact h2
    obtain⟨i2,cl3,w1,w2,w3,w4,_⟩:=R.busy t' k' se' h1 hs2
    have:i'=i2:=by omega
    subst this
    have hne:i'≠i:=by
     rintro rfl
     rw[SO.hc]at w2;cases w2
     have:=SO.thr;omega
    rw[Zx hne]at h4
    exact J.op t' i' k' se' cl2 h1 hs2 h3 h4
  have hH:HeldTo c t r1.2.1.1 r2.2.1.1 r1.2.2.1 r2.2.2.1 r2.1 k:=by
   rcases SO.stp with⟨e1,e2,_⟩|⟨e1,e2⟩
   ·have hk2:kd k=22∨kd k=25:=by
     rcases SO.rdy with⟨_,w⟩|⟨_,w,_⟩
     ·rw[w]at e1
      exact rdy_ended (h:=y.s.1) (a:=y.s.2) e1
     ·rw[w]at e1;cases e1
    rw[e2]
    exact⟨fun _ _=>rfl,fun _=>rfl,fun h=>by omega,fun h=>by omega⟩
   ·rw[e2]
    obtain⟨_,_,a1,a2,a3,_⟩:=SO.h1.getS SO.hse
    have X:=held_stp (i:=i) (cl:=getC r1.2.2.1 i) (se:=getS r1.2.2.1 t) SO.h1.core (by rw[a1];exact a3) (SO.h1.ti e1)
    have hkk:=SO.h1.kd
    exact⟨fun h1 h2=>X.oth (by rw[hkk];exact h1) (by rw[hkk];exact h2),X.on,fun h=>X.unr (by rw[hkk];exact h),fun h=>X.reg (by rw[hkk];exact h)⟩
  have he1:=SO.he1
  by_cases hb:r2.1=true
  ·rcases hc5 with⟨e,_⟩|⟨_,c6,c7,c8⟩
   ·rw[hb]at e;cases e
   have hone:rcS c (Qg y t i r2).m.calls (n+1)=Jf n (rcS c y.m.calls n) cl':=by
    simp only[rcS]
    rw[hS n (Nat.le_refl _),hc1]
    refine rcFold_one (Ye hilt) fun j x hj hx => ?_
    rw[Zx hj]at hx
    exact clok_end (R.cl x (Yc hx))
   have hhl:y.s.1.held.length=c.T.toNat:=P.core.held
   have hgt:y.s.1.held[t]? = some (y.s.1.held.getD t 0):=by
    have hl:t<y.s.1.held.length:=by rw[hhl];have:=SO.htT;omega
    rw[Yb,Yd hl];rfl
   by_cases h20:kd k=20
   ·rcases hH.reg h20 hb with⟨w1,w2⟩|⟨r,w1,w2,w3,w4,w5⟩
    ·have hq:cl'.kind=4:=by rw[c7];rw[s1]at w2;exact w2
     have hn2:Jf n (rcS c y.m.calls n) cl'=rcS c y.m.calls n:=by
      unfold Jf;rw[if_pos c6,if_pos (by rw[hc3,hopk,h20]),if_pos hq]
     have hO:=hokn (.inr ⟨fun h=>by have:=SO.bn;omega,fun _ _ h=>absurd hq h,fun _ h=>by rw[hc3,hopk,h20]at h;omega⟩)
     have hh':(Qg y t i r2).s.1.held=y.s.1.held:=by show r2.2.1.1.held=_;rw[w1,he1]
     refine⟨fun mv hm x hx => ?_,?_,?_,?_,?_,hop⟩
     ·rw[hS mv (by omega)];exact hO mv (by omega) x hx
     ·rw[hone,hn2,hh'];exact J.held
     ·rw[hone,hn2];exact J.hl
     ·rw[hone,hn2,hh'];exact J.hold
     ·rw[hone,hn2,hh'];exact J.free
    ·have hq:cl'.kind=2:=by rw[c7];rw[s1]at w4;exact w4
     have hv:cl'.value=r:=by rw[c8];rw[s1]at w5;exact w5
     have hnob:∀t':Nat,y.s.1.held[t']? ≠ some r:=by
      intro t' h
      have hR:=SO.h1.gd.rcd r w1.1 w1.2
      have ha:(rsx pr1 c r1).V.act r=0:=by
       show(mv c r1.2.2.1).act r=0
       rw[act_at w1.1 w1.2];exact w2
      rw[ha]at hR
      have hc0:(rsx pr1 c r1).held.count r=0:=by omega
      have:0<r1.2.1.1.held.count r:=List.count_pos_iff.2 (by rw[he1];exact Yc h)
      simp only[rsx,sx]at hc0
      omega
     have hneg:y.s.1.held.getD t 0<0:=by
      obtain⟨r0,hr0⟩:∃r0,k=.reg r0:=by cases k<;>simp[kd]at h20;exact⟨_,rfl⟩
      subst hr0
      obtain⟨u,u1,u2⟩:=SO.d0.reg _ rfl
      have u1:y.s.1.held[t]? = some u:=u1
      rw[hgt]at u1;cases u1;exact u2
     have hfr:=J.free r w1.1 w1.2 hnob
     have hn2:Jf n (rcS c y.m.calls n) cl'=((rcS c y.m.calls n).1.set r.toNat cl.thread,(rcS c y.m.calls n).2.set t r):=by
      unfold Jf;rw[if_pos c6,if_pos (by rw[hc3,hopk,h20]),if_neg (by omega),hv,hc2,hth]
     have hO:=hokn (.inr ⟨fun h=>by have:=SO.bn;omega,fun _ _ _=>⟨hq,by rw[hv];exact w1,by rw[hv,hfr];omega⟩,fun _ h=>by rw[hc3,hopk,h20]at h;omega⟩)
     have hh':(Qg y t i r2).s.1.held=y.s.1.held.set t r:=by show r2.2.1.1.held=_;rw[w3,he1]
     have htl:t<y.s.1.held.length:=by rw[hhl];have:=SO.htT;omega
     have hrl:r.toNat<(rcS c y.m.calls n).1.length:=by rw[J.hl];omega
     refine⟨fun mv hm x hx => ?_,?_,?_,?_,?_,hop⟩
     ·rw[hS mv (by omega)];exact hO mv (by omega) x hx
     ·rw[hone,hn2,hh'];simp only[J.held]
     ·rw[hone,hn2];simp only[List.length_set];exact J.hl
     ·rw[hone,hn2,hh']
      intro t' r' h h0
      simp only[]
      by_cases e:t'=t
      ·subst e
       rw[Ye htl]at h
       cases h
       rw[Ye hrl,SO.thr]
      ·rw[Zx e]at h
       have hne:r'.toNat≠r.toNat:=by
        intro e2
        have:r'=r:=by omega
        subst this
        exact hnob t' h
       rw[Zx hne]
       exact J.hold t' r' h h0
     ·rw[hone,hn2,hh']
      intro r' r0 r1 hno
      have hne:r'≠r:=by
       rintro rfl
       exact hno t (Ye htl)
      simp only[Yb]
      rw[Zx (by omega),←Yb]
      refine J.free r' r0 r1 fun t' h => ?_
      by_cases e:t'=t
      ·subst e
       rw[hgt]at h;cases h;omega
      ·exact hno t' (by rw[Zx e];exact h)
   ·by_cases h21:kd k=21
    ·have w3:=hH.unr h21 hb
     obtain⟨u,hu⟩:∃u,k=.unr u:=by cases k<;>simp[kd]at h21;exact⟨_,rfl⟩
     have hd0:0≤y.s.1.held.getD t 0:=by
      have I:=SO.i0
      subst hu
      exact I.2.1
     have hd1:=(P.core.hget SO.htT).1
     generalize hdd:y.s.1.held.getD t 0=d at hd0 hd1 hgt
     have hgd:(rcS c y.m.calls n).2.getD t 0=d:=by rw[J.held];exact hdd
     have hn2:Jf n (rcS c y.m.calls n) cl'=((rcS c y.m.calls n).1.set d.toNat (-1),(rcS c y.m.calls n).2.set t (-1)):=by
      unfold Jf;rw[if_pos c6,if_neg (by rw[hc3,hopk,h21];omega),if_pos (by rw[hc3,hopk,h21]),hc2,hth,hgd]
     have hO:=hokn (.inr ⟨fun h=>by have:=SO.bn;omega,fun _ h=>by rw[hc3,hopk,h21]at h;omega,fun _ _=>by rw[hc2,hth,hgd];exact⟨hd0,hd1⟩⟩)
     have hh':(Qg y t i r2).s.1.held=y.s.1.held.set t (-1):=by show r2.2.1.1.held=_;rw[w3,he1]
     have htl:t<y.s.1.held.length:=by rw[hhl];have:=SO.htT;omega
     have hown:=J.hold t d hgt hd0
     refine⟨fun mv hm x hx => ?_,?_,?_,?_,?_,hop⟩
     ·rw[hS mv (by omega)];exact hO mv (by omega) x hx
     ·rw[hone,hn2,hh'];simp only[J.held]
     ·rw[hone,hn2];simp only[List.length_set];exact J.hl
     ·rw[hone,hn2,hh']
      intro t' r' h h0
      simp only[]
      by_cases e:t'=t
      ·subst e
       rw[Ye htl]at h
       cases h;omega
      ·rw[Zx e]at h
       have ho:=J.hold t' r' h h0
       have hne:r'.toNat≠d.toNat:=by
        intro e2
        rw[e2,hown]at ho
        simp at ho;omega
       rw[Zx hne]
       exact ho
     ·rw[hone,hn2,hh']
      intro r' r0 r1 hno
      simp only[Yb]
      by_cases e:r'=d
      ·subst e
       rw[Ye (by rw[J.hl];omega)];rfl
      ·rw[Zx (by omega),←Yb]
       refine J.free r' r0 r1 fun t' h => ?_
       by_cases e2:t'=t
       ·subst e2
        rw[hgt]at h;cases h;exact e rfl
       ·exact hno t' (by rw[Zx e2];exact h)
    ·have w3:=hH.oth h20 h21
     have hn2:Jf n (rcS c y.m.calls n) cl'=rcS c y.m.calls n:=by
      unfold Jf;rw[if_pos c6,if_neg (by rw[hc3,hopk];exact h20),if_neg (by rw[hc3,hopk];exact h21)]
     have hO:=hokn (.inr ⟨fun h=>by have:=SO.bn;omega,fun _ h=>by rw[hc3,hopk]at h;exact absurd h h20,fun _ h=>by rw[hc3,hopk]at h;exact absurd h h21⟩)
     have hh':(Qg y t i r2).s.1.held=y.s.1.held:=by show r2.2.1.1.held=_;rw[w3,he1]
     refine⟨fun mv hm x hx => ?_,?_,?_,?_,?_,hop⟩
     ·rw[hS mv (by omega)];exact hO mv (by omega) x hx
     ·rw[hone,hn2,hh'];exact J.held
     ·rw[hone,hn2];exact J.hl
     ·rw[hone,hn2,hh'];exact J.hold
     ·rw[hone,hn2,hh'];exact J.free
  ·have hb':r2.1=false:=by simpa using hb
   rcases hc5 with⟨_,c6⟩|⟨e,_⟩
   ·refine J.next hS (hokn (.inl (by omega))) (fun x hx => ?_) (by show r2.2.1.1.held=_;rw[hH.on hb',he1]) hop
    rw[hc1]at hx
    rcases ZZ hx with rfl|⟨j,hj,hx⟩
    ·omega
    ·exact clok_end (R.cl x (Yc hx))
   ·rw[hb']at e;cases e
end
end Go.Proofs.YtegafhhdegnigaaGreat
