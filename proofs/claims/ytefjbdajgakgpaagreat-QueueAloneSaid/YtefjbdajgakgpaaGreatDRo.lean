import Derived.Test.YtefjbdajgakgpaaGreatDRw
set_option linter.all false
namespace Go.Proofs.YtefjbdajgakgpaaGreat
open Go.RowKit Hp
set_option maxRecDepth 100000
set_option maxHeartbeats 1000000
attribute [local irreducible] Go.Calls
variable [TopR]
structure Sx where
 stk:List Int
 pr:Int→Prop
 V:MV
 sl:Int→Slt
 caches:List (List Int)
 lists:List (List Int)
 held:List Int
def one (b:Bool):Nat:=if b then 1 else 0
def ind (p:Prop)[Decidable p]:Nat:=if p then 1 else 0
theorem ind_pos {p:Prop}[Decidable p](h:p):ind p=1:=if_pos h
theorem ind_neg {p:Prop}[Decidable p](h:¬p):ind p=0:=if_neg h
structure Gd (c:Cfg)(n:Int)(Z Y:Int→Nat)(F:List Int)(x:Sx)(K L:List Int):Prop where
 tot:∀s,F.count s+cnt2 x.caches s+Z s+K.count s+ind (0≤s∧x.V.cell=s+1)+cnt2 x.lists s+x.stk.count s=ind (0≤s∧s<c.Sl)
 stF:∀s∈F,(x.sl s).state=0
 stC:∀(t:Nat) y,x.caches[t]? = some y→∀s∈y,x.sl s=⟨1,(t:Int)⟩
 stX:∀s,0≤s→x.V.cell=s+1→(x.sl s).state=3
 stL:∀l∈x.lists,∀s∈l,(x.sl s).state=5
 stZ:∀s,0<Z s→(x.sl s).state=2∨(x.sl s).state=4∨(x.sl s).state=5
 chain:Jt x.V.nx (x.V.hd%4294967296) F
 hd0:0≤x.V.hd
 tag:x.V.hd / 4294967296≤n
 rcd:∀r,0≤r→r<c.R→((x.held.count r+Y r+L.count r:Nat):Int)=x.V.act r
 act1:∀r,0≤r→r<c.R→x.V.act r=0∨x.V.act r=1
 pr1:∀j,x.pr j→(0≤j∧j<c.R*c.Hz)∧1≤x.V.hz j∧((x.sl (x.V.hz j-1)).state=3∨(x.sl (x.V.hz j-1)).state=4∨(x.sl (x.V.hz j-1)).state=5)
 pr2:∀j,0≤j→j<c.R*c.Hz→1≤x.V.hz j→(x.sl (x.V.hz j-1)).state=3→x.pr j
 stK:∀s∈x.stk,(x.sl s).state=3
 lk:Jt x.V.ln x.V.top x.stk
def Oz (Z:Int→Nat)(t:Nat)(x:Sx)(s:Int):Prop:=0<Z s∨∃(j:Nat) (r:Int),j≠t∧x.held[j]? = some r∧0≤r∧s∈x.lists.getD r.toNat []
def Oc (t:Nat)(x:Sx)(s:Int):Prop:=∃(j:Nat) (y:List Int),j≠t∧x.caches[j]? = some y∧s∈y
structure Rl (Z:Int→Nat)(t:Nat)(W:Int→Prop)(x x':Sx):Prop where
 hd:x'.V.hd=x.V.hd∨x.V.hd / 4294967296<x'.V.hd / 4294967296
 top:x'.V.hd=x.V.hd→∀s,0≤s→x.V.hd%4294967296=s+1→x'.V.nx s=x.V.nx s
 nx:∀s,0<Z s∨Oc t x s→x'.V.nx s=x.V.nx s
 sl:∀s,0<Z s→x'.sl s=x.sl s
 ca:∀j,j≠t→x'.caches[j]? = x.caches[j]?
 he:∀j,j≠t→x'.held[j]? = x.held[j]?
 li:∀(j:Nat) (r:Int),j≠t→x.held[j]? = some r→0≤r→x'.lists.getD r.toNat []=x.lists.getD r.toNat []
 hz:∀j,¬W j→x'.V.hz j=x.V.hz j∧(x.pr j→x'.pr j)
 prn:∀j,x'.pr j→(x.pr j∧x'.V.hz j=x.V.hz j)∨¬Oz Z t x (x'.V.hz j-1)
 val:∀s,0<Z s∨s∈x.stk→x'.V.val s=x.V.val s
 ln:∀s,0<Z s∨((TopR.r=3∨x.V.ln s≠0)∧∃j,¬W j∧x.pr j∧x.V.hz j=s+1)→x'.V.ln s=x.V.ln s
theorem Rl.refl (Z:Int→Nat)(t:Nat)(W:Int→Prop)(x:Sx):Rl Z t W x x:=
 ⟨.inl rfl,fun _ _ _ _=>rfl,fun _ _=>rfl,fun _ _=>rfl,fun _ _=>rfl,fun _ _=>rfl,fun _ _ _ _ _=>rfl,fun _ _=>⟨rfl,id⟩,fun _ h=>.inl ⟨h,rfl⟩,fun _ _=>rfl,fun _ _=>rfl⟩
theorem Rl.oz {Z:Int→Nat}{t:Nat}{W:Int→Prop}{x x':Sx}(R:Rl Z t W x x')(s:Int):Oz Z t x' s↔Oz Z t x s:=by
 constructor
 ·rintro(h|⟨j,r,h1,h2,h3,h4⟩)
  ·exact .inl h
  ·rw[R.he j h1]at h2
   rw[R.li j r h1 h2 h3]at h4
   exact .inr ⟨j,r,h1,h2,h3,h4⟩
 ·rintro(h|⟨j,r,h1,h2,h3,h4⟩)
  ·exact .inl h
  ·rw[←R.li j r h1 h2 h3]at h4
   rw[←R.he j h1]at h2
   exact .inr ⟨j,r,h1,h2,h3,h4⟩
theorem Rl.oc {Z:Int→Nat}{t:Nat}{W:Int→Prop}{x x':Sx}(R:Rl Z t W x x'){s:Int}(h:Oc t x s):Oc t x' s:=by
 obtain⟨j,y,h1,h2,h3⟩:=h
 exact⟨j,y,h1,by rw[R.ca j h1];exact h2,h3⟩
theorem Rl.trans {Z:Int→Nat}{t:Nat}{W:Int→Prop}{x y z:Sx}(A:Rl Z t W x y)(B:Rl Z t W y z)(hs:∀s∈x.stk,s∈y.stk:=by exact fun _ h=>h):Rl Z t W x z:=by
 refine⟨?_,?_,?_,?_,?_,?_,?_,?_,?_,?_,?_⟩
 ·rcases A.hd with a|a<;>rcases B.hd with b|b
  ·exact .inl (b.trans a)
  ·exact .inr (by rw[←a];exact b)
  ·exact .inr (by rw[b];exact a)
  ·exact .inr (by omega)
 ·intro e s s0 hs
  rcases A.hd with a|a
  ·rw[B.top (by rw[e,a]) s s0 (by rw[a];exact hs),A.top a s s0 hs]
  ·exfalso
   rcases B.hd with b|b
   ·rw[b]at e;rw[e]at a;omega
   ·rw[e]at b;omega
 ·intro s h
  rw[B.nx s (h.elim .inl fun h=>.inr (A.oc h)),A.nx s h]
 ·intro s h;rw[B.sl s h,A.sl s h]
 ·intro j h;rw[B.ca j h,A.ca j h]
 ·intro j h;rw[B.he j h,A.he j h]
 ·intro j r h h1 h2;rw[B.li j r h (by rw[A.he j h];exact h1) h2,A.li j r h h1 h2]
 ·intro j h
  exact⟨(B.hz j h).1.trans (A.hz j h).1,fun k=>(B.hz j h).2 ((A.hz j h).2 k)⟩
 ·intro j h
  rcases B.prn j h with⟨h1,h2⟩|h1
  ·rcases A.prn j h1 with⟨h3,h4⟩|h3
   ·exact .inl ⟨h3,h2.trans h4⟩
   ·exact .inr (by rw[h2];exact h3)
  ·exact .inr (fun h2=>h1 ((A.oz _).2 h2))
 ·intro s h;rw[B.val s (h.imp id (hs s)),A.val s h]
 ·intro s h
  rw[B.ln s (h.elim .inl fun⟨h0,j,h1,h2,h3⟩=>.inr ⟨h0.imp id fun h0=>by rw[A.ln s h];exact h0,j,h1,(A.hz j h1).2 h2,by rw[(A.hz j h1).1];exact h3⟩),A.ln s h]
theorem Rl.weaken {Z:Int→Nat}{t:Nat}{W W':Int→Prop}{x y:Sx}(A:Rl Z t W x y)(h:∀j,W j→W' j):Rl Z t W' x y:=
 ⟨A.hd,A.top,A.nx,A.sl,A.ca,A.he,A.li,fun j hj=>A.hz j (fun k=>hj (h j k)),A.prn,A.val,fun s hs=>A.ln s (hs.elim .inl fun⟨h0,j,h1,h2,h3⟩=>.inr ⟨h0,j,fun k=>h1 (h j k),h2,h3⟩)⟩
section
variable {c:Cfg}{n:Int}{Z Y:Int→Nat}{F:List Int}{x:Sx}{K L:List Int}{t:Nat}{W:Int→Prop}
theorem Gd.mono (G:Gd c n Z Y F x K L){n':Int}(h:n≤n'):Gd c n' Z Y F x K L:=
 ⟨G.tot,G.stF,G.stC,G.stX,G.stL,G.stZ,G.chain,G.hd0,by have:=G.tag;omega,G.rcd,G.act1,G.pr1,G.pr2,G.stK,G.lk⟩
theorem ind_le {p:Prop}[Decidable p]:ind p≤1:=by unfold ind;split<;>omega
theorem Gd.range (G:Gd c n Z Y F x K L){s:Int}(h:0<F.count s+cnt2 x.caches s+Z s+K.count s+ind (0≤s∧x.V.cell=s+1)+cnt2 x.lists s+x.stk.count s):0≤s∧s<c.Sl:=by
 have:=G.tot s
 by_cases e:0≤s∧s<c.Sl
 ·exact e
 ·rw[ind_neg e]at this;omega
theorem Gd.le (G:Gd c n Z Y F x K L)(s:Int):F.count s+cnt2 x.caches s+Z s+K.count s+ind (0≤s∧x.V.cell=s+1)+cnt2 x.lists s+x.stk.count s≤1:=by
 rw[G.tot s];exact ind_le
theorem cpos {l:List Int}{s:Int}(h:s∈l):0<l.count s:=List.count_pos_iff.2 h
structure Not (Z:Int→Nat)(F:List Int)(x:Sx)(s:Int):Prop where
 F:s∉F
 ca:cnt2 x.caches s=0
 Z:Z s=0
 cell:¬(0≤s∧x.V.cell=s+1)
 li:cnt2 x.lists s=0
 sk:x.stk.count s=0
 s0:0≤s
theorem Gd.not (G:Gd c n Z Y F x K L){s:Int}(h:s∈K):Not Z F x s:=by
 have h1:=G.le s
 have h2:=cpos h
 have h3:=G.range (s:=s) (by omega)
 refine⟨fun hf => ?_,by omega,by omega,fun hf => ?_,by omega,by omega,h3.1⟩
 ·have:=cpos hf;omega
 ·rw[ind_pos hf]at h1;omega
theorem Not.oz {s:Int}(h:Not Z F x s):¬Oz Z t x s:=by
 rintro(h1|⟨j,r,h1,h2,h3,h4⟩)
 ·have:=h.Z;omega
 ·have hm:x.lists.getD r.toNat []∈x.lists:=by
   rw[Yb]at h4 ⊢
   cases e:x.lists[r.toNat]? with
   | none=>rw[e]at h4;simp at h4
   | some l=>exact Yc e
  have:=cnt2_mem hm h4
  have:=h.li
  omega
theorem Not.oc {s:Int}(h:Not Z F x s):¬Oc t x s:=by
 rintro⟨j,y,h1,h2,h3⟩
 have:=cnt2_at h2 h3
 have:=h.ca
 omega
theorem Gd.next (G:Gd c n Z Y F x K L){s:Int}(h:s∈K)(z:Int):Gd c n Z Y F { x with V:={ x.V with nx:=upd x.V.nx s z } } K L∧Rl Z t W x { x with V:={ x.V with nx:=upd x.V.nx s z } }:=by
 have N:=G.not h
 refine⟨⟨G.tot,G.stF,G.stC,G.stX,G.stL,G.stZ,G.chain.upd N.F,G.hd0,G.tag,G.rcd,G.act1,G.pr1,G.pr2,G.stK,G.lk⟩,.inl rfl,?_,?_,fun _ _=>rfl,fun _ _=>rfl,fun _ _=>rfl,fun _ _ _ _ _=>rfl,fun _ _=>⟨rfl,id⟩,fun _ h=>.inl ⟨h,rfl⟩,fun _ _=>rfl,fun _ _=>rfl⟩
 ·intro _ s' s0 hs
  refine Jw _ _ fun e => ?_
  have hc:=G.chain
  rw[hs]at hc
  cases F with
  | nil=>have:s'+1=0:=hc;omega
  | cons a F=>
   have:s'+1=a+1:=hc.1
   exact N.F (by rw[←e];have:s'=a:=(by omega);rw[this];exact List.mem_cons_self ..)
 ·intro s' h'
  refine Jw _ _ fun e => ?_
  subst e
  rcases h' with h'|h'
  ·have:=N.Z;omega
  ·exact N.oc h'
theorem Gd.state (G:Gd c n Z Y F x K L){s:Int}(h:s∈K)(z:Slt)(h3:z.state≠3)(h5:z.state=5∨z.state=4∨∀j,x.pr j→x.V.hz j≠s+1):Gd c n Z Y F { x with sl:=updS x.sl s z } K L∧Rl Z t W x { x with sl:=updS x.sl s z }:=by
 have N:=G.not h
 have hn:∀s',s'≠s→updS x.sl s z s'=x.sl s':=fun s' e=>updS_ne _ _ e
 refine⟨⟨G.tot,?_,?_,?_,?_,?_,G.chain,G.hd0,G.tag,G.rcd,G.act1,?_,?_,?_,G.lk⟩,.inl rfl,fun _ _ _ _=>rfl,fun _ _=>rfl,?_,fun _ _=>rfl,fun _ _=>rfl,fun _ _ _ _ _=>rfl,fun _ _=>⟨rfl,id⟩,fun _ h=>.inl ⟨h,rfl⟩,fun _ _=>rfl,fun _ _=>rfl⟩
 ·intro s' h'
  dsimp only;rw[hn s' (fun e=>N.F (e▸h'))];exact G.stF s' h'
 ·intro j y hy s' h'
  have hy:x.caches[j]? = some y:=hy
  dsimp only;rw[hn s' (fun e=>by have:=cnt2_at hy h';have:=N.ca;subst e;omega)];exact G.stC j y hy s' h'
 ·intro s' s0 h'
  dsimp only;rw[hn s' (fun e=>N.cell (e▸⟨s0,h'⟩))];exact G.stX s' s0 h'
 ·intro l hl s' h'
  have hl:l∈x.lists:=hl
  dsimp only;rw[hn s' (fun e=>by have:=cnt2_mem hl h';have:=N.li;subst e;omega)];exact G.stL l hl s' h'
 ·intro s' h'
  dsimp only;rw[hn s' (fun e=>by have:=N.Z;subst e;omega)];exact G.stZ s' h'
 ·intro j hj
  obtain⟨p1,p2,p3⟩:=G.pr1 j hj
  refine⟨p1,p2,?_⟩
  show(updS x.sl s z (x.V.hz j-1)).state=3∨(updS x.sl s z (x.V.hz j-1)).state=4∨(updS x.sl s z (x.V.hz j-1)).state=5
  by_cases e:x.V.hz j-1=s
  ·rw[e,Qo]
   rcases h5 with h5|h5|h5
   ·exact .inr (.inr h5)
   ·exact .inr (.inl h5)
   ·exact absurd (by omega) (h5 j hj)
  ·rw[hn _ e];exact p3
 ·intro j j0 j1 j2 j3
  have j3:(updS x.sl s z (x.V.hz j-1)).state=3:=j3
  by_cases e:x.V.hz j-1=s
  ·rw[e,Qo]at j3;exact absurd j3 h3
  ·rw[hn _ e]at j3;exact G.pr2 j j0 j1 j2 j3
 ·intro s' h'
  have h':s'∈x.stk:=h'
  dsimp only;rw[hn s' (fun e=>by have:=cpos h';have:=N.sk;subst e;omega)];exact G.stK s' h'
 ·intro s' h'
  exact hn s' (fun e=>by have:=N.Z;subst e;omega)
theorem Gd.push {s:Int}(G:Gd c n Z Y F x (s::K) L)(hn:n<4294967295)(h0:(x.sl s).state=0)(hx:x.V.nx s=x.V.hd%4294967296)(hS:c.Sl≤1024) :
  Gd c (n+1) Z Y (s::F) { x with V:={ x.V with hd:=(x.V.hd / 4294967296+1)%4294967296*4294967296+(s+1) } } K L∧Rl Z t W x { x with V:={ x.V with hd:=(x.V.hd / 4294967296+1)%4294967296*4294967296+(s+1) } }:=by
 have N:=G.not (List.mem_cons_self ..)
 have R:=G.range (s:=s) (by simp only[List.count_cons_self];omega)
 have g1:=G.hd0
 have g2:=G.tag
 have e1:((x.V.hd / 4294967296+1)%4294967296*4294967296+(s+1)) / 4294967296=x.V.hd / 4294967296+1:=by omega
 have e2:((x.V.hd / 4294967296+1)%4294967296*4294967296+(s+1))%4294967296=s+1:=by omega
 refine⟨⟨?_,?_,G.stC,G.stX,G.stL,G.stZ,?_,?_,?_,G.rcd,G.act1,G.pr1,G.pr2,G.stK,G.lk⟩,.inr ?_,?_,fun _ _=>rfl,fun _ _=>rfl,fun _ _=>rfl,fun _ _=>rfl,fun _ _ _ _ _=>rfl,fun _ _=>⟨rfl,id⟩,fun _ h=>.inl ⟨h,rfl⟩,fun _ _=>rfl,fun _ _=>rfl⟩
 ·intro s'
  have:=G.tot s'
  simp only[List.count_cons]at this ⊢
  omega
 ·intro s' h'
  rcases List.mem_cons.1 h' with rfl|h'
  ·exact h0
  ·exact G.stF s' h'
 ·show Jt x.V.nx (((x.V.hd / 4294967296+1)%4294967296*4294967296+(s+1))%4294967296) (s::F)
  rw[e2]
  exact⟨rfl,R.1,by rw[hx];exact G.chain⟩
 ·show 0≤(x.V.hd / 4294967296+1)%4294967296*4294967296+(s+1);omega
 ·show((x.V.hd / 4294967296+1)%4294967296*4294967296+(s+1)) / 4294967296≤n+1;omega
 ·show x.V.hd / 4294967296<((x.V.hd / 4294967296+1)%4294967296*4294967296+(s+1)) / 4294967296;omega
 ·intro e
  have e:(x.V.hd / 4294967296+1)%4294967296*4294967296+(s+1)=x.V.hd:=e
  rw[e]at e1;omega
theorem Gd.pop (G:Gd c n Z Y F x K L)(hn:n<4294967295)(hS:c.Sl≤1024){s:Int}(s0:0≤s)(hs:x.V.hd%4294967296=s+1)(hx0:0≤x.V.nx s)(hx1:x.V.nx s≤c.Sl) :
  ∃F',F=s::F'∧Gd c (n+1) Z Y F' { x with V:={ x.V with hd:=(x.V.hd / 4294967296+1)%4294967296*4294967296+x.V.nx s } } (s::K) L∧Rl Z t W x { x with V:={ x.V with hd:=(x.V.hd / 4294967296+1)%4294967296*4294967296+x.V.nx s } }:=by
 have g1:=G.hd0
 have g2:=G.tag
 have hc:=G.chain
 rw[hs]at hc
 cases F with
 | nil=>have:s+1=0:=hc;omega
 | cons a F=>
  obtain⟨c1,c2,c3⟩:=hc
  have:a=s:=by omega
  subst this
  have e1:((x.V.hd / 4294967296+1)%4294967296*4294967296+x.V.nx a) / 4294967296=x.V.hd / 4294967296+1:=by omega
  have e2:((x.V.hd / 4294967296+1)%4294967296*4294967296+x.V.nx a)%4294967296=x.V.nx a:=by omega
  refine⟨F,rfl,⟨?_,fun s' h'=>G.stF s' (List.mem_cons_of_mem _ h'),G.stC,G.stX,G.stL,G.stZ,?_,?_,?_,G.rcd,G.act1,G.pr1,G.pr2,G.stK,G.lk⟩,.inr ?_,?_,fun _ _=>rfl,fun _ _=>rfl,fun _ _=>rfl,fun _ _=>rfl,fun _ _ _ _ _=>rfl,fun _ _=>⟨rfl,id⟩,fun _ h=>.inl ⟨h,rfl⟩,fun _ _=>rfl,fun _ _=>rfl⟩
  ·intro s'
   have:=G.tot s'
   simp only[List.count_cons]at this ⊢
   omega
  ·show Jt x.V.nx (((x.V.hd / 4294967296+1)%4294967296*4294967296+x.V.nx a)%4294967296) F
   rw[e2];exact c3
  ·show 0≤(x.V.hd / 4294967296+1)%4294967296*4294967296+x.V.nx a;omega
  ·show((x.V.hd / 4294967296+1)%4294967296*4294967296+x.V.nx a) / 4294967296≤n+1;omega
  ·show x.V.hd / 4294967296<((x.V.hd / 4294967296+1)%4294967296*4294967296+x.V.nx a) / 4294967296;omega
  ·intro e
   have e:(x.V.hd / 4294967296+1)%4294967296*4294967296+x.V.nx a=x.V.hd:=e
   rw[e]at e1;omega
theorem Gd.uncache (G:Gd c n Z Y F x K L){y:List Int}{s:Int}(h:x.caches[t]? = some (y++[s])) :
  Gd c n Z Y F { x with caches:=x.caches.set t y } (s::K) L∧Rl Z t W x { x with caches:=x.caches.set t y }:=by
 have hlt:=(List.getElem?_eq_some_iff.1 h).1
 refine⟨⟨?_,G.stF,?_,G.stX,G.stL,G.stZ,G.chain,G.hd0,G.tag,G.rcd,G.act1,G.pr1,G.pr2,G.stK,G.lk⟩,.inl rfl,fun _ _ _ _=>rfl,fun _ _=>rfl,fun _ _=>rfl,fun j hj=>ZT hj,fun _ _=>rfl,fun _ _ _ _ _=>rfl,fun _ _=>⟨rfl,id⟩,fun _ h=>.inl ⟨h,rfl⟩,fun _ _=>rfl,fun _ _=>rfl⟩
 ·intro s'
  have:=G.tot s'
  have hc:=cnt2_set y s' h
  show F.count s'+cnt2 (x.caches.set t y) s'+Z s'+(s::K).count s'+ind (0≤s'∧x.V.cell=s'+1)+cnt2 x.lists s'+x.stk.count s'=_
  simp only[List.count_cons,List.count_append,List.count_nil]at hc this ⊢
  omega
 ·intro j z hz s' h'
  have hz:(x.caches.set t y)[j]? = some z:=hz
  by_cases e:j=t
  ·subst e
   rw[Ye hlt]at hz
   cases hz
   exact G.stC j _ h s' (List.mem_append_left _ h')
  ·rw[ZT e]at hz
   exact G.stC j z hz s' h'
theorem Gd.cache {s:Int}(G:Gd c n Z Y F x (s::K) L){y:List Int}(h:x.caches[t]? = some y)(hs:x.sl s=⟨1,(t:Int)⟩) :
  Gd c n Z Y F { x with caches:=x.caches.set t (y++[s]) } K L∧Rl Z t W x { x with caches:=x.caches.set t (y++[s]) }:=by
 have hlt:=(List.getElem?_eq_some_iff.1 h).1
 refine⟨⟨?_,G.stF,?_,G.stX,G.stL,G.stZ,G.chain,G.hd0,G.tag,G.rcd,G.act1,G.pr1,G.pr2,G.stK,G.lk⟩,.inl rfl,fun _ _ _ _=>rfl,fun _ _=>rfl,fun _ _=>rfl,fun j hj=>ZT hj,fun _ _=>rfl,fun _ _ _ _ _=>rfl,fun _ _=>⟨rfl,id⟩,fun _ h=>.inl ⟨h,rfl⟩,fun _ _=>rfl,fun _ _=>rfl⟩
 ·intro s'
  have:=G.tot s'
  have hc:=cnt2_set (y++[s]) s' h
  show F.count s'+cnt2 (x.caches.set t (y++[s])) s'+Z s'+K.count s'+ind (0≤s'∧x.V.cell=s'+1)+cnt2 x.lists s'+x.stk.count s'=_
  simp only[List.count_cons,List.count_append,List.count_nil]at hc this ⊢
  omega
 ·intro j z hz s' h'
  have hz:(x.caches.set t (y++[s]))[j]? = some z:=hz
  by_cases e:j=t
  ·subst e
   rw[Ye hlt]at hz
   cases hz
   rcases List.mem_append.1 h' with h'|h'
   ·exact G.stC j _ h s' h'
   ·simp at h';subst h';exact hs
  ·rw[ZT e]at hz
   exact G.stC j z hz s' h'
theorem Gd.link {s:Int}(G:Gd c n Z Y F x (s::K) L)(z:Slt)(hz:z.state=3)(hp:∀j,x.pr j→x.V.hz j≠s+1){K':List Int}(hK:∀s',K'.count s'=K.count s'+ind (0≤s'∧x.V.cell=s'+1)) :
  Gd c n Z Y F { x with pr:=fun j=>x.pr j∨(0≤j∧j<c.R*c.Hz∧x.V.hz j=s+1),V:={ x.V with cell:=s+1 },sl:=updS x.sl s z } K' L∧Rl Z t W x { x with pr:=fun j=>x.pr j∨(0≤j∧j<c.R*c.Hz∧x.V.hz j=s+1),V:={ x.V with cell:=s+1 },sl:=updS x.sl s z }:=by
 have N:=G.not (List.mem_cons_self ..)
 have hn:∀s',s'≠s→updS x.sl s z s'=x.sl s':=fun s' e=>updS_ne _ _ e
 refine⟨⟨?_,?_,?_,?_,?_,?_,G.chain,G.hd0,G.tag,G.rcd,G.act1,?_,?_,?_,G.lk⟩,.inl rfl,fun _ _ _ _=>rfl,fun _ _=>rfl,?_,fun _ _=>rfl,fun _ _=>rfl,fun _ _ _ _ _=>rfl,fun _ _=>⟨rfl,.inl⟩,?_,fun _ _=>rfl,fun _ _=>rfl⟩
 ·intro s'
  have:=G.tot s'
  have hk:=hK s'
  have e:ind (0≤s'∧s+1=s'+1)=[s].count s':=by
   by_cases e:s=s'
   ·subst e;rw[ind_pos ⟨N.s0,rfl⟩];simp
   ·rw[ind_neg (by omega)];simp[e]
  show F.count s'+cnt2 x.caches s'+Z s'+K'.count s'+ind (0≤s'∧s+1=s'+1)+cnt2 x.lists s'+x.stk.count s'=_
  rw[e]
  simp only[List.count_cons,List.count_nil]at this ⊢
  omega
 ·intro s' h'
  show(updS x.sl s z s').state=0
  rw[hn s' (fun e=>N.F (e▸h'))];exact G.stF s' h'
 ·intro j y hy s' h'
  have hy:x.caches[j]? = some y:=hy
  show updS x.sl s z s'=_
  rw[hn s' (fun e=>by have:=cnt2_at hy h';have:=N.ca;subst e;omega)];exact G.stC j y hy s' h'
 ·intro s' s0 h'
  have h':s+1=s'+1:=h'
  have:s'=s:=by omega
  subst this
  show(updS x.sl s' z s').state=3
  rw[Qo];exact hz
 ·intro l hl s' h'
  have hl:l∈x.lists:=hl
  show(updS x.sl s z s').state=5
  rw[hn s' (fun e=>by have:=cnt2_mem hl h';have:=N.li;subst e;omega)];exact G.stL l hl s' h'
 ·intro s' h'
  show(updS x.sl s z s').state=2∨(updS x.sl s z s').state=4∨(updS x.sl s z s').state=5
  rw[hn s' (fun e=>by have:=N.Z;subst e;omega)];exact G.stZ s' h'
 ·rintro j (hj|⟨j0,j1,j2⟩)
  ·obtain⟨p1,p2,p3⟩:=G.pr1 j hj
   refine⟨p1,p2,?_⟩
   show(updS x.sl s z (x.V.hz j-1)).state=3∨(updS x.sl s z (x.V.hz j-1)).state=4∨(updS x.sl s z (x.V.hz j-1)).state=5
   rw[hn _ (by have:=hp j hj;omega)];exact p3
  ·refine⟨⟨j0,j1⟩,?_,?_⟩
   ·show 1≤x.V.hz j;have:=N.s0;omega
   ·show(updS x.sl s z (x.V.hz j-1)).state=3∨_
    have:x.V.hz j-1=s:=by omega
    rw[this,Qo];exact .inl hz
 ·intro j j0 j1 j2 j3
  have j3:(updS x.sl s z (x.V.hz j-1)).state=3:=j3
  have j2:1≤x.V.hz j:=j2
  by_cases e:x.V.hz j-1=s
  ·exact .inr ⟨j0,j1,by omega⟩
  ·rw[hn _ e]at j3;exact .inl (G.pr2 j j0 j1 j2 j3)
 ·intro s' h'
  have h':s'∈x.stk:=h'
  show(updS x.sl s z s').state=3
  rw[hn s' (fun e=>by have:=cpos h';have:=N.sk;subst e;omega)];exact G.stK s' h'
 ·intro s' h'
  exact hn s' (fun e=>by have:=N.Z;subst e;omega)
 ·rintro j (hj|⟨j0,j1,j2⟩)
  ·exact .inl ⟨hj,rfl⟩
  ·right
   show ¬Oz Z t x (x.V.hz j-1)
   have:x.V.hz j-1=s:=by omega
   rw[this];exact N.oz
theorem Gd.alone (G:Gd c n Z Y F x K L){r:Int}{j:Nat}(r0:0≤r)(r1:r<c.R)(h:x.held[t]? = some r)(hj:x.held[j]? = some r):j=t:=by
 have h1:=G.rcd r r0 r1
 have h2:=G.act1 r r0 r1
 have h3:x.held.count r≤1:=by omega
 by_cases e:j=t
 ·exact e
 ·exfalso
  have key:∀ {l:List Int} {i j:Nat},l[i]? = some r→l[j]? = some r→i<j→2≤l.count r:=by
   intro l i j hi hj hij
   have hp:[r,r].Sublist l:=by
    obtain⟨hi1,hi2⟩:=List.getElem?_eq_some_iff.1 hi
    obtain⟨hj1,hj2⟩:=List.getElem?_eq_some_iff.1 hj
    have e1:l.drop i=r::l.drop (i+1):=by rw[List.drop_eq_getElem_cons hi1,hi2]
    have e2:l.drop j=r::l.drop (j+1):=by rw[List.drop_eq_getElem_cons hj1,hj2]
    have s1:(l.drop j).Sublist (l.drop (i+1)):=by
     have:j=(i+1)+(j-(i+1)):=by omega
     rw[this,←List.drop_drop];exact List.drop_sublist ..
    have s2:[r].Sublist (l.drop (i+1)):=((List.singleton_sublist.2 (by rw[e2];exact List.mem_cons_self ..))).trans s1
    have s3:[r,r].Sublist (l.drop i):=by rw[e1];exact s2.cons_cons r
    exact s3.trans (List.drop_sublist ..)
   have:=hp.count_le r
   simpa using this
  rcases Nat.lt_or_gt_of_ne e with h'|h'
  ·have:=key hj h h';omega
  ·have:=key h hj h';omega
theorem Gd.list (G:Gd c n Z Y F x K L){r:Int}(r0:0≤r)(r1:r<c.R)(h:x.held[t]? = some r){l l' K':List Int}(hl:x.lists[r.toNat]? = some l)(hk:∀s,K'.count s+l'.count s=K.count s+l.count s)(h5:∀s∈l',(x.sl s).state=5) :
  Gd c n Z Y F { x with lists:=x.lists.set r.toNat l' } K' L∧Rl Z t W x { x with lists:=x.lists.set r.toNat l' }:=by
 have hlt:=(List.getElem?_eq_some_iff.1 hl).1
 refine⟨⟨?_,G.stF,G.stC,G.stX,?_,G.stZ,G.chain,G.hd0,G.tag,G.rcd,G.act1,G.pr1,G.pr2,G.stK,G.lk⟩,.inl rfl,fun _ _ _ _=>rfl,fun _ _=>rfl,fun _ _=>rfl,fun _ _=>rfl,fun _ _=>rfl,?_,fun _ _=>⟨rfl,id⟩,fun _ h=>.inl ⟨h,rfl⟩,fun _ _=>rfl,fun _ _=>rfl⟩
 ·intro s'
  have:=G.tot s'
  have hc:=cnt2_set l' s' hl
  have:=hk s'
  show F.count s'+cnt2 x.caches s'+Z s'+K'.count s'+ind (0≤s'∧x.V.cell=s'+1)+cnt2 (x.lists.set r.toNat l') s'+x.stk.count s'=_
  omega
 ·intro l2 h2 s' h'
  have h2:l2∈x.lists.set r.toNat l':=h2
  rcases List.mem_or_eq_of_mem_set h2 with h2|rfl
  ·exact G.stL l2 h2 s' h'
  ·exact h5 s' h'
 ·intro j r' hj hr' r0'
  show(x.lists.set r.toNat l').getD r'.toNat []=_
  have hne:r'.toNat≠r.toNat:=by
   intro e
   have:r'=r:=by omega
   subst this
   exact hj (G.alone r0 r1 h hr')
  simp only[Yb,ZT hne]
theorem Gd.hzd (G:Gd c n Z Y F x K L)(jw z:Int)(j0:0≤jw)(j1:jw<c.R*c.Hz) :
  Gd c n Z Y F { x with pr:=fun j=>if j=jw then 1≤z∧(x.sl (z-1)).state=3 else x.pr j,V:={ x.V with hz:=upd x.V.hz jw z } } K L ∧
  Rl Z t (fun j=>j=jw) x { x with pr:=fun j=>if j=jw then 1≤z∧(x.sl (z-1)).state=3 else x.pr j,V:={ x.V with hz:=upd x.V.hz jw z } }:=by
 have ho:∀s,Oz Z t x s→(x.sl s).state≠3:=by
  rintro s (h|⟨j,r,h1,h2,h3,h4⟩)
  ·rcases G.stZ s h with e|e|e<;>omega
  ·have hm:x.lists.getD r.toNat []∈x.lists:=by
    rw[Yb]at h4 ⊢
    cases e:x.lists[r.toNat]? with
    | none=>rw[e]at h4;simp at h4
    | some l=>exact Yc e
   have:=G.stL _ hm s h4
   omega
 refine⟨⟨G.tot,G.stF,G.stC,G.stX,G.stL,G.stZ,G.chain,G.hd0,G.tag,G.rcd,G.act1,?_,?_,G.stK,G.lk⟩,.inl rfl,fun _ _ _ _=>rfl,fun _ _=>rfl,fun _ _=>rfl,fun _ _=>rfl,fun _ _=>rfl,fun _ _ _ _ _=>rfl,?_,?_,fun _ _=>rfl,fun _ _=>rfl⟩
 ·intro j hj
  have hj:if j=jw then 1≤z∧(x.sl (z-1)).state=3 else x.pr j:=hj
  show _∧1≤upd x.V.hz jw z j∧((x.sl (upd x.V.hz jw z j-1)).state=3∨(x.sl (upd x.V.hz jw z j-1)).state=4∨(x.sl (upd x.V.hz jw z j-1)).state=5)
  by_cases e:j=jw
  ·subst e
   rw[if_pos rfl]at hj
   rw[Qm]
   exact⟨⟨j0,j1⟩,hj.1,.inl hj.2⟩
  ·rw[if_neg e]at hj
   rw[Jw _ _ e]
   exact G.pr1 j hj
 ·intro j i0 i1 i2 i3
  have i2:1≤upd x.V.hz jw z j:=i2
  have i3:(x.sl (upd x.V.hz jw z j-1)).state=3:=i3
  show if j=jw then 1≤z∧(x.sl (z-1)).state=3 else x.pr j
  by_cases e:j=jw
  ·subst e
   rw[Qm]at i2 i3
   rw[if_pos rfl];exact⟨i2,i3⟩
  ·rw[Jw _ _ e]at i2 i3
   rw[if_neg e];exact G.pr2 j i0 i1 i2 i3
 ·intro j hj
  refine⟨Jw _ _ hj,fun hp => ?_⟩
  show if j=jw then _ else _
  rw[if_neg hj];exact hp
 ·intro j hj
  have hj:if j=jw then 1≤z∧(x.sl (z-1)).state=3 else x.pr j:=hj
  show(x.pr j∧upd x.V.hz jw z j=x.V.hz j)∨¬Oz Z t x (upd x.V.hz jw z j-1)
  by_cases e:j=jw
  ·subst e
   rw[if_pos rfl]at hj
   rw[Qm]
   exact .inr fun h'=>ho _ h' hj.2
  ·rw[if_neg e]at hj
   rw[Jw _ _ e]
   exact .inl ⟨hj,rfl⟩
theorem Gd.value (G:Gd c n Z Y F x K L){s:Int}(h:s∈K)(z:Int):Gd c n Z Y F { x with V:={ x.V with val:=upd x.V.val s z } } K L∧Rl Z t W x { x with V:={ x.V with val:=upd x.V.val s z } }:=by
 have N:=G.not h
 refine⟨⟨G.tot,G.stF,G.stC,G.stX,G.stL,G.stZ,G.chain,G.hd0,G.tag,G.rcd,G.act1,G.pr1,G.pr2,G.stK,G.lk⟩,.inl rfl,fun _ _ _ _=>rfl,fun _ _=>rfl,fun _ _=>rfl,fun _ _=>rfl,fun _ _=>rfl,fun _ _ _ _ _=>rfl,fun _ _=>⟨rfl,id⟩,fun _ h=>.inl ⟨h,rfl⟩,?_,fun _ _=>rfl⟩
 intro s' h'
 refine Jw _ _ (fun e => ?_)
 subst e
 rcases h' with h'|h'
 ·have:=N.Z;omega
 ·have:=cpos h';have:=N.sk;omega
end
end Go.Proofs.YtefjbdajgakgpaaGreat
