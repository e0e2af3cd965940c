import Derived.Test.YtefjbdajgakgpaaGreatDQueJ
set_option linter.all false
namespace Go.Proofs.YtefjbdajgakgpaaGreat
open Go.RowKit Hp
set_option maxRecDepth 100000
set_option maxHeartbeats 1000000
attribute [local irreducible] Go.Calls
section
instance topQ:TopR:=⟨4,.inr rfl⟩
section
variable {nx:Int→Int}
theorem chain_attach {s:Int}(hs:nx s=0)(s0:0≤s):∀ {pre:List Int} {a x:Int},Jt nx x (pre++[a])→a∉pre→s∉pre→s≠a→Jt (upd nx a (s+1)) x (pre++[a]++[s])
 | [],a,x,h,_,_,hn=>by
  obtain⟨h1,h2,h3⟩:=h
  refine⟨h1,h2,?_⟩
  rw[Qm]
  refine⟨rfl,s0,?_⟩
  rw[Jw _ _ hn,hs]
  rfl
 | b::pre,a,x,h,ha,hp,hn=>by
  obtain⟨h1,h2,h3⟩:=h
  refine⟨h1,h2,?_⟩
  rw[Jw _ _ (fun e=>ha (by rw[e];exact List.mem_cons_self ..))]
  exact chain_attach hs s0 h3 (fun h=>ha (List.mem_cons_of_mem _ h)) (fun h=>hp (List.mem_cons_of_mem _ h)) hn
theorem Jt.last:∀ {pre:List Int} {a x:Int},Jt nx x (pre++[a])→nx a=0
 | [],a,x,h=>h.2.2
 | b::pre,a,x,h=>Jt.last (pre:=pre) h.2.2
theorem Jt.next:∀ {pre:List Int} {a b x:Int} {post:List Int},Jt nx x (pre++a::b::post)→nx a=b+1∧0≤b
 | [],a,b,x,post,h=>⟨h.2.2.1,h.2.2.2.1⟩
 | d::pre,a,b,x,post,h=>Jt.next (pre:=pre) h.2.2
end
theorem app_last {l pre post:List Int}{s b:Int}(h:l++[b]=pre++s::post)(hn:s≠b):∃post0,post=post0++[b]∧l=pre++s::post0:=by
 rcases List.eq_nil_or_concat post with rfl|⟨q,y,rfl⟩
 ·have h1:=congrArg List.getLast? h
  simp at h1
  exact absurd h1.symm hn
 ·rw[List.concat_eq_append]at h ⊢
  have h1:l++[b]=(pre++s::q)++[y]:=by rw[h];simp
  obtain⟨e1,e2⟩:=List.append_inj' h1 rfl
  simp at e2
  exact⟨q,by rw[e2],e1⟩
theorem last_mem {pre pre0 post:List Int}{s a b:Int}(h:pre0++[a,b]=pre++s::post):b∈s::post:=by
 have h1:=congrArg List.getLast? h
 simp[List.getLast?_append,List.getLast?_cons]at h1
 rw[h1]
 cases post with
 | nil=>simp
 | cons y post=>simp[List.getLast?_cons];exact .inr (by
   cases hq:post.getLast? with
   | none=>simp
   | some z=>simp;exact .inr (List.mem_of_getLast? hq))
section
variable {c:Cfg}{n:Int}{Z Y:Int→Nat}{F:List Int}{x x':Sx}{K L:List Int}{t t':Nat}{W:Int→Prop}
theorem Gd.nodup (G:Gd c n Z Y F x K L){pre post:List Int}{s:Int}(h:x.stk=pre++s::post):s∉pre∧s∉post:=by
 have h1:=G.le s
 rw[h]at h1
 simp only[List.count_append,List.count_cons_self]at h1
 exact⟨fun hm=>by have:=cpos hm;omega,fun hm=>by have:=cpos hm;omega⟩
theorem Gd.attach {s a:Int}{pre:List Int}(G:Gd c n Z Y F x (s::K) L)(z:Slt)(hz:z.state=3)(hp:∀j,x.pr j→x.V.hz j≠s+1)(hst:x.stk=pre++[a])(hl:x.V.ln s=0) :
  Gd c n Z Y F { x with stk:=x.stk++[s],pr:=fun j=>x.pr j∨(0≤j∧j<c.R*c.Hz∧x.V.hz j=s+1),V:={ x.V with ln:=upd x.V.ln a (s+1) },sl:=updS x.sl s z } K L∧Rl Z t W x { x with stk:=x.stk++[s],pr:=fun j=>x.pr j∨(0≤j∧j<c.R*c.Hz∧x.V.hz j=s+1),V:={ x.V with ln:=upd x.V.ln a (s+1) },sl:=updS x.sl s z }:=by
 have N:=G.not (List.mem_cons_self ..)
 have hn:∀s',s'≠s→updS x.sl s z s'=x.sl s':=fun s' e=>updS_ne _ _ e
 obtain⟨n1,n2⟩:=G.nodup (s:=a) (pre:=pre) (post:=[]) hst
 have hsk:=N.sk
 have hle:=G.le a
 have hlk:=G.lk
 rw[hst]at hsk hlk
 have hla:x.V.ln a=0:=hlk.last
 have hsp:s∉pre:=fun hm=>by have:=cpos hm;simp only[List.count_append]at hsk;omega
 have hsa:s≠a:=fun e=>by subst e;simp only[List.count_append,List.count_cons_self]at hsk;omega
 refine⟨⟨?_,?_,?_,?_,?_,?_,G.chain,G.hd0,G.tag,G.rcd,G.act1,?_,?_,?_,?_⟩,.inl rfl,fun _ _ _ _=>rfl,fun _ _=>rfl,?_,fun _ _=>rfl,fun _ _=>rfl,fun _ _ _ _ _=>rfl,fun _ _=>⟨rfl,.inl⟩,?_,fun _ _=>rfl,?_⟩
 ·intro s'
  have:=G.tot s'
  simp only[List.count_cons,List.count_append,List.count_nil]at this ⊢
  omega
 ·intro s' h'
  show(updS x.sl s z s').state=0
  rw[hn s' (fun e=>N.F (e▸h'))];exact G.stF s' h'
 ·intro j y hy s' h'
  have hy:x.caches[j]? = some y:=hy
  show updS x.sl s z s'=_
  rw[hn s' (fun e=>by have:=cnt2_at hy h';have:=N.ca;subst e;omega)];exact G.stC j y hy s' h'
 ·intro s' s0 h'
  have h':x.V.cell=s'+1:=h'
  show(updS x.sl s z s').state=3
  rw[hn s' (fun e=>N.cell (e▸⟨s0,h'⟩))];exact G.stX s' s0 h'
 ·intro l hl s' h'
  have hl:l∈x.lists:=hl
  show(updS x.sl s z s').state=5
  rw[hn s' (fun e=>by have:=cnt2_mem hl h';have:=N.li;subst e;omega)];exact G.stL l hl s' h'
 ·intro s' h'
  show(updS x.sl s z s').state=2∨(updS x.sl s z s').state=4∨(updS x.sl s z s').state=5
  rw[hn s' (fun e=>by have:=N.Z;subst e;omega)];exact G.stZ s' h'
 ·rintro j (hj|⟨j0,j1,j2⟩)
  ·obtain⟨p1,p2,p3⟩:=G.pr1 j hj
   refine⟨p1,p2,?_⟩
   show(updS x.sl s z (x.V.hz j-1)).state=3∨(updS x.sl s z (x.V.hz j-1)).state=4∨(updS x.sl s z (x.V.hz j-1)).state=5
   rw[hn _ (by have:=hp j hj;omega)];exact p3
  ·refine⟨⟨j0,j1⟩,?_,?_⟩
   ·show 1≤x.V.hz j;have:=N.s0;omega
   ·show(updS x.sl s z (x.V.hz j-1)).state=3∨_
    have:x.V.hz j-1=s:=by omega
    rw[this,Qo];exact .inl hz
 ·intro j j0 j1 j2 j3
  have j3:(updS x.sl s z (x.V.hz j-1)).state=3:=j3
  have j2:1≤x.V.hz j:=j2
  by_cases e:x.V.hz j-1=s
  ·exact .inr ⟨j0,j1,by omega⟩
  ·rw[hn _ e]at j3;exact .inl (G.pr2 j j0 j1 j2 j3)
 ·intro s' h'
  have h':s'∈x.stk++[s]:=h'
  show(updS x.sl s z s').state=3
  by_cases e:s'=s
  ·rw[e,Qo];exact hz
  ·rw[hn s' e]
   rcases List.mem_append.1 h' with h'|h'
   ·exact G.stK s' h'
   ·exact absurd (List.mem_singleton.1 h') e
 ·show Jt (upd x.V.ln a (s+1)) x.V.top (x.stk++[s])
  rw[hst]
  exact chain_attach hl N.s0 hlk n1 hsp hsa
 ·intro s' h'
  exact hn s' (fun e=>by have:=N.Z;subst e;omega)
 ·rintro j (hj|⟨j0,j1,j2⟩)
  ·exact .inl ⟨hj,rfl⟩
  ·right
   show ¬Oz Z t x (x.V.hz j-1)
   have:x.V.hz j-1=s:=by omega
   rw[this];exact N.oz
 ·intro s' h'
  refine Jw _ _ fun e => ?_
  subst e
  rcases h' with h'|⟨h0,_⟩
  ·rw[hst]at hle
   simp only[List.count_append,List.count_cons_self]at hle
   omega
  ·rcases h0 with h0|h0
   ·exact absurd h0 (show ¬(4:Nat)=3 by decide)
   ·exact h0 hla
theorem Gd.detach {s:Int}{rest:List Int}(G:Gd c n Z Y F x K L)(hs:x.stk=s::rest)(z:Slt)(hz:z.state=4) :
  Gd c n Z Y F { x with stk:=rest,V:={ x.V with top:=x.V.ln s },sl:=updS x.sl s z } (s::K) L∧Rl Z t W x { x with stk:=rest,V:={ x.V with top:=x.V.ln s },sl:=updS x.sl s z }:=by
 have hle:=G.le s
 have hk:=G.lk
 rw[hs]at hle hk
 simp only[List.count_cons_self]at hle
 obtain⟨k1,k2,k3⟩:=hk
 have hn:∀s',s'≠s→updS x.sl s z s'=x.sl s':=fun s' e=>updS_ne _ _ e
 refine⟨⟨?_,?_,?_,?_,?_,?_,G.chain,G.hd0,G.tag,G.rcd,G.act1,?_,?_,?_,k3⟩,.inl rfl,fun _ _ _ _=>rfl,fun _ _=>rfl,?_,fun _ _=>rfl,fun _ _=>rfl,fun _ _ _ _ _=>rfl,fun _ _=>⟨rfl,id⟩,fun _ h=>.inl ⟨h,rfl⟩,fun _ _=>rfl,fun _ _=>rfl⟩
 ·intro s'
  have:=G.tot s'
  rw[hs]at this
  simp only[List.count_cons]at this ⊢
  omega
 ·intro s' h'
  show(updS x.sl s z s').state=0
  rw[hn s' (fun e=>by have:=cpos h';subst e;omega)];exact G.stF s' h'
 ·intro j y hy s' h'
  have hy:x.caches[j]? = some y:=hy
  show updS x.sl s z s'=_
  rw[hn s' (fun e=>by have:=cnt2_at hy h';subst e;omega)];exact G.stC j y hy s' h'
 ·intro s' s0 h'
  have h':x.V.cell=s'+1:=h'
  show(updS x.sl s z s').state=3
  rw[hn s' (fun e=>by subst e;rw[ind_pos ⟨s0,h'⟩]at hle;omega)];exact G.stX s' s0 h'
 ·intro l hl s' h'
  have hl:l∈x.lists:=hl
  show(updS x.sl s z s').state=5
  rw[hn s' (fun e=>by have:=cnt2_mem hl h';subst e;omega)];exact G.stL l hl s' h'
 ·intro s' h'
  show(updS x.sl s z s').state=2∨(updS x.sl s z s').state=4∨(updS x.sl s z s').state=5
  rw[hn s' (fun e=>by subst e;omega)];exact G.stZ s' h'
 ·intro j hj
  obtain⟨p1,p2,p3⟩:=G.pr1 j hj
  refine⟨p1,p2,?_⟩
  show(updS x.sl s z (x.V.hz j-1)).state=3∨(updS x.sl s z (x.V.hz j-1)).state=4∨(updS x.sl s z (x.V.hz j-1)).state=5
  by_cases e:x.V.hz j-1=s
  ·rw[e,Qo];exact .inr (.inl hz)
  ·rw[hn _ e];exact p3
 ·intro j j0 j1 j2 j3
  have j3:(updS x.sl s z (x.V.hz j-1)).state=3:=j3
  by_cases e:x.V.hz j-1=s
  ·rw[e,Qo]at j3;omega
  ·rw[hn _ e]at j3;exact G.pr2 j j0 j1 j2 j3
 ·intro s' h'
  have h':s'∈rest:=h'
  show(updS x.sl s z s').state=3
  rw[hn s' (fun e=>by have:=cpos h';subst e;omega)];exact G.stK s' (by rw[hs];exact List.mem_cons_of_mem _ h')
 ·intro s' h'
  exact hn s' (fun e=>by subst e;omega)
theorem Gd.tie (G:Gd c n Z Y F x K L){s:Int}(h:s∈K)(h2:(x.sl s).state=2)(z:Int):Gd c n Z Y F { x with V:={ x.V with ln:=upd x.V.ln s z } } K L∧Rl Z t W x { x with V:={ x.V with ln:=upd x.V.ln s z } }:=by
 have N:=G.not h
 refine⟨⟨G.tot,G.stF,G.stC,G.stX,G.stL,G.stZ,G.chain,G.hd0,G.tag,G.rcd,G.act1,G.pr1,G.pr2,G.stK,G.lk.upd (fun hm=>by have:=cpos hm;have:=N.sk;omega)⟩,.inl rfl,fun _ _ _ _=>rfl,fun _ _=>rfl,fun _ _=>rfl,fun _ _=>rfl,fun _ _=>rfl,fun _ _ _ _ _=>rfl,fun _ _=>⟨rfl,id⟩,fun _ h=>.inl ⟨h,rfl⟩,fun _ _=>rfl,?_⟩
 intro s' h'
 refine Jw _ _ fun e => ?_
 subst e
 rcases h' with h'|⟨_,j,_,h3,h4⟩
 ·have:=N.Z;omega
 ·obtain⟨_,_,p3⟩:=G.pr1 j h3
  rw[h4,show s'+1-1=s' by omega,h2]at p3
  omega
/-! ## where a slot stands in the queue -/
def InQ (x:Sx)(s:Int):Prop:=s∈x.stk∨x.V.ln s≠0
def HdQ (x:Sx)(s:Int):Prop:=(∃rest,x.stk=s::rest)∨(s∉x.stk∧x.V.ln s≠0)
def TlGe (x:Sx)(tl s:Int):Prop:=∀pre post,x.stk=pre++s::post→∃u,u∈s::post∧tl=u+1
def TlGt (x:Sx)(tl s:Int):Prop:=∀pre post,x.stk=pre++s::post→∃u,u∈post∧tl=u+1
def TlI (stk:List Int)(tl:Int):Prop:=∃pre s post,stk=pre++s::post∧post.length≤1∧tl=s+1
inductive QRl (x:Sx) (tl:Int) (x':Sx) (tl':Int):Prop where
 | same:x'.stk=x.stk→tl'=tl→QRl x tl x' tl'
 | att (s:Int):x'.stk=x.stk++[s]→(x.sl s).state=2→tl'=tl→QRl x tl x' tl'
 | det (s b:Int) (rest:List Int):x.stk=s::b::rest→x'.stk=b::rest→tl'=tl→QRl x tl x' tl'
 | adv (pre:List Int) (s u:Int):x.stk=pre++[s,u]→x'.stk=x.stk→tl=s+1→tl'=u+1→QRl x tl x' tl'
variable {tl tl':Int}{s j:Int}
theorem Gd.prot (G:Gd c n Z Y F x K L)(hp:x.pr j)(hz:x.V.hz j=s+1):(x.sl s).state≠2:=by
 obtain⟨_,_,p3⟩:=G.pr1 j hp
 rw[hz,show s+1-1=s by omega]at p3
 omega
theorem Rl.lnq (R:Rl Z t W x x')(hw:¬W j)(hp:x.pr j)(hz:x.V.hz j=s+1)(h:x.V.ln s≠0):x'.V.ln s=x.V.ln s:=
 R.ln s (.inr ⟨.inr h,j,hw,hp,hz⟩)
theorem InQ.rely (I:InQ x s)(G:Gd c n Z Y F x K L)(R:Rl Z t W x x')(Q:QRl x tl x' tl')(hw:¬W j)(hp:x.pr j)(hz:x.V.hz j=s+1):InQ x' s:=by
 by_cases hl:x.V.ln s=0
 ·have hm:s∈x.stk:=I.resolve_right (fun h=>h hl)
  cases Q with
  | same e _=>exact .inl (by rw[e];exact hm)
  | att s' e _ _=>exact .inl (by rw[e];exact List.mem_append_left _ hm)
  | det s' b rest e e' _=>
   rw[e]at hm
   rcases List.mem_cons.1 hm with h|h
   ·subst h
    have hk:=G.lk
    rw[e]at hk
    obtain⟨h1,h2⟩:=Jt.next (pre:=[]) hk
    omega
   ·exact .inl (by rw[e'];exact h)
  | adv pre a u e e' _ _=>exact .inl (by rw[e'];exact hm)
 ·exact .inr (by rw[R.lnq hw hp hz hl];exact hl)
theorem HdQ.rely (I:HdQ x s)(G:Gd c n Z Y F x K L)(R:Rl Z t W x x')(Q:QRl x tl x' tl')(hw:¬W j)(hp:x.pr j)(hz:x.V.hz j=s+1):HdQ x' s:=by
 have h2:=G.prot hp hz
 rcases I with⟨rest,e0⟩|⟨e0,hl⟩
 ·cases Q with
  | same e _=>exact .inl ⟨rest,by rw[e,e0]⟩
  | att s' e _ _=>exact .inl ⟨rest++[s'],by rw[e,e0];rfl⟩
  | det s' b rest' e e' _=>
   rw[e0]at e
   injection e with e1 e2
   subst e1 e2
   obtain⟨_,n2⟩:=G.nodup (pre:=[]) (post:=b::rest') e0
   have hk:=G.lk
   rw[e0]at hk
   obtain⟨h3,h4⟩:=Jt.next (pre:=[]) hk
   have hl:x.V.ln s≠0:=by omega
   exact .inr ⟨by rw[e'];exact n2,by rw[R.lnq hw hp hz hl];exact hl⟩
  | adv pre a u e e' _ _=>exact .inl ⟨rest,by rw[e',e0]⟩
 ·refine .inr ⟨?_,by rw[R.lnq hw hp hz hl];exact hl⟩
  cases Q with
  | same e _=>rw[e];exact e0
  | att s' e h' _=>
   rw[e]
   intro hm
   rcases List.mem_append.1 hm with h|h
   ·exact e0 h
   ·rw[List.mem_singleton.1 h]at h2;exact h2 h'
  | det s' b rest' e e' _=>
   rw[e']
   intro hm
   exact e0 (by rw[e];exact List.mem_cons_of_mem _ hm)
  | adv pre a u e e' _ _=>rw[e'];exact e0
theorem TlGe.rely (I:TlGe x tl s)(G:Gd c n Z Y F x K L)(Q:QRl x tl x' tl')(hp:x.pr j)(hz:x.V.hz j=s+1):TlGe x' tl' s:=by
 have h2:=G.prot hp hz
 intro pre post h
 cases Q with
 | same e e2=>rw[e2];exact I pre post (by rw[←e];exact h)
 | att s' e h' e2=>
  rw[e]at h
  obtain⟨post0,p1,p2⟩:=app_last h (fun q=>h2 (q▸h'))
  obtain⟨u,u1,u2⟩:=I pre post0 p2
  refine⟨u,?_,e2.trans u2⟩
  rw[p1]
  rcases List.mem_cons.1 u1 with u1|u1
  ·rw[u1];exact List.mem_cons_self ..
  ·exact List.mem_cons_of_mem _ (List.mem_append_left _ u1)
 | det s' b rest e e' e2=>
  rw[e']at h
  obtain⟨u,u1,u2⟩:=I (s'::pre) post (by rw[e,h];rfl)
  exact⟨u,u1,e2.trans u2⟩
 | adv pre0 a u e e' e1 e2=>
  rw[e',e]at h
  exact⟨u,last_mem h,e2⟩
theorem TlGt.rely (I:TlGt x tl s)(G:Gd c n Z Y F x K L)(Q:QRl x tl x' tl')(hp:x.pr j)(hz:x.V.hz j=s+1):TlGt x' tl' s:=by
 have h2:=G.prot hp hz
 intro pre post h
 cases Q with
 | same e e2=>rw[e2];exact I pre post (by rw[←e];exact h)
 | att s' e h' e2=>
  rw[e]at h
  obtain⟨post0,p1,p2⟩:=app_last h (fun q=>h2 (q▸h'))
  obtain⟨u,u1,u2⟩:=I pre post0 p2
  refine⟨u,?_,e2.trans u2⟩
  rw[p1]
  exact List.mem_append_left _ u1
 | det s' b rest e e' e2=>
  rw[e']at h
  obtain⟨u,u1,u2⟩:=I (s'::pre) post (by rw[e,h];rfl)
  exact⟨u,u1,e2.trans u2⟩
 | adv pre0 a u e e' e1 e2=>
  rw[e']at h
  have h0:=h
  obtain⟨w,w1,w2⟩:=I pre post h
  rw[e]at h
  have hm:=last_mem h
  rcases List.mem_cons.1 hm with q|q
  ·exfalso
   subst q
   obtain⟨n1,n2⟩:=G.nodup (s:=u) (pre:=pre0++[a]) (post:=[]) (by rw[e];simp)
   have h5:(pre0++[a])++[u]=pre++u::post:=by rw[←h];simp
   rcases List.eq_nil_or_concat post with r|⟨q',y,r⟩
   ·rw[r]at w1;simp at w1
   ·rw[List.concat_eq_append]at r
    rw[r]at h5
    have h6:(pre0++[a])++[u]=(pre++u::q')++[y]:=by rw[h5];simp
    obtain⟨e5,_⟩:=List.append_inj' h6 rfl
    exact n1 (by rw[e5];simp)
  ·exact⟨u,q,e2⟩
/-! ## what the queue's calls have and know -/
def gtSc (p:Gt):Option Scn:=if p.stage=12 then (match p.retire with|some r=>r.scan|none=>none) else none
def pS (p:Pt):Prop:=(2≤p.stage∧p.stage≤8)∨p.stage=11
instance (p:Pt):Decidable (pS p):=by unfold pS;exact Ii
def gS (p:Gt):Prop:=p.stage=11∧p.got=true
instance (p:Gt):Decidable (gS p):=by unfold gS;exact Ii
def kS:Zx→List Int
 | .hz k=>hS k
 | .put p=>if pS p then [p.slot] else []
 | .get p=>if gS p then [p.h0-1] else (match gtSc p with|some s=>scnP s|none=>[])
def kL:Zx→List Int
 | .hz k=>hL k
 | .put _=>[]
 | .get p=>match gtSc p with|some s=>lkS s|none=>[]
def kSo:Option Zx→List Int
 | some k=>kS k
 | none=>[]
def kLo:Option Zx→List Int
 | some k=>kL k
 | none=>[]
def hz0 (c:Cfg)(t:Nat)(x:Sx):Int:=x.held.getD t 0*c.Hz
structure PtD (c:Cfg)(t:Nat)(x:Sx)(tl:Int)(p:Pt):Prop where
 take:p.stage=1→TkD x p.take
 own:pS p→x.sl p.slot=⟨2,(t:Int)⟩
 val:pS p→p.stage≠2→x.V.val p.slot=p.value%18446744073709551616
 tie:pS p→p.stage≠2→p.stage≠3→x.V.ln p.slot=0
 hz:p.stage=6→x.V.hz (hz0 c t x)=p.t
 pr:p.stage=7∨p.stage=8∨p.stage=9∨p.stage=11→x.pr (hz0 c t x)∧x.V.hz (hz0 c t x)=p.t
 inq:p.stage=7∨p.stage=8→InQ x (p.t-1)∧TlGe x tl (p.t-1)
 n11:p.stage=11→x.V.ln (p.t-1)=p.n
 n9:p.stage=9→x.V.ln (p.t-1)=p.slot+1
structure GtD (c:Cfg)(t:Nat)(x:Sx)(tl:Int)(p:Gt):Prop where
 hz:p.stage=3→x.V.hz (hz0 c t x)=p.h0
 pr:4≤p.stage→p.stage≤10→x.pr (hz0 c t x)∧x.V.hz (hz0 c t x)=p.h0
 hd:4≤p.stage→p.stage≤10→HdQ x (p.h0-1)
 tl:5≤p.stage→p.stage≤10→p.t≠p.h0→TlGt x tl (p.h0-1)
 gt:9≤p.stage→p.stage≤10→p.t≠p.h0
 eq8:p.stage=8→p.t=p.h0
 lnk:6≤p.stage→p.stage≤10→x.V.ln (p.h0-1)=p.n
 hz1:p.stage=7→x.V.hz (hz0 c t x+1)=p.n
 pr1:p.stage=9∨p.stage=10→x.pr (hz0 c t x+1)∧x.V.hz (hz0 c t x+1)=p.n
 val:p.stage=10→p.n-1∈x.stk→p.value=wrap64 (x.V.val (p.n-1))
 own:gS p→x.sl (p.h0-1)=⟨4,(t:Int)⟩
 scan:∀s,gtSc p=some s→ScD t x s
 ng:p.stage≤10→p.got=false
def KD (c:Cfg)(t:Nat)(x:Sx)(tl:Int):Zx→Prop
 | .hz k=>TD c t x k
 | .put p=>PtD c t x tl p
 | .get p=>GtD c t x tl p
def KDs (c:Cfg)(t:Nat)(x:Sx):Zx→Prop
 | .hz k=>TkS k
 | .put p=>(p.stage=1→p.take.at_=3→1≤p.take.head%4294967296)∧(∃r,x.held[t]? = some r∧0≤r∧r<c.R)∧(p.stage=11→1≤p.n)∧(p.stage=9→0≤p.slot)
 | .get p=>(∃r,x.held[t]? = some r∧0≤r∧r<c.R)∧(∀s,gtSc p=some s→0≤s.record)∧(6≤p.stage→p.stage≤10→1≤p.n)
theorem own_hz0 (hok:c.Ok)(h:∃r,x.held[t]? = some r∧0≤r∧r<c.R){k:Int}(k0:0≤k)(k1:k≤1):Own c t x (hz0 c t x+k):=by
 obtain⟨r,h1,h2,h3⟩:=h
 have:=hok.H1
 have e:x.held.getD t 0=r:=by rw[Yb,h1];rfl
 refine⟨r,h1,h2,h3,?_,?_⟩
 ·unfold hz0;rw[e];omega
 ·unfold hz0;rw[e];omega
theorem KD.rely {k:Zx}(hok:c.Ok)(D:KD c t' x tl k)(G:Gd c n Z Y F x K L)(R:Rl Z t W x x')(Q:QRl x tl x' tl')(hne:t'≠t)(hT:KDs c t' x k)(hZ:∀s∈kS k,0<Z s)(hW:∀j,W j→¬Own c t' x j):KD c t' x' tl' k:=by
 have e0:hz0 c t' x'=hz0 c t' x:=by
  unfold hz0
  rw[Yb,Yb,R.he t' hne]
 cases k with
 | hz k=>exact TD.rely D R hne hT hZ hW
 | put p=>
  obtain⟨d1,d2,d3,d4,d5,d6,d7,d8,d9⟩:=D
  obtain⟨hT1,hr,hn,hs⟩:=hT
  have hz:pS p→0<Z p.slot:=fun h=>hZ _ (by simp only[kS];rw[if_pos h];exact List.mem_cons_self ..)
  have ho:=own_hz0 hok hr (k:=0) (by omega) (by omega)
  rw[Int.add_zero]at ho
  have hw:¬W (hz0 c t' x):=fun h=>hW _ h ho
  have hzz:=R.hz _ hw
  refine⟨fun h=>(d1 h).rely R (hT1 h),fun h => ?_,fun h h2 => ?_,fun h h2 h3 => ?_,fun h => ?_,fun h => ?_,fun h => ?_,fun h => ?_,fun h => ?_⟩
  ·rw[R.sl _ (hz h)];exact d2 h
  ·rw[R.val _ (.inl (hz h))];exact d3 h h2
  ·rw[R.ln _ (.inl (hz h))];exact d4 h h2 h3
  ·rw[e0,hzz.1];exact d5 h
  ·rw[e0,hzz.1];exact⟨hzz.2 (d6 h).1,(d6 h).2⟩
  ·obtain⟨q1,q2⟩:=d6 (by omega)
   exact⟨(d7 h).1.rely G R Q hw q1 (by rw[q2];omega),(d7 h).2.rely G Q q1 (by rw[q2];omega)⟩
  ·obtain⟨q1,q2⟩:=d6 (by omega)
   rw[R.lnq hw q1 (by rw[q2];omega) (by rw[d8 h];have:=hn h;omega)];exact d8 h
  ·obtain⟨q1,q2⟩:=d6 (by omega)
   rw[R.lnq hw q1 (by rw[q2];omega) (by rw[d9 h];have:=hs h;omega)];exact d9 h
 | get p=>
  obtain⟨d1,d2,d3,d4,d5,d6,d7,d8,d9,d10,d11,d12,d13⟩:=D
  obtain⟨hr,hs,hn⟩:=hT
  have ho:=own_hz0 hok hr (k:=0) (by omega) (by omega)
  rw[Int.add_zero]at ho
  have hw:¬W (hz0 c t' x):=fun h=>hW _ h ho
  have hzz:=R.hz _ hw
  have hw1:¬W (hz0 c t' x+1):=fun h=>hW _ h (own_hz0 hok hr (by omega) (by omega))
  have hz1:=R.hz _ hw1
  refine⟨fun h => ?_,fun h h2 => ?_,fun h h2 => ?_,fun h h2 h3 => ?_,d5,d6,fun h h2 => ?_,fun h => ?_,fun h => ?_,fun h h2 => ?_,fun h => ?_,fun s h => ?_,d13⟩
  ·rw[e0,hzz.1];exact d1 h
  ·rw[e0,hzz.1];exact⟨hzz.2 (d2 h h2).1,(d2 h h2).2⟩
  ·obtain⟨q1,q2⟩:=d2 h h2
   exact(d3 h h2).rely G R Q hw q1 (by rw[q2];omega)
  ·obtain⟨q1,q2⟩:=d2 (by omega) h2
   exact(d4 h h2 h3).rely G Q q1 (by rw[q2];omega)
  ·obtain⟨q1,q2⟩:=d2 (by omega) h2
   rw[R.lnq hw q1 (by rw[q2];omega) (by rw[d7 h h2];have:=hn h h2;omega)];exact d7 h h2
  ·rw[e0,hz1.1];exact d8 h
  ·rw[e0,hz1.1];exact⟨hz1.2 (d9 h).1,(d9 h).2⟩
  ·obtain⟨q1,q2⟩:=d9 (.inr h)
   have hm:p.n-1∈x.stk:=by
    have h5:=G.prot q1 (s:=p.n-1) (by rw[q2];omega)
    cases Q with
    | same e _=>rw[←e];exact h2
    | att s' e h' _=>
     rw[e]at h2
     rcases List.mem_append.1 h2 with h6|h6
     ·exact h6
     ·rw[List.mem_singleton.1 h6]at h5;exact absurd h' h5
    | det s' b rest e e' _=>rw[e']at h2;rw[e];exact List.mem_cons_of_mem _ h2
    | adv pre a u e e' _ _=>rw[←e'];exact h2
   rw[R.val _ (.inr hm)];exact d10 h hm
  ·rw[R.sl _ (hZ _ (by simp only[kS];rw[if_pos h];exact List.mem_cons_self ..))];exact d11 h
  ·refine(d12 s h).rely R hne (hs s h) fun s0 h0=>hZ s0 ?_
   have h9:p.stage=12:=by
    unfold gtSc at h
    split at h
    ·assumption
    ·cases h
   simp only[kS]
   rw[if_neg (by unfold gS;omega),h]
   exact h0
theorem KD.st {k:Zx}(D:KD c t x tl k)(s:Int)(hs:s∈kS k):(x.sl s).state=2∨(x.sl s).state=4∨(x.sl s).state=5:=by
 cases k with
 | hz k=>exact TD.st D s hs
 | put p=>
  simp only[kS]at hs
  split at hs
  ·rename_i h
   simp only[List.mem_singleton]at hs
   subst hs
   rw[PtD.own D h];exact .inl rfl
  ·simp at hs
 | get p=>
  simp only[kS]at hs
  split at hs
  ·rename_i h
   simp only[List.mem_singleton]at hs
   subst hs
   rw[GtD.own D h];exact .inr (.inl rfl)
  ·cases e:gtSc p with
   | none=>rw[e]at hs;simp at hs
   | some z=>rw[e]at hs;exact .inr (.inr ((GtD.scan D z e).st s hs))
end
end
section
def hzQ (b now:Int):Zx→Prop
 | .hz k=>RdP b now k
 | _=>True
theorem rdp_mono {b n n':Int}{k:Z8}(h:RdP b n k)(hn:n≤n'):RdP b n' k:=by
 cases k with
 | rdg r=>exact fun h3=>⟨(h h3).1,by have:=(h h3).2;omega⟩
 | _=>exact trivial
theorem hzQ_mono {b n n':Int}{k:Zx}(h:hzQ b n k)(hn:n≤n'):hzQ b n' k:=by
 cases k with
 | hz k=>exact rdp_mono h hn
 | _=>exact trivial
theorem rdp_made {s:Haz×Are}{t:Nat}{mv:Mv}{k:Z8}{b n:Int}(h:Qr s t mv=some k):RdP b n k:=by
 unfold Qr at h
 repeat' split at h
 all_goals first
  | (cases h;done)
  | (cases h;exact trivial)
  | (cases h;exact fun h3=>by simp at h3)
theorem qTask_made {s:Haz×Are}{t:Nat}{mv:Mv}{k:Zx}(h:qTask s t mv=some k):(mv.op=40∧k=.put ⟨t,mv.arg,⟨t,1,0,0,0,false⟩,0,0,0,0,0⟩)∨(mv.op=41∧k=.get ⟨t,0,0,0,0,false,0,none,0,0,0⟩)∨(mv.op≠40∧mv.op≠41∧∃q,k=.hz q∧Qr s t mv=some q):=by
 unfold qTask at h
 by_cases h40:mv.op=40
 ·rw[if_pos h40]at h
  split at h
  ·cases h
  ·cases h;exact .inl ⟨h40,rfl⟩
 ·rw[if_neg h40]at h
  by_cases h41:mv.op=41
  ·rw[if_pos h41]at h
   split at h
   ·cases h
   ·cases h;exact .inr (.inl ⟨h41,rfl⟩)
  ·rw[if_neg h41]at h
   cases hq:Qr s t mv with
   | none=>rw[hq]at h;cases h
   | some q=>rw[hq]at h;cases h;exact .inr (.inr ⟨h40,h41,q,rfl,rfl⟩)
theorem hzQ_made {s:Haz×Are}{t:Nat}{mv:Mv}{k:Zx}{b n:Int}(h:qTask s t mv=some k):hzQ b n k:=by
 rcases qTask_made h with⟨_,e⟩|⟨_,e⟩|⟨_,_,q,e,hq⟩
 ·subst e;trivial
 ·subst e;trivial
 ·subst e;exact rdp_made hq
def qQ (c:Cfg)(j:Nat):Prop:=j≠adr c 4 0∧j≠adr c 5 0
section
variable {c:Cfg}{L S N:Nat}{h:Haz}{a:Are}{m m':Mch}{i t:Nat}{cl:Cll}{se:Sea}
theorem q_qok (hc:c.Ok):QOk c (qQ c):=⟨fun j hj=>by
 have e4:=ZY hc 4 (Int.le_refl 0)
 have e5:=ZY hc 5 (Int.le_refl 0)
 obtain⟨q4,q5⟩:=base45 c
 obtain⟨b1,b2,b8,b9,b10,b11,b12,b13,b14,rh,rh2,b3⟩:=Qg hc
 have h2:=hj.2
 exact⟨fun e=>by subst e;omega,fun e=>by subst e;omega⟩⟩
theorem lq_q (hc:c.Ok){j:Nat}(h:HzA c j):qQ c j:=(q_qok hc).q j h
theorem val_q (hc:c.Ok){r:Nat}(hr:r=11∨r=13){i:Int}(h0:0≤i):qQ c (adr c r i):=by
 have e1:=ZY hc r h0
 have e4:=ZY hc 4 (Int.le_refl 0)
 have e5:=ZY hc 5 (Int.le_refl 0)
 obtain⟨q4,q5⟩:=base45 c
 have:=hc.S1
 have:=hc.R1
 obtain⟨b1,b2,b8,b9,b10,b11,b12,b13,b14,rh,rh2,b3⟩:=Qg hc
 rcases hr with rfl|rfl<;>exact⟨fun e=>by omega,fun e=>by omega⟩
theorem hz_q (C:Core c L S N h a m)(ht:(t:Int)<c.T){th k:Int}(hu:th=(t:Int))(hd:0≤h.held.getD t 0)(k0:0≤k)(k1:k≤1):qQ c (qHz h th k):=by
 have hok:=C.ok
 obtain⟨hr1,_⟩:=C.hget ht
 have hza:=hz_adr hok hd hr1 k0 (by have:=hok.H1;omega)
 have:qHz h th k=(base c 9+h.held.getD t 0*c.Hz+k).toNat:=by
  unfold qHz
  rw[hu,C.hc,Yo]
 rw[this]
 exact lq_q hok (hz_lq hok hza.1 hza.2)
theorem QM.nt (q:QM c m.mem.words)(N:Nt (qQ c) m m'):QM c m'.mem.words:=by
 have h4:m'.word (adr c 4 0)=m.word (adr c 4 0):=N.word _ (fun h=>h.1 rfl)
 have h5:m'.word (adr c 5 0)=m.word (adr c 5 0):=N.word _ (fun h=>h.2 rfl)
 unfold Mch.word at h4 h5
 unfold QM
 rw[h4,h5]
 exact q
theorem q45 (hc:c.Ok):adr c 4 0≠adr c 5 0:=by
 have e4:=ZY hc 4 (Int.le_refl 0)
 have e5:=ZY hc 5 (Int.le_refl 0)
 obtain⟨q4,q5⟩:=base45 c
 omega
theorem getD_set_or {l:List Int}{i j:Nat}{z:Int}:(l.set i z).getD j 0=z∨(l.set i z).getD j 0=l.getD j 0:=by
 rw[Yb,Yb,List.getElem?_set]
 split
 ·split
  ·exact .inl rfl
  ·rename_i h1 h2
   subst h1
   exact .inr (by rw[List.getElem?_eq_none (by omega)])
 ·exact .inr rfl
theorem QM.swap (q:QM c m.mem.words)(j:Nat)(u o z:Int)(hz:1≤z∧z≤c.Sl):QM c (m.swap j u o z).mem.words:=by
 have e:(m.swap j u o z).mem.words=if u=o then m.mem.words.set j z else m.mem.words:=rfl
 rw[e]
 split
 ·obtain⟨q1,q2⟩:=q
  refine⟨?_,?_⟩
  ·rcases getD_set_or (l:=m.mem.words) (i:=j) (j:=adr c 4 0) (z:=z) with h|h<;>rw[h]<;>first|exact hz|exact q1
  ·rcases getD_set_or (l:=m.mem.words) (i:=j) (j:=adr c 5 0) (z:=z) with h|h<;>rw[h]<;>first|exact hz|exact q2
 ·exact q
theorem QM.mem (q:QM c m.mem.words)(e:m'.mem=m.mem):QM c m'.mem.words:=by rw[e];exact q
theorem qm_stp {k:Zx}(C:Jz (QM c) c L S N h a m)(hN:N<1000000)(ht:(t:Int)<c.T)(I:QI c t true (h.held.getD t 0) (a.caches.getD t []) k)(hci:ZX m i t cl se)(hb:cl.begin_<m.now)(hp:hzQ cl.begin_ m.now k)(hu:m.used=false) :
  QM c (Q5 (h,a) m i t cl se k).2.2.1.mem.words:=by
 have hok:=C.ok
 haveI:=q_qok hok
 have hc:=C.hc
 have q:=C.mw
 cases k with
 | hz k=>exact q.nt (evq_nt (evq_stp (Q:=qQ c) (i:=i) C.toCore ht I hci.call hci.seat hb hp hu (fun r hr h3=>by
   subst hr
   have I:RdI c r:=I
   have:=I.w (by omega)
   exact val_q hok (.inl rfl) (by omega)) (fun p hp' h1=>by
   subst hp'
   have I:=I.2.2.1 rfl
   obtain⟨kk,hkk,_,k1⟩:=I.take
   obtain⟨g1,g2,g3⟩:=k1 (.inl h1)
   exact val_q hok (.inl rfl) (by omega))))
 | put p=>
  obtain⟨i1,i2,i3,i4⟩:=I
  obtain⟨⟨j1,j2,j3,j4,j5⟩,_⟩:=i4 rfl
  have hZ:=hz_q (th:=p.thread) (k:=0) C.toCore ht i1 i2 (by omega) (by omega)
  simp only[Q5]
  unfold Qc
  rw[hc]
  simp only[]
  by_cases s1:p.stage=1
  ·rw[if_pos s1]
   have Ev:=evq_nt (evq_take (Q:=qQ c) (i:=i) (t:=t) C.toCore (j2 s1) hu)
   have hm:(ptTake a m i t cl se p).2.2.1.mem=(Zh a m p.take).2.2.1.mem:=by
    unfold ptTake
    simp only[]
    split
    ·unfold ZV;split<;>rfl
    ·rfl
   exact(q.nt Ev).mem hm
  rw[if_neg s1]
  obtain⟨g1,g2⟩:=j3 s1
  by_cases s2:p.stage=2
  ·rw[if_pos s2];exact q.nt (QV (Q:=qQ c) _ (val_q hok (.inl rfl) g1) _ _)
  rw[if_neg s2]
  by_cases s3:p.stage=3
  ·rw[if_pos s3];exact q.nt (QV (Q:=qQ c) _ (val_q hok (.inr rfl) g1) _ _)
  rw[if_neg s3]
  by_cases s4:p.stage=4
  ·rw[if_pos s4];exact q
  rw[if_neg s4]
  have hT:=j4 (by omega)
  by_cases s5:p.stage=5
  ·rw[if_pos s5];exact q.nt (QV (Q:=qQ c) _ hZ _ _)
  rw[if_neg s5]
  by_cases s6:p.stage=6
  ·rw[if_pos s6];exact q
  rw[if_neg s6]
  by_cases s7:p.stage=7
  ·rw[if_pos s7];exact q
  rw[if_neg s7]
  by_cases s8:p.stage=8
  ·rw[if_pos s8]
   split
   ·exact(q.nt (nt_swap (Q:=qQ c) _ (val_q hok (.inr rfl) (show 0≤p.t-1 by omega)) _ 0 (p.slot+1))).mem rfl
   ·exact q.nt (nt_swap (Q:=qQ c) _ (val_q hok (.inr rfl) (show 0≤p.t-1 by omega)) _ _ _)
  rw[if_neg s8]
  by_cases s9:p.stage=9
  ·rw[if_pos s9];exact q.swap _ _ _ _ ⟨by omega,by omega⟩
  rw[if_neg s9]
  by_cases s10:p.stage=10
  ·rw[if_pos s10];exact(q.nt (QV (Q:=qQ c) _ hZ _ 0)).mem rfl
  rw[if_neg s10]
  exact q.swap _ _ _ _ (j5 (by omega))
 | get p=>
  obtain⟨i1,i2,i3,i4⟩:=I
  obtain⟨⟨j1,j2,j3,j4,j5,j6,j7⟩,_⟩:=i4 rfl
  have j7:=Lh j7
  have hZ:∀k,0≤k→k≤1→qQ c (qHz h p.thread k):=fun k k0 k1=>hz_q C.toCore ht i1 i2 k0 k1
  simp only[Q5]
  unfold Z6
  rw[hc]
  simp only[]
  by_cases s1:p.stage=1
  ·rw[if_pos s1];exact q
  rw[if_neg s1]
  by_cases s2:p.stage=2
  ·rw[if_pos s2];exact q.nt (QV (Q:=qQ c) _ (hZ 0 (by omega) (by omega)) _ _)
  rw[if_neg s2]
  by_cases s3:p.stage=3
  ·rw[if_pos s3];exact q
  rw[if_neg s3]
  by_cases s4:p.stage=4
  ·rw[if_pos s4];exact q
  rw[if_neg s4]
  by_cases s5:p.stage=5
  ·rw[if_pos s5]
   split
   ·exact q
   ·exact q
  rw[if_neg s5]
  by_cases s6:p.stage=6
  ·rw[if_pos s6];exact q.nt (QV (Q:=qQ c) _ (hZ 1 (by omega) (by omega)) _ _)
  rw[if_neg s6]
  by_cases s7:p.stage=7
  ·rw[if_pos s7];exact q
  rw[if_neg s7]
  by_cases s8:p.stage=8
  ·rw[if_pos s8];exact q.swap _ _ _ _ (j4 (by omega) (by omega))
  rw[if_neg s8]
  by_cases s9:p.stage=9
  ·rw[if_pos s9];exact q
  rw[if_neg s9]
  by_cases s10:p.stage=10
  ·rw[if_pos s10]
   have hn:=j4 (by omega) (by omega)
   split
   ·exact(q.swap (adr c 4 0) (m.word (adr c 4 0)) p.h0 p.n hn).mem rfl
   ·exact q.swap _ _ _ _ hn
  rw[if_neg s10]
  by_cases s11:p.stage=11
  ·rw[if_pos s11]
   have hcl:=j6 s11
   have Q0:QM c (m.store (qHz h p.thread p.cleared) (m.word (qHz h p.thread p.cleared)) 0).mem.words:=q.nt (QV (Q:=qQ c) _ (hZ _ (by omega) (by omega)) _ _)
   unfold gtEnd
   simp only[]
   split
   ·exact Q0
   ·split
    ·exact Q0
    ·refine Q0.mem ?_
     simp only[]
     unfold Zr
     simp only[]
     split<;>rfl
  rw[if_neg s11]
  have s12:p.stage=12:=by omega
  obtain⟨r,sc,e1,e2,e3,e4⟩:=j7.out s12
  rw[e1]
  simp only[e2]
  exact q.nt (evq_nt (evq_scan (Q:=qQ c) (i:=i) (t:=t) C.toCore e3 hu))
end
end
end Go.Proofs.YtefjbdajgakgpaaGreat
