/-
  Any moves keep each slot in one place.
-/
import Derived.Test.YtjagadldibbbbaaGreatCQo5
import Derived.Test.YtjagadldibbbbaaGreatCRange
set_option linter.all false
namespace Go.Proofs.YtjagadldibbbbaaGreat
open Go.RowKit Hp
set_option maxRecDepth 100000
set_option maxHeartbeats 1000000
attribute [local irreducible] Go.Calls
section
section
variable {c:Cfg}{Lg S N:Nat}{h:Haz}{a:Are}{m:Mch}
variable {n:Int}{Z Y:Int→Nat}{F stk:List Int}{pr:Int→Prop}{K L:List Int}{t:Nat}{W:Int→Prop}
theorem step_gd {k:Z7}{i:Nat}{cl:Cll}{se:Sea}(C:Core c Lg S N h a m)(hN:N<1000000)(ht:(t:Int)<c.T)(hm:m.thread=(t:Int))(I:TI c t true (h.held.getD t 0) (a.caches.getD t []) k)(hn:n<4294967295)
  (G:Gd c n Z Y F (sx stk pr c h a m) (hS k) (hL k)) (D:TD c t (sx stk pr c h a m) k):StP stk c n Z Y pr h a m t (ZT (h,a) m i t cl se k):=by
 cases k with
 | reg r=>exact reg_gd C I.1 I.2.1 I.2.2 G D
 | unr u=>exact unr_gd C hN ht hm I.1 I.2.1 I.2.2 hn G D
 | pst p=>exact post_gd C hN ht hm I.1 I.2.1 (I.2.2.1 rfl) hn G D
 | rdg r=>exact read_gd C I G D
 | clr ad=>exact clr_gd C I.1 G D
 | scn s=>exact scn_gd C (I.2.2 rfl) I.1 hm ht hn G D
theorem ready_gd {k:Z7}{i:Nat}{cl:Cll}{se:Sea}(C:Core c Lg S N h a m)(ht:(t:Int)<c.T)(hm:m.thread=(t:Int))(I:TI c t false (h.held.getD t 0) (a.caches.getD t []) k)
  (hfr:hS k=[]∧hL k=[]) (G:Gd c n Z Y F (sx stk pr c h a m) (hS k) (hL k)) (D:TD c t (sx stk pr c h a m) k):StP stk c (n-1) Z Y pr h a m t (Qs (h,a) m i t cl se k):=by
 have id_:StP stk c (n-1) Z Y pr h a m t (false,(h,a),m,k):=⟨pr,F,by simp only[Yn,if_false];exact G.mono (by omega),Rl.refl ..,fun _=>D⟩
 cases k with
 | reg r=>exact id_
 | unr u=>exact id_
 | rdg r=>exact id_
 | clr ad=>exact id_
 | scn s=>
  obtain⟨_,i2,_⟩:=I
  obtain⟨r0,r1,hp⟩:=i2 rfl
  have hlt:t<h.held.length:=by rw[C.held];omega
  obtain⟨n1,n2,n3,n4⟩:=next_sd (h:=h) (s:={ s with at_ := -1 }) (t:=t) (sx stk pr c h a m) (D.scan s rfl).rcd
  rw[hfr.1,hfr.2]at G
  have n2':hS (.scn (ZF h s).2)=[]:=n2
  have n3':hL (.scn (ZF h s).2)=[]:=n3
  refine⟨pr,F,?_,Rl.refl ..,fun _=>td_scn n1⟩
  simp only[Qs,n2',n3',ite_self]
  exact G.mono (by omega)
 | pst p=>
  obtain⟨i1,i2,_,i4⟩:=I
  obtain⟨n1,n2,n3⟩:=i4 rfl
  obtain⟨z1,z2⟩:=hS_pst0 n2
  rw[z1,z2]at G
  simp only[Qs]
  unfold ZM
  simp only[]
  have hR:=takeReady_gd (t:=t) (W:=fun _=>False) (k:=⟨p.thread,1,0,0,0,false⟩) C i1 ht hm G
  have hTk:=takeReady_core (k:=⟨p.thread,1,0,0,0,false⟩) C (by simp only[];omega) (by simp only[];omega)
  generalize Zf a m ⟨p.thread,1,0,0,0,false⟩=r at hR hTk ⊢
  rcases hR with e|⟨e1,e2,e3,e4⟩
  ·cases e
   simp only[Yn,if_false]
   obtain⟨y1,y2⟩:=hS_pst0 (p:={ p with take:=some ⟨p.thread,1,0,0,0,false⟩ }) n2
   refine⟨pr,F,?_,Rl.refl ..,fun _=>td_pst (fun hf=>by simp only[n2]at hf;omega) (fun _ k' hk' => ?_) (fun hf=>by simp only[n2]at hf;omega) (fun hf=>by simp only[n2]at hf;omega)⟩
   ·simp only[Yn,if_false,y1,y2];exact G.mono (by omega)
   ·simp only[Option.some.injEq]at hk'
    subst hk'
    exact⟨fun hf=>absurd rfl hf,fun hf=>by simp at hf⟩
  ·rw[if_pos e1]
   rcases hTk with e|⟨_,_,q,_⟩
   ·rw[e]at e1;cases e1
   ·have e2:Gd c (n-1+1) Z Y F (sx stk pr c h r.2.1 r.2.2.1) [Ze r.2.2.2] []:=e2.mono (by omega)
    have Q:=took_gd (n:=n-1+1) (i:=i) (cl:=cl) (se:=se) (h:=h) (a:=a) (m:=m) (p:={ p with take:=some r.2.2.2 }) (.inr q.1) (by rw[if_pos q.1];exact e2) e3 (fun _=>e4)
    obtain⟨pr',F2,q1,q2,q3⟩:=Q
    refine⟨pr',F2,?_,q2,q3⟩
    have tg:(mv c (ZD r.2.2.1 i t cl se { p with take:=some r.2.2.2 } r.2.2.2).2.1).hd / 4294967296≤n-1+1:=by
     have:=e2.tag
     have ew:(ZD r.2.2.1 i t cl se { p with take:=some r.2.2.2 } r.2.2.2).2.1.mem.words=r.2.2.1.mem.words:=by unfold ZD;split<;>rfl
     rw[mv_same ew];exact this
    exact⟨q1.tot,q1.stF,q1.stC,q1.stX,q1.stL,q1.stZ,q1.chain,q1.hd0,tg,q1.rcd,q1.act1,q1.pr1,q1.pr2,q1.stK,q1.lk⟩
theorem count_focus {tasks:List (Option Z7)}(f:Option Z7→List Int)(f0:f none=[]){t:Nat}{o:Option Z7}(h:tasks[t]? = some o)(s:Int) :
  cnt2 (tasks.map f) s=cnt2 ((tasks.set t none).map f) s+(f o).count s:=by
 have h1:(tasks.map f)[t]? = some (f o):=by rw[Ym,h];rfl
 have:=cnt2_set [] s h1
 rw[Yk,f0]
 simp only[List.count_nil]at this
 omega
theorem Gd.focus {x:Sx}{tasks:List (Option Z7)}{t:Nat}{o:Option Z7}(G:Gd c n (cnt2 (tasks.map tS)) (cnt2 (tasks.map tL)) F x [] [])(h:tasks[t]? = some o) :
  Gd c n (cnt2 ((tasks.set t none).map tS)) (cnt2 ((tasks.set t none).map tL)) F x (tS o) (tL o):=by
 refine⟨fun s => ?_,G.stF,G.stC,G.stX,G.stL,fun s hs=>G.stZ s ?_,G.chain,G.hd0,G.tag,fun r r0 r1 => ?_,G.act1,G.pr1,G.pr2,G.stK,G.lk⟩
 ·have:=G.tot s
  rw[count_focus tS rfl h s]at this
  simp only[List.count_nil]at this
  omega
 ·rw[count_focus tS rfl h s];omega
 ·have:=G.rcd r r0 r1
  rw[count_focus tL rfl h r]at this
  simp only[List.count_nil]at this
  omega
theorem TD.st {x:Sx}{k:Z7}(D:TD c t x k)(s:Int)(hs:s∈hS k):(x.sl s).state=2∨(x.sl s).state=4∨(x.sl s).state=5:=by
 unfold hS at hs
 rcases List.mem_append.1 hs with hs|hs
 ·rw[D.own s hs];exact .inl rfl
 ·unfold hP at hs
  cases e:scOf k with
  | none=>rw[e]at hs;simp at hs
  | some z=>rw[e]at hs;exact .inr (.inr ((D.scan z e).st s hs))
theorem made_td {mv:Mv}{k:Z7}(C:Core c Lg S N h a m)(ht:(t:Int)<c.T)(hk:Z0 (h,a) t mv=some k):hS k=[]∧hL k=[]∧TD c t (sx stk pr c h a m) k:=by
 have hc:=C.hc
 have hok:=C.ok
 obtain⟨r1,r0⟩:=C.hget ht
 have hlt:t<h.held.length:=by rw[C.held];omega
 have hh:h.held[t]? = some (h.held.getD t 0):=by rw[Yb,Yd hlt];rfl
 unfold Z0 at hk
 simp only[hc]at hk
 generalize h.held.getD t 0=hd at hk r0 r1 hh
 split at hk
 ·split at hk
  ·rename_i hneg;cases hk;exact⟨rfl,rfl,td_reg hh hneg⟩
  ·cases hk
 ·split at hk
  ·cases hk
  ·rename_i hnn
   split at hk
   ·cases hk
    obtain⟨z1,z2⟩:=hS_unr (u:=⟨t,0,0,none,none⟩) (by simp)
    exact⟨z1,z2,td_unr (fun hf=>by simp at hf) (fun hf=>by simp at hf)⟩
   ·split at hk
    ·cases hk
     obtain⟨z1,z2⟩:=hS_pst0 (p:=⟨t,mv.arg,0,none,0,0,none⟩) rfl
     exact⟨z1,z2,td_pst (fun hf=>by simp at hf) (fun _ k' hk'=>(by cases hk')) (fun hf=>by simp at hf) (fun hf=>by simp at hf)⟩
    ·split at hk
     ·split at hk
      ·rename_i hb
       cases hk
       exact⟨rfl,rfl,td_rdg ⟨hd,hh,by omega,r1,by simp only[];omega,by simp only[];omega⟩ (fun hf=>by simp at hf) (fun hf=>by simp at hf)⟩
      ·cases hk
     ·split at hk
      ·split at hk
       ·rename_i hb
        obtain⟨a1,a2⟩:=hz_adr hok (by omega) r1 hb.1 hb.2
        have:=(ZB hok 9).1
        cases hk
        refine⟨rfl,rfl,td_clr ⟨hd,hh,by omega,r1,?_,?_⟩⟩<;>omega
       ·cases hk
      ·cases hk
       exact⟨rfl,rfl,td_scn ⟨hh,fun hf=>by simp at hf,fun hf=>by simp at hf,fun s0 h0=>by simp[scnP]at h0,fun s0 h0=>by simp[scnP]at h0⟩⟩
theorem TkS.of {k:Z7}{rdy:Bool}{hd:Int}{ca:List Int}(I:TI c t rdy hd ca k)(hf:rdy=false→hS k=[]∧hL k=[]):(∀s,scOf k=some s→0≤s.record)∧TkS k:=by
 have key:∀s,scOf k=some s→0≤s.record:=by
  intro s hs
  cases k with
  | reg r=>cases hs
  | rdg r=>cases hs
  | clr r=>cases hs
  | scn z=>
   simp only[scOf,Option.some.injEq]at hs;subst hs
   cases rdy with
   | false=>exact(I.2.1 rfl).1
   | true=>exact(I.2.2 rfl).rec0
  | unr u=>
   obtain⟨_,_,J⟩:=I
   simp only[scOf]at hs
   split at hs
   ·rename_i h1
    obtain⟨z,e1,e2,_⟩:=J.scan h1
    rw[e1]at hs;cases hs;exact e2.rec0
   ·cases hs
  | pst p=>
   obtain⟨_,_,J1,J2⟩:=I
   simp only[scOf]at hs
   split at hs
   ·rename_i h1
    cases rdy with
    | false=>have:=(J2 rfl).2.1;omega
    | true=>
     obtain⟨r,z,e1,e2,e3,_⟩:=(J1 rfl).ret h1
     rw[e1]at hs;simp only[e2]at hs;cases hs;exact e3.rec0
   ·cases hs
 refine⟨key,key,?_⟩
 rintro p rfl h0 k' hk h3
 obtain⟨_,_,J1,J2⟩:=I
 cases rdy with
 | false=>rw[(J2 rfl).1]at hk;cases hk
 | true=>
  obtain⟨⟨k2,e1,e2,_⟩,_⟩:=J1 rfl
  rw[hk]at e1;cases e1
  exact((e2 h0).head (by omega)).2.1
end
end
section
section
variable {c:Cfg}{n:Int}{Z Y:Int→Nat}{F:List Int}{x x':Sx}{K L:List Int}{t t':Nat}{W:Int→Prop}
theorem Gd.attach {s:Int}(G:Gd c n Z Y F x (s::K) L)(z:Slt)(hz:z.state=3)(hp:∀j,x.pr j→x.V.hz j≠s+1)(hl:x.V.ln s=x.V.top) :
  Gd c n Z Y F { x with stk:=s::x.stk,pr:=fun j=>x.pr j∨(0≤j∧j<c.R*c.Hz∧x.V.hz j=s+1),V:={ x.V with top:=s+1 },sl:=updS x.sl s z } K L∧Rl Z t W x { x with stk:=s::x.stk,pr:=fun j=>x.pr j∨(0≤j∧j<c.R*c.Hz∧x.V.hz j=s+1),V:={ x.V with top:=s+1 },sl:=updS x.sl s z }:=by
 have N:=G.not (List.mem_cons_self ..)
 have hn:∀s',s'≠s→updS x.sl s z s'=x.sl s':=fun s' e=>updS_ne _ _ e
 refine⟨⟨?_,?_,?_,?_,?_,?_,G.chain,G.hd0,G.tag,G.rcd,G.act1,?_,?_,?_,⟨rfl,N.s0,by rw[hl];exact G.lk⟩⟩,.inl rfl,fun _ _ _ _=>rfl,fun _ _=>rfl,?_,fun _ _=>rfl,fun _ _=>rfl,fun _ _ _ _ _=>rfl,fun _ _=>⟨rfl,.inl⟩,?_,fun _ _=>rfl,fun _ _=>rfl⟩
 ·intro s'
  have:=G.tot s'
  simp only[List.count_cons]at this ⊢
  omega
 ·intro s' h'
  show(updS x.sl s z s').state=0
  rw[hn s' (fun e=>N.F (e▸h'))];exact G.stF s' h'
 ·intro j y hy s' h'
  have hy:x.caches[j]? = some y:=hy
  show updS x.sl s z s'=_
  rw[hn s' (fun e=>by have:=cnt2_at hy h';have:=N.ca;subst e;omega)];exact G.stC j y hy s' h'
 ·intro s' s0 h'
  have h':x.V.cell=s'+1:=h'
  show(updS x.sl s z s').state=3
  rw[hn s' (fun e=>N.cell (e▸⟨s0,h'⟩))];exact G.stX s' s0 h'
 ·intro l hl s' h'
  have hl:l∈x.lists:=hl
  show(updS x.sl s z s').state=5
  rw[hn s' (fun e=>by have:=cnt2_mem hl h';have:=N.li;subst e;omega)];exact G.stL l hl s' h'
 ·intro s' h'
  show(updS x.sl s z s').state=2∨(updS x.sl s z s').state=4∨(updS x.sl s z s').state=5
  rw[hn s' (fun e=>by have:=N.Z;subst e;omega)];exact G.stZ s' h'
 ·rintro j (hj|⟨j0,j1,j2⟩)
  ·obtain⟨p1,p2,p3⟩:=G.pr1 j hj
   refine⟨p1,p2,?_⟩
   show(updS x.sl s z (x.V.hz j-1)).state=3∨(updS x.sl s z (x.V.hz j-1)).state=4∨(updS x.sl s z (x.V.hz j-1)).state=5
   rw[hn _ (by have:=hp j hj;omega)];exact p3
  ·refine⟨⟨j0,j1⟩,?_,?_⟩
   ·show 1≤x.V.hz j;have:=N.s0;omega
   ·show(updS x.sl s z (x.V.hz j-1)).state=3∨_
    have:x.V.hz j-1=s:=by omega
    rw[this,Z8];exact .inl hz
 ·intro j j0 j1 j2 j3
  have j3:(updS x.sl s z (x.V.hz j-1)).state=3:=j3
  have j2:1≤x.V.hz j:=j2
  by_cases e:x.V.hz j-1=s
  ·exact .inr ⟨j0,j1,by omega⟩
  ·rw[hn _ e]at j3;exact .inl (G.pr2 j j0 j1 j2 j3)
 ·intro s' h'
  have h':s'∈s::x.stk:=h'
  show(updS x.sl s z s').state=3
  by_cases e:s'=s
  ·rw[e,Z8];exact hz
  ·rw[hn s' e]
   rcases List.mem_cons.1 h' with h'|h'
   ·exact absurd h' e
   ·exact G.stK s' h'
 ·intro s' h'
  exact hn s' (fun e=>by have:=N.Z;subst e;omega)
 ·rintro j (hj|⟨j0,j1,j2⟩)
  ·exact .inl ⟨hj,rfl⟩
  ·right
   show ¬Oz Z t x (x.V.hz j-1)
   have:x.V.hz j-1=s:=by omega
   rw[this];exact N.oz
theorem Gd.detach {s:Int}{rest:List Int}(G:Gd c n Z Y F x K L)(hs:x.stk=s::rest)(z:Slt)(hz:z.state=4) :
  Gd c n Z Y F { x with stk:=rest,V:={ x.V with top:=x.V.ln s },sl:=updS x.sl s z } (s::K) L∧Rl Z t W x { x with stk:=rest,V:={ x.V with top:=x.V.ln s },sl:=updS x.sl s z }:=by
 have hle:=G.le s
 have hk:=G.lk
 rw[hs]at hle hk
 simp only[List.count_cons_self]at hle
 obtain⟨k1,k2,k3⟩:=hk
 have hn:∀s',s'≠s→updS x.sl s z s'=x.sl s':=fun s' e=>updS_ne _ _ e
 refine⟨⟨?_,?_,?_,?_,?_,?_,G.chain,G.hd0,G.tag,G.rcd,G.act1,?_,?_,?_,k3⟩,.inl rfl,fun _ _ _ _=>rfl,fun _ _=>rfl,?_,fun _ _=>rfl,fun _ _=>rfl,fun _ _ _ _ _=>rfl,fun _ _=>⟨rfl,id⟩,fun _ h=>.inl ⟨h,rfl⟩,fun _ _=>rfl,fun _ _=>rfl⟩
 ·intro s'
  have:=G.tot s'
  rw[hs]at this
  simp only[List.count_cons]at this ⊢
  omega
 ·intro s' h'
  show(updS x.sl s z s').state=0
  rw[hn s' (fun e=>by have:=cpos h';subst e;omega)];exact G.stF s' h'
 ·intro j y hy s' h'
  have hy:x.caches[j]? = some y:=hy
  show updS x.sl s z s'=_
  rw[hn s' (fun e=>by have:=cnt2_at hy h';subst e;omega)];exact G.stC j y hy s' h'
 ·intro s' s0 h'
  have h':x.V.cell=s'+1:=h'
  show(updS x.sl s z s').state=3
  rw[hn s' (fun e=>by subst e;rw[ind_pos ⟨s0,h'⟩]at hle;omega)];exact G.stX s' s0 h'
 ·intro l hl s' h'
  have hl:l∈x.lists:=hl
  show(updS x.sl s z s').state=5
  rw[hn s' (fun e=>by have:=cnt2_mem hl h';subst e;omega)];exact G.stL l hl s' h'
 ·intro s' h'
  show(updS x.sl s z s').state=2∨(updS x.sl s z s').state=4∨(updS x.sl s z s').state=5
  rw[hn s' (fun e=>by subst e;omega)];exact G.stZ s' h'
 ·intro j hj
  obtain⟨p1,p2,p3⟩:=G.pr1 j hj
  refine⟨p1,p2,?_⟩
  show(updS x.sl s z (x.V.hz j-1)).state=3∨(updS x.sl s z (x.V.hz j-1)).state=4∨(updS x.sl s z (x.V.hz j-1)).state=5
  by_cases e:x.V.hz j-1=s
  ·rw[e,Z8];exact .inr (.inl hz)
  ·rw[hn _ e];exact p3
 ·intro j j0 j1 j2 j3
  have j3:(updS x.sl s z (x.V.hz j-1)).state=3:=j3
  by_cases e:x.V.hz j-1=s
  ·rw[e,Z8]at j3;omega
  ·rw[hn _ e]at j3;exact G.pr2 j j0 j1 j2 j3
 ·intro s' h'
  have h':s'∈rest:=h'
  show(updS x.sl s z s').state=3
  rw[hn s' (fun e=>by have:=cpos h';subst e;omega)];exact G.stK s' (by rw[hs];exact List.mem_cons_of_mem _ h')
 ·intro s' h'
  exact hn s' (fun e=>by subst e;omega)
theorem Gd.tie (G:Gd c n Z Y F x K L){s:Int}(h:s∈K)(h2:(x.sl s).state=2)(z:Int):Gd c n Z Y F { x with V:={ x.V with ln:=upd x.V.ln s z } } K L∧Rl Z t W x { x with V:={ x.V with ln:=upd x.V.ln s z } }:=by
 have N:=G.not h
 refine⟨⟨G.tot,G.stF,G.stC,G.stX,G.stL,G.stZ,G.chain,G.hd0,G.tag,G.rcd,G.act1,G.pr1,G.pr2,G.stK,G.lk.upd (fun hm=>by have:=cpos hm;have:=N.sk;omega)⟩,.inl rfl,fun _ _ _ _=>rfl,fun _ _=>rfl,fun _ _=>rfl,fun _ _=>rfl,fun _ _=>rfl,fun _ _ _ _ _=>rfl,fun _ _=>⟨rfl,id⟩,fun _ h=>.inl ⟨h,rfl⟩,fun _ _=>rfl,?_⟩
 intro s' h'
 refine upd_ne _ _ fun e => ?_
 subst e
 rcases h' with h'|⟨j,_,h3,h4⟩
 ·have:=N.Z;omega
 ·obtain⟨_,_,p3⟩:=G.pr1 j h3
  rw[h4,show s'+1-1=s' by omega,h2]at p3
  omega
end
/-! ## what the stack's calls have and know -/
def poSc (p:Po):Option Scn:=if p.stage=9 then (match p.retire with|some r=>r.scan|none=>none) else none
def kS:Zt→List Int
 | .hz k=>hS k
 | .psh p=>if p.stage=2∨p.stage=3∨p.stage=4∨p.stage=5 then [p.slot] else []
 | .pop p=>if p.stage=6∨p.stage=7 then [p.top-1] else (match poSc p with|some s=>scnP s|none=>[])
def kL:Zt→List Int
 | .hz k=>hL k
 | .psh _=>[]
 | .pop p=>match poSc p with|some s=>lkS s|none=>[]
def kSo:Option Zt→List Int
 | some k=>kS k
 | none=>[]
def kLo:Option Zt→List Int
 | some k=>kL k
 | none=>[]
structure PuD (t:Nat)(x:Sx)(p:Pu):Prop where
 take:p.stage=1→TkD x p.take
 own:p.stage=2∨p.stage=3∨p.stage=4∨p.stage=5→x.sl p.slot=⟨2,(t:Int)⟩
 val:p.stage=3∨p.stage=4∨p.stage=5→x.V.val p.slot=p.value%18446744073709551616
 tie:p.stage=5→x.V.ln p.slot=p.top
def hz0 (c:Cfg)(t:Nat)(x:Sx):Int:=x.held.getD t 0*c.Hz
structure PoD (c:Cfg)(t:Nat)(x:Sx)(p:Po):Prop where
 hz:p.stage=3→x.V.hz (hz0 c t x)=p.top
 pr:p.stage=4∨p.stage=5→x.pr (hz0 c t x)∧x.V.hz (hz0 c t x)=p.top
 lnk:p.stage=5→x.V.ln (p.top-1)=p.behind
 own:p.stage=6∨p.stage=7→x.sl (p.top-1)=⟨4,(t:Int)⟩
 val:p.stage=7→p.value=wrap64 (x.V.val (p.top-1))
 scan:∀s,poSc p=some s→ScD t x s
def KD (c:Cfg)(t:Nat)(x:Sx):Zt→Prop
 | .hz k=>TD c t x k
 | .psh p=>PuD t x p
 | .pop p=>PoD c t x p
def KDs (c:Cfg)(t:Nat)(x:Sx):Zt→Prop
 | .hz k=>TkS k
 | .psh p=>p.stage=1→p.take.at_=3→1≤p.take.head%4294967296
 | .pop p=>(∃r,x.held[t]? = some r∧0≤r∧r<c.R)∧(∀s,poSc p=some s→0≤s.record)
section
variable {c:Cfg}{n:Int}{Z Y:Int→Nat}{F:List Int}{x x':Sx}{K L:List Int}{t t':Nat}{W:Int→Prop}
theorem own_hz0 (hok:c.Ok)(h:∃r,x.held[t]? = some r∧0≤r∧r<c.R):Own c t x (hz0 c t x):=by
 obtain⟨r,h1,h2,h3⟩:=h
 have:=hok.H1
 have e:x.held.getD t 0=r:=by rw[Yb,h1];rfl
 refine⟨r,h1,h2,h3,?_,?_⟩
 ·unfold hz0;rw[e];omega
 ·unfold hz0;rw[e];omega
theorem KD.rely {k:Zt}(hok:c.Ok)(D:KD c t' x k)(R:Rl Z t W x x')(hne:t'≠t)(hT:KDs c t' x k)(hZ:∀s∈kS k,0<Z s)(hW:∀j,W j→¬Own c t' x j):KD c t' x' k:=by
 cases k with
 | hz k=>exact TD.rely D R hne hT hZ hW
 | psh p=>
  obtain⟨d1,d2,d3,d4⟩:=D
  have hz:p.stage=2∨p.stage=3∨p.stage=4∨p.stage=5→0<Z p.slot:=fun h=>hZ _ (by simp only[kS];rw[if_pos h];exact List.mem_cons_self ..)
  refine⟨fun h=>(d1 h).rely R (hT h),fun h => ?_,fun h => ?_,fun h => ?_⟩
  ·rw[R.sl _ (hz h)];exact d2 h
  ·rw[R.val _ (.inl (hz (by omega)))];exact d3 h
  ·rw[R.ln _ (.inl (hz (by omega)))];exact d4 h
 | pop p=>
  obtain⟨d1,d2,d3,d4,d5,d6⟩:=D
  obtain⟨hr,hs⟩:=hT
  have ho:=own_hz0 hok hr
  have hw:¬W (hz0 c t' x):=fun h=>hW _ h ho
  have e0:hz0 c t' x'=hz0 c t' x:=by
   unfold hz0
   rw[Yb,Yb,R.he t' hne]
  have hz:=R.hz _ hw
  have hZ6:p.stage=6∨p.stage=7→0<Z (p.top-1):=fun h=>hZ _ (by simp only[kS];rw[if_pos h];exact List.mem_cons_self ..)
  refine⟨fun h => ?_,fun h => ?_,fun h => ?_,fun h => ?_,fun h => ?_,fun s h => ?_⟩
  ·rw[e0,hz.1];exact d1 h
  ·rw[e0,hz.1];exact⟨hz.2 (d2 h).1,(d2 h).2⟩
  ·rw[R.ln _ (.inr ⟨hz0 c t' x,hw,(d2 (.inr h)).1,by rw[(d2 (.inr h)).2];omega⟩)];exact d3 h
  ·rw[R.sl _ (hZ6 h)];exact d4 h
  ·rw[R.val _ (.inl (hZ6 (.inr h)))];exact d5 h
  ·refine(d6 s h).rely R hne (hs s h) fun s0 h0=>hZ s0 ?_
   have h9:p.stage=9:=by
    unfold poSc at h
    split at h
    ·assumption
    ·cases h
   simp only[kS]
   rw[if_neg (by omega),h]
   exact h0
theorem KD.st {k:Zt}(D:KD c t x k)(s:Int)(hs:s∈kS k):(x.sl s).state=2∨(x.sl s).state=4∨(x.sl s).state=5:=by
 cases k with
 | hz k=>exact TD.st D s hs
 | psh p=>
  simp only[kS]at hs
  split at hs
  ·rename_i h
   simp only[List.mem_singleton]at hs
   subst hs
   rw[PuD.own D h];exact .inl rfl
  ·simp at hs
 | pop p=>
  simp only[kS]at hs
  split at hs
  ·rename_i h
   simp only[List.mem_singleton]at hs
   subst hs
   rw[PoD.own D h];exact .inr (.inl rfl)
  ·cases e:poSc p with
   | none=>rw[e]at hs;simp at hs
   | some z=>rw[e]at hs;exact .inr (.inr ((PoD.scan D z e).st s hs))
end
end
end Go.Proofs.YtjagadldibbbbaaGreat
