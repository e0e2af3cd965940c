/-
  Any moves keep each slot in one place.
-/
import Derived.Test.YtjagadldibbbbaaGreatDQo5
import Derived.Test.YtjagadldibbbbaaGreatDRange
set_option linter.all false
namespace Go.Proofs.YtjagadldibbbbaaGreat
open Go.RowKit Hp
set_option maxRecDepth 100000
set_option maxHeartbeats 1000000
attribute [local irreducible] Go.Calls
section
section
variable {c:Cfg}{Lg S N:Nat}{h:Haz}{a:Are}{m:Mch}
variable {n:Int}{Z Y:Int→Nat}{F stk:List Int}{pr:Int→Prop}{K L:List Int}{t:Nat}{W:Int→Prop}
theorem step_gd {k:Qd}{i:Nat}{cl:Cll}{se:Sea}(C:Core c Lg S N h a m)(hN:N<1000000)(ht:(t:Int)<c.T)(hm:m.thread=(t:Int))(I:TI c t true (h.held.getD t 0) (a.caches.getD t []) k)(hn:n<4294967295)
  (G:Gd c n Z Y F (sx stk pr c h a m) (hS k) (hL k)) (D:TD c t (sx stk pr c h a m) k):StP stk c n Z Y pr h a m t (Z8 (h,a) m i t cl se k):=by
 cases k with
 | reg r=>exact reg_gd C I.1 I.2.1 I.2.2 G D
 | unr u=>exact unr_gd C hN ht hm I.1 I.2.1 I.2.2 hn G D
 | pst p=>exact post_gd C hN ht hm I.1 I.2.1 (I.2.2.1 rfl) hn G D
 | rdg r=>exact read_gd C I G D
 | clr ad=>exact clr_gd C I.1 G D
 | scn s=>exact scn_gd C (I.2.2 rfl) I.1 hm ht hn G D
theorem ready_gd {k:Qd}{i:Nat}{cl:Cll}{se:Sea}(C:Core c Lg S N h a m)(ht:(t:Int)<c.T)(hm:m.thread=(t:Int))(I:TI c t false (h.held.getD t 0) (a.caches.getD t []) k)
  (hfr:hS k=[]∧hL k=[]) (G:Gd c n Z Y F (sx stk pr c h a m) (hS k) (hL k)) (D:TD c t (sx stk pr c h a m) k):StP stk c (n-1) Z Y pr h a m t (Qw (h,a) m i t cl se k):=by
 have id_:StP stk c (n-1) Z Y pr h a m t (false,(h,a),m,k):=⟨pr,F,by simp only[Yn,if_false];exact G.mono (by omega),Rl.refl ..,fun _=>D⟩
 cases k with
 | reg r=>exact id_
 | unr u=>exact id_
 | rdg r=>exact id_
 | clr ad=>exact id_
 | scn s=>
  obtain⟨_,i2,_⟩:=I
  obtain⟨r0,r1,hp⟩:=i2 rfl
  have hlt:t<h.held.length:=by rw[C.held];omega
  obtain⟨n1,n2,n3,n4⟩:=next_sd (h:=h) (s:={ s with at_ := -1 }) (t:=t) (sx stk pr c h a m) (D.scan s rfl).rcd
  rw[hfr.1,hfr.2]at G
  have n2':hS (.scn (ZL h s).2)=[]:=n2
  have n3':hL (.scn (ZL h s).2)=[]:=n3
  refine⟨pr,F,?_,Rl.refl ..,fun _=>td_scn n1⟩
  simp only[Qw,n2',n3',ite_self]
  exact G.mono (by omega)
 | pst p=>
  obtain⟨i1,i2,_,i4⟩:=I
  obtain⟨n1,n2,n3⟩:=i4 rfl
  obtain⟨z1,z2⟩:=hS_pst0 n2
  rw[z1,z2]at G
  simp only[Qw]
  unfold ZQ
  simp only[]
  have hR:=takeReady_gd (t:=t) (W:=fun _=>False) (k:=⟨p.thread,1,0,0,0,false⟩) C i1 ht hm G
  have hTk:=takeReady_core (k:=⟨p.thread,1,0,0,0,false⟩) C (by simp only[];omega) (by simp only[];omega)
  generalize Zg a m ⟨p.thread,1,0,0,0,false⟩=r at hR hTk ⊢
  rcases hR with e|⟨e1,e2,e3,e4⟩
  ·cases e
   simp only[Yn,if_false]
   obtain⟨y1,y2⟩:=hS_pst0 (p:={ p with take:=some ⟨p.thread,1,0,0,0,false⟩ }) n2
   refine⟨pr,F,?_,Rl.refl ..,fun _=>td_pst (fun hf=>by simp only[n2]at hf;omega) (fun _ k' hk' => ?_) (fun hf=>by simp only[n2]at hf;omega) (fun hf=>by simp only[n2]at hf;omega)⟩
   ·simp only[Yn,if_false,y1,y2];exact G.mono (by omega)
   ·simp only[Option.some.injEq]at hk'
    subst hk'
    exact⟨fun hf=>absurd rfl hf,fun hf=>by simp at hf⟩
  ·rw[if_pos e1]
   rcases hTk with e|⟨_,_,q,_⟩
   ·rw[e]at e1;cases e1
   ·have e2:Gd c (n-1+1) Z Y F (sx stk pr c h r.2.1 r.2.2.1) [Ze r.2.2.2] []:=e2.mono (by omega)
    have Q:=took_gd (n:=n-1+1) (i:=i) (cl:=cl) (se:=se) (h:=h) (a:=a) (m:=m) (p:={ p with take:=some r.2.2.2 }) (.inr q.1) (by rw[if_pos q.1];exact e2) e3 (fun _=>e4)
    obtain⟨pr',F2,q1,q2,q3⟩:=Q
    refine⟨pr',F2,?_,q2,q3⟩
    have tg:(mv c (ZJ r.2.2.1 i t cl se { p with take:=some r.2.2.2 } r.2.2.2).2.1).hd / 4294967296≤n-1+1:=by
     have:=e2.tag
     have ew:(ZJ r.2.2.1 i t cl se { p with take:=some r.2.2.2 } r.2.2.2).2.1.mem.words=r.2.2.1.mem.words:=by unfold ZJ;split<;>rfl
     rw[mv_same ew];exact this
    exact⟨q1.tot,q1.stF,q1.stC,q1.stX,q1.stL,q1.stZ,q1.chain,q1.hd0,tg,q1.rcd,q1.act1,q1.pr1,q1.pr2,q1.stK,q1.lk⟩
theorem count_focus {tasks:List (Option Qd)}(f:Option Qd→List Int)(f0:f none=[]){t:Nat}{o:Option Qd}(h:tasks[t]? = some o)(s:Int) :
  cnt2 (tasks.map f) s=cnt2 ((tasks.set t none).map f) s+(f o).count s:=by
 have h1:(tasks.map f)[t]? = some (f o):=by rw[Ym,h];rfl
 have:=cnt2_set [] s h1
 rw[Yk,f0]
 simp only[List.count_nil]at this
 omega
theorem Gd.focus {x:Sx}{tasks:List (Option Qd)}{t:Nat}{o:Option Qd}(G:Gd c n (cnt2 (tasks.map tS)) (cnt2 (tasks.map tL)) F x [] [])(h:tasks[t]? = some o) :
  Gd c n (cnt2 ((tasks.set t none).map tS)) (cnt2 ((tasks.set t none).map tL)) F x (tS o) (tL o):=by
 refine⟨fun s => ?_,G.stF,G.stC,G.stX,G.stL,fun s hs=>G.stZ s ?_,G.chain,G.hd0,G.tag,fun r r0 r1 => ?_,G.act1,G.pr1,G.pr2,G.stK,G.lk⟩
 ·have:=G.tot s
  rw[count_focus tS rfl h s]at this
  simp only[List.count_nil]at this
  omega
 ·rw[count_focus tS rfl h s];omega
 ·have:=G.rcd r r0 r1
  rw[count_focus tL rfl h r]at this
  simp only[List.count_nil]at this
  omega
theorem TD.st {x:Sx}{k:Qd}(D:TD c t x k)(s:Int)(hs:s∈hS k):(x.sl s).state=2∨(x.sl s).state=4∨(x.sl s).state=5:=by
 unfold hS at hs
 rcases List.mem_append.1 hs with hs|hs
 ·rw[D.own s hs];exact .inl rfl
 ·unfold hP at hs
  cases e:scOf k with
  | none=>rw[e]at hs;simp at hs
  | some z=>rw[e]at hs;exact .inr (.inr ((D.scan z e).st s hs))
theorem made_td {mv:Mv}{k:Qd}(C:Core c Lg S N h a m)(ht:(t:Int)<c.T)(hk:Z9 (h,a) t mv=some k):hS k=[]∧hL k=[]∧TD c t (sx stk pr c h a m) k:=by
 have hc:=C.hc
 have hok:=C.ok
 obtain⟨r1,r0⟩:=C.hget ht
 have hlt:t<h.held.length:=by rw[C.held];omega
 have hh:h.held[t]? = some (h.held.getD t 0):=by rw[Yb,Yd hlt];rfl
 unfold Z9 at hk
 simp only[hc]at hk
 generalize h.held.getD t 0=hd at hk r0 r1 hh
 split at hk
 ·split at hk
  ·rename_i hneg;cases hk;exact⟨rfl,rfl,td_reg hh hneg⟩
  ·cases hk
 ·split at hk
  ·cases hk
  ·rename_i hnn
   split at hk
   ·cases hk
    obtain⟨z1,z2⟩:=hS_unr (u:=⟨t,0,0,none,none⟩) (by simp)
    exact⟨z1,z2,td_unr (fun hf=>by simp at hf) (fun hf=>by simp at hf)⟩
   ·split at hk
    ·cases hk
     obtain⟨z1,z2⟩:=hS_pst0 (p:=⟨t,mv.arg,0,none,0,0,none⟩) rfl
     exact⟨z1,z2,td_pst (fun hf=>by simp at hf) (fun _ k' hk'=>(by cases hk')) (fun hf=>by simp at hf) (fun hf=>by simp at hf)⟩
    ·split at hk
     ·split at hk
      ·rename_i hb
       cases hk
       exact⟨rfl,rfl,td_rdg ⟨hd,hh,by omega,r1,by simp only[];omega,by simp only[];omega⟩ (fun hf=>by simp at hf) (fun hf=>by simp at hf)⟩
      ·cases hk
     ·split at hk
      ·split at hk
       ·rename_i hb
        obtain⟨a1,a2⟩:=hz_adr hok (by omega) r1 hb.1 hb.2
        have:=(ZD hok 9).1
        cases hk
        refine⟨rfl,rfl,td_clr ⟨hd,hh,by omega,r1,?_,?_⟩⟩<;>omega
       ·cases hk
      ·cases hk
       exact⟨rfl,rfl,td_scn ⟨hh,fun hf=>by simp at hf,fun hf=>by simp at hf,fun s0 h0=>by simp[scnP]at h0,fun s0 h0=>by simp[scnP]at h0⟩⟩
theorem TkS.of {k:Qd}{rdy:Bool}{hd:Int}{ca:List Int}(I:TI c t rdy hd ca k)(hf:rdy=false→hS k=[]∧hL k=[]):(∀s,scOf k=some s→0≤s.record)∧TkS k:=by
 have key:∀s,scOf k=some s→0≤s.record:=by
  intro s hs
  cases k with
  | reg r=>cases hs
  | rdg r=>cases hs
  | clr r=>cases hs
  | scn z=>
   simp only[scOf,Option.some.injEq]at hs;subst hs
   cases rdy with
   | false=>exact(I.2.1 rfl).1
   | true=>exact(I.2.2 rfl).rec0
  | unr u=>
   obtain⟨_,_,J⟩:=I
   simp only[scOf]at hs
   split at hs
   ·rename_i h1
    obtain⟨z,e1,e2,_⟩:=J.scan h1
    rw[e1]at hs;cases hs;exact e2.rec0
   ·cases hs
  | pst p=>
   obtain⟨_,_,J1,J2⟩:=I
   simp only[scOf]at hs
   split at hs
   ·rename_i h1
    cases rdy with
    | false=>have:=(J2 rfl).2.1;omega
    | true=>
     obtain⟨r,z,e1,e2,e3,_⟩:=(J1 rfl).ret h1
     rw[e1]at hs;simp only[e2]at hs;cases hs;exact e3.rec0
   ·cases hs
 refine⟨key,key,?_⟩
 rintro p rfl h0 k' hk h3
 obtain⟨_,_,J1,J2⟩:=I
 cases rdy with
 | false=>rw[(J2 rfl).1]at hk;cases hk
 | true=>
  obtain⟨⟨k2,e1,e2,_⟩,_⟩:=J1 rfl
  rw[hk]at e1;cases e1
  exact((e2 h0).head (by omega)).2.1
end
end
section
section
variable {c:Cfg}{n:Int}{Z Y:Int→Nat}{F:List Int}{x x':Sx}{K L:List Int}{t t':Nat}{W:Int→Prop}
theorem Gd.attach {s:Int}(G:Gd c n Z Y F x (s::K) L)(z:Slt)(hz:z.state=3)(hp:∀j,x.pr j→x.V.hz j≠s+1)(hl:x.V.ln s=x.V.top) :
  Gd c n Z Y F { x with stk:=s::x.stk,pr:=fun j=>x.pr j∨(0≤j∧j<c.R*c.Hz∧x.V.hz j=s+1),V:={ x.V with top:=s+1 },sl:=updS x.sl s z } K L∧Rl Z t W x { x with stk:=s::x.stk,pr:=fun j=>x.pr j∨(0≤j∧j<c.R*c.Hz∧x.V.hz j=s+1),V:={ x.V with top:=s+1 },sl:=updS x.sl s z }:=by
 have N:=G.not (List.mem_cons_self ..)
 have hn:∀s',s'≠s→updS x.sl s z s'=x.sl s':=fun s' e=>updS_ne _ _ e
 refine⟨⟨?_,?_,?_,?_,?_,?_,G.chain,G.hd0,G.tag,G.rcd,G.act1,?_,?_,?_,⟨rfl,N.s0,by rw[hl];exact G.lk⟩⟩,.inl rfl,fun _ _ _ _=>rfl,fun _ _=>rfl,?_,fun _ _=>rfl,fun _ _=>rfl,fun _ _ _ _ _=>rfl,fun _ _=>⟨rfl,.inl⟩,?_,fun _ _=>rfl,fun _ _=>rfl⟩
 ·intro s'
  have:=G.tot s'
  simp only[List.count_cons]at this ⊢
  omega
 ·intro s' h'
  show(updS x.sl s z s').state=0
  rw[hn s' (fun e=>N.F (e▸h'))];exact G.stF s' h'
 ·intro j y hy s' h'
  have hy:x.caches[j]? = some y:=hy
  show updS x.sl s z s'=_
  rw[hn s' (fun e=>by have:=cnt2_at hy h';have:=N.ca;subst e;omega)];exact G.stC j y hy s' h'
 ·intro s' s0 h'
  have h':x.V.cell=s'+1:=h'
  show(updS x.sl s z s').state=3
  rw[hn s' (fun e=>N.cell (e▸⟨s0,h'⟩))];exact G.stX s' s0 h'
 ·intro l hl s' h'
  have hl:l∈x.lists:=hl
  show(updS x.sl s z s').state=5
  rw[hn s' (fun e=>by have:=cnt2_mem hl h';have:=N.li;subst e;omega)];exact G.stL l hl s' h'
 ·intro s' h'
  show(updS x.sl s z s').state=2∨(updS x.sl s z s').state=4∨(updS x.sl s z s').state=5
  rw[hn s' (fun e=>by have:=N.Z;subst e;omega)];exact G.stZ s' h'
 ·rintro j (hj|⟨j0,j1,j2⟩)
  ·obtain⟨p1,p2,p3⟩:=G.pr1 j hj
   refine⟨p1,p2,?_⟩
   show(updS x.sl s z (x.V.hz j-1)).state=3∨(updS x.sl s z (x.V.hz j-1)).state=4∨(updS x.sl s z (x.V.hz j-1)).state=5
   rw[hn _ (by have:=hp j hj;omega)];exact p3
  ·refine⟨⟨j0,j1⟩,?_,?_⟩
   ·show 1≤x.V.hz j;have:=N.s0;omega
   ·show(updS x.sl s z (x.V.hz j-1)).state=3∨_
    have:x.V.hz j-1=s:=by omega
    rw[this,Qe];exact .inl hz
 ·intro j j0 j1 j2 j3
  have j3:(updS x.sl s z (x.V.hz j-1)).state=3:=j3
  have j2:1≤x.V.hz j:=j2
  by_cases e:x.V.hz j-1=s
  ·exact .inr ⟨j0,j1,by omega⟩
  ·rw[hn _ e]at j3;exact .inl (G.pr2 j j0 j1 j2 j3)
 ·intro s' h'
  have h':s'∈s::x.stk:=h'
  show(updS x.sl s z s').state=3
  by_cases e:s'=s
  ·rw[e,Qe];exact hz
  ·rw[hn s' e]
   rcases List.mem_cons.1 h' with h'|h'
   ·exact absurd h' e
   ·exact G.stK s' h'
 ·intro s' h'
  exact hn s' (fun e=>by have:=N.Z;subst e;omega)
 ·rintro j (hj|⟨j0,j1,j2⟩)
  ·exact .inl ⟨hj,rfl⟩
  ·right
   show ¬Oz Z t x (x.V.hz j-1)
   have:x.V.hz j-1=s:=by omega
   rw[this];exact N.oz
theorem Gd.detach {s:Int}{rest:List Int}(G:Gd c n Z Y F x K L)(hs:x.stk=s::rest)(z:Slt)(hz:z.state=4) :
  Gd c n Z Y F { x with stk:=rest,V:={ x.V with top:=x.V.ln s },sl:=updS x.sl s z } (s::K) L∧Rl Z t W x { x with stk:=rest,V:={ x.V with top:=x.V.ln s },sl:=updS x.sl s z }:=by
 have hle:=G.le s
 have hk:=G.lk
 rw[hs]at hle hk
 simp only[List.count_cons_self]at hle
 obtain⟨k1,k2,k3⟩:=hk
 have hn:∀s',s'≠s→updS x.sl s z s'=x.sl s':=fun s' e=>updS_ne _ _ e
 refine⟨⟨?_,?_,?_,?_,?_,?_,G.chain,G.hd0,G.tag,G.rcd,G.act1,?_,?_,?_,k3⟩,.inl rfl,fun _ _ _ _=>rfl,fun _ _=>rfl,?_,fun _ _=>rfl,fun _ _=>rfl,fun _ _ _ _ _=>rfl,fun _ _=>⟨rfl,id⟩,fun _ h=>.inl ⟨h,rfl⟩,fun _ _=>rfl,fun _ _=>rfl⟩
 ·intro s'
  have:=G.tot s'
  rw[hs]at this
  simp only[List.count_cons]at this ⊢
  omega
 ·intro s' h'
  show(updS x.sl s z s').state=0
  rw[hn s' (fun e=>by have:=cpos h';subst e;omega)];exact G.stF s' h'
 ·intro j y hy s' h'
  have hy:x.caches[j]? = some y:=hy
  show updS x.sl s z s'=_
  rw[hn s' (fun e=>by have:=cnt2_at hy h';subst e;omega)];exact G.stC j y hy s' h'
 ·intro s' s0 h'
  have h':x.V.cell=s'+1:=h'
  show(updS x.sl s z s').state=3
  rw[hn s' (fun e=>by subst e;rw[ind_pos ⟨s0,h'⟩]at hle;omega)];exact G.stX s' s0 h'
 ·intro l hl s' h'
  have hl:l∈x.lists:=hl
  show(updS x.sl s z s').state=5
  rw[hn s' (fun e=>by have:=cnt2_mem hl h';subst e;omega)];exact G.stL l hl s' h'
 ·intro s' h'
  show(updS x.sl s z s').state=2∨(updS x.sl s z s').state=4∨(updS x.sl s z s').state=5
  rw[hn s' (fun e=>by subst e;omega)];exact G.stZ s' h'
 ·intro j hj
  obtain⟨p1,p2,p3⟩:=G.pr1 j hj
  refine⟨p1,p2,?_⟩
  show(updS x.sl s z (x.V.hz j-1)).state=3∨(updS x.sl s z (x.V.hz j-1)).state=4∨(updS x.sl s z (x.V.hz j-1)).state=5
  by_cases e:x.V.hz j-1=s
  ·rw[e,Qe];exact .inr (.inl hz)
  ·rw[hn _ e];exact p3
 ·intro j j0 j1 j2 j3
  have j3:(updS x.sl s z (x.V.hz j-1)).state=3:=j3
  by_cases e:x.V.hz j-1=s
  ·rw[e,Qe]at j3;omega
  ·rw[hn _ e]at j3;exact G.pr2 j j0 j1 j2 j3
 ·intro s' h'
  have h':s'∈rest:=h'
  show(updS x.sl s z s').state=3
  rw[hn s' (fun e=>by have:=cpos h';subst e;omega)];exact G.stK s' (by rw[hs];exact List.mem_cons_of_mem _ h')
 ·intro s' h'
  exact hn s' (fun e=>by subst e;omega)
theorem Gd.tie (G:Gd c n Z Y F x K L){s:Int}(h:s∈K)(h2:(x.sl s).state=2)(z:Int):Gd c n Z Y F { x with V:={ x.V with ln:=upd x.V.ln s z } } K L∧Rl Z t W x { x with V:={ x.V with ln:=upd x.V.ln s z } }:=by
 have N:=G.not h
 refine⟨⟨G.tot,G.stF,G.stC,G.stX,G.stL,G.stZ,G.chain,G.hd0,G.tag,G.rcd,G.act1,G.pr1,G.pr2,G.stK,G.lk.upd (fun hm=>by have:=cpos hm;have:=N.sk;omega)⟩,.inl rfl,fun _ _ _ _=>rfl,fun _ _=>rfl,fun _ _=>rfl,fun _ _=>rfl,fun _ _=>rfl,fun _ _ _ _ _=>rfl,fun _ _=>⟨rfl,id⟩,fun _ h=>.inl ⟨h,rfl⟩,fun _ _=>rfl,?_⟩
 intro s' h'
 refine upd_ne _ _ fun e => ?_
 subst e
 rcases h' with h'|⟨j,_,h3,h4⟩
 ·have:=N.Z;omega
 ·obtain⟨_,_,p3⟩:=G.pr1 j h3
  rw[h4,show s'+1-1=s' by omega,h2]at p3
  omega
end
/-! ## what the stack's calls have and know -/
def poSc (p:Po):Option Scn:=if p.stage=9 then (match p.retire with|some r=>r.scan|none=>none) else none
def kS:Zm→List Int
 | .hz k=>hS k
 | .psh p=>if p.stage=2∨p.stage=3∨p.stage=4∨p.stage=5 then [p.slot] else []
 | .pop p=>if p.stage=6∨p.stage=7 then [p.top-1] else (match poSc p with|some s=>scnP s|none=>[])
def kL:Zm→List Int
 | .hz k=>hL k
 | .psh _=>[]
 | .pop p=>match poSc p with|some s=>lkS s|none=>[]
def kSo:Option Zm→List Int
 | some k=>kS k
 | none=>[]
def kLo:Option Zm→List Int
 | some k=>kL k
 | none=>[]
structure PuD (t:Nat)(x:Sx)(p:Pu):Prop where
 take:p.stage=1→TkD x p.take
 own:p.stage=2∨p.stage=3∨p.stage=4∨p.stage=5→x.sl p.slot=⟨2,(t:Int)⟩
 val:p.stage=3∨p.stage=4∨p.stage=5→x.V.val p.slot=p.value%18446744073709551616
 tie:p.stage=5→x.V.ln p.slot=p.top
def hz0 (c:Cfg)(t:Nat)(x:Sx):Int:=x.held.getD t 0*c.Hz
structure PoD (c:Cfg)(t:Nat)(x:Sx)(p:Po):Prop where
 hz:p.stage=3→x.V.hz (hz0 c t x)=p.top
 pr:p.stage=4∨p.stage=5→x.pr (hz0 c t x)∧x.V.hz (hz0 c t x)=p.top
 lnk:p.stage=5→x.V.ln (p.top-1)=p.behind
 own:p.stage=6∨p.stage=7→x.sl (p.top-1)=⟨4,(t:Int)⟩
 val:p.stage=7→p.value=wrap64 (x.V.val (p.top-1))
 scan:∀s,poSc p=some s→ScD t x s
def KD (c:Cfg)(t:Nat)(x:Sx):Zm→Prop
 | .hz k=>TD c t x k
 | .psh p=>PuD t x p
 | .pop p=>PoD c t x p
def KDs (c:Cfg)(t:Nat)(x:Sx):Zm→Prop
 | .hz k=>TkS k
 | .psh p=>p.stage=1→p.take.at_=3→1≤p.take.head%4294967296
 | .pop p=>(∃r,x.held[t]? = some r∧0≤r∧r<c.R)∧(∀s,poSc p=some s→0≤s.record)
section
variable {c:Cfg}{n:Int}{Z Y:Int→Nat}{F:List Int}{x x':Sx}{K L:List Int}{t t':Nat}{W:Int→Prop}
theorem own_hz0 (hok:c.Ok)(h:∃r,x.held[t]? = some r∧0≤r∧r<c.R):Own c t x (hz0 c t x):=by
 obtain⟨r,h1,h2,h3⟩:=h
 have:=hok.H1
 have e:x.held.getD t 0=r:=by rw[Yb,h1];rfl
 refine⟨r,h1,h2,h3,?_,?_⟩
 ·unfold hz0;rw[e];omega
 ·unfold hz0;rw[e];omega
theorem KD.rely {k:Zm}(hok:c.Ok)(D:KD c t' x k)(R:Rl Z t W x x')(hne:t'≠t)(hT:KDs c t' x k)(hZ:∀s∈kS k,0<Z s)(hW:∀j,W j→¬Own c t' x j):KD c t' x' k:=by
 cases k with
 | hz k=>exact TD.rely D R hne hT hZ hW
 | psh p=>
  obtain⟨d1,d2,d3,d4⟩:=D
  have hz:p.stage=2∨p.stage=3∨p.stage=4∨p.stage=5→0<Z p.slot:=fun h=>hZ _ (by simp only[kS];rw[if_pos h];exact List.mem_cons_self ..)
  refine⟨fun h=>(d1 h).rely R (hT h),fun h => ?_,fun h => ?_,fun h => ?_⟩
  ·rw[R.sl _ (hz h)];exact d2 h
  ·rw[R.val _ (.inl (hz (by omega)))];exact d3 h
  ·rw[R.ln _ (.inl (hz (by omega)))];exact d4 h
 | pop p=>
  obtain⟨d1,d2,d3,d4,d5,d6⟩:=D
  obtain⟨hr,hs⟩:=hT
  have ho:=own_hz0 hok hr
  have hw:¬W (hz0 c t' x):=fun h=>hW _ h ho
  have e0:hz0 c t' x'=hz0 c t' x:=by
   unfold hz0
   rw[Yb,Yb,R.he t' hne]
  have hz:=R.hz _ hw
  have hZ6:p.stage=6∨p.stage=7→0<Z (p.top-1):=fun h=>hZ _ (by simp only[kS];rw[if_pos h];exact List.mem_cons_self ..)
  refine⟨fun h => ?_,fun h => ?_,fun h => ?_,fun h => ?_,fun h => ?_,fun s h => ?_⟩
  ·rw[e0,hz.1];exact d1 h
  ·rw[e0,hz.1];exact⟨hz.2 (d2 h).1,(d2 h).2⟩
  ·rw[R.ln _ (.inr ⟨hz0 c t' x,hw,(d2 (.inr h)).1,by rw[(d2 (.inr h)).2];omega⟩)];exact d3 h
  ·rw[R.sl _ (hZ6 h)];exact d4 h
  ·rw[R.val _ (.inl (hZ6 (.inr h)))];exact d5 h
  ·refine(d6 s h).rely R hne (hs s h) fun s0 h0=>hZ s0 ?_
   have h9:p.stage=9:=by
    unfold poSc at h
    split at h
    ·assumption
    ·cases h
   simp only[kS]
   rw[if_neg (by omega),h]
   exact h0
theorem KD.st {k:Zm}(D:KD c t x k)(s:Int)(hs:s∈kS k):(x.sl s).state=2∨(x.sl s).state=4∨(x.sl s).state=5:=by
 cases k with
 | hz k=>exact TD.st D s hs
 | psh p=>
  simp only[kS]at hs
  split at hs
  ·rename_i h
   simp only[List.mem_singleton]at hs
   subst hs
   rw[PuD.own D h];exact .inl rfl
  ·simp at hs
 | pop p=>
  simp only[kS]at hs
  split at hs
  ·rename_i h
   simp only[List.mem_singleton]at hs
   subst hs
   rw[PoD.own D h];exact .inr (.inl rfl)
  ·cases e:poSc p with
   | none=>rw[e]at hs;simp at hs
   | some z=>rw[e]at hs;exact .inr (.inr ((PoD.scan D z e).st s hs))
end
end
section
def Q4 (c:Cfg)(m:Mch)(stk:List Int):Zm→List Int
 | .hz _=>stk
 | .psh p=>if p.stage=5∧m.word (adr c 3 0)=p.top then p.slot::stk else stk
 | .pop p=>if p.stage=5∧m.word (adr c 3 0)=p.top then stk.tail else stk
structure KP (stk stk':List Int)(c:Cfg)(n:Int)(Z Y:Int→Nat)(pr:Int→Prop)(h:Haz)(a:Are)(m:Mch)(t:Nat)(r:GR Zm):Prop where
 ex:∃(pr':Int→Prop) (F':List Int),Gd c n Z Y F' (sx stk' pr' c r.2.1.1 r.2.1.2 r.2.2.1) (if r.1=true then [] else kS r.2.2.2) (if r.1=true then [] else kL r.2.2.2)∧Rl Z t (Own c t (sx stk pr c h a m)) (sx stk pr c h a m) (sx stk' pr' c r.2.1.1 r.2.1.2 r.2.2.1)∧(r.1=false→KD c t (sx stk' pr' c r.2.1.1 r.2.1.2 r.2.2.1) r.2.2.2)
section
variable {c:Cfg}{Lg S N:Nat}{h:Haz}{a:Are}{m:Mch}
variable {n:Int}{Z Y:Int→Nat}{F stk:List Int}{pr:Int→Prop}{K L:List Int}{t:Nat}{W:Int→Prop}
theorem ln_at {s:Int}(hs0:0≤s)(hs1:s<c.Sl):(mv c m).ln s=m.word (adr c 13 s):=by simp[mv,hs0,hs1]
theorem kS_psh0 {p:Pu}(h:p.stage=0∨p.stage=1):kS (.psh p)=[]:=by simp only[kS];rw[if_neg (by omega)]
theorem kS_psh2 {p:Pu}(h:p.stage=2∨p.stage=3∨p.stage=4∨p.stage=5):kS (.psh p)=[p.slot]:=by simp only[kS];rw[if_pos h]
theorem taken_kd {p:Pu}{i:Nat}{cl:Cll}{se:Sea}{a':Are}{m':Mch}(hk:Ze p.take = -1∨(0≤Ze p.take∧Ze p.take<c.Sl))
  (G:Gd c n Z Y F (sx stk pr c h a' m') (if 0≤Ze p.take then [Ze p.take] else []) []) (R:Rl Z t (fun _=>False) (sx stk pr c h a m) (sx stk pr c h a' m')) (hs:0≤Ze p.take→a'.sl (Ze p.take)=⟨2,(t:Int)⟩) :
  KP stk stk c n Z Y pr h a m t ((ZZ m' i t cl se p).1,(h,a'),(ZZ m' i t cl se p).2.1,.psh (ZZ m' i t cl se p).2.2):=by
 unfold ZZ
 split
 ·rename_i h0
  have e:sx stk pr c h a' ((m'.point i cl m'.now).answer t se 4 0)=sx stk pr c h a' m':=ZO rfl
  rw[if_neg (by omega)]at G
  refine⟨pr,F,?_,?_,fun hf=>(by cases hf)⟩
  ·simp only[if_true,e];exact G
  ·simp only[e];exact R.weaken (fun _ h=>h.elim)
 ·rename_i h0
  rw[if_pos (by omega)]at G
  refine⟨pr,F,?_,R.weaken (fun _ h=>h.elim),fun _=>⟨fun hf=>by simp at hf,fun _=>hs (by omega),fun hf=>by simp at hf,fun hf=>by simp at hf⟩⟩
  simp only[Yn,if_false]
  rw[kS_psh2 (.inl rfl)]
  exact G
theorem psh_rdy {p:Pu}{i:Nat}{cl:Cll}{se:Sea}(C:Core c Lg S N h a m)(ht:(t:Int)<c.T)(hm:m.thread=(t:Int))(hp:p.take=⟨t,1,0,0,0,false⟩)
  (hS0:kS (.psh p)=[]) (G:Gd c n Z Y F (sx stk pr c h a m) (kS (.psh p)) []):KP stk stk c n Z Y pr h a m t (QV (h,a) m i t cl se (.psh p)):=by
 rw[hS0]at G
 simp only[QV]
 unfold QF
 simp only[hp]
 have hR:=takeReady_gd (t:=t) (W:=fun _=>False) (k:=⟨t,1,0,0,0,false⟩) C rfl ht hm G
 have hTk:=takeReady_core (k:=⟨t,1,0,0,0,false⟩) C (by simp only[];omega) (by simp only[];omega)
 generalize Zg a m ⟨t,1,0,0,0,false⟩=r at hR hTk ⊢
 rcases hR with e|⟨e1,e2,e3,e4⟩
 ·cases e
  simp only[Yn,if_false]
  refine⟨pr,F,?_,Rl.refl ..,fun _=>⟨fun _=>⟨fun hf=>absurd rfl hf,fun hf=>by simp at hf⟩,fun hf=>by simp at hf,fun hf=>by simp at hf,fun hf=>by simp at hf⟩⟩
  simp only[Yn,if_false]
  rw[kS_psh0 (.inr rfl)]
  exact G
 ·rcases hTk with e|⟨_,_,q,_⟩
  ·rw[e]at e1;cases e1
  ·simp only[e1,if_true]
   refine taken_kd (F:=F) (p:={ p with take:=r.2.2.2,stage:=1 }) (.inr q) ?_ e3 (fun _=>e4)
   rw[if_pos q.1];exact e2
theorem psh_kd {p:Pu}{i:Nat}{cl:Cll}{se:Sea}(C:Core c Lg S N h a m)(hm:m.thread=(t:Int))(I:PuI c p)(hn:n<4294967295)
  (G:Gd c n Z Y F (sx stk pr c h a m) (kS (.psh p)) []) (D:PuD t (sx stk pr c h a m) p):KP stk (Q4 c m stk (.psh p)) c (n+1) Z Y pr h a m t (Qm (h,a) m i t cl se (.psh p)):=by
 have hok:=C.ok
 obtain rfl:=C.hc
 obtain⟨i1,i2,i3,i4⟩:=I
 obtain⟨d1,d2,d3,d4⟩:=D
 simp only[Qm]
 unfold Jf
 simp only[]
 by_cases s1:p.stage=1
 ·have hk:Q4 h.c m stk (.psh p)=stk:=by simp only[Q4];rw[if_neg (by omega)]
  rw[kS_psh0 (.inr s1)]at G
  rw[hk,if_pos s1]
  unfold puTake
  simp only[]
  obtain⟨⟨F',t1⟩,t2,t3,t4⟩:=take_gd (W:=fun _=>False) (L:=[]) C (i2 s1) hm hn G (d1 s1)
  have hr:=(take_core C (i2 s1)).2.2.1
  generalize Zj a m p.take=r at t1 t2 t3 t4 hr ⊢
  split
  ·exact taken_kd (p:={ p with take:=r.2.2.2 }) hr t1 t2 t4
  ·rename_i hf
   obtain⟨u1,u2⟩:=t3 (by simpa using hf)
   rw[u2,if_neg (by omega)]at t1
   refine⟨pr,F',?_,t2.weaken (fun _ h=>h.elim),fun _=>⟨fun _=>u1,fun hf=>by simp only[s1]at hf;omega,fun hf=>by simp only[s1]at hf;omega,fun hf=>by simp only[s1]at hf;omega⟩⟩
   simp only[Yn,if_false]
   rw[kS_psh0 (p:={ p with take:=r.2.2.2 }) (.inr s1)]
   exact t1
 rw[if_neg s1]
 obtain⟨g1,g2⟩:=i3 s1
 have hst:p.stage=2∨p.stage=3∨p.stage=4∨p.stage=5:=by omega
 rw[kS_psh2 hst]at G
 have hsl:a.sl p.slot=⟨2,(t:Int)⟩:=d2 hst
 by_cases s2:p.stage=2
 ·have hk:Q4 h.c m stk (.psh p)=stk:=by simp only[Q4];rw[if_neg (by omega)]
  rw[hk,if_pos s2]
  have hA:=C.lt (adr_lt' hok (r:=11) (.inr ⟨.inr (.inl rfl),rfl⟩) g1 g2)
  obtain⟨G2,R2⟩:=G.value (t:=t) (W:=fun _=>False) (s:=p.slot) (List.mem_cons_self ..) (p.value%18446744073709551616)
  have e:sx stk pr h.c h a (m.store (adr h.c 11 p.slot) (m.word (adr h.c 11 p.slot)) (p.value%18446744073709551616))={ sx stk pr h.c h a m with V:={ (sx stk pr h.c h a m).V with val:=upd (sx stk pr h.c h a m).V.val p.slot (p.value%18446744073709551616) } }:=by
   unfold sx
   rw[mv_val hok g1 g2 (z:=p.value%18446744073709551616) rfl hA]
  refine⟨pr,F,?_,?_,fun _=>⟨fun hf=>by simp at hf,fun _=>hsl,fun _ => ?_,fun hf=>by simp at hf⟩⟩
  ·simp only[Yn,if_false]
   rw[kS_psh2 (.inr (.inl rfl)),e]
   exact G2.mono (by omega)
  ·simp only[];rw[e];exact R2.weaken (fun _ h=>h.elim)
  ·simp only[];rw[e];exact QJ ..
 rw[if_neg s2]
 by_cases s3:p.stage=3
 ·have hk:Q4 h.c m stk (.psh p)=stk:=by simp only[Q4];rw[if_neg (by omega)]
  rw[hk,if_pos s3]
  have e:sx stk pr h.c h a (m.load (adr h.c 3 0) (m.word (adr h.c 3 0)))=sx stk pr h.c h a m:=ZO rfl
  refine⟨pr,F,?_,?_,fun _=>⟨fun hf=>by simp at hf,fun _=>hsl,fun _ => ?_,fun hf=>by simp at hf⟩⟩
  ·simp only[Yn,if_false]
   rw[kS_psh2 (.inr (.inr (.inl rfl))),e]
   exact G.mono (by omega)
  ·simp only[];rw[e];exact Rl.refl ..
  ·simp only[];rw[e];exact d3 (.inl s3)
 rw[if_neg s3]
 by_cases s4:p.stage=4
 ·have hk:Q4 h.c m stk (.psh p)=stk:=by simp only[Q4];rw[if_neg (by omega)]
  rw[hk,if_pos s4]
  have hA:=C.lt (adr_lt' hok (r:=13) (.inr ⟨.inr (.inr rfl),rfl⟩) g1 g2)
  obtain⟨G2,R2⟩:=G.tie (t:=t) (W:=fun _=>False) (s:=p.slot) (List.mem_cons_self ..) (by show(a.sl p.slot).state=2;rw[hsl]) p.top
  have e:sx stk pr h.c h a (m.store (adr h.c 13 p.slot) (m.word (adr h.c 13 p.slot)) p.top)={ sx stk pr h.c h a m with V:={ (sx stk pr h.c h a m).V with ln:=upd (sx stk pr h.c h a m).V.ln p.slot p.top } }:=by
   unfold sx
   rw[mv_ln hok g1 g2 (z:=p.top) rfl hA]
  refine⟨pr,F,?_,?_,fun _=>⟨fun hf=>by simp at hf,fun _=>hsl,fun _ => ?_,fun _ => ?_⟩⟩
  ·simp only[Yn,if_false]
   rw[kS_psh2 (.inr (.inr (.inr rfl))),e]
   exact G2.mono (by omega)
  ·simp only[];rw[e];exact R2.weaken (fun _ h=>h.elim)
  ·simp only[];rw[e];exact d3 (.inr (.inl s4))
  ·simp only[];rw[e];exact QJ ..
 rw[if_neg s4]
 have s5:p.stage=5:=by omega
 have hA:=C.lt (top_lt hok)
 split
 ·rename_i hw
  have hk:Q4 h.c m stk (.psh p)=p.slot::stk:=by simp only[Q4];rw[if_pos ⟨s5,hw⟩]
  rw[hk]
  have hpr:∀j,pr j→(mv h.c m).hz j≠p.slot+1:=by
   intro j hj hz
   obtain⟨_,_,p3⟩:=G.pr1 j hj
   have p3:(a.sl ((mv h.c m).hz j-1)).state=3∨(a.sl ((mv h.c m).hz j-1)).state=4∨(a.sl ((mv h.c m).hz j-1)).state=5:=p3
   rw[hz,show p.slot+1-1=p.slot by omega,hsl]at p3
   simp at p3
  have hslt:p.slot.toNat<a.slots.length:=by rw[C.slots];omega
  unfold puDone
  simp only[]
  have em:∀w:Mch,w.mem.words=(m.swap (adr h.c 3 0) (m.word (adr h.c 3 0)) p.top (p.slot+1)).mem.words→mv h.c w={ mv h.c m with top:=p.slot+1 }:=by
   intro w ew
   exact mv_top hok (z:=p.slot+1) (by rw[ew];simp only[Mch.swap];rw[if_pos hw]) hA
  generalize m.swap (adr h.c 3 0) (m.word (adr h.c 3 0)) p.top (p.slot+1)=mw at em ⊢
  have e3:=Jb (a:=a) (th:=mw.thread) (to:=3) (s:=p.slot) g1 hslt
  simp only[or_true,if_true]at e3
  obtain⟨G2,R2⟩:=G.attach (t:=t) (W:=fun _=>False) ⟨3,-1⟩ rfl hpr ((d4 s5).trans hw.symm)
  have e:∀pr' x1,sx (p.slot::stk) pr' h.c h (a.shift p.slot.toNat mw.thread 3) (((mw.point i cl mw.now).shift p.slot x1 3).answer t se 1 0) =
    { sx stk pr h.c h a m with stk:=p.slot::stk,pr:=pr',V:={ (mv h.c m) with top:=p.slot+1 },sl:=updS a.sl p.slot ⟨3,-1⟩ }:=by
   intro pr' x1
   unfold sx
   rw[em (((mw.point i cl mw.now).shift p.slot x1 3).answer t se 1 0) rfl,e3];rfl
  refine⟨fun j=>pr j∨(0≤j∧j<h.c.R*h.c.Hz∧(mv h.c m).hz j=p.slot+1),F,?_,?_,fun hf=>(by cases hf)⟩
  ·simp only[if_true];rw[e];exact G2.mono (by omega)
  ·simp only[];rw[e];exact R2.weaken (fun _ h=>h.elim)
 ·rename_i hw
  have hk:Q4 h.c m stk (.psh p)=stk:=by simp only[Q4];rw[if_neg (by rintro⟨_,h⟩;exact hw h)]
  rw[hk]
  have e:sx stk pr h.c h a (m.swap (adr h.c 3 0) (m.word (adr h.c 3 0)) p.top (p.slot+1))=sx stk pr h.c h a m:=ZO (by simp only[Mch.swap];rw[if_neg hw])
  refine⟨pr,F,?_,?_,fun _=>⟨fun hf=>by simp at hf,fun _=>hsl,fun _ => ?_,fun hf=>by simp at hf⟩⟩
  ·simp only[Yn,if_false]
   rw[kS_psh2 (.inr (.inl rfl)),e]
   exact G.mono (by omega)
  ·simp only[];rw[e];exact Rl.refl ..
  ·simp only[];rw[e];exact d3 (.inr (.inr s5))
end
end
section
section
variable {c:Cfg}{Lg S N:Nat}{h:Haz}{a:Are}{m:Mch}
variable {n:Int}{Z Y:Int→Nat}{F stk:List Int}{pr:Int→Prop}{K L:List Int}{t:Nat}{W:Int→Prop}
theorem QZ {p:Po}(h:p.stage≠6∧p.stage≠7∧p.stage≠9):kS (.pop p)=[]∧kL (.pop p)=[]∧poSc p=none:=by
 have e:poSc p=none:=by unfold poSc;rw[if_neg h.2.2]
 refine⟨?_,?_,e⟩
 ·simp only[kS];rw[if_neg (by omega),e]
 ·simp only[kL];rw[e]
theorem kS_pop6 {p:Po}(h:p.stage=6∨p.stage=7):kS (.pop p)=[p.top-1]∧kL (.pop p)=[]∧poSc p=none:=by
 have e:poSc p=none:=by unfold poSc;rw[if_neg (by omega)]
 refine⟨?_,?_,e⟩
 ·simp only[kS];rw[if_pos h]
 ·simp only[kL];rw[e]
theorem kS_pop9 {p:Po}{r:Ret}{s:Scn}(h:p.stage=9)(hr:p.retire=some r)(hs:r.scan=some s):kS (.pop p)=scnP s∧kL (.pop p)=lkS s∧poSc p=some s:=by
 have e:poSc p=some s:=by unfold poSc;rw[if_pos h,hr];exact hs
 refine⟨?_,?_,e⟩
 ·simp only[kS];rw[if_neg (by omega),e]
 ·simp only[kL];rw[e]
theorem pod_vac {p:Po}{x:Sx}(h:p.stage=0∨p.stage=1∨p.stage=2∨p.stage=8):PoD c t x p:=
 ⟨fun _=>by omega,fun _=>by omega,fun _=>by omega,fun _=>by omega,fun _=>by omega,fun s hs=>by rw[(QZ (p:=p) (by omega)).2.2]at hs;cases hs⟩
theorem seen_kd {p:Po}{i:Nat}{cl:Cll}{se:Sea}{m':Mch}{n':Int}(hw:m'.mem.words=m.mem.words)(hn:n≤n')(hd:0≤p.top)(G:Gd c n Z Y F (sx stk pr c h a m) [] []) :
  KP stk stk c n' Z Y pr h a m t ((Z4 m' i t cl se p).1,(h,a),(Z4 m' i t cl se p).2.1,.pop (Z4 m' i t cl se p).2.2):=by
 unfold Z4
 split
 ·have e:sx stk pr c h a m'=sx stk pr c h a m:=ZO hw
  refine⟨pr,F,?_,?_,fun _=>pod_vac (.inr (.inr (.inl rfl)))⟩
  ·simp only[Yn,if_false]
   obtain⟨y1,y2,_⟩:=QZ (p:={ p with stage:=2 }) (by simp)
   rw[y1,y2,e]
   exact G.mono hn
  ·simp only[];rw[e];exact Rl.refl ..
 ·have e:sx stk pr c h a ((m'.point i cl m'.now).answer t se 3 0)=sx stk pr c h a m:=ZO hw
  refine⟨pr,F,?_,?_,fun _=>pod_vac (.inr (.inr (.inr rfl)))⟩
  ·simp only[]
   obtain⟨y1,y2,_⟩:=QZ (p:={ p with stage:=8 }) (by simp)
   rw[y1,y2,e,ite_self]
   exact G.mono hn
  ·simp only[];rw[e];exact Rl.refl ..
theorem pop_kd {p:Po}{i:Nat}{cl:Cll}{se:Sea}(C:Core c Lg S N h a m)(ht:(t:Int)<c.T)(hm:m.thread=(t:Int))(hu:p.thread=(t:Int))(hd:0≤h.held.getD t 0)(I:PpI c p)(hn:n<4294967295)
  (G:Gd c n Z Y F (sx stk pr c h a m) (kS (.pop p)) (kL (.pop p))) (D:PoD c t (sx stk pr c h a m) p):KP stk (Q4 c m stk (.pop p)) c (n+1) Z Y pr h a m t (Qm (h,a) m i t cl se (.pop p)):=by
 have hok:=C.ok
 obtain rfl:=C.hc
 obtain⟨r1,_⟩:=C.hget ht
 have hlt:t<h.held.length:=by rw[C.held];omega
 have hh:h.held[t]? = some (h.held.getD t 0):=by rw[Yb,Yd hlt];rfl
 have ho:Own h.c t (sx stk pr h.c h a m) (hz0 h.c t (sx stk pr h.c h a m)):=own_hz0 hok ⟨_,hh,hd,r1⟩
 obtain⟨j0,j1⟩:=own_range hok ho
 have hpt:p.thread.toNat=t:=by omega
 have hpz:poHz h p=adr h.c 9 (hz0 h.c t (sx stk pr h.c h a m)):=by
  unfold poHz adr hz0
  rw[hpt,Int.add_zero];rfl
 have htw:=C.topW
 have hb9:=(ZD hok 9).1
 obtain⟨i1,i2,i3,i4⟩:=I
 obtain⟨d1,d2,d3,d4,d5,d6⟩:=D
 have hk5:¬(p.stage=5∧m.word (adr h.c 3 0)=p.top)→Q4 h.c m stk (.pop p)=stk:=fun h5=>by simp only[Q4];rw[if_neg h5]
 simp only[Qm]
 unfold QX
 simp only[hpz]
 by_cases s1:p.stage=1
 ·rw[hk5 (by omega),if_pos s1]
  obtain⟨y1,y2,_⟩:=QZ (p:=p) (by omega)
  rw[y1,y2]at G
  exact seen_kd (p:={ p with top:=m.word (adr h.c 3 0) }) (m':=m.load (adr h.c 3 0) (m.word (adr h.c 3 0))) rfl (by omega) htw.1 G
 rw[if_neg s1]
 by_cases s2:p.stage=2
 ·rw[hk5 (by omega),if_pos s2]
  obtain⟨y1,y2,_⟩:=QZ (p:=p) (by omega)
  rw[y1,y2]at G
  obtain⟨pr',g1,g2,g3⟩:=hzd_gd (n:=n) (Z:=Z) (Y:=Y) (F:=F) C ho p.top G
  obtain⟨z1,z2,z3⟩:=QZ (p:={ p with named:=true,stage:=3 }) (by simp)
  refine⟨pr',F,?_,g2.weaken (fun _ h=>h.1),fun _=>⟨fun _=>g3,fun hf=>by simp at hf,fun hf=>by simp at hf,fun hf=>by simp at hf,fun hf=>by simp at hf,fun s hs=>by rw[z3]at hs;cases hs⟩⟩
  simp only[Yn,if_false]
  rw[z1,z2]
  exact g1.mono (by omega)
 rw[if_neg s2]
 have ht17:p.stage≤7→1≤p.top∧p.top≤h.c.Sl:=fun h7=>i2 (by clear i4;omega) h7
 have eld:∀A u,sx stk pr h.c h a (m.load A u)=sx stk pr h.c h a m:=fun A u=>ZO rfl
 have tp:m.word (adr h.c 3 0)=p.top→1≤p.top→∃rest,stk=(p.top-1)::rest:=by
  intro hw h1
  have hk:=G.lk
  have hk:Chain (mv h.c m).ln (m.word (adr h.c 3 0)) stk:=hk
  rw[hw]at hk
  cases stk with
  | nil=>have:p.top=0:=hk;omega
  | cons s rest=>
   obtain⟨k1,k2,k3⟩:=hk
   exact⟨rest,by rw[show p.top-1=s by omega]⟩
 by_cases s3:p.stage=3
 ·rw[hk5 (by omega),if_pos s3]
  obtain⟨y1,y2,_⟩:=QZ (p:=p) (by omega)
  rw[y1,y2]at G
  split
  ·rename_i hw
   obtain⟨h1,h2⟩:=ht17 (by omega)
   obtain⟨z1,z2,z3⟩:=QZ (p:={ p with stage:=4 }) (by simp)
   refine⟨pr,F,?_,?_,fun _ => ?_⟩
   ·simp only[Yn,if_false]
    rw[z1,z2,eld]
    exact G.mono (by omega)
   ·simp only[];rw[eld];exact Rl.refl ..
   ·simp only[]
    rw[eld]
    have hz:=d1 s3
    obtain⟨rest,hst⟩:=tp hw h1
    refine⟨fun hf=>by simp at hf,fun _=>⟨G.pr2 _ j0 j1 (by rw[hz];exact h1) ?_,hz⟩,fun hf=>by simp at hf,fun hf=>by simp at hf,fun hf=>by simp at hf,fun s hs=>by rw[z3]at hs;cases hs⟩
    rw[hz]
    exact G.stK _ (by show p.top-1∈stk;rw[hst];exact List.mem_cons_self ..)
  ·exact seen_kd (p:={ p with top:=m.word (adr h.c 3 0) }) (m':=m.load (adr h.c 3 0) (m.word (adr h.c 3 0))) rfl (by omega) htw.1 G
 rw[if_neg s3]
 by_cases s4:p.stage=4
 ·rw[hk5 (by omega),if_pos s4]
  obtain⟨y1,y2,_⟩:=QZ (p:=p) (by omega)
  rw[y1,y2]at G
  obtain⟨h1,h2⟩:=ht17 (by omega)
  obtain⟨z1,z2,z3⟩:=QZ (p:={ p with behind:=m.word (adr h.c 13 (p.top-1)),stage:=5 }) (by simp)
  refine⟨pr,F,?_,?_,fun _ => ?_⟩
  ·simp only[Yn,if_false]
   rw[z1,z2,eld]
   exact G.mono (by omega)
  ·simp only[];rw[eld];exact Rl.refl ..
  ·simp only[]
   rw[eld]
   refine⟨fun hf=>by simp at hf,fun _=>d2 (.inl s4),fun _ => ?_,fun hf=>by simp at hf,fun hf=>by simp at hf,fun s hs=>by rw[z3]at hs;cases hs⟩
   exact ln_at (s:=p.top-1) (by omega) (by omega)
 rw[if_neg s4]
 by_cases s5:p.stage=5
 ·rw[if_pos s5]
  obtain⟨y1,y2,_⟩:=QZ (p:=p) (by omega)
  rw[y1,y2]at G
  obtain⟨h1,h2⟩:=ht17 (by omega)
  have hA:=C.lt (top_lt hok)
  split
  ·rename_i hw
   obtain⟨rest,hst⟩:=tp hw h1
   have hk:Q4 h.c m stk (.pop p)=rest:=by simp only[Q4];rw[if_pos ⟨s5,hw⟩,hst];rfl
   rw[hk]
   obtain⟨G2,R2⟩:=G.detach (t:=t) (W:=fun _=>False) hst ⟨4,(t:Int)⟩ rfl
   have hl:(mv h.c m).ln (p.top-1)=p.behind:=d3 s5
   have hslt:(p.top-1).toNat<a.slots.length:=by rw[C.slots];omega
   have e3:=Jb (a:=a) (th:=m.thread) (to:=4) (s:=p.top-1) (by omega) hslt
   rw[if_neg (by omega),hm]at e3
   obtain⟨z1,z2,z3⟩:=kS_pop6 (p:={ p with stage:=6 }) (.inl rfl)
   have e:∀x1,sx rest pr h.c h (a.shift (p.top-1).toNat m.thread 4) (((m.swap (adr h.c 3 0) (m.word (adr h.c 3 0)) p.top p.behind).point i cl m.now).shift (p.top-1) x1 4) =
     { sx stk pr h.c h a m with stk:=rest,V:={ (mv h.c m) with top:=(mv h.c m).ln (p.top-1) },sl:=updS a.sl (p.top-1) ⟨4,(t:Int)⟩ }:=by
    intro x1
    unfold sx
    rw[mv_top hok (z:=p.behind) (m:=m) (by simp only[Mch.shift,Mch.point,Mch.swap];rw[if_pos hw]) hA,hm,e3,hl];rfl
   refine⟨pr,F,?_,?_,fun _ => ?_⟩
   ·simp only[Yn,if_false]
    rw[z1,z2,e]
    exact G2.mono (by omega)
   ·simp only[];rw[e];exact R2.weaken (fun _ h=>h.elim)
   ·simp only[]
    rw[e]
    exact⟨fun hf=>by simp at hf,fun hf=>by simp at hf,fun hf=>by simp at hf,fun _=>Qe ..,fun hf=>by simp at hf,fun s hs=>by rw[z3]at hs;cases hs⟩
  ·rename_i hw
   rw[hk5 (by rintro⟨_,h⟩;exact hw h)]
   have e:sx stk pr h.c h a (m.swap (adr h.c 3 0) (m.word (adr h.c 3 0)) p.top p.behind)=sx stk pr h.c h a m:=ZO (by simp only[Mch.swap];rw[if_neg hw])
   obtain⟨z1,z2,z3⟩:=QZ (p:={ p with stage:=1 }) (by simp)
   refine⟨pr,F,?_,?_,fun _=>pod_vac (.inr (.inl rfl))⟩
   ·simp only[Yn,if_false]
    rw[z1,z2,e]
    exact G.mono (by omega)
   ·simp only[];rw[e];exact Rl.refl ..
 rw[if_neg s5,hk5 (by omega)]
 by_cases s6:p.stage=6
 ·rw[if_pos s6]
  obtain⟨h1,h2⟩:=ht17 (by omega)
  obtain⟨y1,y2,_⟩:=kS_pop6 (p:=p) (.inl s6)
  rw[y1,y2]at G
  obtain⟨z1,z2,z3⟩:=kS_pop6 (p:={ p with value:=wrap64 (m.word (adr h.c 11 (p.top-1))),stage:=7 }) (.inr rfl)
  refine⟨pr,F,?_,?_,fun _ => ?_⟩
  ·simp only[Yn,if_false]
   rw[z1,z2,eld]
   exact G.mono (by omega)
  ·simp only[];rw[eld];exact Rl.refl ..
  ·simp only[]
   rw[eld]
   refine⟨fun hf=>by simp at hf,fun hf=>by simp at hf,fun hf=>by simp at hf,fun _=>d4 (.inl s6),fun _ => ?_,fun s hs=>by rw[z3]at hs;cases hs⟩
   show wrap64 _=wrap64 ((mv h.c m).val (p.top-1))
   rw[val_at (by omega) (by omega)]
 rw[if_neg s6]
 by_cases s7:p.stage=7
 ·rw[if_pos s7]
  obtain⟨h1,h2⟩:=ht17 (by omega)
  obtain⟨y1,y2,_⟩:=kS_pop6 (p:=p) (.inr s7)
  rw[y1,y2]at G
  obtain⟨pr',g1,g2,g3⟩:=hzd_gd (n:=n) (Z:=Z) (Y:=Y) (F:=F) C ho 0 G
  have hsl:a.sl (p.top-1)=⟨4,(t:Int)⟩:=d4 (.inr s7)
  have hth:((m.store (adr h.c 9 (hz0 h.c t (sx stk pr h.c h a m))) (m.word (adr h.c 9 (hz0 h.c t (sx stk pr h.c h a m)))) 0).answer t se 2 p.value).thread=(t:Int):=hm
  have hwd:((m.store (adr h.c 9 (hz0 h.c t (sx stk pr h.c h a m))) (m.word (adr h.c 9 (hz0 h.c t (sx stk pr h.c h a m)))) 0).answer t se 2 p.value).mem.words=(m.store (adr h.c 9 (hz0 h.c t (sx stk pr h.c h a m))) (m.word (adr h.c 9 (hz0 h.c t (sx stk pr h.c h a m)))) 0).mem.words:=rfl
  generalize (m.store (adr h.c 9 (hz0 h.c t (sx stk pr h.c h a m))) (m.word (adr h.c 9 (hz0 h.c t (sx stk pr h.c h a m)))) 0).answer t se 2 p.value=mw at hth hwd ⊢
  have e0:=ZO (stk:=stk) (pr:=pr') (c:=h.c) (h:=h) (a:=a) hwd
  rw[←e0]at g1 g2
  obtain⟨G4,R4⟩:=g1.state (t:=t) (W:=fun _=>False) (s:=p.top-1) (List.mem_cons_self ..) ⟨5,(t:Int)⟩ (by simp) (.inl rfl)
  obtain⟨f1,f2,f3⟩:=C.lget hd r1
  have hslt:(p.top-1).toNat<a.slots.length:=by rw[C.slots];omega
  obtain⟨G5,R5⟩:=G4.list (t:=t) (W:=fun _=>False) hd r1 (by exact hh) (l:=h.lists.getD (h.held.getD t 0).toNat []) (l':=h.lists.getD (h.held.getD t 0).toNat []++[p.top-1]) (K':=[]) f1 (fun s'=>by
   simp only[List.count_append,List.count_nil];omega) (fun s0 h0=>by
   show(updS a.sl (p.top-1) ⟨5,(t:Int)⟩ s0).state=5
   rcases List.mem_append.1 h0 with h0|h0
   ·by_cases es:s0=p.top-1
    ·rw[es,Qe]
    ·rw[updS_ne _ _ es]
     exact g1.stL _ (Yc f1) s0 h0
   ·simp at h0;rw[h0,Qe])
  have R6:=(g2.weaken (W':=Own h.c t (sx stk pr h.c h a m)) (fun _ h=>h.1)).trans ((R4.trans R5).weaken (W':=Own h.c t (sx stk pr h.c h a m)) (fun _ h=>h.elim))
  unfold Zv
  simp only[hpt,hth]
  have e7:=Jb (a:=a) (th:=(t:Int)) (to:=5) (s:=p.top-1) (by omega) hslt
  rw[if_neg (by omega)]at e7
  have e:∀x1,sx stk pr' h.c { h with lists:=h.lists.set (h.held.getD t 0).toNat (h.lists.getD (h.held.getD t 0).toNat []++[p.top-1]) } (a.shift (p.top-1).toNat (t:Int) 5) (mw.shift (p.top-1) x1 5) =
    { sx stk pr' h.c h a mw with sl:=updS a.sl (p.top-1) ⟨5,(t:Int)⟩,lists:=h.lists.set (h.held.getD t 0).toNat (h.lists.getD (h.held.getD t 0).toNat []++[p.top-1]) }:=by
   intro x1
   unfold sx
   rw[e7,mv_same (m:=mw) (m':=mw.shift (p.top-1) x1 5) rfl];rfl
  split
  ·refine⟨pr',F,?_,?_,fun hf=>(by cases hf)⟩
   ·simp only[if_true];rw[e];exact G5.mono (by omega)
   ·simp only[];rw[e];exact R6
  ·generalize hh1:({ h with lists:=h.lists.set (h.held.getD t 0).toNat (h.lists.getD (h.held.getD t 0).toNat []++[p.top-1]) }:Haz)=h1
   obtain⟨n1,n2,n3,n4⟩:=next_sd (h:=h1) (s:={ (⟨p.thread,h.held.getD t 0,6,0,false,fun _=>0,[],none⟩:Scn) with at_ := -1 }) (t:=t) (sx stk pr' h.c h1 (a.shift (p.top-1).toNat (t:Int) 5) (mw.shift (p.top-1) (a.slots.getD (p.top-1).toNat ⟨0,0⟩).state 5)) (by rw[←hh1];exact hh)
   have n2:scnP (ZL h1 ⟨p.thread,h.held.getD t 0,6,0,false,fun _=>0,[],none⟩).2=[]:=n2
   have n3:lkS (ZL h1 ⟨p.thread,h.held.getD t 0,6,0,false,fun _=>0,[],none⟩).2=[]:=n3
   obtain⟨z1,z2,z3⟩:=kS_pop9 (p:={ p with retire:=some { thread:=p.thread,slot:=p.top-1,scan:=some (ZL h1 ⟨p.thread,h.held.getD t 0,6,0,false,fun _=>0,[],none⟩).2 },stage:=9 }) rfl rfl rfl
   refine⟨pr',F,?_,?_,fun _=>⟨fun hf=>by simp at hf,fun hf=>by simp at hf,fun hf=>by simp at hf,fun hf=>by simp at hf,fun hf=>by simp at hf,fun s hs => ?_⟩⟩
   ·simp only[]
    rw[z1,z2,n2,n3,ite_self,←hh1,e]
    exact G5.mono (by omega)
   ·simp only[];rw[←hh1,e];exact R6
   ·simp only[]at hs ⊢
    rw[z3]at hs
    cases hs
    exact n1
 rw[if_neg s7]
 by_cases s8:p.stage=8
 ·rw[if_pos s8]
  obtain⟨y1,y2,_⟩:=QZ (p:=p) (by omega)
  rw[y1,y2]at G
  obtain⟨pr',g1,g2,g3⟩:=hzd_gd (n:=n) (Z:=Z) (Y:=Y) (F:=F) C ho 0 G
  refine⟨pr',F,?_,g2.weaken (fun _ h=>h.1),fun hf=>(by cases hf)⟩
  simp only[if_true]
  exact g1.mono (by omega)
 rw[if_neg s8]
 have s9:p.stage=9:=by clear i4;omega
 obtain⟨r,sc,e1,e2,e3,e4⟩:=i4 s9
 obtain⟨y1,y2,y3⟩:=kS_pop9 s9 e1 e2
 rw[y1,y2]at G
 rw[e1]
 simp only[e2]
 obtain⟨⟨F',g1⟩,g2,g3,g4⟩:=scan_gd (W:=fun _=>False) C e3 (e4.trans hu) hm ht hn G (d6 sc y3)
 generalize Zt h a m sc=q at g1 g2 g3 g4 ⊢
 obtain⟨z1,z2,z3⟩:=kS_pop9 (p:={ p with retire:=some { r with scan:=some q.2.2.2.2 } }) s9 rfl rfl
 refine⟨pr,F',?_,g2.weaken (fun _ h=>h.elim),fun _=>⟨fun hf=>by simp only[s9]at hf;omega,fun hf=>by simp only[s9]at hf;omega,fun hf=>by simp only[s9]at hf;omega,fun hf=>by simp only[s9]at hf;omega,fun hf=>by simp only[s9]at hf;omega,fun s hs => ?_⟩⟩
 ·simp only[z1,z2]
  by_cases hb:q.1=true
  ·have h6:=g4 hb
   have k1:scnP q.2.2.2.2=[]:=by unfold scnP;rw[if_neg (by omega)]
   have k2:lkS q.2.2.2.2=[]:=by unfold lkS;rw[if_neg (by omega)]
   rw[if_pos hb,if_pos hb]
   rw[k1,k2]at g1;exact g1
  ·rw[if_neg hb,if_neg hb];exact g1
 ·rw[z3]at hs
  cases hs
  exact g3
end
end
end Go.Proofs.YtjagadldibbbbaaGreat
