import Derived.Test.YtefjbdajgakgpaaGreatDRo5
set_option linter.all false
namespace Go.Proofs.YtefjbdajgakgpaaGreat
open Go.RowKit Hp
section
set_option maxRecDepth 100000
set_option maxHeartbeats 1000000
attribute [local irreducible] Go.Calls
variable [TopR]
section
variable {c:Cfg}{Lg S N:Nat}{h:Haz}{a:Are}{m:Mch}
variable {n:Int}{Z Y:Int→Nat}{F stk:List Int}{pr:Int→Prop}{K L:List Int}{t:Nat}{W:Int→Prop}
theorem step_gd {k:Z8}{i:Nat}{cl:Cll}{se:Sea}(C:Core c Lg S N h a m)(hN:N<1000000)(ht:(t:Int)<c.T)(hm:m.thread=(t:Int))(I:TI c t true (h.held.getD t 0) (a.caches.getD t []) k)(hn:n<4294967295)
  (G:Gd c n Z Y F (sx stk pr c h a m) (hS k) (hL k)) (D:TD c t (sx stk pr c h a m) k):StP stk c n Z Y pr h a m t (ZQ (h,a) m i t cl se k):=by
 cases k with
 | reg r=>exact reg_gd C I.1 I.2.1 I.2.2 G D
 | unr u=>exact unr_gd C hN ht hm I.1 I.2.1 I.2.2 hn G D
 | pst p=>exact post_gd C hN ht hm I.1 I.2.1 (I.2.2.1 rfl) hn G D
 | rdg r=>exact read_gd C I G D
 | clr ad=>exact clr_gd C I.1 G D
 | scn s=>exact scn_gd C (I.2.2 rfl) I.1 hm ht hn G D
theorem ready_gd {k:Z8}{i:Nat}{cl:Cll}{se:Sea}(C:Core c Lg S N h a m)(ht:(t:Int)<c.T)(hm:m.thread=(t:Int))(I:TI c t false (h.held.getD t 0) (a.caches.getD t []) k)
  (hfr:hS k=[]∧hL k=[]) (G:Gd c n Z Y F (sx stk pr c h a m) (hS k) (hL k)) (D:TD c t (sx stk pr c h a m) k):StP stk c (n-1) Z Y pr h a m t (Qw (h,a) m i t cl se k):=by
 have id_:StP stk c (n-1) Z Y pr h a m t (false,(h,a),m,k):=⟨pr,F,by simp only[Yn,if_false];exact G.mono (by omega),Rl.refl ..,fun _=>D⟩
 cases k with
 | reg r=>exact id_
 | unr u=>exact id_
 | rdg r=>exact id_
 | clr ad=>exact id_
 | scn s=>
  obtain⟨_,i2,_⟩:=I
  obtain⟨r0,r1,hp⟩:=i2 rfl
  have hlt:t<h.held.length:=by rw[C.held];omega
  obtain⟨n1,n2,n3,n4⟩:=next_sd (h:=h) (s:={ s with at_ := -1 }) (t:=t) (sx stk pr c h a m) (D.scan s rfl).rcd
  rw[hfr.1,hfr.2]at G
  have n2':hS (.scn (ZF h s).2)=[]:=n2
  have n3':hL (.scn (ZF h s).2)=[]:=n3
  refine⟨pr,F,?_,Rl.refl ..,fun _=>td_scn n1⟩
  simp only[Qw,n2',n3',ite_self]
  exact G.mono (by omega)
 | pst p=>
  obtain⟨i1,i2,_,i4⟩:=I
  obtain⟨n1,n2,n3⟩:=i4 rfl
  obtain⟨z1,z2⟩:=hS_pst0 n2
  rw[z1,z2]at G
  simp only[Qw]
  unfold ZM
  simp only[]
  have hR:=takeReady_gd (t:=t) (W:=fun _=>False) (k:=⟨p.thread,1,0,0,0,false⟩) C i1 ht hm G
  have hTk:=takeReady_core (k:=⟨p.thread,1,0,0,0,false⟩) C (by simp only[];omega) (by simp only[];omega)
  generalize Zf a m ⟨p.thread,1,0,0,0,false⟩=r at hR hTk ⊢
  rcases hR with e|⟨e1,e2,e3,e4⟩
  ·cases e
   simp only[Yn,if_false]
   obtain⟨y1,y2⟩:=hS_pst0 (p:={ p with take:=some ⟨p.thread,1,0,0,0,false⟩ }) n2
   refine⟨pr,F,?_,Rl.refl ..,fun _=>td_pst (fun hf=>by simp only[n2]at hf;omega) (fun _ k' hk' => ?_) (fun hf=>by simp only[n2]at hf;omega) (fun hf=>by simp only[n2]at hf;omega)⟩
   ·simp only[Yn,if_false,y1,y2];exact G.mono (by omega)
   ·simp only[Option.some.injEq]at hk'
    subst hk'
    exact⟨fun hf=>absurd rfl hf,fun hf=>by simp at hf⟩
  ·rw[if_pos e1]
   rcases hTk with e|⟨_,_,q,_⟩
   ·rw[e]at e1;cases e1
   ·have e2:Gd c (n-1+1) Z Y F (sx stk pr c h r.2.1 r.2.2.1) [Zd r.2.2.2] []:=e2.mono (by omega)
    have Q:=took_gd (n:=n-1+1) (i:=i) (cl:=cl) (se:=se) (h:=h) (a:=a) (m:=m) (p:={ p with take:=some r.2.2.2 }) (.inr q.1) (by rw[if_pos q.1];exact e2) e3 (fun _=>e4)
    obtain⟨pr',F2,q1,q2,q3⟩:=Q
    refine⟨pr',F2,?_,q2,q3⟩
    have tg:(mv c (ZH r.2.2.1 i t cl se { p with take:=some r.2.2.2 } r.2.2.2).2.1).hd / 4294967296≤n-1+1:=by
     have:=e2.tag
     have ew:(ZH r.2.2.1 i t cl se { p with take:=some r.2.2.2 } r.2.2.2).2.1.mem.words=r.2.2.1.mem.words:=by unfold ZH;split<;>rfl
     rw[mv_same ew];exact this
    exact⟨q1.tot,q1.stF,q1.stC,q1.stX,q1.stL,q1.stZ,q1.chain,q1.hd0,tg,q1.rcd,q1.act1,q1.pr1,q1.pr2,q1.stK,q1.lk⟩
theorem count_focus {tasks:List (Option Z8)}(f:Option Z8→List Int)(f0:f none=[]){t:Nat}{o:Option Z8}(h:tasks[t]? = some o)(s:Int) :
  cnt2 (tasks.map f) s=cnt2 ((tasks.set t none).map f) s+(f o).count s:=by
 have h1:(tasks.map f)[t]? = some (f o):=by rw[Ym,h];rfl
 have:=cnt2_set [] s h1
 rw[Yk,f0]
 simp only[List.count_nil]at this
 omega
theorem Gd.focus {x:Sx}{tasks:List (Option Z8)}{t:Nat}{o:Option Z8}(G:Gd c n (cnt2 (tasks.map tS)) (cnt2 (tasks.map tL)) F x [] [])(h:tasks[t]? = some o) :
  Gd c n (cnt2 ((tasks.set t none).map tS)) (cnt2 ((tasks.set t none).map tL)) F x (tS o) (tL o):=by
 refine⟨fun s => ?_,G.stF,G.stC,G.stX,G.stL,fun s hs=>G.stZ s ?_,G.chain,G.hd0,G.tag,fun r r0 r1 => ?_,G.act1,G.pr1,G.pr2,G.stK,G.lk⟩
 ·have:=G.tot s
  rw[count_focus tS rfl h s]at this
  simp only[List.count_nil]at this
  omega
 ·rw[count_focus tS rfl h s];omega
 ·have:=G.rcd r r0 r1
  rw[count_focus tL rfl h r]at this
  simp only[List.count_nil]at this
  omega
theorem TD.st {x:Sx}{k:Z8}(D:TD c t x k)(s:Int)(hs:s∈hS k):(x.sl s).state=2∨(x.sl s).state=4∨(x.sl s).state=5:=by
 unfold hS at hs
 rcases List.mem_append.1 hs with hs|hs
 ·rw[D.own s hs];exact .inl rfl
 ·unfold hP at hs
  cases e:scOf k with
  | none=>rw[e]at hs;simp at hs
  | some z=>rw[e]at hs;exact .inr (.inr ((D.scan z e).st s hs))
theorem made_td {mv:Mv}{k:Z8}(C:Core c Lg S N h a m)(ht:(t:Int)<c.T)(hk:Qr (h,a) t mv=some k):hS k=[]∧hL k=[]∧TD c t (sx stk pr c h a m) k:=by
 have hc:=C.hc
 have hok:=C.ok
 obtain⟨r1,r0⟩:=C.hget ht
 have hlt:t<h.held.length:=by rw[C.held];omega
 have hh:h.held[t]? = some (h.held.getD t 0):=by rw[Yb,Yd hlt];rfl
 unfold Qr at hk
 simp only[hc]at hk
 generalize h.held.getD t 0=hd at hk r0 r1 hh
 split at hk
 ·split at hk
  ·rename_i hneg;cases hk;exact⟨rfl,rfl,td_reg hh hneg⟩
  ·cases hk
 ·split at hk
  ·cases hk
  ·rename_i hnn
   split at hk
   ·cases hk
    obtain⟨z1,z2⟩:=hS_unr (u:=⟨t,0,0,none,none⟩) (by simp)
    exact⟨z1,z2,td_unr (fun hf=>by simp at hf) (fun hf=>by simp at hf)⟩
   ·split at hk
    ·cases hk
     obtain⟨z1,z2⟩:=hS_pst0 (p:=⟨t,mv.arg,0,none,0,0,none⟩) rfl
     exact⟨z1,z2,td_pst (fun hf=>by simp at hf) (fun _ k' hk'=>(by cases hk')) (fun hf=>by simp at hf) (fun hf=>by simp at hf)⟩
    ·split at hk
     ·split at hk
      ·rename_i hb
       cases hk
       exact⟨rfl,rfl,td_rdg ⟨hd,hh,by omega,r1,by simp only[];omega,by simp only[];omega⟩ (fun hf=>by simp at hf) (fun hf=>by simp at hf)⟩
      ·cases hk
     ·split at hk
      ·split at hk
       ·rename_i hb
        obtain⟨a1,a2⟩:=hz_adr hok (by omega) r1 hb.1 hb.2
        have:=(ZD hok 9).1
        cases hk
        refine⟨rfl,rfl,td_clr ⟨hd,hh,by omega,r1,?_,?_⟩⟩<;>omega
       ·cases hk
      ·cases hk
       exact⟨rfl,rfl,td_scn ⟨hh,fun hf=>by simp at hf,fun hf=>by simp at hf,fun s0 h0=>by simp[scnP]at h0,fun s0 h0=>by simp[scnP]at h0⟩⟩
theorem TkS.of {k:Z8}{rdy:Bool}{hd:Int}{ca:List Int}(I:TI c t rdy hd ca k)(hf:rdy=false→hS k=[]∧hL k=[]):(∀s,scOf k=some s→0≤s.record)∧TkS k:=by
 have key:∀s,scOf k=some s→0≤s.record:=by
  intro s hs
  cases k with
  | reg r=>cases hs
  | rdg r=>cases hs
  | clr r=>cases hs
  | scn z=>
   simp only[scOf,Option.some.injEq]at hs;subst hs
   cases rdy with
   | false=>exact(I.2.1 rfl).1
   | true=>exact(I.2.2 rfl).rec0
  | unr u=>
   obtain⟨_,_,J⟩:=I
   simp only[scOf]at hs
   split at hs
   ·rename_i h1
    obtain⟨z,e1,e2,_⟩:=J.scan h1
    rw[e1]at hs;cases hs;exact e2.rec0
   ·cases hs
  | pst p=>
   obtain⟨_,_,J1,J2⟩:=I
   simp only[scOf]at hs
   split at hs
   ·rename_i h1
    cases rdy with
    | false=>have:=(J2 rfl).2.1;omega
    | true=>
     obtain⟨r,z,e1,e2,e3,_⟩:=(J1 rfl).ret h1
     rw[e1]at hs;simp only[e2]at hs;cases hs;exact e3.rec0
   ·cases hs
 refine⟨key,key,?_⟩
 rintro p rfl h0 k' hk h3
 obtain⟨_,_,J1,J2⟩:=I
 cases rdy with
 | false=>rw[(J2 rfl).1]at hk;cases hk
 | true=>
  obtain⟨⟨k2,e1,e2,_⟩,_⟩:=J1 rfl
  rw[hk]at e1;cases e1
  exact((e2 h0).head (by omega)).2.1
end
end
section
structure Pt where
 thread:Int
 value:Int
 take:Tak
 slot:Int
 t:Int
 n:Int
 stage:Int
 hz:Int
structure Gt where
 thread:Int
 h0:Int
 t:Int
 n:Int
 value:Int
 got:Bool
 cleared:Int
 retire:Option Ret
 stage:Int
 hz0:Int
 hz1:Int
def ZV (m:Mch)(i t:Nat)(c:Cll)(s:Sea)(p:Pt):Bool×Mch×Pt:=
 if Zd p.take<0 then (true,(m.point i c m.now).answer t s 4 0,{ p with slot:=Zd p.take })
 else (false,m,{ p with slot:=Zd p.take,stage:=2 })
def qHz (h:Haz)(th k:Int):Nat:=(base h.c 9+h.held.getD th.toNat 0*h.c.Hz+k).toNat
def ZW (h:Haz)(a:Are)(m:Mch)(i t:Nat)(c:Cll)(s:Sea)(p:Pt):Bool×Are×Mch×Pt:=
 let r:=Zf a m p.take
 let p1:={ p with take:=r.2.2.2,stage:=1,hz:=(qHz h p.thread 0:Int) }
 if r.1=true then
  let q:=ZV r.2.2.1 i t c s p1
  (q.1,r.2.1,q.2.1,q.2.2)
 else (false,r.2.1,r.2.2.1,p1)
def ptTake (a:Are)(m:Mch)(i t:Nat)(c:Cll)(s:Sea)(p:Pt):Bool×Are×Mch×Pt:=
 let r:=Zh a m p.take
 let p1:={ p with take:=r.2.2.2 }
 if r.1=true then
  let q:=ZV r.2.2.1 i t c s p1
  (q.1,r.2.1,q.2.1,q.2.2)
 else (false,r.2.1,r.2.2.1,p1)
def Qc (h:Haz)(a:Are)(m:Mch)(i t:Nat)(c:Cll)(s:Sea)(p:Pt):Bool×Are×Mch×Pt:=
 let T:=adr h.c 5 0
 let Z:=qHz h p.thread 0
 let K:=adr h.c 13 (p.t-1)
 if p.stage=1 then ptTake a m i t c s p
 else if p.stage=2 then
  let A:=adr h.c 11 p.slot
  (false,a,m.store A (m.word A) (p.value%18446744073709551616),{ p with stage:=3 })
 else if p.stage=3 then
  let A:=adr h.c 13 p.slot
  (false,a,m.store A (m.word A) 0,{ p with stage:=4 })
 else if p.stage=4 then (false,a,m.load T (m.word T),{ p with t:=m.word T,stage:=5 })
 else if p.stage=5 then (false,a,m.store Z (m.word Z) p.t,{ p with stage:=6 })
 else if p.stage=6 then (false,a,m.load T (m.word T),if m.word T=p.t then { p with stage:=7 } else { p with t:=m.word T,stage:=5 })
 else if p.stage=7 then (false,a,m.load K (m.word K),if 0≤m.word K-1 then { p with n:=m.word K,stage:=11 } else { p with n:=m.word K,stage:=8 })
 else if p.stage=8 then
  if m.word K=0 then
   (false,a.shift p.slot.toNat m.thread 3,((m.swap K (m.word K) 0 (p.slot+1)).point i c m.now).shift p.slot (a.slots.getD p.slot.toNat ⟨0,0⟩).state 3,{ p with stage:=9 })
  else (false,a,m.swap K (m.word K) 0 (p.slot+1),{ p with stage:=4 })
 else if p.stage=9 then (false,a,m.swap T (m.word T) p.t (p.slot+1),{ p with stage:=10 })
 else if p.stage=10 then (true,a,(m.store Z (m.word Z) 0).answer t s 1 0,p)
 else (false,a,m.swap T (m.word T) p.t p.n,{ p with stage:=4 })
def gtEnd (h:Haz)(a:Are)(m:Mch)(t:Nat)(s:Sea)(g:Gt):Bool×Haz×Are×Mch×Gt:=
 let Z:=qHz h g.thread g.cleared
 if g.cleared+1<2 then (false,h,a,m.store Z (m.word Z) 0,{ g with cleared:=g.cleared+1 })
 else if g.got=false then (true,h,a,m.store Z (m.word Z) 0,{ g with cleared:=g.cleared+1 })
 else
  let q:=Zr h a ((m.store Z (m.word Z) 0).answer t s 2 g.value) ⟨g.thread,g.h0-1,none⟩
  (q.1,q.2.1,q.2.2.1,q.2.2.2.1,{ g with cleared:=g.cleared+1,retire:=some q.2.2.2.2,stage:=12 })
def Z6 (h:Haz)(a:Are)(m:Mch)(i t:Nat)(c:Cll)(s:Sea)(g:Gt):Bool×Haz×Are×Mch×Gt:=
 let H:=adr h.c 4 0
 let T:=adr h.c 5 0
 let K:=adr h.c 13 (g.h0-1)
 if g.stage=1 then (false,h,a,m.load H (m.word H),{ g with h0:=m.word H,stage:=2 })
 else if g.stage=2 then (false,h,a,m.store (qHz h g.thread 0) (m.word (qHz h g.thread 0)) g.h0,{ g with stage:=3 })
 else if g.stage=3 then (false,h,a,m.load H (m.word H),if m.word H=g.h0 then { g with stage:=4 } else { g with h0:=m.word H,stage:=2 })
 else if g.stage=4 then (false,h,a,m.load T (m.word T),{ g with t:=m.word T,stage:=5 })
 else if g.stage=5 then
  if 0≤m.word K-1 then (false,h,a,m.load K (m.word K),{ g with n:=m.word K,stage:=6 })
  else (false,h,a,((m.load K (m.word K)).point i c m.now).answer t s 3 0,{ g with n:=m.word K,stage:=11 })
 else if g.stage=6 then (false,h,a,m.store (qHz h g.thread 1) (m.word (qHz h g.thread 1)) g.n,{ g with stage:=7 })
 else if g.stage=7 then (false,h,a,m.load H (m.word H),if m.word H=g.h0 then (if g.h0=g.t then { g with stage:=8 } else { g with stage:=9 }) else { g with h0:=m.word H,stage:=2 })
 else if g.stage=8 then (false,h,a,m.swap T (m.word T) g.t g.n,{ g with stage:=1 })
 else if g.stage=9 then
  let A:=adr h.c 11 (g.n-1)
  (false,h,a,m.load A (m.word A),{ g with value:=wrap64 (m.word A),stage:=10 })
 else if g.stage=10 then
  if m.word H=g.h0 then
   (false,h,a.shift (g.h0-1).toNat m.thread 4,((m.swap H (m.word H) g.h0 g.n).point i c m.now).shift (g.h0-1) (a.slots.getD (g.h0-1).toNat ⟨0,0⟩).state 4,{ g with got:=true,stage:=11 })
  else (false,h,a,m.swap H (m.word H) g.h0 g.n,{ g with stage:=1 })
 else if g.stage=11 then gtEnd h a m t s g
 else match g.retire with
  | none=>(true,h,a,m,g)
  | some r=>match r.scan with
   | none=>(true,h,a,m,g)
   | some sc=>
    let q:=Zl h a m sc
    (q.1,q.2.1,q.2.2.1,q.2.2.2.1,{ g with retire:=some { r with scan:=some q.2.2.2.2 } })
structure PtOk (h:Haz)(a:Are)(m:Mch)(p:Pt):Prop where
 hz:HazOk h a m
 t0:0≤p.thread
 t1:p.thread<h.c.T
 held:0≤h.held.getD p.thread.toNat 0
 stage:1≤p.stage∧p.stage≤11
 tk:p.stage=1→TakeOk a m p.take∧Zd (Zh a m p.take).2.2.2≤2147483646 ∧ -1≤Zd (Zh a m p.take).2.2.2
 slot:p.stage≠1→0≤p.slot∧p.slot<h.c.Sl
 wtail:0≤m.word (adr h.c 5 0)∧m.word (adr h.c 5 0)≤h.c.Sl
 t:5≤p.stage→1≤p.t∧p.t≤h.c.Sl
 wl:5≤p.stage→0≤m.word (adr h.c 13 (p.t-1))∧m.word (adr h.c 13 (p.t-1))≤h.c.Sl
 hzE:p.hz=(qHz h p.thread 0:Int)
structure GtOk (h:Haz)(a:Are)(m:Mch)(g:Gt):Prop where
 hz:HazOk h a m
 t0:0≤g.thread
 t1:g.thread<h.c.T
 held:0≤h.held.getD g.thread.toNat 0
 stage:1≤g.stage∧g.stage≤12
 whead:0≤m.word (adr h.c 4 0)∧m.word (adr h.c 4 0)≤h.c.Sl
 h0:2≤g.stage→1≤g.h0∧g.h0≤h.c.Sl
 wl:2≤g.stage→0≤m.word (adr h.c 13 (g.h0-1))∧m.word (adr h.c 13 (g.h0-1))≤h.c.Sl
 n:6≤g.stage→g.stage≤10→1≤g.n∧g.n≤h.c.Sl
 cleared:g.stage≤11→0≤g.cleared∧g.cleared≤1
 ret:g.stage=12→∃r sc,g.retire=some r∧r.scan=some sc∧ScanOk h a m sc
 hzE0:g.hz0=(qHz h g.thread 0:Int)
 hzE1:g.hz1=(qHz h g.thread 1:Int)
inductive Zx where
 | hz (k:Z8)
 | put (p:Pt)
 | get (g:Gt)
def Q6 (s:Haz×Are)(m:Mch)(i t:Nat)(c:Cll)(se:Sea):Zx→Bool×(Haz×Are)×Mch×Zx
 | .hz k=>((Qw s m i t c se k).1,(Qw s m i t c se k).2.1,(Qw s m i t c se k).2.2.1,.hz (Qw s m i t c se k).2.2.2)
 | .put p=>((ZW s.1 s.2 m i t c se p).1,(s.1,(ZW s.1 s.2 m i t c se p).2.1),(ZW s.1 s.2 m i t c se p).2.2.1,.put (ZW s.1 s.2 m i t c se p).2.2.2)
 | .get g=>(false,s,m,.get { g with stage:=1,hz0:=(qHz s.1 g.thread 0:Int),hz1:=(qHz s.1 g.thread 1:Int) })
def Q5 (s:Haz×Are)(m:Mch)(i t:Nat)(c:Cll)(se:Sea):Zx→Bool×(Haz×Are)×Mch×Zx
 | .hz k=>((ZQ s m i t c se k).1,(ZQ s m i t c se k).2.1,(ZQ s m i t c se k).2.2.1,.hz (ZQ s m i t c se k).2.2.2)
 | .put p=>((Qc s.1 s.2 m i t c se p).1,(s.1,(Qc s.1 s.2 m i t c se p).2.1),(Qc s.1 s.2 m i t c se p).2.2.1,.put (Qc s.1 s.2 m i t c se p).2.2.2)
 | .get g=>((Z6 s.1 s.2 m i t c se g).1,((Z6 s.1 s.2 m i t c se g).2.1,(Z6 s.1 s.2 m i t c se g).2.2.1),(Z6 s.1 s.2 m i t c se g).2.2.2.1,.get (Z6 s.1 s.2 m i t c se g).2.2.2.2)
theorem ptTaken_hz {m:Mch}{i t:Nat}{c:Cll}{s:Sea}{p:Pt}:(ZV m i t c s p).2.2.hz=p.hz:=by
 unfold ZV
 split<;>rfl
theorem ptReady_hz {h:Haz}{a:Are}{m:Mch}{i t:Nat}{c:Cll}{s:Sea}{p:Pt}:(ZW h a m i t c s p).2.2.2.hz=(qHz h p.thread 0:Int):=by
 unfold ZW
 simp only[]
 split
 ·exact ptTaken_hz
 ·rfl
theorem ptStep_hz {h:Haz}{a:Are}{m:Mch}{i t:Nat}{c:Cll}{s:Sea}{p:Pt}:(Qc h a m i t c s p).2.2.2.hz=p.hz:=by
 unfold Qc
 simp only[]
 by_cases s1:p.stage=1
 ·rw[if_pos s1]
  unfold ptTake
  simp only[]
  by_cases hb:(Zh a m p.take).1=true
  ·rw[if_pos hb];exact ptTaken_hz
  ·rw[if_neg hb]
 rw[if_neg s1]
 by_cases s2:p.stage=2
 ·rw[if_pos s2]
 rw[if_neg s2]
 by_cases s3:p.stage=3
 ·rw[if_pos s3]
 rw[if_neg s3]
 by_cases s4:p.stage=4
 ·rw[if_pos s4]
 rw[if_neg s4]
 by_cases s5:p.stage=5
 ·rw[if_pos s5]
 rw[if_neg s5]
 by_cases s6:p.stage=6
 ·rw[if_pos s6]
  by_cases hb:m.word (adr h.c 5 0)=p.t
  ·rw[if_pos hb]
  ·rw[if_neg hb]
 rw[if_neg s6]
 by_cases s7:p.stage=7
 ·rw[if_pos s7]
  by_cases hb:0≤m.word (adr h.c 13 (p.t-1))-1
  ·rw[if_pos hb]
  ·rw[if_neg hb]
 rw[if_neg s7]
 by_cases s8:p.stage=8
 ·rw[if_pos s8]
  by_cases hb:m.word (adr h.c 13 (p.t-1))=0
  ·rw[if_pos hb]
  ·rw[if_neg hb]
 rw[if_neg s8]
 by_cases s9:p.stage=9
 ·rw[if_pos s9]
 rw[if_neg s9]
 by_cases s10:p.stage=10
 ·rw[if_pos s10]
 rw[if_neg s10]
theorem gtStep_hz {h:Haz}{a:Are}{m:Mch}{i t:Nat}{c:Cll}{s:Sea}{g:Gt}:(Z6 h a m i t c s g).2.2.2.2.hz0=g.hz0∧(Z6 h a m i t c s g).2.2.2.2.hz1=g.hz1:=by
 unfold Z6
 simp only[]
 by_cases s1:g.stage=1
 ·rw[if_pos s1]
  exact⟨rfl,rfl⟩
 rw[if_neg s1]
 by_cases s2:g.stage=2
 ·rw[if_pos s2]
  exact⟨rfl,rfl⟩
 rw[if_neg s2]
 by_cases s3:g.stage=3
 ·rw[if_pos s3]
  by_cases hb:m.word (adr h.c 4 0)=g.h0
  ·rw[if_pos hb];exact⟨rfl,rfl⟩
  ·rw[if_neg hb];exact⟨rfl,rfl⟩
 rw[if_neg s3]
 by_cases s4:g.stage=4
 ·rw[if_pos s4]
  exact⟨rfl,rfl⟩
 rw[if_neg s4]
 by_cases s5:g.stage=5
 ·rw[if_pos s5]
  by_cases hb:0≤m.word (adr h.c 13 (g.h0-1))-1
  ·rw[if_pos hb];exact⟨rfl,rfl⟩
  ·rw[if_neg hb];exact⟨rfl,rfl⟩
 rw[if_neg s5]
 by_cases s6:g.stage=6
 ·rw[if_pos s6]
  exact⟨rfl,rfl⟩
 rw[if_neg s6]
 by_cases s7:g.stage=7
 ·rw[if_pos s7]
  by_cases hb:m.word (adr h.c 4 0)=g.h0
  ·rw[if_pos hb]
   by_cases hc:g.h0=g.t
   ·rw[if_pos hc];exact⟨rfl,rfl⟩
   ·rw[if_neg hc];exact⟨rfl,rfl⟩
  ·rw[if_neg hb];exact⟨rfl,rfl⟩
 rw[if_neg s7]
 by_cases s8:g.stage=8
 ·rw[if_pos s8]
  exact⟨rfl,rfl⟩
 rw[if_neg s8]
 by_cases s9:g.stage=9
 ·rw[if_pos s9]
  exact⟨rfl,rfl⟩
 rw[if_neg s9]
 by_cases s10:g.stage=10
 ·rw[if_pos s10]
  by_cases hb:m.word (adr h.c 4 0)=g.h0
  ·rw[if_pos hb];exact⟨rfl,rfl⟩
  ·rw[if_neg hb];exact⟨rfl,rfl⟩
 rw[if_neg s10]
 by_cases s11:g.stage=11
 ·rw[if_pos s11]
  unfold gtEnd
  simp only[]
  by_cases hb:g.cleared+1<2
  ·rw[if_pos hb];exact⟨rfl,rfl⟩
  ·rw[if_neg hb]
   by_cases hc:g.got=false
   ·rw[if_pos hc];exact⟨rfl,rfl⟩
   ·rw[if_neg hc];exact⟨rfl,rfl⟩
 rw[if_neg s11]
 cases g.retire with
 | none=>exact⟨rfl,rfl⟩
 | some r=>
  cases hs:r.scan with
  | none=>exact⟨by simp only[hs],by simp only[hs]⟩
  | some sc=>exact⟨by simp only[hs],by simp only[hs]⟩
end
section
set_option maxRecDepth 100000
set_option maxHeartbeats 1000000
attribute [local irreducible] Go.Calls
abbrev GW (τ:Type):=Wst (Haz×Are) τ
abbrev GI (τ:Type):=Nat→Bool→Int→List Int→τ→Prop
abbrev GR (τ:Type):=Bool×(Haz×Are)×Mch×τ
structure StG {τ:Type}(I:GI τ)(c:Cfg)(L S N:Nat)(t:Nat)(h:Haz)(a:Are)(r:GR τ):Prop where
 core:Core c L S N r.2.1.1 r.2.1.2 r.2.2.1
 fr:Fr t h r.2.1.1 a r.2.1.2
 fin:r.1=false→I t true (r.2.1.1.held.getD t 0) (r.2.1.2.caches.getD t []) r.2.2.2
structure GHalf {τ:Type}(I:GI τ)(c:Cfg)(L S N:Nat)(i t:Nat)(cl:Cll)(se:Sea)(h:Haz)(a:Are)(m:Mch)(r:GR τ):Prop extends StG I c L S N t h a r where
 frame:Qz i t cl se m r.2.2.1
def ZO {τ:Type}(y:GW τ)(t i:Nat)(se:Sea):Mch:=y.tick.m.prep t i y.m.moves se
def Qj {τ:Type}(y:GW τ)(t i:Nat)(r:GR τ):GW τ:=⟨r.2.1,QT r.2.2.1 t i y.m.moves (getC r.2.2.1 i) (getS r.2.2.1 t) r.1,y.tasks.set t (if r.1=true then none else some r.2.2.2)⟩
section
variable {τ:Type}{T:JH (Haz×Are) τ}{mkr:Haz×Are→Nat→Mv→Option τ}{I:GI τ}{c:Cfg}{n:Nat}{y y':GW τ}{K:Int→Option Value}
theorem Qz.trans' {i t:Nat}{cl:Cll}{s:Sea}{m0 m1 m2:Mch}{z k v:Int}(f:Qz i t cl s m0 m1)(g:Qz i t { cl with point:=z } { s with kind:=k,value:=v } m1 m2):Qz i t cl s m0 m2:=by
 obtain⟨z1,hz1⟩:=f.calls
 obtain⟨k1,v1,hk1⟩:=f.seats
 obtain⟨z2,hz2⟩:=g.calls
 obtain⟨k2,v2,hk2⟩:=g.seats
 exact⟨g.cur.trans f.cur,g.vs.trans f.vs,g.vc.trans f.vc,g.kit.trans f.kit,g.moves.trans f.moves,g.now.trans f.now,g.thread.trans f.thread,
  ⟨z2,by rw[hz2,hz1,Yl]⟩,⟨k2,v2,by rw[hk2,hk1,Yl]⟩⟩
end
end
end Go.Proofs.YtefjbdajgakgpaaGreat
