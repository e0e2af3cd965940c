import Derived.Test.YtefjbdajgakgpaaGreatCRo5
set_option linter.all false
namespace Go.Proofs.YtefjbdajgakgpaaGreat
section
open Go.RowKit Hp
set_option maxRecDepth 100000
set_option maxHeartbeats 1000000
attribute [local irreducible] Go.Calls
variable [TopR]
section
variable {c:Cfg}{Lg S N:Nat}{h:Haz}{a:Are}{m:Mch}
variable {n:Int}{Z Y:Int→Nat}{F stk:List Int}{pr:Int→Prop}{K L:List Int}{t:Nat}{W:Int→Prop}
theorem step_gd {k:Qu}{i:Nat}{cl:Cll}{se:Sea}(C:Core c Lg S N h a m)(hN:N<1000000)(ht:(t:Int)<c.T)(hm:m.thread=(t:Int))(I:TI c t true (h.held.getD t 0) (a.caches.getD t []) k)(hn:n<4294967295)
  (G:Gd c n Z Y F (sx stk pr c h a m) (hS k) (hL k)) (D:TD c t (sx stk pr c h a m) k):StP stk c n Z Y pr h a m t (Qj (h,a) m i t cl se k):=by
 cases k with
 | reg r=>exact reg_gd C I.1 I.2.1 I.2.2 G D
 | unr u=>exact unr_gd C hN ht hm I.1 I.2.1 I.2.2 hn G D
 | pst p=>exact post_gd C hN ht hm I.1 I.2.1 (I.2.2.1 rfl) hn G D
 | rdg r=>exact read_gd C I G D
 | clr ad=>exact clr_gd C I.1 G D
 | scn s=>exact scn_gd C (I.2.2 rfl) I.1 hm ht hn G D
theorem ready_gd {k:Qu}{i:Nat}{cl:Cll}{se:Sea}(C:Core c Lg S N h a m)(ht:(t:Int)<c.T)(hm:m.thread=(t:Int))(I:TI c t false (h.held.getD t 0) (a.caches.getD t []) k)
  (hfr:hS k=[]∧hL k=[]) (G:Gd c n Z Y F (sx stk pr c h a m) (hS k) (hL k)) (D:TD c t (sx stk pr c h a m) k):StP stk c (n-1) Z Y pr h a m t (Qy (h,a) m i t cl se k):=by
 have id_:StP stk c (n-1) Z Y pr h a m t (false,(h,a),m,k):=⟨pr,F,by simp only[Yn,if_false];exact G.mono (by omega),Rl.refl ..,fun _=>D⟩
 cases k with
 | reg r=>exact id_
 | unr u=>exact id_
 | rdg r=>exact id_
 | clr ad=>exact id_
 | scn s=>
  obtain⟨_,i2,_⟩:=I
  obtain⟨r0,r1,hp⟩:=i2 rfl
  have hlt:t<h.held.length:=by rw[C.held];omega
  obtain⟨n1,n2,n3,n4⟩:=next_sd (h:=h) (s:={ s with at_ := -1 }) (t:=t) (sx stk pr c h a m) (D.scan s rfl).rcd
  rw[hfr.1,hfr.2]at G
  have n2':hS (.scn (ZM h s).2)=[]:=n2
  have n3':hL (.scn (ZM h s).2)=[]:=n3
  refine⟨pr,F,?_,Rl.refl ..,fun _=>td_scn n1⟩
  simp only[Qy,n2',n3',ite_self]
  exact G.mono (by omega)
 | pst p=>
  obtain⟨i1,i2,_,i4⟩:=I
  obtain⟨n1,n2,n3⟩:=i4 rfl
  obtain⟨z1,z2⟩:=hS_pst0 n2
  rw[z1,z2]at G
  simp only[Qy]
  unfold ZP
  simp only[]
  have hR:=takeReady_gd (t:=t) (W:=fun _=>False) (k:=⟨p.thread,1,0,0,0,false⟩) C i1 ht hm G
  have hTk:=Jp (k:=⟨p.thread,1,0,0,0,false⟩) C (by simp only[];omega) (by simp only[];omega)
  generalize Zf a m ⟨p.thread,1,0,0,0,false⟩=r at hR hTk ⊢
  rcases hR with e|⟨e1,e2,e3,e4⟩
  ·cases e
   simp only[Yn,if_false]
   obtain⟨y1,y2⟩:=hS_pst0 (p:={ p with take:=some ⟨p.thread,1,0,0,0,false⟩ }) n2
   refine⟨pr,F,?_,Rl.refl ..,fun _=>td_pst (fun hf=>by simp only[n2]at hf;omega) (fun _ k' hk' => ?_) (fun hf=>by simp only[n2]at hf;omega) (fun hf=>by simp only[n2]at hf;omega)⟩
   ·simp only[Yn,if_false,y1,y2];exact G.mono (by omega)
   ·simp only[Option.some.injEq]at hk'
    subst hk'
    exact⟨fun hf=>absurd rfl hf,fun hf=>by simp at hf⟩
  ·rw[if_pos e1]
   rcases hTk with e|⟨_,_,q,_⟩
   ·rw[e]at e1;cases e1
   ·have e2:Gd c (n-1+1) Z Y F (sx stk pr c h r.2.1 r.2.2.1) [Zd r.2.2.2] []:=e2.mono (by omega)
    have Q:=took_gd (n:=n-1+1) (i:=i) (cl:=cl) (se:=se) (h:=h) (a:=a) (m:=m) (p:={ p with take:=some r.2.2.2 }) (.inr q.1) (by rw[if_pos q.1];exact e2) e3 (fun _=>e4)
    obtain⟨pr',F2,q1,q2,q3⟩:=Q
    refine⟨pr',F2,?_,q2,q3⟩
    have tg:(mv c (ZI r.2.2.1 i t cl se { p with take:=some r.2.2.2 } r.2.2.2).2.1).hd / 4294967296≤n-1+1:=by
     have:=e2.tag
     have ew:(ZI r.2.2.1 i t cl se { p with take:=some r.2.2.2 } r.2.2.2).2.1.mem.words=r.2.2.1.mem.words:=by unfold ZI;split<;>rfl
     rw[mv_same ew];exact this
    exact⟨q1.tot,q1.stF,q1.stC,q1.stX,q1.stL,q1.stZ,q1.chain,q1.hd0,tg,q1.rcd,q1.act1,q1.pr1,q1.pr2,q1.stK,q1.lk⟩
theorem count_focus {tasks:List (Option Qu)}(f:Option Qu→List Int)(f0:f none=[]){t:Nat}{o:Option Qu}(h:tasks[t]? = some o)(s:Int) :
  cnt2 (tasks.map f) s=cnt2 ((tasks.set t none).map f) s+(f o).count s:=by
 have h1:(tasks.map f)[t]? = some (f o):=by rw[Ym,h];rfl
 have:=cnt2_set [] s h1
 rw[Yk,f0]
 simp only[List.count_nil]at this
 omega
theorem Gd.focus {x:Sx}{tasks:List (Option Qu)}{t:Nat}{o:Option Qu}(G:Gd c n (cnt2 (tasks.map tS)) (cnt2 (tasks.map tL)) F x [] [])(h:tasks[t]? = some o) :
  Gd c n (cnt2 ((tasks.set t none).map tS)) (cnt2 ((tasks.set t none).map tL)) F x (tS o) (tL o):=by
 refine⟨fun s => ?_,G.stF,G.stC,G.stX,G.stL,fun s hs=>G.stZ s ?_,G.chain,G.hd0,G.tag,fun r r0 r1 => ?_,G.act1,G.pr1,G.pr2,G.stK,G.lk⟩
 ·have:=G.tot s
  rw[count_focus tS rfl h s]at this
  simp only[List.count_nil]at this
  omega
 ·rw[count_focus tS rfl h s];omega
 ·have:=G.rcd r r0 r1
  rw[count_focus tL rfl h r]at this
  simp only[List.count_nil]at this
  omega
theorem TD.st {x:Sx}{k:Qu}(D:TD c t x k)(s:Int)(hs:s∈hS k):(x.sl s).state=2∨(x.sl s).state=4∨(x.sl s).state=5:=by
 unfold hS at hs
 rcases List.mem_append.1 hs with hs|hs
 ·rw[D.own s hs];exact .inl rfl
 ·unfold hP at hs
  cases e:scOf k with
  | none=>rw[e]at hs;simp at hs
  | some z=>rw[e]at hs;exact .inr (.inr ((D.scan z e).st s hs))
theorem made_td {mv:Mv}{k:Qu}(C:Core c Lg S N h a m)(ht:(t:Int)<c.T)(hk:Qx (h,a) t mv=some k):hS k=[]∧hL k=[]∧TD c t (sx stk pr c h a m) k:=by
 have hc:=C.hc
 have hok:=C.ok
 obtain⟨r1,r0⟩:=C.hget ht
 have hlt:t<h.held.length:=by rw[C.held];omega
 have hh:h.held[t]? = some (h.held.getD t 0):=by rw[Yb,Yd hlt];rfl
 unfold Qx at hk
 simp only[hc]at hk
 generalize h.held.getD t 0=hd at hk r0 r1 hh
 split at hk
 ·split at hk
  ·rename_i hneg;cases hk;exact⟨rfl,rfl,td_reg hh hneg⟩
  ·cases hk
 ·split at hk
  ·cases hk
  ·rename_i hnn
   split at hk
   ·cases hk
    obtain⟨z1,z2⟩:=hS_unr (u:=⟨t,0,0,none,none⟩) (by simp)
    exact⟨z1,z2,td_unr (fun hf=>by simp at hf) (fun hf=>by simp at hf)⟩
   ·split at hk
    ·cases hk
     obtain⟨z1,z2⟩:=hS_pst0 (p:=⟨t,mv.arg,0,none,0,0,none⟩) rfl
     exact⟨z1,z2,td_pst (fun hf=>by simp at hf) (fun _ k' hk'=>(by cases hk')) (fun hf=>by simp at hf) (fun hf=>by simp at hf)⟩
    ·split at hk
     ·split at hk
      ·rename_i hb
       cases hk
       exact⟨rfl,rfl,td_rdg ⟨hd,hh,by omega,r1,by simp only[];omega,by simp only[];omega⟩ (fun hf=>by simp at hf) (fun hf=>by simp at hf)⟩
      ·cases hk
     ·split at hk
      ·split at hk
       ·rename_i hb
        obtain⟨a1,a2⟩:=hz_adr hok (by omega) r1 hb.1 hb.2
        have:=(ZD hok 9).1
        cases hk
        refine⟨rfl,rfl,td_clr ⟨hd,hh,by omega,r1,?_,?_⟩⟩<;>omega
       ·cases hk
      ·cases hk
       exact⟨rfl,rfl,td_scn ⟨hh,fun hf=>by simp at hf,fun hf=>by simp at hf,fun s0 h0=>by simp[scnP]at h0,fun s0 h0=>by simp[scnP]at h0⟩⟩
theorem TkS.of {k:Qu}{rdy:Bool}{hd:Int}{ca:List Int}(I:TI c t rdy hd ca k)(hf:rdy=false→hS k=[]∧hL k=[]):(∀s,scOf k=some s→0≤s.record)∧TkS k:=by
 have key:∀s,scOf k=some s→0≤s.record:=by
  intro s hs
  cases k with
  | reg r=>cases hs
  | rdg r=>cases hs
  | clr r=>cases hs
  | scn z=>
   simp only[scOf,Option.some.injEq]at hs;subst hs
   cases rdy with
   | false=>exact(I.2.1 rfl).1
   | true=>exact(I.2.2 rfl).rec0
  | unr u=>
   obtain⟨_,_,J⟩:=I
   simp only[scOf]at hs
   split at hs
   ·rename_i h1
    obtain⟨z,e1,e2,_⟩:=J.scan h1
    rw[e1]at hs;cases hs;exact e2.rec0
   ·cases hs
  | pst p=>
   obtain⟨_,_,J1,J2⟩:=I
   simp only[scOf]at hs
   split at hs
   ·rename_i h1
    cases rdy with
    | false=>have:=(J2 rfl).2.1;omega
    | true=>
     obtain⟨r,z,e1,e2,e3,_⟩:=(J1 rfl).ret h1
     rw[e1]at hs;simp only[e2]at hs;cases hs;exact e3.rec0
   ·cases hs
 refine⟨key,key,?_⟩
 rintro p rfl h0 k' hk h3
 obtain⟨_,_,J1,J2⟩:=I
 cases rdy with
 | false=>rw[(J2 rfl).1]at hk;cases hk
 | true=>
  obtain⟨⟨k2,e1,e2,_⟩,_⟩:=J1 rfl
  rw[hk]at e1;cases e1
  exact((e2 h0).head (by omega)).2.1
end
end
section
open Go.RowKit Hp
structure Pt where
 thread:Int
 value:Int
 take:Tak
 slot:Int
 t:Int
 n:Int
 stage:Int
 hz:Int
structure Gt where
 thread:Int
 h0:Int
 t:Int
 n:Int
 value:Int
 got:Bool
 cleared:Int
 retire:Option Ret
 stage:Int
 hz0:Int
 hz1:Int
def ZX (m:Mch)(i t:Nat)(c:Cll)(s:Sea)(p:Pt):Bool×Mch×Pt:=
 if Zd p.take<0 then (true,(m.point i c m.now).answer t s 4 0,{ p with slot:=Zd p.take })
 else (false,m,{ p with slot:=Zd p.take,stage:=2 })
def qHz (h:Haz)(th k:Int):Nat:=(base h.c 9+h.held.getD th.toNat 0*h.c.Hz+k).toNat
def ZY (h:Haz)(a:Are)(m:Mch)(i t:Nat)(c:Cll)(s:Sea)(p:Pt):Bool×Are×Mch×Pt:=
 let r:=Zf a m p.take
 let p1:={ p with take:=r.2.2.2,stage:=1,hz:=(qHz h p.thread 0:Int) }
 if r.1=true then
  let q:=ZX r.2.2.1 i t c s p1
  (q.1,r.2.1,q.2.1,q.2.2)
 else (false,r.2.1,r.2.2.1,p1)
def ptTake (a:Are)(m:Mch)(i t:Nat)(c:Cll)(s:Sea)(p:Pt):Bool×Are×Mch×Pt:=
 let r:=Zj a m p.take
 let p1:={ p with take:=r.2.2.2 }
 if r.1=true then
  let q:=ZX r.2.2.1 i t c s p1
  (q.1,r.2.1,q.2.1,q.2.2)
 else (false,r.2.1,r.2.2.1,p1)
def Z7 (h:Haz)(a:Are)(m:Mch)(i t:Nat)(c:Cll)(s:Sea)(p:Pt):Bool×Are×Mch×Pt:=
 let T:=adr h.c 5 0
 let Z:=qHz h p.thread 0
 let K:=adr h.c 13 (p.t-1)
 if p.stage=1 then ptTake a m i t c s p
 else if p.stage=2 then
  let A:=adr h.c 11 p.slot
  (false,a,m.store A (m.word A) (p.value%18446744073709551616),{ p with stage:=3 })
 else if p.stage=3 then
  let A:=adr h.c 13 p.slot
  (false,a,m.store A (m.word A) 0,{ p with stage:=4 })
 else if p.stage=4 then (false,a,m.load T (m.word T),{ p with t:=m.word T,stage:=5 })
 else if p.stage=5 then (false,a,m.store Z (m.word Z) p.t,{ p with stage:=6 })
 else if p.stage=6 then (false,a,m.load T (m.word T),if m.word T=p.t then { p with stage:=7 } else { p with t:=m.word T,stage:=5 })
 else if p.stage=7 then (false,a,m.load K (m.word K),if 0≤m.word K-1 then { p with n:=m.word K,stage:=11 } else { p with n:=m.word K,stage:=8 })
 else if p.stage=8 then
  if m.word K=0 then
   (false,a.shift p.slot.toNat m.thread 3,((m.swap K (m.word K) 0 (p.slot+1)).point i c m.now).shift p.slot (a.slots.getD p.slot.toNat ⟨0,0⟩).state 3,{ p with stage:=9 })
  else (false,a,m.swap K (m.word K) 0 (p.slot+1),{ p with stage:=4 })
 else if p.stage=9 then (false,a,m.swap T (m.word T) p.t (p.slot+1),{ p with stage:=10 })
 else if p.stage=10 then (true,a,(m.store Z (m.word Z) 0).answer t s 1 0,p)
 else (false,a,m.swap T (m.word T) p.t p.n,{ p with stage:=4 })
def gtEnd (h:Haz)(a:Are)(m:Mch)(t:Nat)(s:Sea)(g:Gt):Bool×Haz×Are×Mch×Gt:=
 let Z:=qHz h g.thread g.cleared
 if g.cleared+1<2 then (false,h,a,m.store Z (m.word Z) 0,{ g with cleared:=g.cleared+1 })
 else if g.got=false then (true,h,a,m.store Z (m.word Z) 0,{ g with cleared:=g.cleared+1 })
 else
  let q:=Zx h a ((m.store Z (m.word Z) 0).answer t s 2 g.value) ⟨g.thread,g.h0-1,none⟩
  (q.1,q.2.1,q.2.2.1,q.2.2.2.1,{ g with cleared:=g.cleared+1,retire:=some q.2.2.2.2,stage:=12 })
def QD (h:Haz)(a:Are)(m:Mch)(i t:Nat)(c:Cll)(s:Sea)(g:Gt):Bool×Haz×Are×Mch×Gt:=
 let H:=adr h.c 4 0
 let T:=adr h.c 5 0
 let K:=adr h.c 13 (g.h0-1)
 if g.stage=1 then (false,h,a,m.load H (m.word H),{ g with h0:=m.word H,stage:=2 })
 else if g.stage=2 then (false,h,a,m.store (qHz h g.thread 0) (m.word (qHz h g.thread 0)) g.h0,{ g with stage:=3 })
 else if g.stage=3 then (false,h,a,m.load H (m.word H),if m.word H=g.h0 then { g with stage:=4 } else { g with h0:=m.word H,stage:=2 })
 else if g.stage=4 then (false,h,a,m.load T (m.word T),{ g with t:=m.word T,stage:=5 })
 else if g.stage=5 then
  if 0≤m.word K-1 then (false,h,a,m.load K (m.word K),{ g with n:=m.word K,stage:=6 })
  else (false,h,a,((m.load K (m.word K)).point i c m.now).answer t s 3 0,{ g with n:=m.word K,stage:=11 })
 else if g.stage=6 then (false,h,a,m.store (qHz h g.thread 1) (m.word (qHz h g.thread 1)) g.n,{ g with stage:=7 })
 else if g.stage=7 then (false,h,a,m.load H (m.word H),if m.word H=g.h0 then (if g.h0=g.t then { g with stage:=8 } else { g with stage:=9 }) else { g with h0:=m.word H,stage:=2 })
 else if g.stage=8 then (false,h,a,m.swap T (m.word T) g.t g.n,{ g with stage:=1 })
 else if g.stage=9 then
  let A:=adr h.c 11 (g.n-1)
  (false,h,a,m.load A (m.word A),{ g with value:=wrap64 (m.word A),stage:=10 })
 else if g.stage=10 then
  if m.word H=g.h0 then
   (false,h,a.shift (g.h0-1).toNat m.thread 4,((m.swap H (m.word H) g.h0 g.n).point i c m.now).shift (g.h0-1) (a.slots.getD (g.h0-1).toNat ⟨0,0⟩).state 4,{ g with got:=true,stage:=11 })
  else (false,h,a,m.swap H (m.word H) g.h0 g.n,{ g with stage:=1 })
 else if g.stage=11 then gtEnd h a m t s g
 else match g.retire with
  | none=>(true,h,a,m,g)
  | some r=>match r.scan with
   | none=>(true,h,a,m,g)
   | some sc=>
    let q:=Zs h a m sc
    (q.1,q.2.1,q.2.2.1,q.2.2.2.1,{ g with retire:=some { r with scan:=some q.2.2.2.2 } })
structure PtOk (h:Haz)(a:Are)(m:Mch)(p:Pt):Prop where
 hz:HazOk h a m
 t0:0≤p.thread
 t1:p.thread<h.c.T
 held:0≤h.held.getD p.thread.toNat 0
 stage:1≤p.stage∧p.stage≤11
 tk:p.stage=1→TakeOk a m p.take∧Zd (Zj a m p.take).2.2.2≤2147483646 ∧ -1≤Zd (Zj a m p.take).2.2.2
 slot:p.stage≠1→0≤p.slot∧p.slot<h.c.Sl
 wtail:0≤m.word (adr h.c 5 0)∧m.word (adr h.c 5 0)≤h.c.Sl
 t:5≤p.stage→1≤p.t∧p.t≤h.c.Sl
 wl:5≤p.stage→0≤m.word (adr h.c 13 (p.t-1))∧m.word (adr h.c 13 (p.t-1))≤h.c.Sl
 hzE:p.hz=(qHz h p.thread 0:Int)
structure GtOk (h:Haz)(a:Are)(m:Mch)(g:Gt):Prop where
 hz:HazOk h a m
 t0:0≤g.thread
 t1:g.thread<h.c.T
 held:0≤h.held.getD g.thread.toNat 0
 stage:1≤g.stage∧g.stage≤12
 whead:0≤m.word (adr h.c 4 0)∧m.word (adr h.c 4 0)≤h.c.Sl
 h0:2≤g.stage→1≤g.h0∧g.h0≤h.c.Sl
 wl:2≤g.stage→0≤m.word (adr h.c 13 (g.h0-1))∧m.word (adr h.c 13 (g.h0-1))≤h.c.Sl
 n:6≤g.stage→g.stage≤10→1≤g.n∧g.n≤h.c.Sl
 cleared:g.stage≤11→0≤g.cleared∧g.cleared≤1
 ret:g.stage=12→∃r sc,g.retire=some r∧r.scan=some sc∧ScanOk h a m sc
 hzE0:g.hz0=(qHz h g.thread 0:Int)
 hzE1:g.hz1=(qHz h g.thread 1:Int)
inductive Zu where
 | hz (k:Qu)
 | put (p:Pt)
 | get (g:Gt)
def QR (s:Haz×Are)(m:Mch)(i t:Nat)(c:Cll)(se:Sea):Zu→Bool×(Haz×Are)×Mch×Zu
 | .hz k=>((Qy s m i t c se k).1,(Qy s m i t c se k).2.1,(Qy s m i t c se k).2.2.1,.hz (Qy s m i t c se k).2.2.2)
 | .put p=>((ZY s.1 s.2 m i t c se p).1,(s.1,(ZY s.1 s.2 m i t c se p).2.1),(ZY s.1 s.2 m i t c se p).2.2.1,.put (ZY s.1 s.2 m i t c se p).2.2.2)
 | .get g=>(false,s,m,.get { g with stage:=1,hz0:=(qHz s.1 g.thread 0:Int),hz1:=(qHz s.1 g.thread 1:Int) })
def Jb (s:Haz×Are)(m:Mch)(i t:Nat)(c:Cll)(se:Sea):Zu→Bool×(Haz×Are)×Mch×Zu
 | .hz k=>((Qj s m i t c se k).1,(Qj s m i t c se k).2.1,(Qj s m i t c se k).2.2.1,.hz (Qj s m i t c se k).2.2.2)
 | .put p=>((Z7 s.1 s.2 m i t c se p).1,(s.1,(Z7 s.1 s.2 m i t c se p).2.1),(Z7 s.1 s.2 m i t c se p).2.2.1,.put (Z7 s.1 s.2 m i t c se p).2.2.2)
 | .get g=>((QD s.1 s.2 m i t c se g).1,((QD s.1 s.2 m i t c se g).2.1,(QD s.1 s.2 m i t c se g).2.2.1),(QD s.1 s.2 m i t c se g).2.2.2.1,.get (QD s.1 s.2 m i t c se g).2.2.2.2)
theorem ptTaken_hz {m:Mch}{i t:Nat}{c:Cll}{s:Sea}{p:Pt}:(ZX m i t c s p).2.2.hz=p.hz:=by
 unfold ZX
 split<;>rfl
theorem ptReady_hz {h:Haz}{a:Are}{m:Mch}{i t:Nat}{c:Cll}{s:Sea}{p:Pt}:(ZY h a m i t c s p).2.2.2.hz=(qHz h p.thread 0:Int):=by
 unfold ZY
 simp only[]
 split
 ·exact ptTaken_hz
 ·rfl
theorem ptStep_hz {h:Haz}{a:Are}{m:Mch}{i t:Nat}{c:Cll}{s:Sea}{p:Pt}:(Z7 h a m i t c s p).2.2.2.hz=p.hz:=by
 unfold Z7
 simp only[]
 by_cases s1:p.stage=1
 ·rw[if_pos s1]
  unfold ptTake
  simp only[]
  by_cases hb:(Zj a m p.take).1=true
  ·rw[if_pos hb];exact ptTaken_hz
  ·rw[if_neg hb]
 rw[if_neg s1]
 by_cases s2:p.stage=2
 ·rw[if_pos s2]
 rw[if_neg s2]
 by_cases s3:p.stage=3
 ·rw[if_pos s3]
 rw[if_neg s3]
 by_cases s4:p.stage=4
 ·rw[if_pos s4]
 rw[if_neg s4]
 by_cases s5:p.stage=5
 ·rw[if_pos s5]
 rw[if_neg s5]
 by_cases s6:p.stage=6
 ·rw[if_pos s6]
  by_cases hb:m.word (adr h.c 5 0)=p.t
  ·rw[if_pos hb]
  ·rw[if_neg hb]
 rw[if_neg s6]
 by_cases s7:p.stage=7
 ·rw[if_pos s7]
  by_cases hb:0≤m.word (adr h.c 13 (p.t-1))-1
  ·rw[if_pos hb]
  ·rw[if_neg hb]
 rw[if_neg s7]
 by_cases s8:p.stage=8
 ·rw[if_pos s8]
  by_cases hb:m.word (adr h.c 13 (p.t-1))=0
  ·rw[if_pos hb]
  ·rw[if_neg hb]
 rw[if_neg s8]
 by_cases s9:p.stage=9
 ·rw[if_pos s9]
 rw[if_neg s9]
 by_cases s10:p.stage=10
 ·rw[if_pos s10]
 rw[if_neg s10]
theorem gtStep_hz {h:Haz}{a:Are}{m:Mch}{i t:Nat}{c:Cll}{s:Sea}{g:Gt}:(QD h a m i t c s g).2.2.2.2.hz0=g.hz0∧(QD h a m i t c s g).2.2.2.2.hz1=g.hz1:=by
 unfold QD
 simp only[]
 by_cases s1:g.stage=1
 ·rw[if_pos s1]
  exact⟨rfl,rfl⟩
 rw[if_neg s1]
 by_cases s2:g.stage=2
 ·rw[if_pos s2]
  exact⟨rfl,rfl⟩
 rw[if_neg s2]
 by_cases s3:g.stage=3
 ·rw[if_pos s3]
  by_cases hb:m.word (adr h.c 4 0)=g.h0
  ·rw[if_pos hb];exact⟨rfl,rfl⟩
  ·rw[if_neg hb];exact⟨rfl,rfl⟩
 rw[if_neg s3]
 by_cases s4:g.stage=4
 ·rw[if_pos s4]
  exact⟨rfl,rfl⟩
 rw[if_neg s4]
 by_cases s5:g.stage=5
 ·rw[if_pos s5]
  by_cases hb:0≤m.word (adr h.c 13 (g.h0-1))-1
  ·rw[if_pos hb];exact⟨rfl,rfl⟩
  ·rw[if_neg hb];exact⟨rfl,rfl⟩
 rw[if_neg s5]
 by_cases s6:g.stage=6
 ·rw[if_pos s6]
  exact⟨rfl,rfl⟩
 rw[if_neg s6]
 by_cases s7:g.stage=7
 ·rw[if_pos s7]
  by_cases hb:m.word (adr h.c 4 0)=g.h0
  ·rw[if_pos hb]
   by_cases hc:g.h0=g.t
   ·rw[if_pos hc];exact⟨rfl,rfl⟩
   ·rw[if_neg hc];exact⟨rfl,rfl⟩
  ·rw[if_neg hb];exact⟨rfl,rfl⟩
 rw[if_neg s7]
 by_cases s8:g.stage=8
 ·rw[if_pos s8]
  exact⟨rfl,rfl⟩
 rw[if_neg s8]
 by_cases s9:g.stage=9
 ·rw[if_pos s9]
  exact⟨rfl,rfl⟩
 rw[if_neg s9]
 by_cases s10:g.stage=10
 ·rw[if_pos s10]
  by_cases hb:m.word (adr h.c 4 0)=g.h0
  ·rw[if_pos hb];exact⟨rfl,rfl⟩
  ·rw[if_neg hb];exact⟨rfl,rfl⟩
 rw[if_neg s10]
 by_cases s11:g.stage=11
 ·rw[if_pos s11]
  unfold gtEnd
  simp only[]
  by_cases hb:g.cleared+1<2
  ·rw[if_pos hb];exact⟨rfl,rfl⟩
  ·rw[if_neg hb]
   by_cases hc:g.got=false
   ·rw[if_pos hc];exact⟨rfl,rfl⟩
   ·rw[if_neg hc];exact⟨rfl,rfl⟩
 rw[if_neg s11]
 cases g.retire with
 | none=>exact⟨rfl,rfl⟩
 | some r=>
  cases hs:r.scan with
  | none=>exact⟨by simp only[hs],by simp only[hs]⟩
  | some sc=>exact⟨by simp only[hs],by simp only[hs]⟩
end
section
open Go.RowKit Hp
set_option maxRecDepth 100000
set_option maxHeartbeats 1000000
attribute [local irreducible] Go.Calls
abbrev GW (τ:Type):=Wst (Haz×Are) τ
abbrev GI (τ:Type):=Nat→Bool→Int→List Int→τ→Prop
abbrev GR (τ:Type):=Bool×(Haz×Are)×Mch×τ
structure StG {τ:Type}(I:GI τ)(c:Cfg)(L S N:Nat)(t:Nat)(h:Haz)(a:Are)(r:GR τ):Prop where
 core:Core c L S N r.2.1.1 r.2.1.2 r.2.2.1
 fr:Fr t h r.2.1.1 a r.2.1.2
 fin:r.1=false→I t true (r.2.1.1.held.getD t 0) (r.2.1.2.caches.getD t []) r.2.2.2
structure GHalf {τ:Type}(I:GI τ)(c:Cfg)(L S N:Nat)(i t:Nat)(cl:Cll)(se:Sea)(h:Haz)(a:Are)(m:Mch)(r:GR τ):Prop extends StG I c L S N t h a r where
 frame:QH i t cl se m r.2.2.1
def Qd {τ:Type}(y:GW τ)(t i:Nat)(se:Sea):Mch:=y.tick.m.prep t i y.m.moves se
def Qc {τ:Type}(y:GW τ)(t i:Nat)(r:GR τ):GW τ:=⟨r.2.1,Q3 r.2.2.1 t i y.m.moves (getC r.2.2.1 i) (getS r.2.2.1 t) r.1,y.tasks.set t (if r.1=true then none else some r.2.2.2)⟩
section
variable {τ:Type}{T:JK (Haz×Are) τ}{mkr:Haz×Are→Nat→Mv→Option τ}{I:GI τ}{c:Cfg}{n:Nat}{y y':GW τ}{K:Int→Option Value}
theorem QH.trans' {i t:Nat}{cl:Cll}{s:Sea}{m0 m1 m2:Mch}{z k v:Int}(f:QH i t cl s m0 m1)(g:QH i t { cl with point:=z } { s with kind:=k,value:=v } m1 m2):QH i t cl s m0 m2:=by
 obtain⟨z1,hz1⟩:=f.calls
 obtain⟨k1,v1,hk1⟩:=f.seats
 obtain⟨z2,hz2⟩:=g.calls
 obtain⟨k2,v2,hk2⟩:=g.seats
 exact⟨g.cur.trans f.cur,g.vs.trans f.vs,g.vc.trans f.vc,g.kit.trans f.kit,g.moves.trans f.moves,g.now.trans f.now,g.thread.trans f.thread,
  ⟨z2,by rw[hz2,hz1,Yl]⟩,⟨k2,v2,by rw[hk2,hk1,Yl]⟩⟩
end
end
section
open Go.RowKit Hp
set_option maxRecDepth 100000
set_option maxHeartbeats 1000000
attribute [local irreducible] Go.Calls
structure JC (M:List Int→Prop)(c:Cfg)(L S N:Nat)(h:Haz)(a:Are)(m:Mch):Prop extends Core c L S N h a m where
 mw:M m.mem.words
theorem JC.mono {M:List Int→Prop}{c:Cfg}{L S N:Nat}{h:Haz}{a:Are}{m:Mch}(k:JC M c L S N h a m){L' S' N':Nat}(hL:L≤L')(hS:S≤S')(hN:N≤N'):JC M c L' S' N' h a m:=⟨k.toCore.mono hL hS hN,k.mw⟩
theorem JC.of {M:List Int→Prop}{c:Cfg}{L S N:Nat}{h:Haz}{a:Are}{m m':Mch}(k:JC M c L S N h a m)(h1:m'.mem.words=m.mem.words)(h2:m'.mem.log.length=m.mem.log.length)(h3:m'.mem.ahead.length=m.mem.ahead.length)(h4:m'.shifts.length=m.shifts.length):JC M c L S N h a m':=⟨k.toCore.of h1 h2 h3 h4,by rw[h1];exact k.mw⟩
structure StM (M:List Int→Prop){τ:Type}(I:GI τ)(c:Cfg)(L S N:Nat)(t:Nat)(h:Haz)(a:Are)(r:GR τ):Prop where
 core:JC M c L S N r.2.1.1 r.2.1.2 r.2.2.1
 fr:Fr t h r.2.1.1 a r.2.1.2
 fin:r.1=false→I t true (r.2.1.1.held.getD t 0) (r.2.1.2.caches.getD t []) r.2.2.2
structure TInM (M:List Int→Prop)(c:Cfg){τ:Type}(T:JK (Haz×Are) τ)(mkr:Haz×Are→Nat→Mv→Option τ)(I:GI τ):Prop where
 rdy:∀ {L S N:Nat} {h:Haz} {a:Are} {m:Mch} {i t:Nat} {cl:Cll} {se:Sea} {k:τ},JC M c L S N h a m→(t:Int)<c.T→I t false (h.held.getD t 0) (a.caches.getD t []) k →
  StM M I c L (S+1) N t h a (T.rdy (h,a) m i t cl se k)∧(T.rdy (h,a) m i t cl se k).2.2.1.used=m.used
 stp:∀ {L S N:Nat} {h:Haz} {a:Are} {m:Mch} {i t:Nat} {cl:Cll} {se:Sea} {k:τ},JC M c L S N h a m→N<1000000→(t:Int)<c.T→I t true (h.held.getD t 0) (a.caches.getD t []) k →
  StG I c (L+1) (S+66) (N+1) t h a (T.stp (h,a) m i t cl se k)
 okr:∀ {L S N:Nat} {h:Haz} {a:Are} {m:Mch} {t:Nat} {k:τ},JC M c L S N h a m→m.used=false→L<4294967296→S<1000000000→N<1000000→(t:Int)<c.T→I t false (h.held.getD t 0) (a.caches.getD t []) k→T.okr (h,a) m t k
 oks:∀ {L S N:Nat} {h:Haz} {a:Are} {m:Mch} {t:Nat} {k:τ},JC M c L S N h a m→m.used=false→L<4294967296→S<1000000000→N<1000000→(t:Int)<c.T→I t true (h.held.getD t 0) (a.caches.getD t []) k→T.oks (h,a) m t k
 made:∀ {L S N:Nat} {h:Haz} {a:Are} {m:Mch} {t:Nat} {mv:Mv} {k:τ},JC M c L S N h a m→(t:Int)<c.T→mkr (h,a) t mv=some k→∀ca,I t false (h.held.getD t 0) ca k
structure GHalfM (M:List Int→Prop){τ:Type}(I:GI τ)(c:Cfg)(L S N:Nat)(i t:Nat)(cl:Cll)(se:Sea)(h:Haz)(a:Are)(m:Mch)(r:GR τ):Prop extends StM M I c L S N t h a r where
 frame:QH i t cl se m r.2.2.1
structure PM (M:List Int→Prop){τ:Type}(I:GI τ)(c:Cfg)(n:Nat)(y:GW τ):Prop where
 cur:y.m.cur=none
 moves:y.m.moves=(n:Int)
 core:JC M c n (100*n) n y.s.1 y.s.2 y.m
 tasks:y.tasks.length=c.T.toNat
 seats:y.m.seats.length=c.T.toNat
 calls:y.m.calls.length≤n
 task:∀(t:Nat) (k:τ) (se:Sea),y.tasks[t]? = some (some k)→y.m.seats[t]? = some se→(∃i:Nat,se.last=(i:Int)∧i<y.m.calls.length)∧I t se.ready (y.s.1.held.getD t 0) (y.s.2.caches.getD t []) k
structure GStepM (M:List Int→Prop){τ:Type}(T:JK (Haz×Are) τ)(I:GI τ)(c:Cfg)(n:Nat)(y:GW τ)(t i:Nat)(cl:Cll)(se:Sea)(k:τ)(r1 r2:GR τ):Prop where
 htT:(t:Int)<c.T
 hk:y.tasks[t]? = some (some k)
 hse:y.m.seats[t]? = some se
 hl:se.last=(i:Int)
 hc:y.m.calls[i]? = some cl
 c0:JC M c n (100*n) n y.s.1 y.s.2 (Qd y t i se)
 i0:I t se.ready (y.s.1.held.getD t 0) (y.s.2.caches.getD t []) k
 h1:GHalfM M I c n (100*n+1) n i t cl { se with ready:=true } y.s.1 y.s.2 (Qd y t i se) r1
 used1:r1.2.2.1.used=false
 rdy:se.ready=false∧r1=T.rdy y.s (Qd y t i se) i t cl { se with ready:=true } k∨se.ready=true∧r1=(false,y.s,Qd y t i se,k)
 h2:GHalf I c (n+1) (100*n+67) (n+1) i t cl { se with ready:=true } y.s.1 y.s.2 (Qd y t i se) r2
 stp:r1.1=true∧r2=r1∨r1.1=false∧∃z q v,Z6 r1.2.2.1 i t { cl with point:=z } { se with ready:=true,kind:=q,value:=v }∧r2=T.stp r1.2.1 r1.2.2.1 i t { cl with point:=z } { se with ready:=true,kind:=q,value:=v } r1.2.2.2
section
variable {M:List Int→Prop}{τ:Type}{T:JK (Haz×Are) τ}{mkr:Haz×Are→Nat→Mv→Option τ}{I:GI τ}{c:Cfg}{n:Nat}{y y':GW τ}{K:Int→Option Value}
theorem gm_rdy (hT:T.Good)(hI:TInM M c T mkr I){L S N:Nat}{h:Haz}{a:Are}{m:Mch}{i t:Nat}{cl:Cll}{se:Sea}{k:τ}{now:Int}(C:JC M c L S N h a m)(ht:(t:Int)<c.T)(hc:m.calls[i]? = some cl)(hs:t<m.seats.length)
  (I0:I t se.ready (h.held.getD t 0) (a.caches.getD t []) k) :
  GHalfM M I c L (S+1) N i t cl { se with ready:=true } h a (m.prep t i now se) (Zt T (h,a) m i t cl se k now)∧(Zt T (h,a) m i t cl se k now).2.2.1.used=false:=by
 have C0:JC M c L S N h a (m.prep t i now se):=C.of rfl rfl rfl rfl
 have hci:Z6 (m.prep t i now se) i t cl { se with ready:=true }:=⟨rfl,hc,by simp[Mch.prep,hs]⟩
 unfold Zt
 split
 ·rename_i hf
  rw[hf]at I0
  obtain⟨e1,e4⟩:=hI.rdy (i:=i) (cl:=cl) (se:={ se with ready:=true }) C0 ht I0
  exact⟨⟨e1,hT.fr _ _ _ _ _ _ _ hci⟩,e4⟩
 ·rename_i hf
  have hf:se.ready=true:=by simpa using hf
  rw[hf]at I0
  exact⟨⟨⟨C0.mono (by omega) (by omega) (by omega),.refl ..,fun _=>I0⟩,(Same.refl _).frame hci⟩,rfl⟩
theorem PM.may {ok:Haz×Are→Prop}(hK:∀ {L S N:Nat} {h:Haz} {a:Are} {m:Mch},JC M c L S N h a m→ok (h,a))(hT:T.Good)(hI:TInM M c T mkr I)(P:PM M I c n y)(hn:n<65536)(mv:Mv):MayMove T ok c.T.toNat y mv:=by
 obtain⟨p1,p2,p3,p4,p5,p6,p7⟩:=P
 have hok:=p3.ok
 have hT1:=hok.T1
 refine⟨p1,by omega,by omega,by omega,p4,p5,hK p3,by omega,?_⟩
 intro t k se ht hop hk hse
 obtain⟨⟨i,e1,e2⟩,I0⟩:=p7 t k se hk hse
 have hlt:=(List.getElem?_eq_some_iff.1 hse).1
 have htT:(t:Int)<c.T:=by omega
 have C0:JC M c n (100*n) n y.s.1 y.s.2 (y.tick.m.prep t i y.m.moves se):=p3.of rfl rfl rfl rfl
 have C1:JC M c n (100*n) n y.s.1 y.s.2 y.tick.m:=p3.of rfl rfl rfl rfl
 refine⟨i,_,e1,Yd e2,fun hf => ?_,fun hf => ?_⟩
 ·rw[hf]at I0
  exact hI.okr C0 rfl (by omega) (by omega) (by omega) htT I0
 ·obtain⟨⟨⟨r1,r2,r3⟩,_⟩,r5⟩:=gm_rdy hT hI (i:=i) (cl:=y.m.calls[i]) (now:=y.m.moves) C1 htT (Yd e2) hlt I0
  exact hI.oks r1 r5 (by omega) (by omega) (by omega) htT (r3 hf)
theorem PM.tick (P:PM M I c n y):PM M I c (n+1) y.tick:=by
 obtain⟨p1,p2,p3,p4,p5,p6,p7⟩:=P
 exact⟨p1,by simp only[Wst.tick];omega,(p3.mono (by omega) (by omega) (by omega)).of rfl rfl rfl rfl,p4,p5,by simp only[Wst.tick];omega,p7⟩
theorem gm_others {t j:Nat}{b:Bool}{h h':Haz}{a a':Are}{k:τ}(hj:j≠t)(f:Fr t h h' a a')(I0:I j b (h.held.getD j 0) (a.caches.getD j []) k):I j b (h'.held.getD j 0) (a'.caches.getD j []) k:=by
 rw[Yb,Yb]at I0 ⊢
 rw[f.held j hj,f.caches j hj]
 exact I0
theorem gm_busy (hT:T.Good)(hI:TInM M c T mkr I){mv:Mv}{b:Bool}(P:PM M I c n y)(hn:n<65536){t:Nat}{k:τ}{se:Sea}(ht:mv.thread=(t:Int))(hop:mv.op=0)(hk:y.tasks[t]? = some (some k))(hse:y.m.seats[t]? = some se)(hM:JL T K mkr y mv b y') :
  ∃(i:Nat) (cl:Cll) (r1 r2:GR τ),GStepM M T I c n y t i cl se k r1 r2∧y'=Qc y t i r2:=by
 cases hM with
 | out h=>exact absurd h (by have:=(List.getElem?_eq_some_iff.1 hk).1;omega)
 | idle j ht' hop' hj=>
  have e:t=j:=by omega
  subst e
  rw[hk]at hj;cases hj
 | busy j kj ht' hop' hj=>exact absurd hop hop'
 | nokit j ht' hop'=>exact absurd hop hop'
 | refused j ht' hop'=>exact absurd hop hop'
 | begin_ j kj v vc ht' hop'=>exact absurd hop hop'
 | step j i cl sj kj ht' hop' hj hsj hl hc=>
  have e:t=j:=by omega
  subst e
  rw[hk]at hj;cases hj
  rw[hse]at hsj;cases hsj
  obtain⟨p1,p2,p3,p4,p5,p6,p7⟩:=P
  have hlt:=(List.getElem?_eq_some_iff.1 hse).1
  have htT:(t:Int)<c.T:=by have:=p3.ok.T1;omega
  obtain⟨_,I0⟩:=p7 t k se hk hse
  have C1:JC M c n (100*n) n y.s.1 y.s.2 y.tick.m:=p3.of rfl rfl rfl rfl
  have C0:JC M c n (100*n) n y.s.1 y.s.2 (Qd y t i se):=p3.of rfl rfl rfl rfl
  have hci:Z6 (Qd y t i se) i t cl { se with ready:=true }:=⟨rfl,hc,by simp[Qd,Mch.prep,Wst.tick,hlt]⟩
  obtain⟨G1,u1⟩:=gm_rdy hT hI (i:=i) (cl:=cl) (now:=y.m.moves) C1 htT hc hlt I0
  have hsd:y.s=(y.s.1,y.s.2):=rfl
  have hrd:se.ready=false∧Zt T (y.s.1,y.s.2) y.tick.m i t cl se k y.m.moves=T.rdy y.s (Qd y t i se) i t cl { se with ready:=true } k∨se.ready=true∧Zt T (y.s.1,y.s.2) y.tick.m i t cl se k y.m.moves=(false,y.s,Qd y t i se,k):=by
   unfold Zt
   split
   ·rename_i hf;exact .inl ⟨hf,rfl⟩
   ·rename_i hf;exact .inr ⟨by simpa using hf,rfl⟩
  have G2:∃r2,r2=Jh T i t (Zt T (y.s.1,y.s.2) y.tick.m i t cl se k y.m.moves)∧GHalf I c (n+1) (100*n+67) (n+1) i t cl { se with ready:=true } y.s.1 y.s.2 (Qd y t i se) r2 ∧
    ((Zt T (y.s.1,y.s.2) y.tick.m i t cl se k y.m.moves).1=true∧r2=Zt T (y.s.1,y.s.2) y.tick.m i t cl se k y.m.moves∨(Zt T (y.s.1,y.s.2) y.tick.m i t cl se k y.m.moves).1=false ∧
     ∃z q v,Z6 (Zt T (y.s.1,y.s.2) y.tick.m i t cl se k y.m.moves).2.2.1 i t { cl with point:=z } { se with ready:=true,kind:=q,value:=v } ∧
      r2=T.stp (Zt T (y.s.1,y.s.2) y.tick.m i t cl se k y.m.moves).2.1 (Zt T (y.s.1,y.s.2) y.tick.m i t cl se k y.m.moves).2.2.1 i t { cl with point:=z } { se with ready:=true,kind:=q,value:=v } (Zt T (y.s.1,y.s.2) y.tick.m i t cl se k y.m.moves).2.2.2):=by
   generalize Zt T (y.s.1,y.s.2) y.tick.m i t cl se k y.m.moves=r at G1 u1 ⊢
   obtain⟨⟨r1,r2,r3⟩,r4⟩:=G1
   refine⟨_,rfl,?_⟩
   unfold Jh
   split
   ·rename_i hf
    obtain⟨z,kk,vv,hcc⟩:=r4.curIn hci
    rw[hcc.getC,hcc.getS]
    obtain⟨e1,e2,e3⟩:=hI.stp (i:=i) (cl:={ cl with point:=z }) (se:={ se with ready:=true,kind:=kk,value:=vv }) r1 (by omega) htT (r3 hf)
    have fs:=hT.fs r.2.1 _ i t _ _ r.2.2.2 hcc
    exact⟨⟨⟨e1,⟨fun j hj=>(e2.held j hj).trans (r2.held j hj),fun j hj=>(e2.caches j hj).trans (r2.caches j hj)⟩,e3⟩,r4.trans' fs⟩,.inr ⟨hf,z,kk,vv,hcc,rfl⟩⟩
   ·rename_i hf
    exact⟨⟨⟨r1.toCore.mono (by omega) (by omega) (by omega),r2,r3⟩,r4⟩,.inl ⟨by simpa using hf,rfl⟩⟩
  obtain⟨r2,e2,G2,G3⟩:=G2
  refine⟨i,cl,_,r2,⟨htT,hk,hse,hl,hc,C0,I0,G1,u1,hrd,G2,G3⟩,?_⟩
  subst e2
  rfl
theorem gm_open (hT:T.Good)(hI:TInM M c T mkr I){mv:Mv}{b:Bool}(P:PM M I c n y)(hn:n<65536)(hM:JL T K mkr y mv b y') :
  (y'=y.tick) ∨
  (∃(t:Nat) (k:τ) (v vc:Value),mv.thread=(t:Int)∧(t:Int)<c.T∧mv.op≠0∧y.tasks[t]? = some none∧K mv.op≠none∧mkr y.s t mv=some k∧y'=⟨y.s,Zz y.m t mv v vc,y.tasks.set t (some k)⟩) ∨
  (∃(t i:Nat) (cl:Cll) (se:Sea) (k:τ) (r1 r2:GR τ),mv.thread=(t:Int)∧mv.op=0∧GStepM M T I c n y t i cl se k r1 r2∧y'=Qc y t i r2):=by
 cases hM with
 | out=>exact .inl rfl
 | idle=>exact .inl rfl
 | busy=>exact .inl rfl
 | nokit=>exact .inl rfl
 | refused=>exact .inl rfl
 | begin_ t k v vc ht hop hk hKn hmk=>
  have hlt:=(List.getElem?_eq_some_iff.1 hk).1
  have htT:(t:Int)<c.T:=by have:=P.core.ok.T1;have:=P.tasks;omega
  exact .inr (.inl ⟨t,k,v,vc,ht,htT,hop,hk,hKn,hmk,rfl⟩)
 | step t i cl se k ht hop hk hse hl hc=>
  obtain⟨i',cl',r1,r2,G,e⟩:=gm_busy (K:=K) (b:=true) hT hI P hn ht hop hk hse (.step t i cl se k ht hop hk hse hl hc)
  exact .inr (.inr ⟨t,i',cl',se,k,r1,r2,ht,hop,G,e⟩)
theorem PM.move (hT:T.Good)(hI:TInM M c T mkr I){mv:Mv}{b:Bool}(P:PM M I c n y)(hn:n<65536)(hw:M y'.m.mem.words)(h:JL T K mkr y mv b y'):PM M I c (n+1) y':=by
 rcases gm_open hT hI P hn h with rfl|⟨t,k,v,vc,ht,htT,hop,hk,hKn,hmk,rfl⟩|⟨t,i,cl,se,k,r1,r,ht,hop,G,rfl⟩
 ·exact P.tick
 ·obtain⟨p1,p2,p3,p4,p5,p6,p7⟩:=P
  have hlt:=(List.getElem?_eq_some_iff.1 hk).1
  refine⟨p1,by simp only[Zz];omega,(p3.mono (by omega) (by omega) (by omega)).of rfl rfl rfl rfl,by simp[p4],by simp[Zz,p5],by simp[Zz];omega,?_⟩
  intro j kj sj hkj hsj
  simp only[Zz]at hkj hsj
  by_cases hj:j=t
  ·subst hj
   rw[Ye (by omega)]at hkj hsj
   cases hkj
   cases hsj
   exact⟨⟨_,rfl,by simp[Zz]⟩,hI.made p3 htT hmk _⟩
  ·rw[Z2 hj]at hkj hsj
   obtain⟨⟨i',q1,q2⟩,q3⟩:=p7 j kj sj hkj hsj
   exact⟨⟨i',q1,by simp[Zz];omega⟩,q3⟩
 ·obtain⟨p1,p2,p3,p4,p5,p6,p7⟩:=P
  have hlt:=(List.getElem?_eq_some_iff.1 G.hse).1
  have hci:Z6 (Qd y t i se) i t cl { se with ready:=true }:=⟨rfl,G.hc,by simp[Qd,Mch.prep,Wst.tick,hlt]⟩
  obtain⟨⟨e1,e2,e3⟩,e4⟩:=G.h2
  have hc:=G.hc
  obtain⟨z,kk,vv,hcc⟩:=e4.curIn hci
  obtain⟨z1,hz1⟩:=e4.calls
  obtain⟨k1,v1,hk1⟩:=e4.seats
  have hcl:r.2.2.1.calls.length=y.m.calls.length:=by rw[hz1];simp[Qd,Mch.prep,Wst.tick]
  have hsl:r.2.2.1.seats.length=y.m.seats.length:=by rw[hk1];simp[Qd,Mch.prep,Wst.tick]
  have hmv:r.2.2.1.moves=y.m.moves+1:=e4.moves
  have hsS:∀j,j≠t→r.2.2.1.seats[j]? = y.m.seats[j]? := by
   intro j hj
   rw[hk1,Z2 hj]
   simp only[Qd,Mch.prep,Wst.tick]
   rw[Z2 hj]
  have hw1:M r.2.2.1.mem.words:=by
   have e:(Qc y t i r).m.mem=r.2.2.1.mem:=by unfold Qc Q3;split<;>rfl
   rw[e]at hw;exact hw
  unfold Qc
  rw[hcc.getC,hcc.getS]
  by_cases hb:r.1=true
  ·simp only[Q3,if_pos hb]
   refine⟨rfl,by show r.2.2.1.moves=_;omega,⟨(e1.mono (by omega) (by omega) (by omega)).of rfl rfl rfl rfl,hw1⟩,by simp[p4],by simp[hsl,p5],by simp;omega,?_⟩
   intro j kj sj hkj hsj
   simp only[]at hkj hsj
   by_cases hj:j=t
   ·subst hj
    rw[Ye (by omega)]at hkj
    simp at hkj
   ·rw[Z2 hj]at hkj hsj
    rw[hsS j hj]at hsj
    obtain⟨⟨i',q1,q2⟩,q3⟩:=p7 j kj sj hkj hsj
    exact⟨⟨i',q1,by simp;omega⟩,gm_others hj e2 q3⟩
  ·simp only[Q3,if_neg hb]
   refine⟨rfl,by show r.2.2.1.moves=_;omega,⟨(e1.mono (by omega) (by omega) (by omega)).of rfl rfl rfl rfl,hw1⟩,by simp[p4],by simp[hsl,p5],by simp;omega,?_⟩
   intro j kj sj hkj hsj
   simp only[]at hkj hsj
   by_cases hj:j=t
   ·subst hj
    rw[Ye (by omega)]at hkj
    simp at hkj
    subst hkj
    rw[hcc.seat]at hsj
    cases hsj
    exact⟨⟨i,G.hl,by have:=(List.getElem?_eq_some_iff.1 hc).1;simp only[];omega⟩,e3 (by simpa using hb)⟩
   ·rw[Z2 hj]at hkj
    rw[hsS j hj]at hsj
    obtain⟨⟨i',q1,q2⟩,q3⟩:=p7 j kj sj hkj hsj
    exact⟨⟨i',q1,by simp only[];omega⟩,gm_others hj e2 q3⟩
structure JM (M:List Int→Prop)(T:JK (Haz×Are) τ)(mkr:Haz×Are→Nat→Mv→Option τ)(I:GI τ)(c:Cfg)(ops:Int→Prop)(J:Nat→GW τ→Prop):Prop where
 tick:∀n y,n<65536→PM M I c n y→J n y→J (n+1) y.tick
 beg:∀n y mv t k v vc,n<65536→PM M I c n y→J n y→mv.thread=((t:Nat):Int)→(t:Int)<c.T→ops mv.op→y.tasks[t]? = some none→mkr y.s t mv=some k→J (n+1) ⟨y.s,Zz y.m t mv v vc,y.tasks.set t (some k)⟩
 mw:∀n y t i cl se k r1 r2,n<65536→PM M I c n y→GStepM M T I c n y t i cl se k r1 r2→J n y→M (Qc y t i r2).m.mem.words
 step:∀n y t i cl se k r1 r2,n<65536→PM M I c n y→GStepM M T I c n y t i cl se k r1 r2→PM M I c (n+1) (Qc y t i r2)→J n y→J (n+1) (Qc y t i r2)
theorem JM.moves {ops:Int→Prop}{J:Nat→GW τ→Prop}(hJ:JM M T mkr I c ops J)(hT:T.Good)(hI:TInM M c T mkr I)(hK:∀o,K o≠none→ops o){mv:Mv}{b:Bool}(P:PM M I c n y)(j:J n y)(hn:n<65536)(h:JL T K mkr y mv b y'):PM M I c (n+1) y'∧J (n+1) y':=by
 have hw:M y'.m.mem.words:=by
  rcases gm_open hT hI P hn h with rfl|⟨t,k,v,vc,ht,htT,hop,hk,hKn,hmk,rfl⟩|⟨t,i,cl,se,k,r1,r,ht,hop,G,rfl⟩
  ·exact P.core.mw
  ·exact P.core.mw
  ·exact hJ.mw n y t i cl se k r1 r hn P G j
 have P':=P.move hT hI hn hw h
 refine⟨P',?_⟩
 rcases gm_open hT hI P hn h with rfl|⟨t,k,v,vc,ht,htT,hop,hk,hKn,hmk,rfl⟩|⟨t,i,cl,se,k,r1,r,ht,hop,G,rfl⟩
 ·exact hJ.tick n y hn P j
 ·exact hJ.beg n y mv t k v vc hn P j ht htT (hK _ hKn) hk hmk
 ·exact hJ.step n y t i cl se k r1 r hn P G P' j
end
end
section
open Go.RowKit Hp
set_option maxRecDepth 100000
set_option maxHeartbeats 1000000
attribute [local irreducible] Go.Calls
section
variable {τ:Type}{T:JK (Haz×Are) τ}{mkr:Haz×Are→Nat→Mv→Option τ}{I:GI τ}{c:Cfg}{n:Nat}{y:GW τ}{t i:Nat}{cl:Cll}{se:Sea}{k:τ}{r1 r2:GR τ}
structure GOut (n:Nat)(y:GW τ)(t i:Nat)(cl:Cll)(se:Sea)(r:GR τ)(z q v:Int):Prop where
 cur:Z6 r.2.2.1 i t { cl with point:=z } { se with ready:=true,kind:=q,value:=v }
 calls:(Qc y t i r).m.calls=y.m.calls.set i (if r.1=true then { cl with point:=z,end_:=n,kind:=q,value:=v } else { cl with point:=z })
 seats:(Qc y t i r).m.seats=y.m.seats.set t (if r.1=true then { se with ready:=true,kind:=q,value:=v,task:=.nilIface } else { se with ready:=true,kind:=q,value:=v })
 mem:(Qc y t i r).m.mem=r.2.2.1.mem
 shifts:(Qc y t i r).m.shifts=r.2.2.1.shifts
 thread:r.2.2.1.thread=(t:Int)
 now:r.2.2.1.now=(n:Int)
structure RunG (B:Nat→Cll→Sea→τ→Prop)(E:Cll→Prop)(y:GW τ):Prop where
 busy:∀(t:Nat) (k:τ) (se:Sea),y.tasks[t]? = some (some k)→y.m.seats[t]? = some se→∃(i:Nat) (cl:Cll),se.last=(i:Int)∧y.m.calls[i]? = some cl∧cl.thread=(t:Int)∧cl.end_ = -1∧B t cl se k
 ended:∀cl∈y.m.calls,cl.end_ ≠ -1→0≤cl.end_∧E cl
theorem RunG.tick {B:Nat→Cll→Sea→τ→Prop}{E:Cll→Prop}(R:RunG B E y):RunG B E y.tick:=⟨R.busy,R.ended⟩
theorem RunG.begin {B:Nat→Cll→Sea→τ→Prop}{E:Cll→Prop}(R:RunG B E y){mv:Mv}{v vc:Value}{k':τ}(ht:mv.thread=(t:Int))(hk:y.tasks[t]? = some none)(hl:y.tasks.length=y.m.seats.length)
  (hB:B t ⟨mv.thread,mv.op,mv.arg,mv.data,y.m.moves,-1,-1,0,0⟩ ⟨v,false,(y.m.calls.length:Int),1,0⟩ k'):RunG B E ⟨y.s,Zz y.m t mv v vc,y.tasks.set t (some k')⟩:=by
 have hlt:=(List.getElem?_eq_some_iff.1 hk).1
 refine⟨?_,?_⟩
 ·intro j kj sj hkj hsj
  simp only[Zz]at hkj hsj ⊢
  by_cases hj:j=t
  ·subst hj
   rw[Ye hlt]at hkj
   rw[Ye (by omega)]at hsj
   cases hkj
   cases hsj
   exact⟨_,_,rfl,by simp,ht,rfl,hB⟩
  ·rw[Z2 hj]at hkj hsj
   obtain⟨i',cl',q1,q2,q3,q4,q5⟩:=R.busy j kj sj hkj hsj
   have:=(List.getElem?_eq_some_iff.1 q2).1
   exact⟨i',cl',q1,by rw[List.getElem?_append_left this];exact q2,q3,q4,q5⟩
 ·intro cl hcl he
  simp only[Zz]at hcl
  rcases List.mem_append.1 hcl with h|h
  ·exact R.ended cl h he
  ·simp at h
   subst h
   exact absurd rfl he
end
end
section
open Go.RowKit Hp
set_option maxRecDepth 100000
set_option maxHeartbeats 1000000
attribute [local irreducible] Go.Calls
section
variable {M:List Int→Prop}{τ:Type}{T:JK (Haz×Are) τ}{mkr:Haz×Are→Nat→Mv→Option τ}{I:GI τ}{c:Cfg}{n:Nat}{y:GW τ}{t i:Nat}{cl:Cll}{se:Sea}{k:τ}{r1 r2:GR τ}
theorem GStepM.out (P:PM M I c n y)(G:GStepM M T I c n y t i cl se k r1 r2):∃z q v,GOut n y t i cl se r2 z q v:=by
 have hlt:=(List.getElem?_eq_some_iff.1 G.hse).1
 have hli:=(List.getElem?_eq_some_iff.1 G.hc).1
 have hci:Z6 (Qd y t i se) i t cl { se with ready:=true }:=⟨rfl,G.hc,by simp[Qd,Mch.prep,Wst.tick,hlt]⟩
 have f:=G.h2.frame
 obtain⟨z,hz⟩:=f.calls
 obtain⟨q,v,hq⟩:=f.seats
 have hz:r2.2.2.1.calls=y.m.calls.set i { cl with point:=z }:=hz
 have hq:r2.2.2.1.seats=y.m.seats.set t { se with ready:=true,kind:=q,value:=v }:=by
  rw[hq]
  simp only[Qd,Mch.prep,Wst.tick,Yl]
 have hcu:Z6 r2.2.2.1 i t { cl with point:=z } { se with ready:=true,kind:=q,value:=v } :=
  ⟨by rw[f.cur];rfl,by rw[hz];exact Ye hli,by rw[hq];exact Ye hlt⟩
 have hn:y.m.moves=(n:Int):=P.moves
 refine⟨z,q,v,hcu,?_,?_,?_,?_,f.thread,by rw[f.now];exact hn⟩
 ·unfold Qc Q3
  rw[hcu.getC,hcu.getS,hn]
  split
  ·simp only[hz,Yl]
  ·exact hz
 ·unfold Qc Q3
  rw[hcu.getC,hcu.getS]
  split
  ·simp only[hq,Yl]
  ·exact hq
 ·unfold Qc Q3
  split<;>rfl
 ·unfold Qc Q3
  split<;>rfl
theorem RunG.stepM {B:Nat→Cll→Sea→τ→Prop}{E:Cll→Prop}(R:RunG B E y)(P:PM M I c n y)(G:GStepM M T I c n y t i cl se k r1 r2){z q v:Int}(O:GOut n y t i cl se r2 z q v)
  (hB:r2.1=false→B t { cl with point:=z } { se with ready:=true,kind:=q,value:=v } r2.2.2.2) (hE:r2.1=true→E { cl with point:=z,end_:=n,kind:=q,value:=v }):RunG B E (Qc y t i r2):=by
 have hlt:=(List.getElem?_eq_some_iff.1 G.hse).1
 have hlk:=(List.getElem?_eq_some_iff.1 G.hk).1
 have hli:=(List.getElem?_eq_some_iff.1 G.hc).1
 obtain⟨i0,cl0,a1,a2,a3,a4,a5⟩:=R.busy t k se G.hk G.hse
 have hi0:i0=i:=by have:=G.hl;omega
 subst hi0
 have hcl:cl0=cl:=by have:=G.hc;rw[a2]at this;cases this;rfl
 subst hcl
 refine⟨?_,?_⟩
 ·intro j kj sj hkj hsj
  rw[O.seats]at hsj
  rw[O.calls]
  have hkj:(y.tasks.set t (if r2.1=true then none else some r2.2.2.2))[j]? = some (some kj):=hkj
  by_cases hj:j=t
  ·subst hj
   rw[Ye hlk]at hkj
   rw[Ye hlt]at hsj
   by_cases hb:r2.1=true
   ·rw[if_pos hb]at hkj;cases hkj
   ·rw[if_neg hb]at hkj hsj ⊢
    cases hkj
    cases hsj
    exact⟨i0,_,a1,Ye hli,a3,a4,hB (by simpa using hb)⟩
  ·rw[Z2 hj]at hkj hsj
   obtain⟨i',cl',q1,q2,q3,q4,q5⟩:=R.busy j kj sj hkj hsj
   have hne:i'≠i0:=by
    intro e
    subst e
    rw[a2]at q2
    cases q2
    omega
   exact⟨i',cl',q1,by rw[Z2 hne];exact q2,q3,q4,q5⟩
 ·intro x hx he
  rw[O.calls]at hx
  rcases List.mem_or_eq_of_mem_set hx with h|h
  ·exact R.ended x h he
  ·by_cases hb:r2.1=true
   ·rw[if_pos hb]at h
    subst h
    exact⟨by simp only[];omega,hE hb⟩
   ·rw[if_neg hb]at h
    subst h
    exact absurd a4 he
end
end
section
open Go.RowKit
namespace Hp
structure Rd (A:Zb)(sz:Nat)(css:List (List Value))(v:Value):Prop where
 at_:(css=[]∧v=.slice none 0 0)∨∃a cap,css.length≤cap∧v=.slice (some a) css.length cap
 wf:∀c∈css,c.length=sz
 get:∀(O w:World) (F:Zb),Sat O w (A*F)→∀a n cap,v=.slice (some a) n cap→∀i c,css[i]? = some c→∀j x,c[j]? = some x→w.cell? ((a.add (i*sz)).add j)=some x
structure RAt (v:Value)(a:Addr):Prop where
 is:∃n cap,v=.slice (some a) n cap
section
variable {P:Program}{ops:Array Oper}{Q:Exit→Act→World→Prop}{w:World}{rest:List Oper}{O:World}{S R A:Zb}
variable {l:List Value}{ds:List Deferred}{T ty E:TypeId}{pos:String}{after:Array Edge}{gd:Option (Nat×Bool)}{d:Nat}{x y:Operand}{i sz n:Nat}{css:List (List Value)}{c:List Value}{v:Value}{a:Addr}
theorem Rd.len (h:Rd A sz css v):∃a cap,v=.slice a css.length cap:=by
 rcases h.at_ with⟨h1,h2⟩|⟨a,cap,_,h1⟩
 ·subst h1;exact⟨none,0,h2⟩
 ·exact⟨_,_,h1⟩
theorem wl_ir {kd:IntKind}{z:Int}{by_:Nat}(hr:Rd A sz css v)(h:SlcC P T E)(hE:ElC P E sz by_)(hx:ev l x=some v)(hy:ev l y=some (.int kd z))(hz:z=(i:Int))(hi:i<css.length)
  (hg:Region.wanted { dst:=some d,op:=.indexAddr T x y,type:=ty,pos,after,guard:=gd } (yielded ops l.toArray)=true)
  (kk:∀a,RAt v a→wpList P ops Q rest ⟨(l.set d (.pointer (some (a.add (i*sz))))).toArray,ds⟩ w) :
  wpList P ops Q ({ dst:=some d,op:=.indexAddr T x y,type:=ty,pos,after,guard:=gd }::rest) ⟨l.toArray,ds⟩ w:=by
 rcases hr.at_ with⟨h1,_⟩|⟨a,cap,_,e⟩
 ·subst h1;simp at hi
 refine Qr (v:=.pointer (some (a.add (i*sz)))) hg ?_ (ZO▸kk a ⟨_,_,e⟩)
 have h1:(0:Int)≤z∧z<(css.length:Int):=by omega
 have h2:z.toNat=i:=by omega
 subst e
 simp only[execOp,Zk hx,Zk hy,Instr.indexAt,asIntOf,Sem.run_bind,Sem.run_pure,Result.andThen_ok,run_underlying h.is,if_pos h1,h2,QC hE.size]
theorem wl_lr (hs:Sat O w S)(hr:Rd A sz css v)(h:AggC P T sz)(ha:RAt v a)(hx:ev l x=some (.pointer (some (a.add (i*sz)))))(hp:Pull S A R)(hi:css[i]? = some c)
  (hg:Region.wanted { dst:=some d,op:=.load T x,type:=ty,pos,after,guard:=gd } (yielded ops l.toArray)=true)
  (kk:wpList P ops Q rest ⟨(l.set d (.agg c.toArray)).toArray,ds⟩ w):wpList P ops Q ({ dst:=some d,op:=.load T x,type:=ty,pos,after,guard:=gd }::rest) ⟨l.toArray,ds⟩ w:=by
 refine Qr (v:=.agg c.toArray) hg ?_ (ZO▸kk)
 obtain⟨n,cap,e⟩:=ha.is
 have hl:=hr.wf c (Yc hi)
 have:=run_loadCells_list (P:=P) (w:=w) (a.add (i*sz)) c (fun j x hj=>hr.get O w R (hs.pull hp) a n cap e i c hi j x hj)
 rw[hl]at this
 simp only[execOp,Zk hx,Instr.loadAt,Instr.sureAddr,loadVar,Sem.run_bind,Sem.run_pure,Result.andThen_ok,run_isAgg h.agg,QC h.size,if_true,this]
theorem rd_reH {kd:IntKind}{zz:Int}{by_:Nat}(hr:Rd A sz css v)(h:SlcC P T E)(hE:ElC P E sz by_)(hx:ev l x=some v)(hy:ev l y=some (.int kd zz))(hz:zz=(i:Int))(hi:i≤css.length)
  (hg:Region.wanted { dst:=some d,op:=.slice T x none (some y) none,type:=ty,pos,after,guard:=gd } (yielded ops l.toArray)=true)
  (kk:wpList P ops Q rest ⟨(l.set d (resH v i)).toArray,ds⟩ w) :
  wpList P ops Q ({ dst:=some d,op:=.slice T x none (some y) none,type:=ty,pos,after,guard:=gd }::rest) ⟨l.toArray,ds⟩ w:=by
 refine Qr (v:=resH v i) hg ?_ (ZO▸kk)
 have h2:zz.toNat=i:=by omega
 rcases hr.at_ with⟨hc,hv⟩|⟨a,cap,g2,hv⟩
 ·subst hv;subst hc
  have hi0:i=0:=by simpa using hi
  have hz0:zz=0:=by omega
  subst hi0;subst hz0
  simp[execOp,Zk hx,Zk hy,Instr.sliceAt,Instr.slice,Instr.sliceBounds,Instr.sliceBound,asIntOf,run_underlying h.is,QC hE.size,resH]
 ·subst hv
  have h1:(0:Int)≤zz∧zz≤(cap:Int):=by omega
  simp[execOp,Zk hx,Zk hy,Instr.sliceAt,Instr.slice,Instr.sliceBounds,Instr.sliceBound,asIntOf,run_underlying h.is,QC hE.size,resH,h1,h2,Addr.add]
theorem Rd.resH (h:Rd A sz css v)(hi:i≤css.length):Rd A sz (css.take i) (Hp.resH v i):=by
 have hl:(css.take i).length=i:=by simp;omega
 refine⟨?_,fun c hc=>h.wf c (List.mem_of_mem_take hc),?_⟩
 ·rcases h.at_ with⟨h1,h2⟩|⟨a,cap,hc,h1⟩
  ·subst h1;subst h2
   have:i=0:=by simpa using hi
   subst this
   exact .inl ⟨rfl,rfl⟩
  ·subst h1
   exact .inr ⟨a,cap,by rw[hl];omega,by rw[hl];rfl⟩
 ·intro O w F hs a n cap e j c hj
  rcases h.at_ with⟨h1,h2⟩|⟨a',cap',hc,h1⟩
  ·subst h1;simp at hj
  ·subst h1
   injection e with e _ _
   injection e with e
   subst e
   refine h.get O w F hs a' _ _ rfl j c ?_
   rw[List.getElem?_take]at hj
   split at hj
   ·exact hj
   ·cases hj
end
theorem rd_pt {b off cap:Nat}{cs:List Value}{E:TypeId}{fr:Nat×Nat}{sz:Nat}{css:List (List Value)}{pre post:List Value}(hcs:cs=pre++css.flatten++post)(hpre:pre.length=off)(hw:∀c∈css,c.length=sz)(hpos:0<sz)(hcap:css.length≤cap) :
  Rd (pt b (.cells cs.toArray E fr)) sz css (.slice (some ⟨b,off,none⟩) css.length cap):=by
 refine⟨.inr ⟨_,_,hcap,rfl⟩,hw,?_⟩
 intro O w F hs a n cap' e i c hi j x hj
 injection e with e1 e2 e3
 injection e1 with e1
 subst e1
 have hb:=hs.block
 have hflen:∀css:List (List Value),(∀c∈css,c.length=sz)→∀i c,css[i]? = some c→∃L Rr,css.flatten=L++c++Rr∧L.length=i*sz:=by
  intro css hw i c hi
  obtain⟨h1,h2⟩:=split_at hi
  refine⟨(css.take i).flatten,(css.drop (i+1)).flatten,?_,?_⟩
  ·conv=>lhs;rw[h1]
   simp
  ·have:∀l:List (List Value),(∀c∈l,c.length=sz)→l.flatten.length=l.length*sz:=by
    intro l hl
    induction l with
    | nil=>simp
    | cons c r ih=>
     simp only[List.flatten_cons,List.length_append,List.length_cons,Nat.add_mul,Nat.one_mul]
     rw[ih (fun x hx=>hl x (by simp[hx])),hl c (by simp)];omega
   rw[this _ (fun c hc=>hw c (List.mem_of_mem_take hc)),h2]
 obtain⟨L,Rr,g1,g2⟩:=hflen css hw i c hi
 have hjl:=(List.getElem?_eq_some_iff.1 hj).1
 rw[Addr.add_lit,Addr.add_mid]
 rw[cell_of_row w b (off+i*sz+j) cs.toArray E fr hb]
 have e2:cs=(pre++L)++(c++(Rr++post)):=by rw[hcs,g1];simp
 show cs.toArray[off+i*sz+j]? = some x
 rw[List.getElem?_toArray,e2,List.getElem?_append_right (by simp[hpre,g2]),List.getElem?_append_left (by simp[hpre,g2];omega)]
 have:off+i*sz+j-(pre++L).length=j:=by simp[hpre,g2]
 rw[this];exact hj
end Hp
end
end Go.Proofs.YtefjbdajgakgpaaGreat
