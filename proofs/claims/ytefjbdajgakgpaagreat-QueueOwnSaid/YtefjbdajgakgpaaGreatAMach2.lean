/-
  The queue's calls: their state and what a step computes.
-/
import Derived.Test.YtefjbdajgakgpaaGreatAKit
import Derived.Test.YtefjbdajgakgpaaGreatAMach
set_option linter.all false
namespace Go.Proofs.YtefjbdajgakgpaaGreat
open Go.RowKit Hp
section
structure Pt where
 thread:Int
 value:Int
 take:Tak
 slot:Int
 t:Int
 n:Int
 stage:Int
 hz:Int
structure Gt where
 thread:Int
 h0:Int
 t:Int
 n:Int
 value:Int
 got:Bool
 cleared:Int
 retire:Option Ret
 stage:Int
 hz0:Int
 hz1:Int
def Z4 (m:Mch)(i t:Nat)(c:Cll)(s:Sea)(p:Pt):Bool×Mch×Pt:=
 if Zg p.take<0 then (true,(m.point i c m.now).answer t s 4 0,{ p with slot:=Zg p.take })
 else (false,m,{ p with slot:=Zg p.take,stage:=2 })
def qHz (h:Haz)(th k:Int):Nat:=(base h.c 9+h.held.getD th.toNat 0*h.c.Hz+k).toNat
def ZR (h:Haz)(a:Are)(m:Mch)(i t:Nat)(c:Cll)(s:Sea)(p:Pt):Bool×Are×Mch×Pt:=
 let r:=Zj a m p.take
 let p1:={ p with take:=r.2.2.2,stage:=1,hz:=(qHz h p.thread 0:Int) }
 if r.1=true then
  let q:=Z4 r.2.2.1 i t c s p1
  (q.1,r.2.1,q.2.1,q.2.2)
 else (false,r.2.1,r.2.2.1,p1)
def ptTake (a:Are)(m:Mch)(i t:Nat)(c:Cll)(s:Sea)(p:Pt):Bool×Are×Mch×Pt:=
 let r:=Zp a m p.take
 let p1:={ p with take:=r.2.2.2 }
 if r.1=true then
  let q:=Z4 r.2.2.1 i t c s p1
  (q.1,r.2.1,q.2.1,q.2.2)
 else (false,r.2.1,r.2.2.1,p1)
def Qu (h:Haz)(a:Are)(m:Mch)(i t:Nat)(c:Cll)(s:Sea)(p:Pt):Bool×Are×Mch×Pt:=
 let T:=adr h.c 5 0
 let Z:=qHz h p.thread 0
 let K:=adr h.c 13 (p.t-1)
 if p.stage=1 then ptTake a m i t c s p
 else if p.stage=2 then
  let A:=adr h.c 11 p.slot
  (false,a,m.store A (m.word A) (p.value%18446744073709551616),{ p with stage:=3 })
 else if p.stage=3 then
  let A:=adr h.c 13 p.slot
  (false,a,m.store A (m.word A) 0,{ p with stage:=4 })
 else if p.stage=4 then (false,a,m.load T (m.word T),{ p with t:=m.word T,stage:=5 })
 else if p.stage=5 then (false,a,m.store Z (m.word Z) p.t,{ p with stage:=6 })
 else if p.stage=6 then (false,a,m.load T (m.word T),if m.word T=p.t then { p with stage:=7 } else { p with t:=m.word T,stage:=5 })
 else if p.stage=7 then (false,a,m.load K (m.word K),if 0≤m.word K-1 then { p with n:=m.word K,stage:=11 } else { p with n:=m.word K,stage:=8 })
 else if p.stage=8 then
  if m.word K=0 then
   (false,a.shift p.slot.toNat m.thread 3,((m.swap K (m.word K) 0 (p.slot+1)).point i c m.now).shift p.slot (a.slots.getD p.slot.toNat ⟨0,0⟩).state 3,{ p with stage:=9 })
  else (false,a,m.swap K (m.word K) 0 (p.slot+1),{ p with stage:=4 })
 else if p.stage=9 then (false,a,m.swap T (m.word T) p.t (p.slot+1),{ p with stage:=10 })
 else if p.stage=10 then (true,a,(m.store Z (m.word Z) 0).answer t s 1 0,p)
 else (false,a,m.swap T (m.word T) p.t p.n,{ p with stage:=4 })
def gtEnd (h:Haz)(a:Are)(m:Mch)(t:Nat)(s:Sea)(g:Gt):Bool×Haz×Are×Mch×Gt:=
 let Z:=qHz h g.thread g.cleared
 if g.cleared+1<2 then (false,h,a,m.store Z (m.word Z) 0,{ g with cleared:=g.cleared+1 })
 else if g.got=false then (true,h,a,m.store Z (m.word Z) 0,{ g with cleared:=g.cleared+1 })
 else
  let q:=Zv h a ((m.store Z (m.word Z) 0).answer t s 2 g.value) ⟨g.thread,g.h0-1,none⟩
  (q.1,q.2.1,q.2.2.1,q.2.2.2.1,{ g with cleared:=g.cleared+1,retire:=some q.2.2.2.2,stage:=12 })
def Qt (h:Haz)(a:Are)(m:Mch)(i t:Nat)(c:Cll)(s:Sea)(g:Gt):Bool×Haz×Are×Mch×Gt:=
 let H:=adr h.c 4 0
 let T:=adr h.c 5 0
 let K:=adr h.c 13 (g.h0-1)
 if g.stage=1 then (false,h,a,m.load H (m.word H),{ g with h0:=m.word H,stage:=2 })
 else if g.stage=2 then (false,h,a,m.store (qHz h g.thread 0) (m.word (qHz h g.thread 0)) g.h0,{ g with stage:=3 })
 else if g.stage=3 then (false,h,a,m.load H (m.word H),if m.word H=g.h0 then { g with stage:=4 } else { g with h0:=m.word H,stage:=2 })
 else if g.stage=4 then (false,h,a,m.load T (m.word T),{ g with t:=m.word T,stage:=5 })
 else if g.stage=5 then
  if 0≤m.word K-1 then (false,h,a,m.load K (m.word K),{ g with n:=m.word K,stage:=6 })
  else (false,h,a,((m.load K (m.word K)).point i c m.now).answer t s 3 0,{ g with n:=m.word K,stage:=11 })
 else if g.stage=6 then (false,h,a,m.store (qHz h g.thread 1) (m.word (qHz h g.thread 1)) g.n,{ g with stage:=7 })
 else if g.stage=7 then (false,h,a,m.load H (m.word H),if m.word H=g.h0 then (if g.h0=g.t then { g with stage:=8 } else { g with stage:=9 }) else { g with h0:=m.word H,stage:=2 })
 else if g.stage=8 then (false,h,a,m.swap T (m.word T) g.t g.n,{ g with stage:=1 })
 else if g.stage=9 then
  let A:=adr h.c 11 (g.n-1)
  (false,h,a,m.load A (m.word A),{ g with value:=wrap64 (m.word A),stage:=10 })
 else if g.stage=10 then
  if m.word H=g.h0 then
   (false,h,a.shift (g.h0-1).toNat m.thread 4,((m.swap H (m.word H) g.h0 g.n).point i c m.now).shift (g.h0-1) (a.slots.getD (g.h0-1).toNat ⟨0,0⟩).state 4,{ g with got:=true,stage:=11 })
  else (false,h,a,m.swap H (m.word H) g.h0 g.n,{ g with stage:=1 })
 else if g.stage=11 then gtEnd h a m t s g
 else match g.retire with
  | none=>(true,h,a,m,g)
  | some r=>match r.scan with
   | none=>(true,h,a,m,g)
   | some sc=>
    let q:=Zq h a m sc
    (q.1,q.2.1,q.2.2.1,q.2.2.2.1,{ g with retire:=some { r with scan:=some q.2.2.2.2 } })
structure PtOk (h:Haz)(a:Are)(m:Mch)(p:Pt):Prop where
 hz:HazOk h a m
 t0:0≤p.thread
 t1:p.thread<h.c.T
 held:0≤h.held.getD p.thread.toNat 0
 stage:1≤p.stage∧p.stage≤11
 tk:p.stage=1→TakeOk a m p.take∧Zg (Zp a m p.take).2.2.2≤2147483646 ∧ -1≤Zg (Zp a m p.take).2.2.2
 slot:p.stage≠1→0≤p.slot∧p.slot<h.c.Sl
 wtail:0≤m.word (adr h.c 5 0)∧m.word (adr h.c 5 0)≤h.c.Sl
 t:5≤p.stage→1≤p.t∧p.t≤h.c.Sl
 wl:5≤p.stage→0≤m.word (adr h.c 13 (p.t-1))∧m.word (adr h.c 13 (p.t-1))≤h.c.Sl
 hzE:p.hz=(qHz h p.thread 0:Int)
structure GtOk (h:Haz)(a:Are)(m:Mch)(g:Gt):Prop where
 hz:HazOk h a m
 t0:0≤g.thread
 t1:g.thread<h.c.T
 held:0≤h.held.getD g.thread.toNat 0
 stage:1≤g.stage∧g.stage≤12
 whead:0≤m.word (adr h.c 4 0)∧m.word (adr h.c 4 0)≤h.c.Sl
 h0:2≤g.stage→1≤g.h0∧g.h0≤h.c.Sl
 wl:2≤g.stage→0≤m.word (adr h.c 13 (g.h0-1))∧m.word (adr h.c 13 (g.h0-1))≤h.c.Sl
 n:6≤g.stage→g.stage≤10→1≤g.n∧g.n≤h.c.Sl
 cleared:g.stage≤11→0≤g.cleared∧g.cleared≤1
 ret:g.stage=12→∃r sc,g.retire=some r∧r.scan=some sc∧ScanOk h a m sc
 hzE0:g.hz0=(qHz h g.thread 0:Int)
 hzE1:g.hz1=(qHz h g.thread 1:Int)
inductive Qe where
 | hz (k:Q3)
 | put (p:Pt)
 | get (g:Gt)
def qkReady (s:Haz×Are)(m:Mch)(i t:Nat)(c:Cll)(se:Sea):Qe→Bool×(Haz×Are)×Mch×Qe
 | .hz k=>((Qz s m i t c se k).1,(Qz s m i t c se k).2.1,(Qz s m i t c se k).2.2.1,.hz (Qz s m i t c se k).2.2.2)
 | .put p=>((ZR s.1 s.2 m i t c se p).1,(s.1,(ZR s.1 s.2 m i t c se p).2.1),(ZR s.1 s.2 m i t c se p).2.2.1,.put (ZR s.1 s.2 m i t c se p).2.2.2)
 | .get g=>(false,s,m,.get { g with stage:=1,hz0:=(qHz s.1 g.thread 0:Int),hz1:=(qHz s.1 g.thread 1:Int) })
def qkStep (s:Haz×Are)(m:Mch)(i t:Nat)(c:Cll)(se:Sea):Qe→Bool×(Haz×Are)×Mch×Qe
 | .hz k=>((QA s m i t c se k).1,(QA s m i t c se k).2.1,(QA s m i t c se k).2.2.1,.hz (QA s m i t c se k).2.2.2)
 | .put p=>((Qu s.1 s.2 m i t c se p).1,(s.1,(Qu s.1 s.2 m i t c se p).2.1),(Qu s.1 s.2 m i t c se p).2.2.1,.put (Qu s.1 s.2 m i t c se p).2.2.2)
 | .get g=>((Qt s.1 s.2 m i t c se g).1,((Qt s.1 s.2 m i t c se g).2.1,(Qt s.1 s.2 m i t c se g).2.2.1),(Qt s.1 s.2 m i t c se g).2.2.2.1,.get (Qt s.1 s.2 m i t c se g).2.2.2.2)
theorem ptTaken_hz {m:Mch}{i t:Nat}{c:Cll}{s:Sea}{p:Pt}:(Z4 m i t c s p).2.2.hz=p.hz:=by
 unfold Z4
 split<;>rfl
theorem ptReady_hz {h:Haz}{a:Are}{m:Mch}{i t:Nat}{c:Cll}{s:Sea}{p:Pt}:(ZR h a m i t c s p).2.2.2.hz=(qHz h p.thread 0:Int):=by
 unfold ZR
 simp only[]
 split
 ·exact ptTaken_hz
 ·rfl
theorem ptStep_hz {h:Haz}{a:Are}{m:Mch}{i t:Nat}{c:Cll}{s:Sea}{p:Pt}:(Qu h a m i t c s p).2.2.2.hz=p.hz:=by
 unfold Qu
 simp only[]
 by_cases s1:p.stage=1
 ·rw[if_pos s1]
  unfold ptTake
  simp only[]
  by_cases hb:(Zp a m p.take).1=true
  ·rw[if_pos hb];exact ptTaken_hz
  ·rw[if_neg hb]
 rw[if_neg s1]
 by_cases s2:p.stage=2
 ·rw[if_pos s2]
 rw[if_neg s2]
 by_cases s3:p.stage=3
 ·rw[if_pos s3]
 rw[if_neg s3]
 by_cases s4:p.stage=4
 ·rw[if_pos s4]
 rw[if_neg s4]
 by_cases s5:p.stage=5
 ·rw[if_pos s5]
 rw[if_neg s5]
 by_cases s6:p.stage=6
 ·rw[if_pos s6]
  by_cases hb:m.word (adr h.c 5 0)=p.t
  ·rw[if_pos hb]
  ·rw[if_neg hb]
 rw[if_neg s6]
 by_cases s7:p.stage=7
 ·rw[if_pos s7]
  by_cases hb:0≤m.word (adr h.c 13 (p.t-1))-1
  ·rw[if_pos hb]
  ·rw[if_neg hb]
 rw[if_neg s7]
 by_cases s8:p.stage=8
 ·rw[if_pos s8]
  by_cases hb:m.word (adr h.c 13 (p.t-1))=0
  ·rw[if_pos hb]
  ·rw[if_neg hb]
 rw[if_neg s8]
 by_cases s9:p.stage=9
 ·rw[if_pos s9]
 rw[if_neg s9]
 by_cases s10:p.stage=10
 ·rw[if_pos s10]
 rw[if_neg s10]
theorem gtStep_hz {h:Haz}{a:Are}{m:Mch}{i t:Nat}{c:Cll}{s:Sea}{g:Gt}:(Qt h a m i t c s g).2.2.2.2.hz0=g.hz0∧(Qt h a m i t c s g).2.2.2.2.hz1=g.hz1:=by
 unfold Qt
 simp only[]
 by_cases s1:g.stage=1
 ·rw[if_pos s1]
  exact⟨rfl,rfl⟩
 rw[if_neg s1]
 by_cases s2:g.stage=2
 ·rw[if_pos s2]
  exact⟨rfl,rfl⟩
 rw[if_neg s2]
 by_cases s3:g.stage=3
 ·rw[if_pos s3]
  by_cases hb:m.word (adr h.c 4 0)=g.h0
  ·rw[if_pos hb];exact⟨rfl,rfl⟩
  ·rw[if_neg hb];exact⟨rfl,rfl⟩
 rw[if_neg s3]
 by_cases s4:g.stage=4
 ·rw[if_pos s4]
  exact⟨rfl,rfl⟩
 rw[if_neg s4]
 by_cases s5:g.stage=5
 ·rw[if_pos s5]
  by_cases hb:0≤m.word (adr h.c 13 (g.h0-1))-1
  ·rw[if_pos hb];exact⟨rfl,rfl⟩
  ·rw[if_neg hb];exact⟨rfl,rfl⟩
 rw[if_neg s5]
 by_cases s6:g.stage=6
 ·rw[if_pos s6]
  exact⟨rfl,rfl⟩
 rw[if_neg s6]
 by_cases s7:g.stage=7
 ·rw[if_pos s7]
  by_cases hb:m.word (adr h.c 4 0)=g.h0
  ·rw[if_pos hb]
   by_cases hc:g.h0=g.t
   ·rw[if_pos hc];exact⟨rfl,rfl⟩
   ·rw[if_neg hc];exact⟨rfl,rfl⟩
  ·rw[if_neg hb];exact⟨rfl,rfl⟩
 rw[if_neg s7]
 by_cases s8:g.stage=8
 ·rw[if_pos s8]
  exact⟨rfl,rfl⟩
 rw[if_neg s8]
 by_cases s9:g.stage=9
 ·rw[if_pos s9]
  exact⟨rfl,rfl⟩
 rw[if_neg s9]
 by_cases s10:g.stage=10
 ·rw[if_pos s10]
  by_cases hb:m.word (adr h.c 4 0)=g.h0
  ·rw[if_pos hb];exact⟨rfl,rfl⟩
  ·rw[if_neg hb];exact⟨rfl,rfl⟩
 rw[if_neg s10]
 by_cases s11:g.stage=11
 ·rw[if_pos s11]
  unfold gtEnd
  simp only[]
  by_cases hb:g.cleared+1<2
  ·rw[if_pos hb];exact⟨rfl,rfl⟩
  ·rw[if_neg hb]
   by_cases hc:g.got=false
   ·rw[if_pos hc];exact⟨rfl,rfl⟩
   ·rw[if_neg hc];exact⟨rfl,rfl⟩
 rw[if_neg s11]
 cases g.retire with
 | none=>exact⟨rfl,rfl⟩
 | some r=>
  cases hs:r.scan with
  | none=>exact⟨by simp only[hs],by simp only[hs]⟩
  | some sc=>exact⟨by simp only[hs],by simp only[hs]⟩
end
section
set_option maxRecDepth 100000
set_option maxHeartbeats 1000000
attribute [local irreducible] Go.Calls
structure Mv where
 thread:Int
 op:Int
 arg:Int
 data:Int
abbrev Mv.v (m:Mv):Value:=.agg #[.int .i64 m.thread,.int .i64 m.op,.int .i64 m.arg,.int .i64 m.data]
abbrev Mv.e (m:Mv):List Value:=[.int .i64 m.thread,.int .i64 m.op,.int .i64 m.arg,.int .i64 m.data]
def madeR {σ τ:Type}(T:Tasks σ τ)(s:σ)(o:Option τ)(v:Value):Zb:=match o with
 | none=>pu (v=.nilIface)*T.X s
 | some k=>T.R k v*T.X s
theorem made_none {σ τ:Type}{T:Tasks σ τ}{s:σ}{v:Value}{O w:World}{F:Zb}:Sat O w (madeR T s none v*F)↔v=.nilIface∧Sat O w (T.X s*F):=by
 unfold madeR;simp only[Ma,Zw]
theorem made_some {σ τ:Type}{T:Tasks σ τ}{s:σ}{v:Value}{k:τ}{O w:World}{F:Zb}:Sat O w (madeR T s (some k) v*F)↔Sat O w (T.R k v*(T.X s*F)):=by
 unfold madeR;simp only[Ma]
structure KitOk {σ τ:Type}(T:Tasks σ τ)(K:Int→Option Value)(mkr:σ→Nat→Mv→Option τ)(ok:σ→Prop)(n:Nat):Prop where
 func:∀op u,K op=some u→∃f a b,u=.func f a b
 make:∀op u s t mv,K op=some u→mv.op=op→t<n→mv.thread=(t:Int)→ok s→Dyn Tryz.prog (QP u #[.int .i64 (t:Int),mv.v]) (T.X s) (fun v=>madeR T s (mkr s t mv) v)
def ZN (m:Mch)(t:Nat)(mv:Mv)(v vc':Value):Mch:=
 { m with moves:=m.moves+1,vc:=vc',seats:=m.seats.set t ⟨v,false,(m.calls.length:Int),1,0⟩,calls:=m.calls++[⟨mv.thread,mv.op,mv.arg,mv.data,m.moves,-1,-1,0,0⟩] }
section
variable {σ τ:Type}(T:Tasks σ τ)(bx bm:Nat)
variable (m:Mch)(mv:Mv)
theorem move_thread (hl:m.moves<65536)(hm0:0≤m.moves)(h0:0<m.seats.length)(ht:mv.thread<0∨(m.seats.length:Int)≤mv.thread) :
  Zh Tryz.prog 59 #[.pointer (some ⟨bx,0,none⟩),mv.v] (MchR bx bm m) (.bool false) (MchR bx bm { m with moves:=m.moves+1 }):=by
 obtain⟨v1,v2,v3,v4⟩:=mv
 intro O w F hs
 (obtain⟨vh,call,told,hcur,hs⟩:=mchR.1 hs)
 have h0':((m.seats.length:Int)==0)=false:=by simp;intro e;simp[e]at h0
 have h1:decide (m.moves≥65536)=false:=by simpa using hl
 simp only[]at ht
 by_cases hn:v1<0
 ·have h2:decide (v1<0)=true:=by simpa using hn
  clear ht
  go_enter Tryz.func59,Tryz.ntmps59
  go_wp2_with (first|(first|(first|(with_reducible refine NQ.mk ?_)|((with_reducible apply Zd);rfl;rfl)|(with_reducible refine Ze ?_))|((with_reducible apply Za hs);exact Ii;rfl;(with_reducible repeat first|exact Qh|apply Qk);rfl;rfl;(simp only[Uc,Uz]))|((with_reducible apply Zt hs);exact Ii;rfl;rfl;(with_reducible repeat first|exact Qh|apply Qk);(rfl);(exact Vb rfl);rfl;clear hs;intro w hs;simp only[Yg,Uc,Uz]at hs)|((with_reducible apply Zo hs);rfl;rfl;rfl;clear hs;intro w b hs;(simp only[Uc,Uz]))|((with_reducible apply Zs hs);exact Ii;rfl;(with_reducible repeat first|exact Qh|apply Qk);rfl;(simp only[Uc,Uz])))|((with_reducible refine Wp (id:=5) (Paz (Pbz [.neu 10,.neu 11,.neu 12])) hs rfl ?_ ?_);kernel_rfl;clear hs;intro w hs))
  (go_ret)
  refine⟨rfl,?_⟩
  apply QW (m:={ m with moves:=m.moves+1 }) hcur
  ((with_reducible apply Sat.fin hs);(with_reducible repeat first|exact Ql|exact Qh|apply Qb|apply Qk))
 ·have h2:decide (v1<0)=false:=by simpa using hn
  have h3:decide (v1≥(m.seats.length:Int))=true:=by simp;omega
  clear ht
  go_enter Tryz.func59,Tryz.ntmps59
  go_wp2_with (first|(first|(first|(with_reducible refine NQ.mk ?_)|((with_reducible apply Zd);rfl;rfl)|(with_reducible refine Ze ?_))|((with_reducible apply Za hs);exact Ii;rfl;(with_reducible repeat first|exact Qh|apply Qk);rfl;rfl;(simp only[Uc,Uz]))|((with_reducible apply Zt hs);exact Ii;rfl;rfl;(with_reducible repeat first|exact Qh|apply Qk);(rfl);(exact Vb rfl);rfl;clear hs;intro w hs;simp only[Yg,Uc,Uz]at hs)|((with_reducible apply Zo hs);rfl;rfl;rfl;clear hs;intro w b hs;(simp only[Uc,Uz]))|((with_reducible apply Zs hs);exact Ii;rfl;(with_reducible repeat first|exact Qh|apply Qk);rfl;(simp only[Uc,Uz])))|((with_reducible refine Wp (id:=5) (Paz (Pbz [.neu 10,.neu 11,.neu 12])) hs rfl ?_ ?_);kernel_rfl;clear hs;intro w hs))
  (go_ret)
  refine⟨rfl,?_⟩
  apply QW (m:={ m with moves:=m.moves+1 }) hcur
  ((with_reducible apply Sat.fin hs);(with_reducible repeat first|exact Ql|exact Qh|apply Qb|apply Qk))
variable {m}{mv}
theorem move_no (hl:m.moves<65536)(hm0:0≤m.moves){t:Nat}{se:Sea}(ht:mv.thread=(t:Int))(hse:m.seats[t]? = some se)(h:(mv.op=0∧se.task=.nilIface)∨(mv.op≠0∧∃ty x,se.task=.iface ty x)) :
  Zh Tryz.prog 59 #[.pointer (some ⟨bx,0,none⟩),mv.v] (MchR bx bm m) (.bool false) (MchR bx bm { m with moves:=m.moves+1 }):=by
 obtain⟨v1,v2,v3,v4⟩:=mv
 obtain⟨s1,s2,s3,s4,s5⟩:=se
 simp only[]at ht h
 subst ht
 intro O w F hs
 (obtain⟨vh,call,told,hcur,hs⟩:=mchR.1 hs)
 have lt:=(List.getElem?_eq_some_iff.1 hse).1
 have h0':((m.seats.length:Int)==0)=false:=by simp;intro e;simp[e]at lt
 have h1:decide (m.moves≥65536)=false:=by simpa using hl
 have h2:decide ((t:Int)<0)=false:=by simp
 have h3:decide ((t:Int)≥(m.seats.length:Int))=false:=by simp;omega
 rcases h with⟨rfl,rfl⟩|⟨hne,ty,x,rfl⟩
 ·go_enter Tryz.func59,Tryz.ntmps59
  go_wp2_with (first|(first|(first|(with_reducible refine NQ.mk ?_)|((with_reducible apply Zd);rfl;rfl)|(with_reducible refine Ze ?_))|((with_reducible apply Za hs);exact Ii;rfl;(with_reducible repeat first|exact Qh|apply Qk);rfl;rfl;(simp only[Uc,Uz]))|((with_reducible apply Zt hs);exact Ii;rfl;rfl;(with_reducible repeat first|exact Qh|apply Qk);(rfl);(exact Vb rfl);rfl;clear hs;intro w hs;simp only[Yg,Uc,Uz]at hs)|((with_reducible apply Zo hs);rfl;rfl;rfl;clear hs;intro w b hs;(simp only[Uc,Uz]))|((with_reducible apply Zx hs);exact Ii;rfl;assumption;(with_reducible repeat first|exact Qh|apply Qk);rfl;(exact Zc (by assumption));rfl;rfl;(simp only[Uc,Uz]))|((with_reducible apply ZH hs);exact Ii;exact Ii;rfl;rfl;(with_reducible repeat first|exact Qh|apply Qk);(rfl);(simp only[Wm,Ws,Wa,Wc,Wn,Wr]at *;omega);rfl;intro b off hat;(simp only[Uc,Uz]))|((with_reducible apply Zs hs);exact Ii;rfl;(with_reducible repeat first|exact Qh|apply Qk);rfl;(simp only[Uc,Uz])))|((with_reducible refine Wp (id:=5) (Paz (Pbz [.neu 10,.neu 11,.neu 12])) hs rfl ?_ ?_);kernel_rfl;clear hs;intro w hs)|((with_reducible refine Wp (id:=7) (Paz [.neu 5,.neu 6,.neu 7]) hs rfl ?_ ?_);kernel_rfl;clear hs;intro w hs))
  (go_ret)
  refine⟨rfl,?_⟩
  apply QW (m:={ m with moves:=m.moves+1 }) hcur
  ((with_reducible apply Sat.fin hs);(with_reducible repeat first|exact Ql|exact Qh|apply Qb|apply Qk))
 ·have h4:(v2==0)=false:=by simpa using hne
  have HN:=Lh hne;clear hne
  go_enter Tryz.func59,Tryz.ntmps59
  go_wp2_with (first|(first|(first|(with_reducible refine NQ.mk ?_)|((with_reducible apply Zd);rfl;rfl)|(with_reducible refine Ze ?_))|((with_reducible apply Za hs);exact Ii;rfl;(with_reducible repeat first|exact Qh|apply Qk);rfl;rfl;(simp only[Uc,Uz]))|((with_reducible apply Zt hs);exact Ii;rfl;rfl;(with_reducible repeat first|exact Qh|apply Qk);(rfl);(exact Vb rfl);rfl;clear hs;intro w hs;simp only[Yg,Uc,Uz]at hs)|((with_reducible apply Zo hs);rfl;rfl;rfl;clear hs;intro w b hs;(simp only[Uc,Uz]))|((with_reducible apply Zx hs);exact Ii;rfl;assumption;(with_reducible repeat first|exact Qh|apply Qk);rfl;(exact Zc (by assumption));rfl;rfl;(simp only[Uc,Uz]))|((with_reducible apply ZH hs);exact Ii;exact Ii;rfl;rfl;(with_reducible repeat first|exact Qh|apply Qk);(rfl);(simp only[Wm,Ws,Wa,Wc,Wn,Wr]at *;omega);rfl;intro b off hat;(simp only[Uc,Uz]))|((with_reducible apply Zs hs);exact Ii;rfl;(with_reducible repeat first|exact Qh|apply Qk);rfl;(simp only[Uc,Uz])))|((with_reducible refine Wp (id:=5) (Paz (Pbz [.neu 10,.neu 11,.neu 12])) hs rfl ?_ ?_);kernel_rfl;clear hs;intro w hs)|((with_reducible refine Wp (id:=7) (Paz [.neu 5,.neu 6,.neu 7]) hs rfl ?_ ?_);kernel_rfl;clear hs;intro w hs))
  (go_ret)
  refine⟨rfl,?_⟩
  apply QW (m:={ m with moves:=m.moves+1 }) hcur
  ((with_reducible apply Sat.fin hs);(with_reducible repeat first|exact Ql|exact Qh|apply Qb|apply Qk))
end
end
end Go.Proofs.YtefjbdajgakgpaaGreat
