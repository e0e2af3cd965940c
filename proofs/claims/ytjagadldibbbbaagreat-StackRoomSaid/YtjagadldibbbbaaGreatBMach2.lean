/-
  The stack's calls: their state and what a step computes.
-/
import Derived.Test.YtjagadldibbbbaaGreatBKit
import Derived.Test.YtjagadldibbbbaaGreatBMach
set_option linter.all false
namespace Go.Proofs.YtjagadldibbbbaaGreat
open Go.RowKit Hp
section
structure Pu where
 thread:Int
 value:Int
 take:Tak
 slot:Int
 top:Int
 stage:Int
structure Po where
 thread:Int
 top:Int
 behind:Int
 value:Int
 named:Bool
 retire:Option Ret
 stage:Int
def Qm (m:Mch)(i t:Nat)(c:Cll)(s:Sea)(p:Pu):Bool×Mch×Pu:=
 if Zm p.take<0 then (true,(m.point i c m.now).answer t s 4 0,{ p with slot:=Zm p.take })
 else (false,m,{ p with slot:=Zm p.take,stage:=2 })
def Qu (a:Are)(m:Mch)(i t:Nat)(c:Cll)(s:Sea)(p:Pu):Bool×Are×Mch×Pu:=
 let r:=Zj a m p.take
 let p1:={ p with take:=r.2.2.2,stage:=1 }
 if r.1=true then
  let q:=Qm r.2.2.1 i t c s p1
  (q.1,r.2.1,q.2.1,q.2.2)
 else (false,r.2.1,r.2.2.1,p1)
def puTake (a:Are)(m:Mch)(i t:Nat)(c:Cll)(s:Sea)(p:Pu):Bool×Are×Mch×Pu:=
 let r:=Zq a m p.take
 let p1:={ p with take:=r.2.2.2 }
 if r.1=true then
  let q:=Qm r.2.2.1 i t c s p1
  (q.1,r.2.1,q.2.1,q.2.2)
 else (false,r.2.1,r.2.2.1,p1)
def puDone (a:Are)(m:Mch)(i t:Nat)(c:Cll)(s:Sea)(p:Pu):Are×Mch:=
 (a.shift p.slot.toNat m.thread 3,((m.point i c m.now).shift p.slot (a.slots.getD p.slot.toNat ⟨0,0⟩).state 3).answer t s 1 0)
def puStep (h:Haz)(a:Are)(m:Mch)(i t:Nat)(c:Cll)(s:Sea)(p:Pu):Bool×Are×Mch×Pu:=
 let T:=adr h.c 3 0
 if p.stage=1 then puTake a m i t c s p
 else if p.stage=2 then
  let A:=adr h.c 11 p.slot
  (false,a,m.store A (m.word A) (p.value%18446744073709551616),{ p with stage:=3 })
 else if p.stage=3 then (false,a,m.load T (m.word T),{ p with top:=m.word T,stage:=4 })
 else if p.stage=4 then
  let A:=adr h.c 13 p.slot
  (false,a,m.store A (m.word A) p.top,{ p with stage:=5 })
 else if m.word T=p.top then
  let q:=puDone a (m.swap T (m.word T) p.top (p.slot+1)) i t c s p
  (true,q.1,q.2,p)
 else (false,a,m.swap T (m.word T) p.top (p.slot+1),{ p with stage:=3 })
def Z7 (m:Mch)(i t:Nat)(c:Cll)(s:Sea)(p:Po):Bool×Mch×Po:=
 if 0≤p.top-1 then (false,m,{ p with stage:=2 })
 else (!p.named,(m.point i c m.now).answer t s 3 0,{ p with stage:=8 })
def poHz (h:Haz)(p:Po):Nat:=(base h.c 9+h.held.getD p.thread.toNat 0*h.c.Hz+0).toNat
def QL (h:Haz)(a:Are)(m:Mch)(i t:Nat)(c:Cll)(s:Sea)(p:Po):Bool×Haz×Are×Mch×Po:=
 let T:=adr h.c 3 0
 if p.stage=1 then
  let q:=Z7 (m.load T (m.word T)) i t c s { p with top:=m.word T }
  (q.1,h,a,q.2.1,q.2.2)
 else if p.stage=2 then (false,h,a,m.store (poHz h p) (m.word (poHz h p)) p.top,{ p with named:=true,stage:=3 })
 else if p.stage=3 then
  if m.word T=p.top then (false,h,a,m.load T (m.word T),{ p with stage:=4 })
  else
   let q:=Z7 (m.load T (m.word T)) i t c s { p with top:=m.word T }
   (q.1,h,a,q.2.1,q.2.2)
 else if p.stage=4 then
  let A:=adr h.c 13 (p.top-1)
  (false,h,a,m.load A (m.word A),{ p with behind:=m.word A,stage:=5 })
 else if p.stage=5 then
  if m.word T=p.top then
   (false,h,a.shift (p.top-1).toNat m.thread 4,((m.swap T (m.word T) p.top p.behind).point i c m.now).shift (p.top-1) (a.slots.getD (p.top-1).toNat ⟨0,0⟩).state 4,{ p with stage:=6 })
  else (false,h,a,m.swap T (m.word T) p.top p.behind,{ p with stage:=1 })
 else if p.stage=6 then
  let A:=adr h.c 11 (p.top-1)
  (false,h,a,m.load A (m.word A),{ p with value:=wrap64 (m.word A),stage:=7 })
 else if p.stage=7 then
  let q:=Zt h a ((m.store (poHz h p) (m.word (poHz h p)) 0).answer t s 2 p.value) ⟨p.thread,p.top-1,none⟩
  (q.1,q.2.1,q.2.2.1,q.2.2.2.1,{ p with retire:=some q.2.2.2.2,stage:=9 })
 else if p.stage=8 then (true,h,a,m.store (poHz h p) (m.word (poHz h p)) 0,p)
 else match p.retire with
  | none=>(true,h,a,m,p)
  | some r=>match r.scan with
   | none=>(true,h,a,m,p)
   | some sc=>
    let q:=Zs h a m sc
    (q.1,q.2.1,q.2.2.1,q.2.2.2.1,{ p with retire:=some { r with scan:=some q.2.2.2.2 } })
structure PuOk (h:Haz)(a:Are)(m:Mch)(p:Pu):Prop where
 hz:HazOk h a m
 t0:0≤p.thread
 t1:p.thread<h.c.T
 stage:p.stage=1∨p.stage=2∨p.stage=3∨p.stage=4∨p.stage=5
 tk:p.stage=1→TakeOk a m p.take∧Zm (Zq a m p.take).2.2.2≤2147483646 ∧ -1≤Zm (Zq a m p.take).2.2.2
 slot:p.stage≠1→0≤p.slot∧p.slot<h.c.Sl
structure PoOk (h:Haz)(a:Are)(m:Mch)(p:Po):Prop where
 hz:HazOk h a m
 t0:0≤p.thread
 t1:p.thread<h.c.T
 held:0≤h.held.getD p.thread.toNat 0
 stage:p.stage=1∨p.stage=2∨p.stage=3∨p.stage=4∨p.stage=5∨p.stage=6∨p.stage=7∨p.stage=8∨p.stage=9
 wtop:0≤m.word (adr h.c 3 0)∧m.word (adr h.c 3 0)≤h.c.Sl
 top:2≤p.stage→p.stage≤7→1≤p.top∧p.top≤h.c.Sl
 ret:p.stage=9→∃r sc,p.retire=some r∧r.scan=some sc∧ScanOk h a m sc
inductive ZK where
 | hz (k:QP)
 | psh (p:Pu)
 | pop (p:Po)
def skReady (s:Haz×Are)(m:Mch)(i t:Nat)(c:Cll)(se:Sea):ZK→Bool×(Haz×Are)×Mch×ZK
 | .hz k=>((Qv s m i t c se k).1,(Qv s m i t c se k).2.1,(Qv s m i t c se k).2.2.1,.hz (Qv s m i t c se k).2.2.2)
 | .psh p=>((Qu s.2 m i t c se p).1,(s.1,(Qu s.2 m i t c se p).2.1),(Qu s.2 m i t c se p).2.2.1,.psh (Qu s.2 m i t c se p).2.2.2)
 | .pop p=>(false,s,m,.pop { p with stage:=1 })
def skStep (s:Haz×Are)(m:Mch)(i t:Nat)(c:Cll)(se:Sea):ZK→Bool×(Haz×Are)×Mch×ZK
 | .hz k=>((Qw s m i t c se k).1,(Qw s m i t c se k).2.1,(Qw s m i t c se k).2.2.1,.hz (Qw s m i t c se k).2.2.2)
 | .psh p=>((puStep s.1 s.2 m i t c se p).1,(s.1,(puStep s.1 s.2 m i t c se p).2.1),(puStep s.1 s.2 m i t c se p).2.2.1,.psh (puStep s.1 s.2 m i t c se p).2.2.2)
 | .pop p=>((QL s.1 s.2 m i t c se p).1,((QL s.1 s.2 m i t c se p).2.1,(QL s.1 s.2 m i t c se p).2.2.1),(QL s.1 s.2 m i t c se p).2.2.2.1,.pop (QL s.1 s.2 m i t c se p).2.2.2.2)
def skOkr (s:Haz×Are)(m:Mch)(t:Nat):ZK→Prop
 | .hz k=>htOkr s m t k
 | .psh p=>(HazOk s.1 s.2 m∧0≤p.thread∧p.thread<s.1.c.T)∧p.take=⟨p.thread,1,0,0,0,false⟩
 | .pop _=>True
def skOks (s:Haz×Are)(m:Mch)(t:Nat):ZK→Prop
 | .hz k=>htOks s m t k
 | .psh p=>PuOk s.1 s.2 m p
 | .pop p=>PoOk s.1 s.2 m p
end
section
set_option maxRecDepth 100000
set_option maxHeartbeats 1000000
attribute [local irreducible] Go.Calls
structure Mv where
 thread:Int
 op:Int
 arg:Int
 data:Int
abbrev Mv.v (m:Mv):Value:=.agg #[.int .i64 m.thread,.int .i64 m.op,.int .i64 m.arg,.int .i64 m.data]
abbrev Mv.e (m:Mv):List Value:=[.int .i64 m.thread,.int .i64 m.op,.int .i64 m.arg,.int .i64 m.data]
def madeR {σ τ:Type}(T:Tasks σ τ)(s:σ)(o:Option τ)(v:Value):Za:=match o with
 | none=>pu (v=.nilIface)*T.X s
 | some k=>T.R k v*T.X s
theorem made_none {σ τ:Type}{T:Tasks σ τ}{s:σ}{v:Value}{O w:World}{F:Za}:Sat O w (madeR T s none v*F)↔v=.nilIface∧Sat O w (T.X s*F):=by
 unfold madeR;simp only[Ma,Zx]
theorem made_some {σ τ:Type}{T:Tasks σ τ}{s:σ}{v:Value}{k:τ}{O w:World}{F:Za}:Sat O w (madeR T s (some k) v*F)↔Sat O w (T.R k v*(T.X s*F)):=by
 unfold madeR;simp only[Ma]
structure KitOk {σ τ:Type}(T:Tasks σ τ)(K:Int→Option Value)(mkr:σ→Nat→Mv→Option τ)(ok:σ→Prop)(n:Nat):Prop where
 func:∀op u,K op=some u→∃f a b,u=.func f a b
 make:∀op u s t mv,K op=some u→mv.op=op→t<n→mv.thread=(t:Int)→ok s→Dyn Tryz.prog (ZX u #[.int .i64 (t:Int),mv.v]) (T.X s) (fun v=>madeR T s (mkr s t mv) v)
def ZN (m:Mch)(t:Nat)(mv:Mv)(v vc':Value):Mch:=
 { m with moves:=m.moves+1,vc:=vc',seats:=m.seats.set t ⟨v,false,(m.calls.length:Int),1,0⟩,calls:=m.calls++[⟨mv.thread,mv.op,mv.arg,mv.data,m.moves,-1,-1,0,0⟩] }
section
variable {σ τ:Type}(T:Tasks σ τ)(bx bm:Nat)
variable (m:Mch)(mv:Mv)
theorem move_thread (hl:m.moves<65536)(hm0:0≤m.moves)(h0:0<m.seats.length)(ht:mv.thread<0∨(m.seats.length:Int)≤mv.thread) :
  Zf Tryz.prog 31 #[.pointer (some ⟨bx,0,none⟩),mv.v] (MchR bx bm m) (.bool false) (MchR bx bm { m with moves:=m.moves+1 }):=by
 obtain⟨v1,v2,v3,v4⟩:=mv
 intro O w F hs
 (obtain⟨vh,call,told,hcur,hs⟩:=mchR.1 hs)
 have h0':((m.seats.length:Int)==0)=false:=by simp;intro e;simp[e]at h0
 have h1:decide (m.moves≥65536)=false:=by simpa using hl
 simp only[]at ht
 by_cases hn:v1<0
 ·have h2:decide (v1<0)=true:=by simpa using hn
  clear ht
  go_enter Tryz.func31,Tryz.ntmps31
  go_wp2_with (first|(first|(first|(with_reducible refine NQ.mk ?_)|((with_reducible apply Zg);rfl;rfl)|(with_reducible refine Zh ?_))|((with_reducible apply Zb hs);exact Ii;rfl;(with_reducible repeat first|exact Qh|apply Qk);rfl;rfl;(simp only[Uc,Uz]))|((with_reducible apply Zv hs);exact Ii;rfl;rfl;(with_reducible repeat first|exact Qh|apply Qk);(rfl);(exact Vb rfl);rfl;clear hs;intro w hs;simp only[Yg,Uc,Uz]at hs)|((with_reducible apply Zo hs);rfl;rfl;rfl;clear hs;intro w b hs;(simp only[Uc,Uz]))|((with_reducible apply ZF hs);exact Ii;rfl;(with_reducible repeat first|exact Qh|apply Qk);rfl;(simp only[Uc,Uz])))|((with_reducible refine Wp (id:=5) (Paz (Pbz [.neu 10,.neu 11,.neu 12])) hs rfl ?_ ?_);kernel_rfl;clear hs;intro w hs))
  (go_ret)
  refine⟨rfl,?_⟩
  apply QM (m:={ m with moves:=m.moves+1 }) hcur
  ((with_reducible apply Sat.fin hs);(with_reducible repeat first|exact Ql|exact Qh|apply Qb|apply Qk))
 ·have h2:decide (v1<0)=false:=by simpa using hn
  have h3:decide (v1≥(m.seats.length:Int))=true:=by simp;omega
  clear ht
  go_enter Tryz.func31,Tryz.ntmps31
  go_wp2_with (first|(first|(first|(with_reducible refine NQ.mk ?_)|((with_reducible apply Zg);rfl;rfl)|(with_reducible refine Zh ?_))|((with_reducible apply Zb hs);exact Ii;rfl;(with_reducible repeat first|exact Qh|apply Qk);rfl;rfl;(simp only[Uc,Uz]))|((with_reducible apply Zv hs);exact Ii;rfl;rfl;(with_reducible repeat first|exact Qh|apply Qk);(rfl);(exact Vb rfl);rfl;clear hs;intro w hs;simp only[Yg,Uc,Uz]at hs)|((with_reducible apply Zo hs);rfl;rfl;rfl;clear hs;intro w b hs;(simp only[Uc,Uz]))|((with_reducible apply ZF hs);exact Ii;rfl;(with_reducible repeat first|exact Qh|apply Qk);rfl;(simp only[Uc,Uz])))|((with_reducible refine Wp (id:=5) (Paz (Pbz [.neu 10,.neu 11,.neu 12])) hs rfl ?_ ?_);kernel_rfl;clear hs;intro w hs))
  (go_ret)
  refine⟨rfl,?_⟩
  apply QM (m:={ m with moves:=m.moves+1 }) hcur
  ((with_reducible apply Sat.fin hs);(with_reducible repeat first|exact Ql|exact Qh|apply Qb|apply Qk))
variable {m}{mv}
theorem move_no (hl:m.moves<65536)(hm0:0≤m.moves){t:Nat}{se:Sea}(ht:mv.thread=(t:Int))(hse:m.seats[t]? = some se)(h:(mv.op=0∧se.task=.nilIface)∨(mv.op≠0∧∃ty x,se.task=.iface ty x)) :
  Zf Tryz.prog 31 #[.pointer (some ⟨bx,0,none⟩),mv.v] (MchR bx bm m) (.bool false) (MchR bx bm { m with moves:=m.moves+1 }):=by
 obtain⟨v1,v2,v3,v4⟩:=mv
 obtain⟨s1,s2,s3,s4,s5⟩:=se
 simp only[]at ht h
 subst ht
 intro O w F hs
 (obtain⟨vh,call,told,hcur,hs⟩:=mchR.1 hs)
 have lt:=(List.getElem?_eq_some_iff.1 hse).1
 have h0':((m.seats.length:Int)==0)=false:=by simp;intro e;simp[e]at lt
 have h1:decide (m.moves≥65536)=false:=by simpa using hl
 have h2:decide ((t:Int)<0)=false:=by simp
 have h3:decide ((t:Int)≥(m.seats.length:Int))=false:=by simp;omega
 rcases h with⟨rfl,rfl⟩|⟨hne,ty,x,rfl⟩
 ·go_enter Tryz.func31,Tryz.ntmps31
  go_wp2_with (first|(first|(first|(with_reducible refine NQ.mk ?_)|((with_reducible apply Zg);rfl;rfl)|(with_reducible refine Zh ?_))|((with_reducible apply Zb hs);exact Ii;rfl;(with_reducible repeat first|exact Qh|apply Qk);rfl;rfl;(simp only[Uc,Uz]))|((with_reducible apply Zv hs);exact Ii;rfl;rfl;(with_reducible repeat first|exact Qh|apply Qk);(rfl);(exact Vb rfl);rfl;clear hs;intro w hs;simp only[Yg,Uc,Uz]at hs)|((with_reducible apply Zo hs);rfl;rfl;rfl;clear hs;intro w b hs;(simp only[Uc,Uz]))|((with_reducible apply Zy hs);exact Ii;rfl;assumption;(with_reducible repeat first|exact Qh|apply Qk);rfl;(exact Zc (by assumption));rfl;rfl;(simp only[Uc,Uz]))|((with_reducible apply ZS hs);exact Ii;exact Ii;rfl;rfl;(with_reducible repeat first|exact Qh|apply Qk);(rfl);(simp only[Wm,Ws,Wa,Wc,Wn,Wr]at *;omega);rfl;intro b off hat;(simp only[Uc,Uz]))|((with_reducible apply ZF hs);exact Ii;rfl;(with_reducible repeat first|exact Qh|apply Qk);rfl;(simp only[Uc,Uz])))|((with_reducible refine Wp (id:=5) (Paz (Pbz [.neu 10,.neu 11,.neu 12])) hs rfl ?_ ?_);kernel_rfl;clear hs;intro w hs)|((with_reducible refine Wp (id:=7) (Paz [.neu 5,.neu 6,.neu 7]) hs rfl ?_ ?_);kernel_rfl;clear hs;intro w hs))
  (go_ret)
  refine⟨rfl,?_⟩
  apply QM (m:={ m with moves:=m.moves+1 }) hcur
  ((with_reducible apply Sat.fin hs);(with_reducible repeat first|exact Ql|exact Qh|apply Qb|apply Qk))
 ·have h4:(v2==0)=false:=by simpa using hne
  have HN:=Lh hne;clear hne
  go_enter Tryz.func31,Tryz.ntmps31
  go_wp2_with (first|(first|(first|(with_reducible refine NQ.mk ?_)|((with_reducible apply Zg);rfl;rfl)|(with_reducible refine Zh ?_))|((with_reducible apply Zb hs);exact Ii;rfl;(with_reducible repeat first|exact Qh|apply Qk);rfl;rfl;(simp only[Uc,Uz]))|((with_reducible apply Zv hs);exact Ii;rfl;rfl;(with_reducible repeat first|exact Qh|apply Qk);(rfl);(exact Vb rfl);rfl;clear hs;intro w hs;simp only[Yg,Uc,Uz]at hs)|((with_reducible apply Zo hs);rfl;rfl;rfl;clear hs;intro w b hs;(simp only[Uc,Uz]))|((with_reducible apply Zy hs);exact Ii;rfl;assumption;(with_reducible repeat first|exact Qh|apply Qk);rfl;(exact Zc (by assumption));rfl;rfl;(simp only[Uc,Uz]))|((with_reducible apply ZS hs);exact Ii;exact Ii;rfl;rfl;(with_reducible repeat first|exact Qh|apply Qk);(rfl);(simp only[Wm,Ws,Wa,Wc,Wn,Wr]at *;omega);rfl;intro b off hat;(simp only[Uc,Uz]))|((with_reducible apply ZF hs);exact Ii;rfl;(with_reducible repeat first|exact Qh|apply Qk);rfl;(simp only[Uc,Uz])))|((with_reducible refine Wp (id:=5) (Paz (Pbz [.neu 10,.neu 11,.neu 12])) hs rfl ?_ ?_);kernel_rfl;clear hs;intro w hs)|((with_reducible refine Wp (id:=7) (Paz [.neu 5,.neu 6,.neu 7]) hs rfl ?_ ?_);kernel_rfl;clear hs;intro w hs))
  (go_ret)
  refine⟨rfl,?_⟩
  apply QM (m:={ m with moves:=m.moves+1 }) hcur
  ((with_reducible apply Sat.fin hs);(with_reducible repeat first|exact Ql|exact Qh|apply Qb|apply Qk))
end
end
end Go.Proofs.YtjagadldibbbbaaGreat
