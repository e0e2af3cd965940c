/-
  What the stack's calls keep.
-/
import Derived.Test.YtjagadldibbbbaaGreatDMach2
import Derived.Test.YtjagadldibbbbaaGreatDGen
import Derived.Test.YtjagadldibbbbaaGreatDInv5
import Derived.Test.YtjagadldibbbbaaGreatDHaz
import Derived.Maps.RangeRun
set_option linter.all false
namespace Go.Proofs.YtjagadldibbbbaaGreat
section
open Go.RowKit Hp
set_option maxRecDepth 100000
set_option maxHeartbeats 1000000
attribute [local irreducible] Go.Calls
def stkTask (s:Haz×Are)(t:Nat)(mv:Mv):Option Zm:=
 if mv.op=30 then (if s.1.held.getD t 0<0 then none else some (.psh ⟨t,mv.arg,⟨t,1,0,0,0,false⟩,0,0,0⟩))
 else if mv.op=31 then (if s.1.held.getD t 0<0 then none else some (.pop ⟨t,0,0,0,false,none,0⟩))
 else none
def sTask (s:Haz×Are)(t:Nat)(mv:Mv):Option Zm:=if mv.op=30∨mv.op=31 then stkTask s t mv else (Z9 s t mv).map .hz
structure PuI (c:Cfg)(p:Pu):Prop where
 stage:p.stage=1∨p.stage=2∨p.stage=3∨p.stage=4∨p.stage=5
 tk:p.stage=1→TkI c p.take
 slot:p.stage≠1→0≤p.slot∧p.slot<c.Sl
 top:p.stage=4∨p.stage=5→0≤p.top∧p.top≤c.Sl
structure PpI (c:Cfg)(p:Po):Prop where
 stage:p.stage=1∨p.stage=2∨p.stage=3∨p.stage=4∨p.stage=5∨p.stage=6∨p.stage=7∨p.stage=8∨p.stage=9
 top:2≤p.stage→p.stage≤7→1≤p.top∧p.top≤c.Sl
 behind:p.stage=5→0≤p.behind∧p.behind≤c.Sl
 ret:p.stage=9→∃r sc,p.retire=some r∧r.scan=some sc∧ScI c sc∧sc.thread=p.thread
def SI (c:Cfg):GI Zm:=fun t rdy hd ca k=>match k with
 | .hz k=>TI c t rdy hd ca k
 | .psh p=>p.thread=(t:Int)∧(rdy=false→p.take=⟨t,1,0,0,0,false⟩)∧(rdy=true→PuI c p)
 | .pop p=>p.thread=(t:Int)∧0≤hd∧(rdy=true→PpI c p)
section
variable {c:Cfg}{L S N:Nat}{h:Haz}{a:Are}{m:Mch}
theorem top_lt {c:Cfg}(hc:c.Ok):((adr c 3 0:Nat):Int)<base c 14:=by
 have e:=QQ hc 3 (Int.le_refl 0)
 have:=hc.R1
 have:=hc.S1
 obtain⟨b1,b2,b8,b9,b10,b11,b12,b13,b14,rh,rh2,b3⟩:=QI hc
 omega
theorem Core.topW (k:Core c L S N h a m):0≤m.word (adr c 3 0)∧m.word (adr c 3 0)≤c.Sl:=by
 have e:=QQ k.ok 3 (Int.le_refl 0)
 exact(k.word (top_lt k.ok)).top (by omega)
theorem puTaken_core {i t:Nat}{x:Cll}{se:Sea}{p:Pu}(C:Core c L S N h a m)(hk:Ze p.take = -1∨(0≤Ze p.take∧Ze p.take<c.Sl)) :
  Core c L S N h a (ZZ m i t x se p).2.1∧(ZZ m i t x se p).2.2.thread=p.thread∧(ZZ m i t x se p).2.1.used=m.used∧((ZZ m i t x se p).1=false→PuI c (ZZ m i t x se p).2.2):=by
 unfold ZZ
 split
 ·exact⟨(C.point ..).answer ..,rfl,rfl,fun hf=>(by cases hf)⟩
 ·exact⟨C,rfl,rfl,fun _=>⟨.inr (.inl rfl),fun hf=>by simp at hf,fun _=>⟨by simp only[];omega,by simp only[];omega⟩,fun hf=>by simp at hf⟩⟩
structure PuS (c:Cfg)(L S N:Nat)(t:Nat)(h:Haz)(a:Are)(r:Bool×Are×Mch×Pu):Prop where
 core:Core c L S N h r.2.1 r.2.2.1
 caches:∀j,j≠t→r.2.1.caches[j]? = a.caches[j]?
 thr:r.2.2.2.thread=(t:Int)
 fin:r.1=false→PuI c r.2.2.2
theorem puReady_core {i t:Nat}{x:Cll}{se:Sea}{p:Pu}(C:Core c L S N h a m)(ht:(t:Int)<c.T)(hu:p.thread=(t:Int))(hp:p.take=⟨t,1,0,0,0,false⟩) :
  PuS c L (S+1) N t h a (QF a m i t x se p)∧(QF a m i t x se p).2.2.1.used=m.used:=by
 have hu2:∀(x:Tak),(Zg a m x).2.2.1.used=m.used:=by
  intro x;unfold Zg;simp only[];split<;>rfl
 have hR:=takeReady_core (k:=⟨(t:Int),1,0,0,0,false⟩) C (by simp only[];omega) (by simp only[];omega)
 have hu2:=hu2 ⟨(t:Int),1,0,0,0,false⟩
 unfold QF
 rw[hp]
 simp only[]
 generalize Zg a m ⟨(t:Int),1,0,0,0,false⟩=r at hR hu2 ⊢
 obtain⟨r1,r2,r3,r4⟩:=r
 rcases hR with e|⟨e1,e2,e3,e4⟩
 ·cases e
  simp only[Yn,if_false]
  refine⟨⟨C.mono (by omega) (by omega) (by omega),fun _ _=>rfl,hu,fun _=>⟨.inl rfl,fun _=>⟨.inl rfl,rfl,fun hf=>absurd rfl hf,fun hf=>by simp at hf⟩,fun hf=>absurd rfl hf,fun hf=>by simp at hf⟩⟩,by first|trivial|rfl⟩
 ·simp only[]at e1 e2 e3 e4 hu2
  subst e1
  simp only[if_true]
  obtain⟨f1,f2,f3,f4⟩:=puTaken_core (i:=i) (t:=t) (x:=x) (se:=se) (p:={ p with take:=r4,stage:=1 }) e2 (.inr e3)
  exact⟨⟨f1,fun j hj=>e4 j (by simpa using hj),f2.trans hu,f4⟩,f3.trans hu2⟩
theorem puStep_core {i t:Nat}{x:Cll}{se:Sea}{p:Pu}(C:Core c L S N h a m)(hu:p.thread=(t:Int))(I:PuI c p):PuS c (L+1) (S+1) N t h a (Jf h a m i t x se p):=by
 have hok:=C.ok
 have hc:=C.hc
 have hw:=C.topW
 obtain⟨i1,i2,i3,i4⟩:=I
 unfold Jf
 rw[hc]
 simp only[]
 by_cases s1:p.stage=1
 ·rw[if_pos s1]
  obtain⟨e1,e2,e3,e4⟩:=take_core C (i2 s1)
  unfold puTake
  simp only[]
  generalize Zj a m p.take=r at e1 e2 e3 e4 ⊢
  split
  ·obtain⟨f1,f2,f3,f4⟩:=puTaken_core (i:=i) (t:=t) (x:=x) (se:=se) (p:={ p with take:=r.2.2.2 }) e1 e3
   exact⟨f1,fun j _=>by rw[e4],f2.trans hu,f4⟩
  ·rename_i hf
   exact⟨e1,fun j _=>by rw[e4],hu,fun _=>⟨.inl s1,fun _=>e2 (by simpa using hf),fun hf=>absurd s1 hf,fun hf=>by simp only[s1]at hf;omega⟩⟩
 rw[if_neg s1]
 obtain⟨g1,g2⟩:=i3 s1
 by_cases s2:p.stage=2
 ·rw[if_pos s2]
  exact⟨(C.store _ _ _ (wok_value hok g1 g2 _)).mono (by omega) (by omega) (by omega),fun _ _=>rfl,hu,fun _=>⟨.inr (.inr (.inl rfl)),fun hf=>by simp at hf,fun _=>⟨g1,g2⟩,fun hf=>by simp at hf⟩⟩
 rw[if_neg s2]
 by_cases s3:p.stage=3
 ·rw[if_pos s3]
  exact⟨(C.load _ _).mono (by omega) (by omega) (by omega),fun _ _=>rfl,hu,fun _=>⟨.inr (.inr (.inr (.inl rfl))),fun hf=>by simp at hf,fun _=>⟨g1,g2⟩,fun _=>hw⟩⟩
 rw[if_neg s3]
 by_cases s4:p.stage=4
 ·rw[if_pos s4]
  have hT:=i4 (.inl s4)
  exact⟨(C.store _ _ _ (wok_link hok g1 g2 hT)).mono (by omega) (by omega) (by omega),fun _ _=>rfl,hu,fun _=>⟨.inr (.inr (.inr (.inr rfl))),fun hf=>by simp at hf,fun _=>⟨g1,g2⟩,fun _=>hT⟩⟩
 rw[if_neg s4]
 have hz:WOk c (adr c 3 0) (p.slot+1):=wok_top hok (by omega)
 have K:=C.swap (adr c 3 0) (m.word (adr c 3 0)) p.top (p.slot+1) hz
 split
 ·unfold puDone
  exact⟨(((K.point i x _).mshift _ _ _).answer _ _ _ _).ashift _ _ _,fun _ _=>rfl,hu,fun hf=>(by cases hf)⟩
 ·exact⟨K.mono (by omega) (by omega) (by omega),fun _ _=>rfl,hu,fun _=>⟨.inr (.inr (.inl rfl)),fun hf=>by simp at hf,fun _=>⟨g1,g2⟩,fun hf=>by simp at hf⟩⟩
structure PpS (c:Cfg)(L S N:Nat)(t:Nat)(h:Haz)(a:Are)(r:Bool×Haz×Are×Mch×Po):Prop where
 core:Core c L S N r.2.1 r.2.2.1 r.2.2.2.1
 held:r.2.1.held=h.held
 caches:∀j,j≠t→r.2.2.1.caches[j]? = a.caches[j]?
 thr:r.2.2.2.2.thread=(t:Int)
 fin:r.1=false→PpI c r.2.2.2.2
theorem poSeen_core {i t:Nat}{x:Cll}{se:Sea}{p:Po}(C:Core c L S N h a m)(h1:p.top≤c.Sl) :
  Core c L S N h a (Z4 m i t x se p).2.1∧(Z4 m i t x se p).2.2.thread=p.thread∧((Z4 m i t x se p).1=false→PpI c (Z4 m i t x se p).2.2):=by
 unfold Z4
 split
 ·exact⟨C,rfl,fun _=>⟨.inr (.inl rfl),fun _ _=>⟨by simp only[];omega,h1⟩,fun hf=>by simp at hf,fun hf=>by simp at hf⟩⟩
 ·exact⟨(C.point ..).answer ..,rfl,fun _=>⟨.inr (.inr (.inr (.inr (.inr (.inr (.inr (.inl rfl))))))),fun _ hf=>by simp at hf,fun hf=>by simp at hf,fun hf=>by simp at hf⟩⟩
theorem poStep_core {i t:Nat}{x:Cll}{se:Sea}{p:Po}(C:Core c L S N h a m)(hN:N<1000000)(ht:(t:Int)<c.T)(hu:p.thread=(t:Int))(hd:0≤h.held.getD t 0)(I:PpI c p) :
  PpS c (L+1) (S+66) (N+1) t h a (QX h a m i t x se p):=by
 have hok:=C.ok
 have hc:=C.hc
 have hw:=C.topW
 obtain⟨hr1,_⟩:=C.hget ht
 have hza:=hz_adr hok hd hr1 (Int.le_refl 0) (by have:=hok.H1;omega)
 have hb9:=(ZD hok 9).1
 have hAd:poHz h p=(base c 9+h.held.getD t 0*c.Hz+0).toNat:=by
  unfold poHz
  rw[hu,hc,Yo]
 have hwh:∀u:Int,0≤u∧u≤c.Sl→WOk c (poHz h p:Nat) u:=fun u hu=>by
  rw[hAd]
  exact wok_hz hok (by omega) (by omega) hu
 have hS1:=hok.S1
 obtain⟨i1,i2,i3,i4⟩:=I
 unfold QX
 rw[hc]
 simp only[]
 by_cases s1:p.stage=1
 ·rw[if_pos s1]
  obtain⟨f1,f2,f3⟩:=poSeen_core (i:=i) (t:=t) (x:=x) (se:=se) (p:={ p with top:=m.word (adr c 3 0) }) (C.load (adr c 3 0) (m.word (adr c 3 0))) hw.2
  exact⟨f1.mono (by omega) (by omega) (by omega),rfl,fun _ _=>rfl,f2.trans hu,f3⟩
 rw[if_neg s1]
 by_cases s2:p.stage=2
 ·rw[if_pos s2]
  have hT:=i2 (by omega) (by omega)
  exact⟨(C.store _ _ _ (hwh _ ⟨by omega,hT.2⟩)).mono (by omega) (by omega) (by omega),rfl,fun _ _=>rfl,hu,fun _=>⟨by simp,fun _ _=>hT,fun hf=>by simp at hf,fun hf=>by simp at hf⟩⟩
 rw[if_neg s2]
 by_cases s3:p.stage=3
 ·rw[if_pos s3]
  have hT:=i2 (by omega) (by omega)
  split
  ·exact⟨(C.load _ _).mono (by omega) (by omega) (by omega),rfl,fun _ _=>rfl,hu,fun _=>⟨by simp,fun _ _=>hT,fun hf=>by simp at hf,fun hf=>by simp at hf⟩⟩
  ·obtain⟨f1,f2,f3⟩:=poSeen_core (i:=i) (t:=t) (x:=x) (se:=se) (p:={ p with top:=m.word (adr c 3 0) }) (C.load (adr c 3 0) (m.word (adr c 3 0))) hw.2
   exact⟨f1.mono (by omega) (by omega) (by omega),rfl,fun _ _=>rfl,f2.trans hu,f3⟩
 rw[if_neg s3]
 by_cases s4:p.stage=4
 ·rw[if_pos s4]
  have hT:=i2 (by omega) (by omega)
  have hl:0≤m.word (adr c 13 (p.top-1))∧m.word (adr c 13 (p.top-1))≤c.Sl:=by
   have e:=QQ hok 13 (i:=p.top-1) (by omega)
   have hb:=QI hok
   have:=hb.b14
   have:=hok.R1
   exact(C.word (i:=adr c 13 (p.top-1)) (by omega)).link (by omega) (by omega)
  exact⟨(C.load _ _).mono (by omega) (by omega) (by omega),rfl,fun _ _=>rfl,hu,fun _=>⟨by simp,fun _ _=>hT,fun _=>hl,fun hf=>by simp at hf⟩⟩
 rw[if_neg s4]
 by_cases s5:p.stage=5
 ·rw[if_pos s5]
  have hT:=i2 (by omega) (by omega)
  have K:=C.swap (adr c 3 0) (m.word (adr c 3 0)) p.top p.behind (wok_top hok (i3 s5))
  split
  ·exact⟨(((K.point i x _).mshift _ _ _).ashift _ _ _).mono (by omega) (by omega) (by omega),rfl,fun _ _=>rfl,hu,fun _=>⟨by simp,fun _ _=>hT,fun hf=>by simp at hf,fun hf=>by simp at hf⟩⟩
  ·exact⟨K.mono (by omega) (by omega) (by omega),rfl,fun _ _=>rfl,hu,fun _=>⟨by simp,fun hf _=>by simp at hf,fun hf=>by simp at hf,fun hf=>by simp at hf⟩⟩
 rw[if_neg s5]
 by_cases s6:p.stage=6
 ·rw[if_pos s6]
  have hT:=i2 (by omega) (by omega)
  exact⟨(C.load _ _).mono (by omega) (by omega) (by omega),rfl,fun _ _=>rfl,hu,fun _=>⟨by simp,fun _ _=>hT,fun hf=>by simp at hf,fun hf=>by simp at hf⟩⟩
 rw[if_neg s6]
 by_cases s7:p.stage=7
 ·rw[if_pos s7]
  have hT:=i2 (by omega) (by omega)
  have K:=(C.store (poHz h p) (m.word (poHz h p)) 0 (hwh 0 (by omega))).answer t se 2 p.value
  have R:=retire_core (r:=⟨p.thread,p.top-1,none⟩) K (by simp only[];omega) (by simp only[];omega) (by simp only[];omega) (by simp only[];omega) (by simp only[hu,Yo];exact hd)
  generalize Zv h a _ ⟨p.thread,p.top-1,none⟩=r at R ⊢
  obtain⟨q1,q2,q3,q4⟩:=R
  refine⟨q1.mono (by omega) (by omega) (by omega),q3,fun j _=>by rw[q4],hu,fun hf => ?_⟩
  obtain⟨sc,e1,e2,e3⟩:=q2 hf
  exact⟨by simp,fun _ hf=>by simp at hf,fun hf=>by simp at hf,fun _=>⟨_,sc,rfl,e1,e2,e3⟩⟩
 rw[if_neg s7]
 by_cases s8:p.stage=8
 ·rw[if_pos s8]
  exact⟨(C.store _ _ _ (hwh 0 (by omega))).mono (by omega) (by omega) (by omega),rfl,fun _ _=>rfl,hu,fun hf=>(by cases hf)⟩
 rw[if_neg s8]
 have s9:p.stage=9:=by clear i4;omega
 obtain⟨r,sc,e1,e2,e3,e4⟩:=i4 s9
 rw[e1]
 simp only[e2]
 have F:=scan_core C e3 hN
 generalize Zt h a m sc=q at F ⊢
 obtain⟨f1,f2,f3,f4,f5⟩:=F
 exact⟨f1.mono (by omega) (by omega) (by omega),f3,fun j hj=>f4 j (by rw[e4,hu];simpa using hj),hu,fun hf=>⟨by simp[s9],fun _ (h7:p.stage≤7)=>absurd h7 (by rw[s9];decide),fun(h5:p.stage=5)=>absurd h5 (by rw[s9];decide),fun _=>⟨_,_,rfl,rfl,f2 hf,by rw[f5,e4]⟩⟩⟩
theorem pu_oks {t:Nat}{p:Pu}(C:Core c L S N h a m)(hu:m.used=false)(hL:L<4294967296)(hS:S<1000000000)(hN:N<1000000)(ht:(t:Int)<c.T)(ht2:p.thread=(t:Int))(I:PuI c p):PuOk h a m p:=by
 have hc:=C.hc
 have hS2:=C.ok.S2
 obtain⟨i1,i2,i3,i4⟩:=I
 refine⟨C.haz hu hL hS hN,by omega,by rw[hc];omega,i1,fun h1 => ?_,fun h1=>by rw[hc];exact i3 h1⟩
 have e:=(take_core C (i2 h1)).2.2.1
 exact⟨(i2 h1).ok C hu hL hS hN,by omega,by omega⟩
theorem po_oks {t:Nat}{p:Po}(C:Core c L S N h a m)(hu:m.used=false)(hL:L<4294967296)(hS:S<1000000000)(hN:N<1000000)(ht:(t:Int)<c.T)(ht2:p.thread=(t:Int))(hd:0≤h.held.getD t 0)(I:PpI c p):PoOk h a m p:=by
 have hc:=C.hc
 obtain⟨i1,i2,i3,i4⟩:=I
 refine⟨C.haz hu hL hS hN,by omega,by rw[hc];omega,by rw[ht2];simpa using hd,i1,by rw[hc];exact C.topW,fun h1 h2=>by rw[hc];exact i2 h1 h2,fun h9 => ?_⟩
 obtain⟨r,sc,e1,e2,e3,e4⟩:=i4 h9
 exact⟨r,sc,e1,e2,e3.ok C hu hL hS hN⟩
end
end
section
open Go.RowKit Hp
set_option maxRecDepth 100000
set_option maxHeartbeats 1000000
attribute [local irreducible] Go.Calls
section
variable {c:Cfg}{L S N:Nat}{h:Haz}{a:Are}{m:Mch}
theorem sk_rdy {i t:Nat}{cl:Cll}{se:Sea}{k:Zm}(C:Core c L S N h a m)(ht:(t:Int)<c.T)(I:SI c t false (h.held.getD t 0) (a.caches.getD t []) k) :
  StG (SI c) c L (S+1) N t h a (QV (h,a) m i t cl se k)∧(QV (h,a) m i t cl se k).2.2.1.used=m.used:=by
 cases k with
 | hz k=>
  obtain⟨⟨e1,e2,e3⟩,e4⟩:=ready_core (i:=i) (cl:=cl) (se:=se) C ht I
  exact⟨⟨e1,e2,e3⟩,e4⟩
 | psh p=>
  obtain⟨i1,i2,i3⟩:=I
  obtain⟨⟨e1,e2,e3,e4⟩,e5⟩:=puReady_core (i:=i) (x:=cl) (se:=se) C ht i1 (i2 rfl)
  exact⟨⟨e1,⟨fun _ _=>rfl,e2⟩,fun hf=>⟨e3,fun hf=>(by cases hf),fun _=>e4 hf⟩⟩,e5⟩
 | pop p=>
  obtain⟨i1,i2,i3⟩:=I
  exact⟨⟨C.mono (by omega) (by omega) (by omega),.refl ..,fun _=>⟨i1,i2,fun _=>⟨.inl rfl,fun hf=>by simp at hf,fun hf=>by simp at hf,fun hf=>by simp at hf⟩⟩⟩,rfl⟩
theorem sk_stp {i t:Nat}{cl:Cll}{se:Sea}{k:Zm}(C:Core c L S N h a m)(hN:N<1000000)(ht:(t:Int)<c.T)(I:SI c t true (h.held.getD t 0) (a.caches.getD t []) k) :
  StG (SI c) c (L+1) (S+66) (N+1) t h a (Qm (h,a) m i t cl se k):=by
 cases k with
 | hz k=>
  obtain⟨e1,e2,e3⟩:=step_core (i:=i) (x:=cl) (se:=se) C hN ht I
  exact⟨e1,e2,e3⟩
 | psh p=>
  obtain⟨i1,i2,i3⟩:=I
  obtain⟨e1,e2,e3,e4⟩:=puStep_core (i:=i) (x:=cl) (se:=se) C i1 (i3 rfl)
  exact⟨e1.mono (by omega) (by omega) (by omega),⟨fun _ _=>rfl,e2⟩,fun hf=>⟨e3,fun hf=>(by cases hf),fun _=>e4 hf⟩⟩
 | pop p=>
  obtain⟨i1,i2,i3⟩:=I
  obtain⟨e1,e2,e3,e4,e5⟩:=poStep_core (i:=i) (x:=cl) (se:=se) C hN ht i1 i2 (i3 rfl)
  exact⟨e1,⟨fun j _=>by show(QX h a m i t cl se p).2.1.held[j]? = _;rw[e2],e3⟩,fun hf=>⟨e4,by show 0≤(QX h a m i t cl se p).2.1.held.getD t 0;rw[e2];exact i2,fun _=>e5 hf⟩⟩
theorem sk_okr {t:Nat}{k:Zm}(C:Core c L S N h a m)(hu:m.used=false)(hL:L<4294967296)(hS:S<1000000000)(hN:N<1000000)(ht:(t:Int)<c.T)(I:SI c t false (h.held.getD t 0) (a.caches.getD t []) k):skOkr (h,a) m t k:=by
 cases k with
 | hz k=>exact okr_of C hu hL hS hN ht I
 | psh p=>exact⟨⟨C.haz hu hL hS hN,by rw[I.1];omega,by rw[I.1,C.hc];exact ht⟩,by rw[I.2.1 rfl,I.1]⟩
 | pop p=>trivial
theorem sk_oks {t:Nat}{k:Zm}(C:Core c L S N h a m)(hu:m.used=false)(hL:L<4294967296)(hS:S<1000000000)(hN:N<1000000)(ht:(t:Int)<c.T)(I:SI c t true (h.held.getD t 0) (a.caches.getD t []) k):skOks (h,a) m t k:=by
 cases k with
 | hz k=>exact oks_of C hu hL hS hN ht I
 | psh p=>exact pu_oks C hu hL hS hN ht I.1 (I.2.2 rfl)
 | pop p=>exact po_oks C hu hL hS hN ht I.1 I.2.1 (I.2.2 rfl)
theorem sk_made {t:Nat}{mv:Mv}{k:Zm}(C:Core c L S N h a m)(ht:(t:Int)<c.T)(hm:sTask (h,a) t mv=some k)(ca:List Int):SI c t false (h.held.getD t 0) ca k:=by
 unfold sTask at hm
 split at hm
 ·unfold stkTask at hm
  split at hm
  ·split at hm
   ·cases hm
   ·cases hm
    exact⟨rfl,fun _=>rfl,fun hf=>(by cases hf)⟩
  ·split at hm
   ·split at hm
    ·cases hm
    ·rename_i hn
     cases hm
     exact⟨rfl,by simpa using hn,fun hf=>(by cases hf)⟩
   ·cases hm
 ·cases hq:Z9 (h,a) t mv with
  | none=>rw[hq]at hm;cases hm
  | some q=>
   rw[hq]at hm
   cases hm
   exact made_inv C ht hq ca
end
theorem sk_inv (c:Cfg)(X:Haz×Are→Zc)(R:Zm→Value→Zc):TInv c ⟨X,R,QV,Qm,skOkr,skOks⟩ sTask (SI c):=
 ⟨fun C ht I=>sk_rdy C ht I,fun C hN ht I=>sk_stp C hN ht I,fun C hu hL hS hN ht I=>sk_okr C hu hL hS hN ht I,fun C hu hL hS hN ht I=>sk_oks C hu hL hS hN ht I,fun C ht hm ca=>sk_made C ht hm ca⟩
end
section
open Go.RowKit
namespace Hp
def itm (K:IntKind)(f:Int→Option Value)(v:Value)(r:Nat)(left:Int→Bool)(n:Nat)(cur:Option (Int×Value)):Zc:=
 ex fun(b:Nat)=>ex fun(es:Array MapEntry)=>ex fun(clock:Nat)=>ex fun(since:Nat)=>ex fun(seen:Array Nat)=>ex fun(c0:Nat)=>
  pu (v=.map (some b)∧Ents K es.toList f∧Stm es.toList clock∧(∀x∈es.toList,x.born<since)∧since≤c0∧since≤clock∧(leftOf es seen).size=n ∧
   (∀x∈es.toList,∀k,x.key=.int K k→left k = !seen.contains x.born)∧(∀k,left k=true→f k≠none) ∧
   (∀k u,cur=some (k,u)→∃x∈es.toList,x.key=.int K k∧x.val=u∧c0=clock∧∃s':Array Nat,seen=s'.push x.born)) *
  (pt b (.map es clock)*pt r (.mapIter (some b) since seen c0))
section
variable {P:Program}{O w w':World}{R S:Zc}{K:IntKind}{f:Int→Option Value}{v:Value}{T kt et:TypeId}{z:Value}{r n:Nat}{left:Int→Bool}{cur:Option (Int×Value)}
theorem sat_itm:Sat O w (itm K f v r left n cur*R)↔∃(b:Nat) (es:Array MapEntry) (clock since:Nat) (seen:Array Nat) (c0:Nat),(v=.map (some b)∧Ents K es.toList f∧Stm es.toList clock∧(∀x∈es.toList,x.born<since)∧since≤c0∧since≤clock∧(leftOf es seen).size=n ∧
   (∀x∈es.toList,∀k,x.key=.int K k→left k = !seen.contains x.born)∧(∀k,left k=true→f k≠none) ∧
   (∀k u,cur=some (k,u)→∃x∈es.toList,x.key=.int K k∧x.val=u∧c0=clock∧∃s':Array Nat,seen=s'.push x.born)) ∧
  Sat O w (pt b (.map es clock)*(pt r (.mapIter (some b) since seen c0)*R)):=by
 unfold itm
 simp only[ZI,Ma,Zx]
theorem itm_end (hs:Sat O w (itm K f v r left n cur*R)):Sat O w (mp K f v*R):=by
 obtain⟨b,es,clock,since,seen,c0,⟨rfl,h1,h2,_⟩,hs2⟩:=sat_itm.1 hs
 refine sat_mp.2 ⟨b,es,clock,rfl,h1,h2,?_⟩
 exact(hs2.cast (QB ..)).right
theorem ents_key {es:List MapEntry}(h:Ents K es f){x y:MapEntry}{k:Int}(hx:x∈es)(hy:y∈es)(kx:x.key=.int K k)(ky:y.key=.int K k):x=y:=by
 obtain⟨i,hi,rfl⟩:=List.getElem_of_mem hx
 obtain⟨j,hj,rfl⟩:=List.getElem_of_mem hy
 have hn:=h.nodup
 rw[List.nodup_iff_pairwise_ne,List.pairwise_iff_getElem]at hn
 rcases Nat.lt_trichotomy i j with q|q|q
 ·have h9:=hn i j (by simpa using hi) (by simpa using hj) q
  simp[kx,ky]at h9
 ·subst q;rfl
 ·have h9:=hn j i (by simpa using hj) (by simpa using hi) q
  simp[kx,ky]at h9
theorem run_itm_range (h:MapC P T kt et K z)(hs:Sat O w (mp K f v*R)) :
  ∃w' n,(Instr.range T v).run P w=.ok (.pointer (some ⟨w.heap.size,0,none⟩)) w'∧Sat O w' (itm K f v w.heap.size (fun k=>(f k).isSome) n none*R):=by
 obtain⟨b,es,clock,rfl,hE,hM,hs⟩:=sat_mp.1 hs
 have hb:=hs.block
 refine⟨w.alloc (.mapIter (some b) clock #[] clock),(leftOf es #[]).size,run_range_map w T kt et b es clock h.is hb,sat_itm.2 ⟨b,es,clock,clock,#[],clock,⟨rfl,hE,hM,hM.2,Nat.le_refl _,Nat.le_refl _,rfl,?_,?_,?_⟩,?_⟩⟩
 ·intro x hx k hk
  show(f k).isSome=_
  rw[ents_some hE hx hk]
  simp
 ·intro k hk hn
  have hk:(f k).isSome=true:=hk
  rw[hn]at hk
  cases hk
 ·intro k u hk
  cases hk
 ·exact(hs.alloc (.mapIter (some b) clock #[] clock)).cast (QB ..)
theorem setIter {b since c0:Nat}{seen:Array Nat}{es:Array MapEntry}{clock:Nat}{o':Obj}{w1:World}(hal:w1=w∨w1=w.drew)(hs:Sat O w (pt b (.map es clock)*(pt r (.mapIter (some b) since seen c0)*R))) :
  Sat O (Go.ChangeMaps.setBlock w1 r o') (pt b (.map es clock)*(pt r o'*R)):=by
 have hs1:Sat O w1 (pt r (.mapIter (some b) since seen c0)*(pt b (.map es clock)*R)):=by
  have h0:=hs.cast (QB ..)
  rcases hal with rfl|rfl
  ·exact h0
  ·exact h0.drew
 have hb:=hs1.block
 have hset:=Go.MapKept.heap_set (o':=o') hb
 exact(Sat.turn (w':=Go.ChangeMaps.setBlock w1 r o') hs1 rfl rfl rfl (by simp[Go.ChangeMaps.setBlock]) hset.1 (fun k hk _=>hset.2 k hk)).cast (QB ..)
theorem run_itm_next (hs:Sat O w (itm K f v r left n cur*R))(ty:TypeId) :
  (n=0∧(∀k,left k=false)∧(Instr.next (.pointer (some ⟨r,0,none⟩)) false ty).run P w=.ok (.tuple #[.bool false]) w) ∨
  ∃k u w' n',left k=true∧f k=some u∧n'<n∧(Instr.next (.pointer (some ⟨r,0,none⟩)) false ty).run P w=.ok (.tuple #[.bool true,.int K k,u]) w' ∧
   Sat O w' (itm K f v r (fun x=>left x && !decide (x=k)) n' (some (k,u))*R):=by
 obtain⟨b,es,clock,since,seen,c0,⟨rfl,hE,hM,hb1,hsc,hsk,rfl,hl,hf,hc⟩,hs2⟩:=sat_itm.1 hs
 have hbm:=hs2.block
 have hbr:=(hs2.cast (QB ..)).block
 rcases run_next_at (P:=P) w ty r b since c0 seen es clock hbr hbm hb1 hsc with⟨h0,hrun⟩|⟨e,he,w1,hal,hrun⟩
 ·refine .inl ⟨h0,fun k => ?_,hrun⟩
  cases hk:left k with
  | false=>rfl
  | true=>
   obtain⟨u,hu⟩:=Option.ne_none_iff_exists'.1 (hf k hk)
   obtain⟨x,hx,kx,_⟩:=(hE.iff k u).1 hu
   have:=hl x hx k kx
   rw[all_seen es seen h0 x hx]at this
   rw[hk]at this
   cases this
 ·obtain⟨hem,hes⟩:=mem_left he
  obtain⟨k,hk⟩:=hE.keys e hem
  refine .inr ⟨k,e.val,_,(leftOf es (seen.push e.born)).size,by rw[hl e hem k hk,hes];rfl,ents_some hE hem hk,left_shrinks es seen e he,by rw[←hk];exact hrun,?_⟩
  refine sat_itm.2 ⟨b,es,clock,since,seen.push e.born,clock,⟨rfl,hE,hM,hb1,hsk,hsk,rfl,?_,?_,?_⟩,setIter hal hs2⟩
  ·intro x hx k' hk'
   rw[hl x hx k' hk',Array.contains_push]
   by_cases hkk:k'=k
   ·subst hkk
    have:=ents_key hE hx hem hk' hk
    subst this
    simp
   ·have hne:x.born≠e.born:=by
     intro q
     have:x=e:=by
      obtain⟨i,hi,rfl⟩:=List.getElem_of_mem hx
      obtain⟨j,hj,rfl⟩:=List.getElem_of_mem hem
      have hn:=hM.1
      rw[List.nodup_iff_pairwise_ne,List.pairwise_iff_getElem]at hn
      rcases Nat.lt_trichotomy i j with q2|q2|q2
      ·have h9:=hn i j (by simpa using hi) (by simpa using hj) q2
       simp only[List.getElem_map]at h9
       exact absurd q h9
      ·subst q2;rfl
      ·have h9:=hn j i (by simpa using hj) (by simpa using hi) q2
       simp only[List.getElem_map]at h9
       exact absurd q.symm h9
     subst this
     rw[hk]at hk'
     injection hk' with _ q3
     exact hkk q3.symm
    simp[hkk,hne]
  ·intro x hx
   simp only[Bool.and_eq_true]at hx
   exact hf x hx.1
  ·intro k' u' hq
   cases hq
   exact⟨e,hem,hk,rfl,rfl,seen,rfl⟩
theorem run_itm_entry {k:Int}{u:Value}(hs:Sat O w (itm K f v r left n (some (k,u))*R)):(Instr.entry (.pointer (some ⟨r,0,none⟩))).run P w=.ok (.tuple #[.int K k,u]) w:=by
 obtain⟨b,es,clock,since,seen,c0,⟨rfl,hE,hM,hb1,hsc,hsk,rfl,hl,hf,hc⟩,hs2⟩:=sat_itm.1 hs
 obtain⟨x,hx,kx,vx,e0,s',rfl⟩:=hc k u rfl
 subst e0
 have:=run_entry_at (P:=P) w r b since s' es _ x (hs2.cast (QB ..)).block hs2.block hx hM.1
 rw[kx,vx]at this
 exact this
end
section
variable {P:Program}{ops:Array Oper}{Q:Exit→Act→World→Prop}{w:World}{rest:List Oper}{O:World}{S R:Zc}
variable {l:List Value}{ds:List Deferred}{T ty kt et:TypeId}{pos:String}{after:Array Edge}{gd:Option (Nat×Bool)}{d:Nat}{x y z:Operand}{K:IntKind}{f:Int→Option Value}{v zv:Value}{r n:Nat}{left:Int→Bool}{cur:Option (Int×Value)}
theorem wl_range (hs:Sat O w S)(hM:MapC P T kt et K zv)(hx:ev l x=some v)(hp:Pull S (mp K f v) R)
  (hg:Region.wanted { dst:=some d,op:=.range T x,type:=ty,pos,after,guard:=gd } (yielded ops l.toArray)=true)
  (kk:∀w' r n,Sat O w' (itm K f v r (fun k=>(f k).isSome) n none*R)→wpList P ops Q rest ⟨(l.set d (.pointer (some ⟨r,0,none⟩))).toArray,ds⟩ w') :
  wpList P ops Q ({ dst:=some d,op:=.range T x,type:=ty,pos,after,guard:=gd }::rest) ⟨l.toArray,ds⟩ w:=by
 obtain⟨w',n,hr,hs'⟩:=run_itm_range hM (hs.pull hp)
 refine Qz (v:=.pointer (some ⟨w.heap.size,0,none⟩)) (w':=w') hg ?_ (ZW▸kk _ _ _ hs')
 simp[execOp,Zo hx,hr]
theorem wl_nx {t vv:Value}{w':World}(hx:ev l x=some vv)(hr:(Instr.next vv false ty).run P w=.ok t w')
  (hg:Region.wanted { dst:=some d,op:=.next x false,type:=ty,pos,after,guard:=gd } (yielded ops l.toArray)=true)
  (kk:wpList P ops Q rest ⟨(l.set d t).toArray,ds⟩ w') :
  wpList P ops Q ({ dst:=some d,op:=.next x false,type:=ty,pos,after,guard:=gd }::rest) ⟨l.toArray,ds⟩ w:=by
 refine Qz (v:=t) hg ?_ (ZW▸kk)
 simp[execOp,Zo hx,hr]
theorem wl_entry {k:Int}{u:Value}(hs:Sat O w S)(hx:ev l x=some (.pointer (some ⟨r,0,none⟩)))(hp:Pull S (itm K f v r left n (some (k,u))) R)
  (hg:Region.wanted { dst:=some d,op:=.entry x,type:=ty,pos,after,guard:=gd } (yielded ops l.toArray)=true)
  (kk:wpList P ops Q rest ⟨(l.set d (.tuple #[.int K k,u])).toArray,ds⟩ w) :
  wpList P ops Q ({ dst:=some d,op:=.entry x,type:=ty,pos,after,guard:=gd }::rest) ⟨l.toArray,ds⟩ w:=by
 refine Qz (v:=.tuple #[.int K k,u]) hg ?_ (ZW▸kk)
 simp[execOp,Zo hx,run_itm_entry (P:=P) (hs.pull hp)]
end
attribute [irreducible] itm
end Hp
end
end Go.Proofs.YtjagadldibbbbaaGreat
