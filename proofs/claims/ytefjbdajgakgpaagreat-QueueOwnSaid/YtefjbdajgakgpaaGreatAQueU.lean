/-
  What a Dequeue keeps; the queue's calls beside the hazards', as tasks of a machine.
-/
import Derived.Test.YtefjbdajgakgpaaGreatAQueW
import Derived.Test.YtefjbdajgakgpaaGreatAQueV2
set_option linter.all false
namespace Go.Proofs.YtefjbdajgakgpaaGreat
open Go.RowKit Hp
set_option maxRecDepth 100000
set_option maxHeartbeats 1000000
section
attribute [local irreducible] Go.Calls
section
variable {c:Cfg}{L S N:Nat}{h:Haz}{a:Are}{m:Mch}
structure GtS (c:Cfg)(L S N:Nat)(t:Nat)(h:Haz)(a:Are)(r:Bool×Haz×Are×Mch×Gt):Prop where
 core:Core c L S N r.2.1 r.2.2.1 r.2.2.2.1
 held:r.2.1.held=h.held
 caches:∀j,j≠t→r.2.2.1.caches[j]? = a.caches[j]?
 thr:r.2.2.2.2.thread=(t:Int)
 fin:r.1=false→GtI c r.2.2.2.2
theorem gtStep_core {i t:Nat}{x:Cll}{se:Sea}{g:Gt}(C:Core c L S N h a m)(Q:QM c m.mem.words)(hN:N<1000000)(ht:(t:Int)<c.T)(hu:g.thread=(t:Int))(hd:0≤h.held.getD t 0)(I:GtI c g) :
  GtS c (L+1) (S+66) (N+1) t h a (Qt h a m i t x se g):=by
 have hok:=C.ok
 have hc:=C.hc
 have hh:=Q.head
 have hq:=Q.tail
 obtain⟨hr1,_⟩:=C.hget ht
 have hH3:=hok.H1
 have hb9:=(ZB hok 9).1
 have hwh:∀k u:Int,0≤k→k≤1→0≤u∧u≤c.Sl→WOk c (qHz h g.thread k:Nat) u:=fun k u k0 k1 hu2=>by
  have hza:=hz_adr hok hd hr1 (k:=k) k0 (by omega)
  unfold qHz
  rw[hu,hc,Yo]
  exact wok_hz hok (by omega) (by omega) hu2
 have hS1:=hok.S1
 obtain⟨i1,i2,i3,i4,i5,i6,i7⟩:=I
 have i7:=Lh i7
 unfold Qt
 rw[hc]
 simp only[]
 by_cases s1:g.stage=1
 ·rw[if_pos s1]
  exact⟨(C.load _ _).mono (by omega) (by omega) (by omega),rfl,fun _ _=>rfl,hu,fun _=>⟨by simp,fun _=>hh,fun hf=>by simp at hf,fun hf=>by simp at hf,fun _=>i5 (by omega),fun hf=>by simp at hf,fun hf=>by simp at hf⟩⟩
 rw[if_neg s1]
 have h0:=i2 (by omega)
 by_cases s2:g.stage=2
 ·rw[if_pos s2]
  exact⟨(C.store _ _ _ (hwh 0 _ (by omega) (by omega) ⟨by omega,h0.2⟩)).mono (by omega) (by omega) (by omega),rfl,fun _ _=>rfl,hu,fun _=>⟨by simp,fun _=>h0,fun hf=>by simp at hf,fun hf=>by simp at hf,fun _=>i5 (by omega),fun hf=>by simp at hf,fun hf=>by simp at hf⟩⟩
 rw[if_neg s2]
 by_cases s3:g.stage=3
 ·rw[if_pos s3]
  refine⟨(C.load _ _).mono (by omega) (by omega) (by omega),rfl,fun _ _=>rfl,?_,fun _ => ?_⟩
  ·simp only[];split<;>exact hu
  ·simp only[]
   split
   ·exact⟨by simp,fun _=>h0,fun hf=>by simp at hf,fun hf=>by simp at hf,fun _=>i5 (by omega),fun hf=>by simp at hf,fun hf=>by simp at hf⟩
   ·exact⟨by simp,fun _=>hh,fun hf=>by simp at hf,fun hf=>by simp at hf,fun _=>i5 (by omega),fun hf=>by simp at hf,fun hf=>by simp at hf⟩
 rw[if_neg s3]
 by_cases s4:g.stage=4
 ·rw[if_pos s4]
  exact⟨(C.load _ _).mono (by omega) (by omega) (by omega),rfl,fun _ _=>rfl,hu,fun _=>⟨by simp,fun _=>h0,fun _ _=>hq,fun hf=>by simp at hf,fun _=>i5 (by omega),fun hf=>by simp at hf,fun hf=>by simp at hf⟩⟩
 rw[if_neg s4]
 have hl:=C.linkW (s:=g.h0-1) (by omega) (by omega)
 by_cases s5:g.stage=5
 ·rw[if_pos s5]
  have hc0:=i5 (by omega)
  split
  ·rename_i hn
   exact⟨(C.load _ _).mono (by omega) (by omega) (by omega),rfl,fun _ _=>rfl,hu,fun _=>⟨by simp,fun _=>h0,fun _ _=>i3 (by omega) (by omega),fun _ _=>⟨by simp only[];omega,hl.2⟩,fun _=>hc0,fun hf=>by simp at hf,fun hf=>by simp at hf⟩⟩
  ·exact⟨(((C.load _ _).point ..).answer ..).mono (by omega) (by omega) (by omega),rfl,fun _ _=>rfl,hu,fun _=>⟨by simp,fun _=>h0,fun _ hf=>by simp at hf,fun _ hf=>by simp at hf,fun hf=>by simp at hf,fun _=>by simp only[hc0];omega,fun hf=>by simp at hf⟩⟩
 rw[if_neg s5]
 by_cases s6:g.stage=6
 ·rw[if_pos s6]
  have hn:=i4 (by omega) (by omega)
  exact⟨(C.store _ _ _ (hwh 1 _ (by omega) (by omega) ⟨by omega,hn.2⟩)).mono (by omega) (by omega) (by omega),rfl,fun _ _=>rfl,hu,fun _=>⟨by simp,fun _=>h0,fun _ _=>i3 (by omega) (by omega),fun _ _=>hn,fun _=>i5 (by omega),fun hf=>by simp at hf,fun hf=>by simp at hf⟩⟩
 rw[if_neg s6]
 by_cases s7:g.stage=7
 ·rw[if_pos s7]
  have hn:=i4 (by omega) (by omega)
  have hT:=i3 (by omega) (by omega)
  have hc0:=i5 (by omega)
  refine⟨(C.load _ _).mono (by omega) (by omega) (by omega),rfl,fun _ _=>rfl,?_,fun _ => ?_⟩
  ·simp only[];split
   ·split<;>exact hu
   ·exact hu
  ·simp only[]
   split
   ·split
    ·exact⟨by simp,fun _=>h0,fun _ _=>hT,fun _ _=>hn,fun _=>hc0,fun hf=>by simp at hf,fun hf=>by simp at hf⟩
    ·exact⟨by simp,fun _=>h0,fun _ hf=>by simp at hf,fun _ _=>hn,fun _=>hc0,fun hf=>by simp at hf,fun hf=>by simp at hf⟩
   ·exact⟨by simp,fun _=>hh,fun hf=>by simp at hf,fun hf=>by simp at hf,fun _=>hc0,fun hf=>by simp at hf,fun hf=>by simp at hf⟩
 rw[if_neg s7]
 by_cases s8:g.stage=8
 ·rw[if_pos s8]
  exact⟨(C.swap (adr c 5 0) (m.word (adr c 5 0)) g.t g.n (wok_q5 hok _)).mono (by omega) (by omega) (by omega),rfl,fun _ _=>rfl,hu,fun _=>⟨by simp,fun hf=>by simp at hf,fun hf=>by simp at hf,fun hf=>by simp at hf,fun _=>i5 (by omega),fun hf=>by simp at hf,fun hf=>by simp at hf⟩⟩
 rw[if_neg s8]
 by_cases s9:g.stage=9
 ·rw[if_pos s9]
  have hn:=i4 (by omega) (by omega)
  exact⟨(C.load _ _).mono (by omega) (by omega) (by omega),rfl,fun _ _=>rfl,hu,fun _=>⟨by simp,fun _=>h0,fun _ hf=>by simp at hf,fun _ _=>hn,fun _=>i5 (by omega),fun hf=>by simp at hf,fun hf=>by simp at hf⟩⟩
 rw[if_neg s9]
 by_cases s10:g.stage=10
 ·rw[if_pos s10]
  have hc0:=i5 (by omega)
  have K:=C.swap (adr c 4 0) (m.word (adr c 4 0)) g.h0 g.n (wok_q4 hok _)
  split
  ·exact⟨(((K.point i x _).mshift _ _ _).ashift _ _ _).mono (by omega) (by omega) (by omega),rfl,fun _ _=>rfl,hu,fun _=>⟨by simp,fun _=>h0,fun _ hf=>by simp at hf,fun _ hf=>by simp at hf,fun hf=>by simp at hf,fun _=>by simp only[hc0];omega,fun hf=>by simp at hf⟩⟩
  ·exact⟨K.mono (by omega) (by omega) (by omega),rfl,fun _ _=>rfl,hu,fun _=>⟨by simp,fun hf=>by simp at hf,fun hf=>by simp at hf,fun hf=>by simp at hf,fun _=>hc0,fun hf=>by simp at hf,fun hf=>by simp at hf⟩⟩
 rw[if_neg s10]
 by_cases s11:g.stage=11
 ·rw[if_pos s11]
  have hcl:=i6 s11
  unfold gtEnd
  simp only[]
  have K0:=C.store (qHz h g.thread g.cleared) (m.word (qHz h g.thread g.cleared)) 0 (hwh _ 0 (by omega) (by omega) (by omega))
  split
  ·rename_i h1
   exact⟨K0.mono (by omega) (by omega) (by omega),rfl,fun _ _=>rfl,hu,fun _=>⟨by simp[s11],fun _=>h0,fun _ (hf:g.stage≤8)=>by omega,fun _ (hf:g.stage≤10)=>by omega,fun(hf:g.stage≤10)=>by omega,fun _=>⟨by simp only[];omega,by simp only[];omega⟩,fun(hf:g.stage=12)=>by omega⟩⟩
  ·split
   ·exact⟨K0.mono (by omega) (by omega) (by omega),rfl,fun _ _=>rfl,hu,fun hf=>(by cases hf)⟩
   ·have K:=K0.answer t se 2 g.value
    have R:=retire_core (r:=⟨g.thread,g.h0-1,none⟩) K (by simp only[];omega) (by simp only[];omega) (by simp only[];omega) (by simp only[];omega) (by simp only[hu,Yo];exact hd)
    generalize Zv h a _ ⟨g.thread,g.h0-1,none⟩=r at R ⊢
    obtain⟨q1,q2,q3,q4⟩:=R
    refine⟨q1.mono (by omega) (by omega) (by omega),q3,fun j _=>by rw[q4],hu,fun hf => ?_⟩
    obtain⟨sc,e1,e2,e3⟩:=q2 hf
    exact⟨by simp,fun _=>h0,fun _ hf=>by simp at hf,fun _ hf=>by simp at hf,fun hf=>by simp at hf,fun hf=>by simp at hf,fun _=>⟨_,sc,rfl,e1,e2,e3⟩⟩
 rw[if_neg s11]
 have s12:g.stage=12:=by omega
 obtain⟨r,sc,e1,e2,e3,e4⟩:=i7.out s12
 rw[e1]
 simp only[e2]
 have F:=scan_core C e3 hN
 generalize Zq h a m sc=q at F ⊢
 obtain⟨f1,f2,f3,f4,f5⟩:=F
 exact⟨f1.mono (by omega) (by omega) (by omega),f3,fun j hj=>f4 j (by rw[e4,hu];simpa using hj),hu,fun hf=>⟨by simp[s12],fun _=>h0,fun _ (h7:g.stage≤8)=>absurd h7 (by rw[s12];decide),fun _ (h7:g.stage≤10)=>absurd h7 (by rw[s12];decide),fun(h7:g.stage≤10)=>absurd h7 (by rw[s12];decide),fun(h5:g.stage=11)=>absurd h5 (by rw[s12];decide),fun _=>⟨_,_,rfl,rfl,f2 hf,by rw[f5,e4]⟩⟩⟩
end
end
section
attribute [local irreducible] Go.Calls
def qkOkr (s:Haz×Are)(m:Mch)(t:Nat):Qe→Prop
 | .hz k=>htOkr s m t k
 | .put p=>(HazOk s.1 s.2 m∧0≤p.thread∧p.thread<s.1.c.T∧0≤s.1.held.getD p.thread.toNat 0)∧p.take=⟨p.thread,1,0,0,0,false⟩∧p.stage=0
 | .get g=>(HazOk s.1 s.2 m∧0≤g.thread∧g.thread<s.1.c.T∧0≤s.1.held.getD g.thread.toNat 0)∧g.stage=0∧g.cleared=0
def qkOks (s:Haz×Are)(m:Mch)(t:Nat):Qe→Prop
 | .hz k=>htOks s m t k
 | .put p=>PtOk s.1 s.2 m p
 | .get g=>GtOk s.1 s.2 m g
section
variable {c:Cfg}{L S N:Nat}{h:Haz}{a:Are}{m:Mch}
theorem ht_rdy_words {i t:Nat}{cl:Cll}{se:Sea}{k:Q3}:(Qz (h,a) m i t cl se k).2.2.1.mem.words=m.mem.words:=by
 cases k with
 | pst p=>
  simp only[Qz]
  unfold ZL
  simp only[]
  have e:(Zj a m ⟨p.thread,1,0,0,0,false⟩).2.2.1.mem.words=m.mem.words:=by unfold Zj;simp only[];split<;>rfl
  split
  ·unfold ZS
   split<;>exact e
  ·exact e
 | reg r=>rfl
 | unr u=>rfl
 | rdg r=>rfl
 | clr ad=>rfl
 | scn s=>rfl
theorem qk_rdy {i t:Nat}{cl:Cll}{se:Sea}{k:Qe}(C:Jd (QM c) c L S N h a m)(ht:(t:Int)<c.T)(I:QI c t false (h.held.getD t 0) (a.caches.getD t []) k) :
  StM (QM c) (QI c) c L (S+1) N t h a (qkReady (h,a) m i t cl se k)∧(qkReady (h,a) m i t cl se k).2.2.1.used=m.used:=by
 cases k with
 | hz k=>
  obtain⟨⟨e1,e2,e3⟩,e4⟩:=ready_core (i:=i) (cl:=cl) (se:=se) C.toCore ht I
  refine⟨⟨⟨e1,?_⟩,e2,e3⟩,e4⟩
  show QM c (Qz (h,a) m i t cl se k).2.2.1.mem.words
  rw[ht_rdy_words];exact C.mw
 | put p=>
  obtain⟨i1,i2,i3,i4⟩:=I
  obtain⟨⟨e1,e2,e3,e4⟩,e5,e6⟩:=ptReady_core (i:=i) (x:=cl) (se:=se) C.toCore ht i1 (i3 rfl).1
  refine⟨⟨⟨e1,?_⟩,⟨fun _ _=>rfl,e2⟩,fun hf=>⟨e3,i2,fun hf=>(by cases hf),fun _=>⟨e4 hf,ptReady_hz.trans (qHz_eq C.hc i1)⟩⟩⟩,e5⟩
  show QM c (ZR h a m i t cl se p).2.2.1.mem.words
  rw[e6];exact C.mw
 | get g=>
  obtain⟨i1,i2,i3,i4⟩:=I
  have hc:=(i3 rfl).1
  exact⟨⟨C.mono (by omega) (by omega) (by omega),.refl ..,fun _=>⟨i1,i2,fun hf=>(by cases hf),fun _=>⟨⟨by simp,fun hf=>by simp at hf,fun hf=>by simp at hf,fun hf=>by simp at hf,fun _=>hc,fun hf=>by simp at hf,fun hf=>by simp at hf⟩,qHz_eq C.hc i1,qHz_eq C.hc i1⟩⟩⟩,rfl⟩
theorem qk_stp {i t:Nat}{cl:Cll}{se:Sea}{k:Qe}(C:Jd (QM c) c L S N h a m)(hN:N<1000000)(ht:(t:Int)<c.T)(I:QI c t true (h.held.getD t 0) (a.caches.getD t []) k) :
  StG (QI c) c (L+1) (S+66) (N+1) t h a (qkStep (h,a) m i t cl se k):=by
 cases k with
 | hz k=>
  obtain⟨e1,e2,e3⟩:=step_core (i:=i) (x:=cl) (se:=se) C.toCore hN ht I
  exact⟨e1,e2,e3⟩
 | put p=>
  obtain⟨i1,i2,i3,i4⟩:=I
  obtain⟨e1,e2,e3,e4⟩:=ptStep_core (i:=i) (x:=cl) (se:=se) C.toCore C.mw ht i1 i2 (i4 rfl).1
  exact⟨e1.mono (by omega) (by omega) (by omega),⟨fun _ _=>rfl,e2⟩,fun hf=>⟨e3,i2,fun hf=>(by cases hf),fun _=>⟨e4 hf,ptStep_hz.trans (i4 rfl).2⟩⟩⟩
 | get g=>
  obtain⟨i1,i2,i3,i4⟩:=I
  obtain⟨e1,e2,e3,e4,e5⟩:=gtStep_core (i:=i) (x:=cl) (se:=se) C.toCore C.mw hN ht i1 i2 (i4 rfl).1
  exact⟨e1,⟨fun j _=>by show(Qt h a m i t cl se g).2.1.held[j]? = _;rw[e2],e3⟩,fun hf=>⟨e4,by show 0≤(Qt h a m i t cl se g).2.1.held.getD t 0;rw[e2];exact i2,fun hf=>(by cases hf),fun _=>⟨e5 hf,by rw[gtStep_hz.1];show g.hz0=qZ c ((Qt h a m i t cl se g).2.1.held.getD t 0) 0;rw[e2];exact(i4 rfl).2.1,by rw[gtStep_hz.2];show g.hz1=qZ c ((Qt h a m i t cl se g).2.1.held.getD t 0) 1;rw[e2];exact(i4 rfl).2.2⟩⟩⟩
theorem pt_oks {t:Nat}{p:Pt}(C:Jd (QM c) c L S N h a m)(hu:m.used=false)(hL:L<4294967296)(hS:S<1000000000)(hN:N<1000000)(ht:(t:Int)<c.T)(ht2:p.thread=(t:Int))(hd:0≤h.held.getD t 0)(I:PtI c p)(hZ:p.hz=qZ c (h.held.getD t 0) 0):PtOk h a m p:=by
 have hc:=C.hc
 have hS2:=C.ok.S2
 obtain⟨i1,i2,i3,i4,i5⟩:=I
 have hq:=QM.tail C.mw
 refine⟨C.toCore.haz hu hL hS hN,by omega,by rw[hc];omega,by rw[ht2];simpa using hd,i1,fun h1 => ?_,fun h1=>by rw[hc];exact i3 h1,by rw[hc];exact⟨by omega,hq.2⟩,fun h5=>by rw[hc];exact i4 h5,fun h5 => ?_,hZ.trans (qHz_eq hc ht2).symm⟩
 ·have e:=(take_core C.toCore (i2 h1)).2.2.1
  exact⟨(i2 h1).ok C.toCore hu hL hS hN,by omega,by omega⟩
 ·have:=i4 h5
  rw[hc]
  exact C.toCore.linkW (by omega) (by omega)
theorem gt_oks {t:Nat}{g:Gt}(C:Jd (QM c) c L S N h a m)(hu:m.used=false)(hL:L<4294967296)(hS:S<1000000000)(hN:N<1000000)(ht:(t:Int)<c.T)(ht2:g.thread=(t:Int))(hd:0≤h.held.getD t 0)(I:GtI c g)(hZ0:g.hz0=qZ c (h.held.getD t 0) 0)(hZ1:g.hz1=qZ c (h.held.getD t 0) 1):GtOk h a m g:=by
 have hc:=C.hc
 obtain⟨i1,i2,i3,i4,i5,i6,i7⟩:=I
 have hq:=QM.head C.mw
 refine⟨C.toCore.haz hu hL hS hN,by omega,by rw[hc];omega,by rw[ht2];simpa using hd,i1,by rw[hc];exact⟨by omega,hq.2⟩,fun h1=>by rw[hc];exact i2 h1,fun h1 => ?_,fun h1 h2=>by rw[hc];exact i4 h1 h2,fun h1 => ?_,fun h9 => ?_,hZ0.trans (qHz_eq hc ht2).symm,hZ1.trans (qHz_eq hc ht2).symm⟩
 ·have:=i2 h1
  rw[hc]
  exact C.toCore.linkW (by omega) (by omega)
 ·by_cases h10:g.stage≤10
  ·have:=i5 h10;omega
  ·have:=i6 (by clear i7;omega);omega
 ·obtain⟨r,sc,e1,e2,e3,e4⟩:=i7 h9
  exact⟨r,sc,e1,e2,e3.ok C.toCore hu hL hS hN⟩
theorem qk_okr {t:Nat}{k:Qe}(C:Jd (QM c) c L S N h a m)(hu:m.used=false)(hL:L<4294967296)(hS:S<1000000000)(hN:N<1000000)(ht:(t:Int)<c.T)(I:QI c t false (h.held.getD t 0) (a.caches.getD t []) k):qkOkr (h,a) m t k:=by
 have hc:=C.hc
 cases k with
 | hz k=>exact okr_of C.toCore hu hL hS hN ht I
 | put p=>
  obtain⟨i1,i2,i3,i4⟩:=I
  exact⟨⟨C.toCore.haz hu hL hS hN,by rw[i1];omega,by rw[i1,hc];exact ht,by rw[i1];simpa using i2⟩,by rw[(i3 rfl).1,i1],(i3 rfl).2⟩
 | get g=>
  obtain⟨i1,i2,i3,i4⟩:=I
  exact⟨⟨C.toCore.haz hu hL hS hN,by rw[i1];omega,by rw[i1,hc];exact ht,by rw[i1];simpa using i2⟩,(i3 rfl).2,(i3 rfl).1⟩
theorem qk_oks {t:Nat}{k:Qe}(C:Jd (QM c) c L S N h a m)(hu:m.used=false)(hL:L<4294967296)(hS:S<1000000000)(hN:N<1000000)(ht:(t:Int)<c.T)(I:QI c t true (h.held.getD t 0) (a.caches.getD t []) k):qkOks (h,a) m t k:=by
 cases k with
 | hz k=>exact oks_of C.toCore hu hL hS hN ht I
 | put p=>exact pt_oks C hu hL hS hN ht I.1 I.2.1 (I.2.2.2 rfl).1 (I.2.2.2 rfl).2
 | get g=>exact gt_oks C hu hL hS hN ht I.1 I.2.1 (I.2.2.2 rfl).1 (I.2.2.2 rfl).2.1 (I.2.2.2 rfl).2.2
theorem qk_made {t:Nat}{mv:Mv}{k:Qe}(C:Jd (QM c) c L S N h a m)(ht:(t:Int)<c.T)(hm:qTask (h,a) t mv=some k)(ca:List Int):QI c t false (h.held.getD t 0) ca k:=by
 unfold qTask at hm
 split at hm
 ·split at hm
  ·cases hm
  ·rename_i hn
   cases hm
   exact⟨rfl,by simpa using hn,fun _=>⟨rfl,rfl⟩,fun hf=>(by cases hf)⟩
 ·split at hm
  ·split at hm
   ·cases hm
   ·rename_i hn
    cases hm
    exact⟨rfl,by simpa using hn,fun _=>⟨rfl,rfl⟩,fun hf=>(by cases hf)⟩
  ·cases hq:Z6 (h,a) t mv with
   | none=>rw[hq]at hm;cases hm
   | some q=>
    rw[hq]at hm
    cases hm
    exact made_inv C.toCore ht hq ca
end
theorem qk_inv (c:Cfg)(X:Haz×Are→Zb)(R:Qe→Value→Zb):TInM (QM c) c ⟨X,R,qkReady,qkStep,fun s m t k=>s.1.c=c∧qkOkr s m t k,fun s m t k=>s.1.c=c∧qkOks s m t k⟩ qTask (QI c):=
 ⟨fun C ht I=>qk_rdy C ht I,fun C hN ht I=>qk_stp C hN ht I,fun C hu hL hS hN ht I=>⟨C.hc,qk_okr C hu hL hS hN ht I⟩,fun C hu hL hS hN ht I=>⟨C.hc,qk_oks C hu hL hS hN ht I⟩,fun C ht hm ca=>qk_made C ht hm ca⟩
end
section
attribute [local irreducible] Go.Calls Go.wpList
def quR (bh ba:Nat)(cf:Cfg):Qe→Value→Zb
 | .hz k=>htR bh ba k
 | .put p=>if p.stage=0 then ifR 138 (fun x=>PtR0 x bh cf p) else ifR 138 fun x=>PtR x bh ba cf p
 | .get p=>ifR 144 fun x=>GtR x bh ba cf p
theorem quR_put0 {bh ba:Nat}{cf:Cfg}{p:Pt}(h:p.stage=0):quR bh ba cf (.put p)=ifR 138 (fun x=>PtR0 x bh cf p):=if_pos h
theorem quR_put1 {bh ba:Nat}{cf:Cfg}{p:Pt}(h:p.stage≠0):quR bh ba cf (.put p)=ifR 138 (fun x=>PtR x bh ba cf p):=if_neg h
def qkT (bh ba:Nat)(cf:Cfg)(CX:Zb):Tasks (Haz×Are) Qe where
 X s:=HazR bh ba s.1*(AreR ba s.2*CX)
 R:=quR bh ba cf
 rdy:=qkReady
 stp:=qkStep
 okr:=fun s m t k=>s.1.c=cf∧qkOkr s m t k
 oks:=fun s m t k=>s.1.c=cf∧qkOks s m t k
theorem ptTaken_stage {m:Mch}{i t:Nat}{c:Cll}{s:Sea}{p:Pt}(h:p.stage≠0):(Z4 m i t c s p).2.2.stage≠0:=by
 unfold Z4
 split
 ·exact h
 ·simp
theorem ptReady_stage {h:Haz}{a:Are}{m:Mch}{i t:Nat}{c:Cll}{s:Sea}{p:Pt}:(ZR h a m i t c s p).2.2.2.stage≠0:=by
 unfold ZR
 simp only[]
 split
 ·exact ptTaken_stage (by simp)
 ·simp
theorem ptStep_stage {h:Haz}{a:Are}{m:Mch}{i t:Nat}{c:Cll}{s:Sea}{p:Pt}(h0:p.stage≠0):(Qu h a m i t c s p).2.2.2.stage≠0:=by
 unfold Qu
 simp only[]
 by_cases s1:p.stage=1
 ·rw[if_pos s1]
  unfold ptTake
  simp only[]
  by_cases hb:(Zp a m p.take).1=true
  ·rw[if_pos hb];exact ptTaken_stage h0
  ·rw[if_neg hb];exact h0
 rw[if_neg s1]
 by_cases s2:p.stage=2
 ·rw[if_pos s2]
  simp
 rw[if_neg s2]
 by_cases s3:p.stage=3
 ·rw[if_pos s3]
  simp
 rw[if_neg s3]
 by_cases s4:p.stage=4
 ·rw[if_pos s4]
  simp
 rw[if_neg s4]
 by_cases s5:p.stage=5
 ·rw[if_pos s5]
  simp
 rw[if_neg s5]
 by_cases s6:p.stage=6
 ·rw[if_pos s6]
  by_cases hb:m.word (adr h.c 5 0)=p.t
  ·rw[if_pos hb];simp
  ·rw[if_neg hb];simp
 rw[if_neg s6]
 by_cases s7:p.stage=7
 ·rw[if_pos s7]
  by_cases hb:0≤m.word (adr h.c 13 (p.t-1))-1
  ·rw[if_pos hb];simp
  ·rw[if_neg hb];simp
 rw[if_neg s7]
 by_cases s8:p.stage=8
 ·rw[if_pos s8]
  by_cases hb:m.word (adr h.c 13 (p.t-1))=0
  ·rw[if_pos hb];simp
  ·rw[if_neg hb];simp
 rw[if_neg s8]
 by_cases s9:p.stage=9
 ·rw[if_pos s9]
  simp
 rw[if_neg s9]
 by_cases s10:p.stage=10
 ·rw[if_pos s10]
  exact h0
 rw[if_neg s10]
 simp
theorem frame_ptTaken {i t:Nat}{c:Cll}{s:Sea}{m:Mch}(p:Pt)(hc:ZO m i t c s):Z9 i t c s m (Z4 m i t c s p).2.1:=by
 unfold Z4
 split
 ·exact frame_both ..
 ·exact(Same.refl m).frame hc
theorem frame_ptReady {i t:Nat}{c:Cll}{s:Sea}{m:Mch}(h:Haz)(a:Are)(p:Pt)(hc:ZO m i t c s):Z9 i t c s m (ZR h a m i t c s p).2.2.1:=by
 unfold ZR
 simp only[]
 split
 ·exact(Z8 a m _).then (frame_ptTaken _ ((Z8 a m _).curIn hc))
 ·exact(Z8 ..).frame hc
theorem frame_ptStep {i t:Nat}{c:Cll}{s:Sea}{m:Mch}(h:Haz)(a:Are)(p:Pt)(hc:ZO m i t c s):Z9 i t c s m (Qu h a m i t c s p).2.2.1:=by
 unfold Qu
 simp only[]
 by_cases s1:p.stage=1
 ·rw[if_pos s1]
  unfold ptTake
  simp only[]
  split
  ·exact(same_take a m _).then (frame_ptTaken _ ((same_take a m _).curIn hc))
  ·exact(same_take ..).frame hc
 rw[if_neg s1]
 by_cases s2:p.stage=2
 ·rw[if_pos s2];exact(ZI ..).frame hc
 rw[if_neg s2]
 by_cases s3:p.stage=3
 ·rw[if_pos s3];exact(ZI ..).frame hc
 rw[if_neg s3]
 by_cases s4:p.stage=4
 ·rw[if_pos s4];exact(ZD ..).frame hc
 rw[if_neg s4]
 by_cases s5:p.stage=5
 ·rw[if_pos s5];exact(ZI ..).frame hc
 rw[if_neg s5]
 by_cases s6:p.stage=6
 ·rw[if_pos s6];exact(ZD ..).frame hc
 rw[if_neg s6]
 by_cases s7:p.stage=7
 ·rw[if_pos s7];exact(ZD ..).frame hc
 rw[if_neg s7]
 by_cases s8:p.stage=8
 ·rw[if_pos s8]
  split
  ·exact((ZM m _ _ _ _).then (frame_point ((ZM m _ _ _ _).curIn hc) _)).same (QE ..)
  ·exact(ZM ..).frame hc
 rw[if_neg s8]
 by_cases s9:p.stage=9
 ·rw[if_pos s9];exact(ZM ..).frame hc
 rw[if_neg s9]
 by_cases s10:p.stage=10
 ·rw[if_pos s10];exact(ZI m _ _ _).then (frame_answer ((ZI m _ _ _).curIn hc) _ _)
 rw[if_neg s10]
 exact(ZM ..).frame hc
theorem frame_gtStep {i t:Nat}{c:Cll}{s:Sea}{m:Mch}(h:Haz)(a:Are)(p:Gt)(hc:ZO m i t c s):Z9 i t c s m (Qt h a m i t c s p).2.2.2.1:=by
 unfold Qt
 simp only[]
 by_cases s1:p.stage=1
 ·rw[if_pos s1];exact(ZD ..).frame hc
 rw[if_neg s1]
 by_cases s2:p.stage=2
 ·rw[if_pos s2];exact(ZI ..).frame hc
 rw[if_neg s2]
 by_cases s3:p.stage=3
 ·rw[if_pos s3];exact(ZD ..).frame hc
 rw[if_neg s3]
 by_cases s4:p.stage=4
 ·rw[if_pos s4];exact(ZD ..).frame hc
 rw[if_neg s4]
 by_cases s5:p.stage=5
 ·rw[if_pos s5]
  split
  ·exact(ZD ..).frame hc
  ·exact(ZD m _ _).then (frame_both ..)
 rw[if_neg s5]
 by_cases s6:p.stage=6
 ·rw[if_pos s6];exact(ZI ..).frame hc
 rw[if_neg s6]
 by_cases s7:p.stage=7
 ·rw[if_pos s7];exact(ZD ..).frame hc
 rw[if_neg s7]
 by_cases s8:p.stage=8
 ·rw[if_pos s8];exact(ZM ..).frame hc
 rw[if_neg s8]
 by_cases s9:p.stage=9
 ·rw[if_pos s9];exact(ZD ..).frame hc
 rw[if_neg s9]
 by_cases s10:p.stage=10
 ·rw[if_pos s10]
  split
  ·exact((ZM m _ _ _ _).then (frame_point ((ZM m _ _ _ _).curIn hc) _)).same (QE ..)
  ·exact(ZM ..).frame hc
 rw[if_neg s10]
 by_cases s11:p.stage=11
 ·rw[if_pos s11]
  unfold gtEnd
  simp only[]
  split
  ·exact(ZI ..).frame hc
  ·split
   ·exact(ZI ..).frame hc
   ·exact((ZI m _ _ _).then (frame_answer ((ZI m _ _ _).curIn hc) _ _)).same (same_retire ..)
 rw[if_neg s11]
 split
 ·exact(Same.refl m).frame hc
 ·split
  ·exact(Same.refl m).frame hc
  ·exact(same_scan ..).frame hc
theorem qkT_good (bh ba:Nat)(cf:Cfg)(CX:Zb):(qkT bh ba cf CX).Good where
 iface:=by
  intro O w k v F hs
  cases k with
  | hz k=>exact(hzT_good bh ba CX).iface (k:=k) hs
  | put p=>
   by_cases h0:p.stage=0
   ·have hs:Sat O w (quR bh ba cf (.put p) v*F):=hs
    rw[quR_put0 h0]at hs
    obtain⟨g,rfl,_⟩:=Jj.1 hs;exact⟨_,_,rfl⟩
   ·have hs:Sat O w (quR bh ba cf (.put p) v*F):=hs
    rw[quR_put1 h0]at hs
    obtain⟨g,rfl,_⟩:=Jj.1 hs;exact⟨_,_,rfl⟩
  | get p=>obtain⟨g,rfl,_⟩:=Jj.1 hs;exact⟨_,_,rfl⟩
 cr:=by
  intro d bx bm s m i t c se k v hok hc
  obtain⟨hcf,hok⟩:=hok
  subst hcf
  cases k with
  | hz k=>exact(hzT_good bh ba CX).cr d bx bm s m i t c se k v hok hc
  | put p=>
   obtain⟨⟨o1,o2,o3,o4⟩,o5,o6⟩:=hok
   show Dyn Tryz.prog _ (quR bh ba s.1.c (.put p) v*(HazR bh ba s.1*(AreR ba s.2*CX)*DkR d bx bm m)) (fun u=>pu (u=.bool (ZR s.1 s.2 m i t c se p).1)*(quR bh ba s.1.c (.put (ZR s.1 s.2 m i t c se p).2.2.2) v*(HazR bh ba s.1*(AreR ba (ZR s.1 s.2 m i t c se p).2.1*CX)*DkR d bx bm (ZR s.1 s.2 m i t c se p).2.2.1)))
   rw[quR_put0 o6,quR_put1 ptReady_stage]
   exact dyn_if (Z:=CX) (fun g=>pt_ready g bh ba d bx bm s.1 s.2 m i t c se p o1 o2 o3 o4 o5 hc) (fun g w=>by kernel_rfl) (by ac_rfl) (by ac_rfl)
  | get p=>
   obtain⟨⟨o1,o2,o3,o4⟩,o5,o6⟩:=hok
   exact dyn_if (Z:=AreR ba s.2*CX*DkR d bx bm m) (fun g=>gt_ready g bh ba d s.1 s.2 m p o1 o2 o3 o4) (fun g w=>by kernel_rfl) (by simp only[qkT];ac_rfl) (by simp only[qkT,qkReady];ac_rfl)
 cs:=by
  intro d bx bm s m i t c se k v hok hc
  obtain⟨hcf,hok⟩:=hok
  subst hcf
  cases k with
  | hz k=>exact(hzT_good bh ba CX).cs d bx bm s m i t c se k v hok hc
  | put p=>
   have hok:PtOk s.1 s.2 m p:=hok
   have h0:p.stage≠0:=by have:=hok.stage;omega
   show Dyn Tryz.prog _ (quR bh ba s.1.c (.put p) v*(HazR bh ba s.1*(AreR ba s.2*CX)*DkR d bx bm m)) (fun u=>pu (u=.bool (Qu s.1 s.2 m i t c se p).1)*(quR bh ba s.1.c (.put (Qu s.1 s.2 m i t c se p).2.2.2) v*(HazR bh ba s.1*(AreR ba (Qu s.1 s.2 m i t c se p).2.1*CX)*DkR d bx bm (Qu s.1 s.2 m i t c se p).2.2.1)))
   rw[quR_put1 h0,quR_put1 (ptStep_stage h0)]
   exact dyn_if (Z:=CX) (fun g=>pt_step g bh ba d bx bm s.1 s.2 m i t c se p hok hc) (fun g w=>by kernel_rfl) (by ac_rfl) (by ac_rfl)
  | get p=>exact dyn_if (Z:=CX) (fun g=>gt_step g bh ba d bx bm s.1 s.2 m i t c se p hok hc) (fun g w=>by kernel_rfl) (by simp only[qkT];ac_rfl) (by simp only[qkT,qkStep];ac_rfl)
 fr:=by
  intro s m i t c se k hc
  cases k with
  | hz k=>exact(hzT_good bh ba CX).fr s m i t c se k hc
  | put p=>exact frame_ptReady _ _ _ hc
  | get p=>exact(Same.refl m).frame hc
 fs:=by
  intro s m i t c se k hc
  cases k with
  | hz k=>exact(hzT_good bh ba CX).fs s m i t c se k hc
  | put p=>exact frame_ptStep _ _ _ hc
  | get p=>exact frame_gtStep _ _ _ hc
end
end Go.Proofs.YtefjbdajgakgpaaGreat
