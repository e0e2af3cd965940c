/-
  The same: a step of a call.
-/
import Derived.Test.YtegafhhdegnigaaGreatEInv3
set_option linter.all false
namespace Go.Proofs.YtegafhhdegnigaaGreat
open Go.RowKit Hp
set_option maxRecDepth 100000
set_option maxHeartbeats 1000000
attribute [local irreducible] Go.Calls
section
section
variable {c:Cfg}{L S N:Nat}{h:Haz}{a:Are}{m:Mch}
theorem reg_core {t:Nat}{se:Sea}{r:Reg}(C:Core c L S N h a m)(ht:r.thread=(t:Int))(i0:0≤r.i)(i1:r.i<c.R) :
  Core c (L+1) S N (ZU h m t se r).2.1 a (ZU h m t se r).2.2.1∧(∀j,j≠t→(ZU h m t se r).2.1.held[j]? = h.held[j]?)∧((ZU h m t se r).1=false→(ZU h m t se r).2.2.2.thread=(t:Int)∧0≤(ZU h m t se r).2.2.2.i∧(ZU h m t se r).2.2.2.i<c.R):=by
 have hok:=C.ok
 obtain rfl:=C.hc
 have hw:=wok_active hok i0 i1 1
 unfold ZU
 simp only[]
 have hN:∀m',Core h.c (L+1) S N h a m'→Core h.c (L+1) S N (ZV h m' t se r).2.1 a (ZV h m' t se r).2.2.1∧(∀j,j≠t→(ZV h m' t se r).2.1.held[j]? = h.held[j]?)∧((ZV h m' t se r).1=false→(ZV h m' t se r).2.2.2.thread=(t:Int)∧0≤(ZV h m' t se r).2.2.2.i∧(ZV h m' t se r).2.2.2.i<h.c.R):=by
  intro m' k
  unfold ZV
  split
  ·exact⟨k,fun _ _=>rfl,fun _=>⟨ht,by simp only[];omega,by simp only[];omega⟩⟩
  ·exact⟨k.answer ..,fun _ _=>rfl,fun hf=>(by cases hf)⟩
 split
 ·split
  ·exact hN _ (C.load ..)
  ·exact⟨C.load ..,fun _ _=>rfl,fun _=>⟨ht,i0,i1⟩⟩
 ·split
  ·refine⟨((C.swap _ _ _ _ hw).answer ..).hold _ _ ⟨by omega,i1⟩,fun j hj=>Zx (by rw[ht];simpa using hj),fun hf=>(by cases hf)⟩
  ·exact hN _ (C.swap _ _ _ _ hw)
theorem empty_inv {u:Unr}(C:Core c L S N h a m){t:Nat}(hu:u.thread=(t:Int))(ht:(t:Int)<c.T):UnI c (a.caches.getD t []) (Qc a u):=by
 obtain⟨g1,g2,g3⟩:=C.cget (t:=(t:Int)) (by omega) ht
 rw[Yo]at g1 g2 g3
 have e:u.thread.toNat=t:=by omega
 unfold Qc QB
 simp only[e]
 generalize a.caches.getD t []=x at g1 g2 g3 ⊢
 by_cases h0:x.length=0
 ·rw[if_pos h0]
  simp only[if_true]
  exact⟨.inr (.inr (.inr rfl)),fun hf=>by simp at hf,fun hf=>by simp at hf,fun hf=>by simp at hf⟩
 ·rw[if_neg h0]
  simp only[Yn,if_false]
  have hlt:x.length-1<x.length:=by omega
  have hm:x.getD (x.length-1) 0∈x:=by
   rw[Yb,Yd hlt];exact List.getElem_mem hlt
  exact⟨.inr (.inr (.inl rfl)),fun hf=>by simp at hf,fun hf=>by simp at hf,fun _=>⟨_,rfl,⟨(g3 _ hm).1,(g3 _ hm).2,.inl rfl,fun hf=>absurd rfl hf⟩,rfl,by omega⟩⟩
theorem flush_core {p:Psh}(C:Core c L S N h a m)(P:PInv c p){t:Nat}(hu:p.thread=(t:Int))(ht:(t:Int)<c.T)(hl:0<(a.caches.getD t []).length) :
  Core c (L+1) (S+1) N h (ZL a m p).2.1 (ZL a m p).2.2.1∧(∀j,j≠t→(ZL a m p).2.1.caches[j]? = a.caches[j]?) ∧
  ((ZL a m p).1=false→PInv c (ZL a m p).2.2.2∧(ZL a m p).2.2.2.thread=(t:Int)∧0<((ZL a m p).2.1.caches.getD t []).length):=by
 obtain⟨q1,q2,q3,q4⟩:=push_core C P
 obtain⟨g1,g2,g3⟩:=C.cget (t:=(t:Int)) (by omega) ht
 rw[Yo]at g1 g2 g3
 have hlt:=(List.getElem?_eq_some_iff.1 g1).1
 unfold ZL
 split
 ·rename_i hf
  refine⟨q1,fun j _=>by rw[q3],fun _=>⟨q2 hf,by rw[q4,hu],by rw[q3];exact hl⟩⟩
 ·have hx3:(Za a m p).2.2.2.thread=p.thread:=q4
  have e:p.thread.toNat=t:=by omega
  simp only[e]
  generalize a.caches.getD t []=x at g1 g2 g3 hl ⊢
  have k2:Core c (L+1) (S+1) N h { (Za a m p).2.1 with caches:=a.caches.set t (x.take (x.length-1)) } (Za a m p).2.2.1:=by
   have:=q1.cache t (x.take (x.length-1)) (by simp only[List.length_take];omega) (fun z hz=>g3 z (List.mem_of_mem_take hz))
   rw[q3]at this
   exact this
  split
  ·exact⟨k2,fun j hj=>Zx hj,fun hf=>(by cases hf)⟩
  ·refine⟨k2,fun j hj=>Zx hj,fun _ => ?_⟩
   have hy:(x.take (x.length-1)).length=x.length-1:=by simp
   have hlt2:(x.take (x.length-1)).length-1<(x.take (x.length-1)).length:=by omega
   have hm:(x.take (x.length-1)).getD ((x.take (x.length-1)).length-1) 0∈x.take (x.length-1):=by
    rw[Yb,Yd hlt2];exact List.getElem_mem hlt2
   have hr:=g3 _ (List.mem_of_mem_take hm)
   refine⟨⟨hr.1,hr.2,.inl rfl,fun hf=>absurd rfl hf⟩,by rw[q4,hu],?_⟩
   simp only[Yb,Ye hlt]
   simp;omega
theorem unr_core {t:Nat}{u:Unr}(C:Core c L S N h a m)(hN:N<1000000)(ht:(t:Int)<c.T)(hu:u.thread=(t:Int))(hd:0≤h.held.getD t 0)(I:UnI c (a.caches.getD t []) u) :
  Core c (L+1) (S+66) N (Zg h a m u).2.1 (Zg h a m u).2.2.1 (Zg h a m u).2.2.2.1∧Fr t h (Zg h a m u).2.1 a (Zg h a m u).2.2.1 ∧
  ((Zg h a m u).1=false→(Zg h a m u).2.2.2.2.thread=(t:Int)∧0≤(Zg h a m u).2.1.held.getD t 0∧UnI c ((Zg h a m u).2.2.1.caches.getD t []) (Zg h a m u).2.2.2.2):=by
 have hok:=C.ok
 obtain rfl:=C.hc
 obtain⟨r1,_⟩:=C.hget ht
 obtain⟨i1,i2,i3,i4⟩:=I
 unfold Zg
 have e:u.thread.toNat=t:=by omega
 simp only[e]
 generalize hrc:h.held.getD t 0=rc at hd r1 ⊢
 by_cases s0:u.stage=0
 ·rw[if_pos s0]
  obtain⟨k0,k1⟩:=i2 s0
  have hz:=hz_adr hok hd r1 k0 k1
  have hb:=(ZS hok 9).1
  have hw:WOk h.c ((base h.c 9+rc*h.c.Hz+u.k).toNat:Int) 0:=wok_hz hok (by omega) (by omega) ⟨by omega,by have:=hok.S1;omega⟩
  have C1:=C.store _ (m.word (base h.c 9+rc*h.c.Hz+u.k).toNat) _ hw
  split
  ·rename_i hlt
   exact⟨C1.mono (by omega) (by omega) (by omega),.refl ..,fun _=>⟨hu,by rw[hrc];exact hd,⟨.inl s0,fun _=>⟨by simp only[];omega,hlt⟩,fun hf=>by simp only[s0]at hf;omega,fun hf=>by simp only[s0]at hf;omega⟩⟩⟩
  ·have hR:=ready_inv (s:=⟨u.thread,rc,6,0,false,fun _=>0,[],none⟩) C1 hd r1 (by simp only[];omega) (by simp only[];omega) rfl
   split
   ·exact⟨C1.mono (by omega) (by omega) (by omega),.refl ..,fun _=>⟨hu,by rw[hrc];exact hd,empty_inv C1 hu ht⟩⟩
   ·rename_i hf
    exact⟨C1.mono (by omega) (by omega) (by omega),.refl ..,fun _=>⟨hu,by rw[hrc];exact hd,⟨.inr (.inl rfl),fun hf=>by simp at hf,fun _=>⟨_,rfl,hR.1 (by simpa using hf),hR.2⟩,fun hf=>by simp at hf⟩⟩⟩
 rw[if_neg s0]
 by_cases s1:u.stage=1
 ·rw[if_pos s1]
  obtain⟨s,e1,e2,e3⟩:=i3 s1
  rw[e1]
  simp only[]
  have F:=scan_core C e2 hN
  generalize Zf h a m s=r at F ⊢
  obtain⟨f1,f2,f3,f4,f5⟩:=F
  have hfr:Fr t h r.2.1 a r.2.2.1:=⟨fun j _=>by rw[f3],fun j hj=>f4 j (by rw[e3,hu];simpa using hj)⟩
  split
  ·exact⟨f1,hfr,fun _=>⟨hu,by rw[f3,hrc];exact hd,empty_inv f1 hu ht⟩⟩
  ·rename_i hf
   exact⟨f1,hfr,fun _=>⟨hu,by rw[f3,hrc];exact hd,⟨.inr (.inl s1),fun hf=>by simp only[s1]at hf;omega,fun _=>⟨_,rfl,f2 (by simpa using hf),by rw[f5,e3]⟩,fun hf=>by simp only[s1]at hf;omega⟩⟩⟩
 rw[if_neg s1]
 by_cases s2:u.stage=2
 ·rw[if_pos s2]
  obtain⟨p,e1,e2,e3,e4⟩:=i4 s2
  rw[e1]
  simp only[]
  obtain⟨f1,f2,f3⟩:=flush_core C e2 (e3.trans hu) ht e4
  generalize ZL a m p=r at f1 f2 f3 ⊢
  refine⟨f1.mono (by omega) (by omega) (by omega),⟨fun _ _=>rfl,f2⟩,fun _=>⟨hu,by rw[hrc];exact hd,?_⟩⟩
  by_cases hf:r.1=true
  ·simp only[if_pos hf]
   exact⟨.inr (.inr (.inr rfl)),fun hf=>by simp at hf,fun hf=>by simp at hf,fun hf=>by simp at hf⟩
  ·simp only[if_neg hf]
   obtain⟨g1,g2,g3⟩:=f3 (by simpa using hf)
   exact⟨.inr (.inr (.inl rfl)),fun hf=>by simp at hf,fun hf=>by simp at hf,fun _=>⟨_,rfl,g1,g2.trans hu.symm,g3⟩⟩
 rw[if_neg s2]
 exact⟨((C.store _ _ _ (wok_active hok hd r1 0)).hold t (-1) ⟨by omega,by have:=hok.R1;omega⟩).mono (by omega) (by omega) (by omega),⟨fun j hj=>Zx hj,fun _ _=>rfl⟩,fun hf=>(by cases hf)⟩
theorem read_core {i t:Nat}{x:Cll}{se:Sea}{r:Rdg}(C:Core c L S N h a m)(I:RdI c r) :
  Core c (L+1) S N h a (ZT h m i t x se r).2.1∧((ZT h m i t x se r).1=false→RdI c (ZT h m i t x se r).2.2):=by
 have hok:=C.ok
 have hc:=C.hc
 obtain⟨i1,i2,i3,i4⟩:=I
 have hw:=(C.word (Q8 hok).2).cell (by rw[QP hok 2 (Int.le_refl 0)];simp)
 have hb:=(ZS hok 9).1
 have hS:∀m',Core c (L+1) S N h a m'→Core c (L+1) S N h a (Z8 m' i t x se r (m.word (adr c 2 0))).2.1∧((Z8 m' i t x se r (m.word (adr c 2 0))).1=false→RdI c (Z8 m' i t x se r (m.word (adr c 2 0))).2.2):=by
  intro m' k
  unfold Z8
  split
  ·exact⟨(k.point ..).answer ..,fun hf=>(by cases hf)⟩
  ·exact⟨k,fun _=>⟨i1,i2,.inr (.inl rfl),fun _=>⟨by simp only[];omega,hw.2⟩⟩⟩
 unfold ZT
 rw[hc]
 simp only[]
 split
 ·exact hS _ (C.load ..)
 ·rename_i s0
  have hw2:=i4 s0
  split
  ·refine⟨C.store _ _ _ (wok_hz hok (by omega) (by omega) ⟨by omega,hw2.2⟩),fun _=>⟨i1,i2,.inr (.inr (.inl rfl)),fun _=>hw2⟩⟩
  ·split
   ·split
    ·exact⟨C.load ..,fun _=>⟨i1,i2,.inr (.inr (.inr rfl)),fun _=>hw2⟩⟩
    ·exact hS _ (C.load ..)
   ·exact⟨((C.load ..).point ..).answer ..,fun hf=>(by cases hf)⟩
theorem took_core {i t:Nat}{x:Cll}{se:Sea}{p:Pst}{k:Tak}(C:Core c L S N h a m)(hp:p.take=some k)(hk:Zh k = -1∨(0≤Zh k∧Zh k<c.Sl)) :
  Core c L S N h a (ZE m i t x se p k).2.1∧(ZE m i t x se p k).2.2.thread=p.thread∧((ZE m i t x se p k).1=false→PoI c (ZE m i t x se p k).2.2):=by
 unfold ZE
 split
 ·exact⟨(C.point ..).answer ..,rfl,fun hf=>(by cases hf)⟩
 ·exact⟨C,rfl,fun _=>⟨⟨k,hp,fun hf=>by simp at hf,fun _=>⟨by omega,by omega,rfl⟩⟩,.inr (.inl rfl),fun hf=>by simp at hf,fun hf=>by simp at hf⟩⟩
structure PostI (c:Cfg)(L S N:Nat)(t:Nat)(h:Haz)(a:Are)(r:Bool×Haz×Are×Mch×Pst):Prop where
 core:Core c L S N r.2.1 r.2.2.1 r.2.2.2.1
 held:r.2.1.held=h.held
 caches:∀j,j≠t→r.2.2.1.caches[j]? = a.caches[j]?
 fin:r.1=false→r.2.2.2.2.thread=(t:Int)∧PoI c r.2.2.2.2
theorem done_core {i t:Nat}{x:Cll}{se:Sea}{p:Pst}{k:Tak}{sl0:Int}(C:Core c L S N h a m)(ht:(t:Int)<c.T)(hp:p.take=some k)(hu:p.thread=(t:Int))(hd:0≤h.held.getD t 0)(hs:p.saw≤c.Sl) :
  PostI c L (S+3) (N+1) t h a (ZY h a m i t x se p sl0):=by
 unfold ZY
 simp only[]
 have C1:=(((C.point i x m.now).answer t se 1 0).ashift sl0.toNat m.thread 3).mshift sl0 (a.slots.getD sl0.toNat ⟨0,0⟩).state 3
 split
 ·exact⟨C1.mono (by omega) (by omega) (by omega),rfl,fun _ _=>rfl,fun hf=>(by cases hf)⟩
 ·rename_i hn
  have C2:=(C1.ashift (p.saw-1).toNat m.thread 4).mshift (p.saw-1) ((a.shift sl0.toNat m.thread 3).slots.getD (p.saw-1).toNat ⟨0,0⟩).state 4
  have R:=retire_core (r:=⟨p.thread,p.saw-1,none⟩) C2 (by simp only[];omega) (by simp only[];omega) (by simp only[];omega) (by simp only[];omega) (by simp only[hu,Yo];exact hd)
  generalize ZA h _ _ ⟨p.thread,p.saw-1,none⟩=r at R ⊢
  obtain⟨q1,q2,q3,q4⟩:=R
  refine⟨q1,q3,fun j _=>by rw[q4];rfl,fun hf => ?_⟩
  obtain⟨sc,e1,e2,e3⟩:=q2 hf
  exact⟨hu,⟨⟨k,hp,fun hf=>by simp at hf,fun hf=>by simp at hf⟩,.inr (.inr (.inr (.inr rfl))),fun hf=>by simp at hf,fun _=>⟨_,sc,rfl,e1,e2,e3⟩⟩⟩
theorem post_core {i t:Nat}{x:Cll}{se:Sea}{p:Pst}(C:Core c L S N h a m)(hN:N<1000000)(ht:(t:Int)<c.T)(hu:p.thread=(t:Int))(hd:0≤h.held.getD t 0)(I:PoI c p) :
  PostI c (L+1) (S+66) (N+1) t h a (Zj h a m i t x se p):=by
 have hok:=C.ok
 have hc:=C.hc
 obtain⟨⟨k,hk,k0,k1⟩,i2,i3,i4⟩:=I
 have hw:=(C.word (Q8 hok).2).cell (by rw[QP hok 2 (Int.le_refl 0)];simp)
 unfold Zj
 rw[hk,hc]
 simp only[]
 by_cases s0:p.stage=0
 ·rw[if_pos s0]
  obtain⟨e1,e2,e3,e4⟩:=take_core C (k0 s0)
  generalize Zi a m k=r at e1 e2 e3 e4 ⊢
  obtain⟨f1,f2,f3⟩:=took_core (i:=i) (t:=t) (x:=x) (se:=se) (p:={ p with take:=some r.2.2.2 }) e1 rfl e3
  split
  ·exact⟨f1.mono (by omega) (by omega) (by omega),rfl,fun j _=>by rw[e4],fun hf=>⟨f2.trans hu,f3 hf⟩⟩
  ·rename_i hf
   exact⟨e1.mono (by omega) (by omega) (by omega),rfl,fun j _=>by rw[e4],fun _=>⟨hu,⟨⟨_,rfl,fun _=>e2 (by simpa using hf),fun hf=>by simp only[s0]at hf;omega⟩,.inl s0,fun hf=>by simp only[s0]at hf;omega,fun hf=>by simp only[s0]at hf;omega⟩⟩⟩
 rw[if_neg s0]
 by_cases s1:p.stage=1
 ·rw[if_pos s1]
  obtain⟨g1,g2,g3⟩:=k1 (.inl s1)
  exact⟨(C.store _ _ _ (wok_value hok g1 _)).mono (by omega) (by omega) (by omega),rfl,fun _ _=>rfl,fun _=>⟨hu,⟨⟨k,rfl,fun hf=>by simp at hf,fun _=>⟨g1,g2,g3⟩⟩,.inr (.inr (.inl rfl)),fun hf=>by simp at hf,fun hf=>by simp at hf⟩⟩⟩
 rw[if_neg s1]
 by_cases s2:p.stage=2
 ·rw[if_pos s2]
  obtain⟨g1,g2,g3⟩:=k1 (.inr (.inl s2))
  exact⟨(C.load _ _).mono (by omega) (by omega) (by omega),rfl,fun _ _=>rfl,fun _=>⟨hu,⟨⟨k,rfl,fun hf=>by simp at hf,fun _=>⟨g1,g2,g3⟩⟩,.inr (.inr (.inr (.inl rfl))),fun _=>hw,fun hf=>by simp at hf⟩⟩⟩
 rw[if_neg s2]
 by_cases s3:p.stage=3
 ·rw[if_pos s3]
  obtain⟨g1,g2,g3⟩:=k1 (.inr (.inr s3))
  have hz:WOk c (adr c 2 0) p.link:=wok_cell hok (by omega)
  have hsw:=i3 s3
  split
  ·have D:=done_core (i:=i) (t:=t) (x:=x) (se:=se) (p:=p) (sl0:=Zh k) (C.swap (adr c 2 0) (m.word (adr c 2 0)) p.saw p.link hz) ht hk hu hd hsw.2
   exact⟨D.core.mono (by omega) (by omega) (by omega),D.held,D.caches,D.fin⟩
  ·exact⟨(C.swap _ _ _ _ hz).mono (by omega) (by omega) (by omega),rfl,fun _ _=>rfl,fun _=>⟨hu,⟨⟨k,rfl,fun hf=>by simp at hf,fun _=>⟨g1,g2,g3⟩⟩,.inr (.inr (.inl rfl)),fun hf=>by simp at hf,fun hf=>by simp at hf⟩⟩⟩
 rw[if_neg s3]
 have s4:p.stage=4:=by rcases i2 with h|h|h|h|h<;>first|exact absurd h s0|exact absurd h s1|exact absurd h s2|exact absurd h s3|exact h
 obtain⟨r,sc,e1,e2,e3,e4⟩:=i4 s4
 rw[e1]
 simp only[e2]
 have F:=scan_core C e3 hN
 generalize Zf h a m sc=q at F ⊢
 obtain⟨f1,f2,f3,f4,f5⟩:=F
 refine⟨f1.mono (by omega) (by omega) (by omega),f3,fun j hj=>f4 j (by rw[e4,hu];simpa using hj),fun hf=>⟨hu,⟨⟨k,rfl,fun hf=>by simp only[s4]at hf;omega,fun hf=>by simp only[s4]at hf;omega⟩,.inr (.inr (.inr (.inr s4))),fun hf=>by simp only[s4]at hf;omega,fun _=>⟨_,_,rfl,rfl,f2 hf,by rw[f5,e4]⟩⟩⟩⟩
theorem step_core {i t:Nat}{x:Cll}{se:Sea}{k:Zz}(C:Core c L S N h a m)(hN:N<1000000)(ht:(t:Int)<c.T)(I:TI c t true (h.held.getD t 0) (a.caches.getD t []) k) :
  StI c (L+1) (S+66) (N+1) t h a (Zn (h,a) m i t x se k):=by
 have hok:=C.ok
 cases k with
 | reg r=>
  obtain⟨i1,i2,i3⟩:=I
  obtain⟨f1,f2,f3⟩:=reg_core (se:=se) C i1 i2 i3
  exact⟨f1.mono (by omega) (by omega) (by omega),⟨f2,fun _ _=>rfl⟩,f3⟩
 | unr u=>
  obtain⟨i1,i2,i3⟩:=I
  obtain⟨f1,f2,f3⟩:=unr_core C hN ht i1 i2 i3
  exact⟨f1.mono (by omega) (by omega) (by omega),f2,f3⟩
 | rdg r=>
  obtain⟨f1,f2⟩:=read_core (i:=i) (t:=t) (x:=x) (se:=se) C I
  exact⟨f1.mono (by omega) (by omega) (by omega),.refl ..,f2⟩
 | clr ad=>
  obtain⟨i1,i2⟩:=I
  exact⟨(C.store _ _ _ (wok_hz hok i1 i2 ⟨by omega,by have:=hok.S1;omega⟩)).mono (by omega) (by omega) (by omega),.refl ..,fun hf=>(by cases hf)⟩
 | scn s=>
  obtain⟨i1,i2,i3⟩:=I
  have F:=scan_core C (i3 rfl) hN
  obtain⟨f1,f2,f3,f4,f5⟩:=F
  exact⟨f1.mono (by omega) (by omega) (by omega),⟨fun j _=>by simp only[Zn];rw[f3],fun j hj=>f4 j (by rw[i1];simpa using hj)⟩,fun hf=>⟨by simp only[Zn];rw[f5,i1],fun hf=>(by cases hf),fun _=>f2 hf⟩⟩
 | pst p=>
  obtain⟨i1,i2,i3,_⟩:=I
  obtain⟨f1,f2,f3,f4⟩:=post_core (i:=i) (x:=x) (se:=se) C hN ht i1 i2 (i3 rfl)
  exact⟨f1,⟨fun j _=>by simp only[Zn];rw[f2],f3⟩,fun hf=>⟨(f4 hf).1,by simp only[Zn];rw[f2];exact i2,fun _=>(f4 hf).2,fun hf=>(by cases hf)⟩⟩
end
end
section
abbrev St3:=Haz×Are×Mch
inductive Evo (i t:Nat):St3→St3→Prop where
 | refl (x:St3):Evo i t x x
 | trans {x y z:St3}:Evo i t x y→Evo i t y z→Evo i t x z
 | load {h:Haz} {a:Are} {m:Mch} (j:Nat):m.used=false→j<m.mem.words.length→Evo i t (h,a,m) (h,a,m.load j (m.word j))
 | store {h:Haz} {a:Are} {m:Mch} (j:Nat) (z:Int):m.used=false→j<m.mem.words.length→Evo i t (h,a,m) (h,a,m.store j (m.word j) z)
 | swap {h:Haz} {a:Are} {m:Mch} (j:Nat) (o z:Int):m.used=false→j<m.mem.words.length→Evo i t (h,a,m) (h,a,m.swap j (m.word j) o z)
 | shift {h:Haz} {a:Are} {m:Mch} (s to:Int):0≤s→s<a.c.Sl→0≤to→to≤5→Evo i t (h,a,m) (h,a.shift s.toNat m.thread to,m.shift s (a.slots.getD s.toNat ⟨0,0⟩).state to)
 | point {h:Haz} {a:Are} {m:Mch} (cl:Cll) (z:Int):m.calls[i]? = some cl→cl.begin_<z→z≤m.now→Evo i t (h,a,m) (h,a,m.point i cl z)
 | answer {h:Haz} {a:Are} {m:Mch} (se:Sea) (k v:Int):m.seats[t]? = some se→1≤k→k≤6→(k≠2→v=0)→Evo i t (h,a,m) (h,a,m.answer t se k v)
 | haz {h:Haz} (h':Haz) {a:Are} {m:Mch}:Evo i t (h,a,m) (h',a,m)
 | cache {h:Haz} {a:Are} {m:Mch} (cs:List (List Int)):Evo i t (h,a,m) (h,{ a with caches:=cs },m)
section
variable {i t:Nat}{c:Cfg}{L S N:Nat}{h:Haz}{a:Are}{m:Mch}
theorem Core.lt (k:Core c L S N h a m){j:Nat}(hj:(j:Int)<base c 14):j<m.mem.words.length:=by rw[k.words];omega
theorem Jc {c:Cfg}(hc:c.Ok){r:Nat}{z n:Int}(h1:r=8∧n=c.R∨(r=10∨r=11)∧n=c.Sl)(h0:0≤z)(hz:z<n):((adr c r z:Nat):Int)<base c 14:=by
 have e:=QP hc r h0
 obtain⟨b1,b2,b8,b9,b10,b11,b12,b13,b14,rh,rh2⟩:=Qx hc
 have:=hc.S1
 rcases h1 with⟨rfl,rfl⟩|⟨rfl|rfl,rfl⟩<;>omega
theorem evo_push {p:Psh}(k:Core c L S N h a m)(P:PInv c p)(hu:m.used=false):Evo i t (h,a,m) (h,(Za a m p).2.1,(Za a m p).2.2.1):=by
 obtain⟨p1,p2,p3,p4⟩:=P
 have hac:=k.ac
 have h1:=k.lt (Q8 k.ok).1
 have h2:=k.lt (Jc k.ok (.inr ⟨.inl rfl,rfl⟩) p1 p2)
 unfold Za
 rw[hac]
 split
 ·exact .load _ hu h1
 ·split
  ·exact .store _ _ hu h2
  ·simp only[]
   split
   ·exact(Evo.swap _ _ _ hu h1).trans (Evo.shift (m:=m.swap _ _ _ _) _ _ p1 (by rw[hac];exact p2) (by omega) (by omega))
   ·exact .swap _ _ _ hu h1
theorem evo_give {p:Psh}(hac:a.c=c)(s0:0≤p.slot)(s1:p.slot<c.Sl):Evo i t (h,a,m) (h,(Zy a m p).2.1,(Zy a m p).2.2.1):=by
 unfold Zy
 split
 ·exact .refl _
 ·exact(Evo.cache _).trans (Evo.shift (a:={ a with caches:=_ }) _ _ s0 (by rw[←hac]at s1;exact s1) (by omega) (by omega))
theorem give_c (a:Are)(m:Mch)(p:Psh):(Zy a m p).2.1.c=a.c:=by
 unfold Zy;split<;>rfl
theorem evo_free (th:Int):∀(pend:List Int) (g:Option Psh) (a:Are) (m:Mch),a.c=c→(∀z∈pend,0≤z∧z<c.Sl)→Evo i t (h,a,m) (h,(Zu th pend g a m).2.2.2.1,(Zu th pend g a m).2.2.2.2)
 | [],g,a,m,_,_=>.refl _
 | s::r,g,a,m,hac,hin=>by
  have hs:=hin s (List.mem_cons_self ..)
  have hg:=evo_give (i:=i) (t:=t) (h:=h) (m:=m) (p:=⟨s,1,0,th⟩) hac hs.1 hs.2
  unfold Zu
  split
  ·exact hg.trans (evo_free th r _ _ _ (by rw[give_c];exact hac) (fun z hz=>hin z (List.mem_cons_of_mem _ hz)))
  ·exact hg
theorem evo_scan {s:Scn}(k:Core c L S N h a m)(I:ScI c s)(hu:m.used=false):Evo i t (h,a,m) ((Zf h a m s).2.1,(Zf h a m s).2.2.1,(Zf h a m s).2.2.2.1):=by
 have hok:=k.ok
 have hac:=k.ac
 have hb:=Qx hok
 obtain rfl:=k.hc
 obtain⟨i1,i2,i3,i4,i5,i6,i7,i8,i9⟩:=I
 unfold Zf
 by_cases s0:s.stage=0
 ·rw[if_pos s0]
  obtain⟨a0,a1,a2⟩:=i6 (by omega)
  have h1:=k.lt (Jc hok (.inl ⟨rfl,rfl⟩) a0 a1)
  unfold QH
  simp only[]
  split<;>exact .load _ hu h1
 rw[if_neg s0]
 by_cases s1:s.stage=1
 ·rw[if_pos s1]
  obtain⟨a0,a1,a2⟩:=i6 (by omega)
  have h1:=k.lt (Jc hok (.inl ⟨rfl,rfl⟩) a0 a1)
  unfold Qm
  simp only[]
  split
  ·exact(Evo.swap _ _ _ hu h1).trans (.haz _)
  ·exact .swap _ _ _ hu h1
 rw[if_neg s1]
 by_cases s2:s.stage=2
 ·rw[if_pos s2]
  obtain⟨a0,a1,a2⟩:=i6 (by omega)
  have h1:=k.lt (Jc hok (.inl ⟨rfl,rfl⟩) a0 a1)
  exact .store _ _ hu h1
 rw[if_neg s2]
 by_cases s3:s.stage=3
 ·rw[if_pos s3]
  obtain⟨⟨a0,a1⟩,a2,a3⟩:=i8 s3
  have hp:=i7 (by omega)
  have hb9:=(ZS hok 9).1
  have h1:(base h.c 9+s.at_).toNat<m.mem.words.length:=k.lt (by have:=hb.b10;have:=hb.b11;have:=hb.b12;have:=hb.b13;have:=hb.b14;have:=hok.S1;omega)
  obtain⟨e1,e2,e3⟩:=k.lget i1 i2
  unfold Qo
  dsimp only
  split
  ·exact .load _ hu h1
  ·simp only[Z2,Qf,hp,List.nil_append]
   refine(Evo.load _ hu h1).trans ((Evo.haz { h with lists:=h.lists.set s.record.toNat ((h.lists.getD s.record.toNat []).filter (Qq (Qa s.named (m.word (base h.c 9+s.at_).toNat-1)))) }).trans ?_)
   exact evo_free (c:=h.c) _ _ _ _ _ hac (fun z hz=>e3 z (List.mem_filter.1 hz).1)
 rw[if_neg s3]
 obtain⟨p,p1,p2,p3,p4⟩:=i9 (by omega)
 rw[p1]
 simp only[]
 have hq:=evo_push (i:=i) (t:=t) k p2 hu
 have hc:=(push_core k p2).1.ac
 unfold Qp
 simp only[]
 split
 ·exact hq.trans (evo_free (c:=h.c) _ _ _ _ _ hc p3)
 ·exact hq
theorem evo_retire {r:Ret}(k:Core c L S N h a m)(s0:0≤r.slot)(s1:r.slot<c.Sl):Evo i t (h,a,m) ((ZA h a m r).2.1,(ZA h a m r).2.2.1,(ZA h a m r).2.2.2.1):=by
 have hac:=k.ac
 unfold ZA
 simp only[]
 split<;>exact(Evo.shift _ _ s0 (by rw[hac];exact s1) (by omega) (by omega)).trans (.haz _)
theorem evo_takeReady {k:Tak}(C:Core c L S N h a m)(t0:0≤k.thread)(t1:k.thread<c.T):Evo i t (h,a,m) (h,(Zk a m k).2.1,(Zk a m k).2.2.1):=by
 obtain rfl:=C.ac
 obtain⟨g1,g2,g3⟩:=C.cget t0 t1
 unfold Zk
 simp only[]
 split
 ·exact .refl _
 ·rename_i h0
  generalize a.caches.getD k.thread.toNat []=x at g1 g2 g3 h0 ⊢
  have hlt:x.length-1<x.length:=by omega
  have hm:x.getD (x.length-1) 0∈x:=by
   rw[Yb,Yd hlt];simp
  obtain⟨q1,q2⟩:=g3 _ hm
  exact(Evo.cache _).trans (Evo.shift (a:={ a with caches:=_ }) _ _ q1 q2 (by omega) (by omega))
theorem evo_take {k:Tak}(C:Core c L S N h a m)(T:TkI c k)(hu:m.used=false):Evo i t (h,a,m) (h,(Zi a m k).2.1,(Zi a m k).2.2.1):=by
 have hok:=C.ok
 have hac:=C.ac
 obtain⟨t1,t2,t3,t4⟩:=T
 have h1:=C.lt (Q8 hok).1
 unfold Zi
 rw[hac]
 split
 ·exact .load _ hu h1
 ·rename_i hn
  obtain⟨h3,h4,h5⟩:=t3 hn
  have h2:=C.lt (Jc hok (r:=10) (z:=k.head%4294967296-1) (.inr ⟨.inl rfl,rfl⟩) (by omega) (by omega))
  split
  ·exact .load _ hu h2
  ·simp only[]
   split
   ·exact(Evo.swap _ _ _ hu h1).trans (Evo.shift (m:=m.swap _ _ _ _) _ _ (by omega) (by rw[hac];omega) (by omega) (by omega))
   ·exact .swap _ _ _ hu h1
theorem evo_reg {se:Sea}{r:Reg}(C:Core c L S N h a m)(hse:m.seats[t]? = some se)(i0:0≤r.i)(i1:r.i<c.R)(hu:m.used=false):Evo i t (h,a,m) ((ZU h m t se r).2.1,a,(ZU h m t se r).2.2.1):=by
 have hok:=C.ok
 obtain rfl:=C.hc
 have h1:=C.lt (Jc hok (.inl ⟨rfl,rfl⟩) i0 i1)
 have hN:∀m',m'.seats[t]? = some se→Evo i t (h,a,m') ((ZV h m' t se r).2.1,a,(ZV h m' t se r).2.2.1):=by
  intro m' hs
  unfold ZV
  split
  ·exact .refl _
  ·exact .answer _ _ _ hs (by omega) (by omega) (fun _=>rfl)
 unfold ZU
 simp only[]
 split
 ·split
  ·exact(Evo.load _ hu h1).trans (hN _ hse)
  ·exact .load _ hu h1
 ·split
  ·exact(Evo.swap _ _ _ hu h1).trans ((Evo.answer (m:=m.swap _ _ _ _) se 2 r.i hse (by omega) (by omega) (fun hf=>absurd rfl hf)).trans (.haz _))
  ·exact(Evo.swap _ _ _ hu h1).trans (hN _ hse)
theorem evo_flush {p:Psh}(k:Core c L S N h a m)(P:PInv c p)(hu:m.used=false):Evo i t (h,a,m) (h,(ZL a m p).2.1,(ZL a m p).2.2.1):=by
 have hq:=evo_push (i:=i) (t:=t) k P hu
 unfold ZL
 split
 ·exact hq
 ·simp only[]
  split<;>exact hq.trans (.cache _)
theorem evo_unr {u:Unr}(C:Core c L S N h a m)(ht:(t:Int)<c.T)(hu':u.thread=(t:Int))(hd:0≤h.held.getD t 0)(I:UnI c (a.caches.getD t []) u)(hu:m.used=false) :
  Evo i t (h,a,m) ((Zg h a m u).2.1,(Zg h a m u).2.2.1,(Zg h a m u).2.2.2.1):=by
 have hok:=C.ok
 obtain rfl:=C.hc
 obtain⟨r1,_⟩:=C.hget ht
 obtain⟨i1,i2,i3,i4⟩:=I
 unfold Zg
 have e:u.thread.toNat=t:=by omega
 simp only[e]
 by_cases s0:u.stage=0
 ·rw[if_pos s0]
  obtain⟨k0,k1⟩:=i2 s0
  have hz:=hz_adr hok hd r1 k0 k1
  have hb:=(ZS hok 9).1
  have h1:(base h.c 9+h.held.getD t 0*h.c.Hz+u.k).toNat<m.mem.words.length:=C.lt (by have hb:=Qx hok;have:=hb.b11;have:=hb.b12;have:=hb.b13;have:=hb.b14;have:=hok.S1;omega)
  split
  ·exact .store _ _ hu h1
  ·split<;>exact .store _ _ hu h1
 rw[if_neg s0]
 by_cases s1:u.stage=1
 ·rw[if_pos s1]
  obtain⟨s,e1,e2,e3⟩:=i3 s1
  rw[e1]
  simp only[]
  have F:=evo_scan (i:=i) (t:=t) C e2 hu
  split<;>exact F
 rw[if_neg s1]
 by_cases s2:u.stage=2
 ·rw[if_pos s2]
  obtain⟨p,e1,e2,e3,e4⟩:=i4 s2
  rw[e1]
  exact evo_flush C e2 hu
 rw[if_neg s2]
 exact(Evo.store _ _ hu (C.lt (Jc hok (.inl ⟨rfl,rfl⟩) hd r1))).trans (.haz _)
theorem evo_read {cl:Cll}{se:Sea}{r:Rdg}(C:Core c L S N h a m)(I:RdI c r)(hcl:m.calls[i]? = some cl)(hse:m.seats[t]? = some se)(hb:cl.begin_<m.now)(hp:r.stage=3→cl.begin_<r.point∧r.point≤m.now)(hu:m.used=false) :
  Evo i t (h,a,m) (h,a,(ZT h m i t cl se r).2.1):=by
 have hok:=C.ok
 have hc:=C.hc
 obtain⟨i1,i2,i3,i4⟩:=I
 have hb9:=(ZS hok 9).1
 have hbs:=Qx hok
 have h1:=C.lt (Q8 hok).2
 have h2:r.addr.toNat<m.mem.words.length:=C.lt (by have:=hbs.b11;have:=hbs.b12;have:=hbs.b13;have:=hbs.b14;have:=hok.S1;omega)
 have hS:∀m' u,m'.calls=m.calls→m'.seats=m.seats→m'.now=m.now→Evo i t (h,a,m') (h,a,(Z8 m' i t cl se r u).2.1):=by
  intro m' u e1 e2 e3
  unfold Z8
  split
  ·exact(Evo.point cl _ (by rw[e1];exact hcl) (by rw[e3];exact hb) (Int.le_refl _)).trans (Evo.answer (m:=m'.point _ _ _) se 3 0 (by rw[←e2]at hse;exact hse) (by omega) (by omega) (fun _=>rfl))
  ·exact .refl _
 unfold ZT
 rw[hc]
 simp only[]
 split
 ·exact(Evo.load _ hu h1).trans (hS _ _ rfl rfl rfl)
 ·rename_i s0
  have hw2:=i4 s0
  split
  ·exact .store _ _ hu h2
  ·rename_i s1
   split
   ·split
    ·exact .load _ hu h1
    ·exact(Evo.load _ hu h1).trans (hS _ _ rfl rfl rfl)
   ·rename_i s2
    obtain⟨q1,q2⟩:=hp (by omega)
    have h3:=C.lt (Jc hok (r:=11) (z:=r.w-1) (.inr ⟨.inr rfl,rfl⟩) (by omega) (by omega))
    exact(Evo.load _ hu h3).trans ((Evo.point (m:=m.load _ _) cl r.point hcl q1 q2).trans (Evo.answer (m:=(m.load _ _).point _ _ _) se 2 _ hse (by omega) (by omega) (fun hf=>absurd rfl hf)))
theorem evo_took {cl:Cll}{se:Sea}{p:Pst}{k:Tak}{m':Mch}(hcl:m'.calls[i]? = some cl)(hse:m'.seats[t]? = some se)(hb:cl.begin_<m'.now):Evo i t (h,a,m') (h,a,(ZE m' i t cl se p k).2.1):=by
 unfold ZE
 split
 ·exact(Evo.point cl _ hcl hb (Int.le_refl _)).trans (Evo.answer (m:=m'.point _ _ _) se 4 0 hse (by omega) (by omega) (fun _=>rfl))
 ·exact .refl _
theorem evo_done {cl:Cll}{se:Sea}{p:Pst}{k:Tak}{sl0:Int}(C:Core c L S N h a m)(hs:p.saw≤c.Sl)(q0:0≤sl0)(q1:sl0<c.Sl)(hcl:m.calls[i]? = some cl)(hse:m.seats[t]? = some se)(hb:cl.begin_<m.now) :
  Evo i t (h,a,m) ((ZY h a m i t cl se p sl0).2.1,(ZY h a m i t cl se p sl0).2.2.1,(ZY h a m i t cl se p sl0).2.2.2.1):=by
 have hac:=C.ac
 unfold ZY
 simp only[]
 have E1:Evo i t (h,a,m) (h,a.shift sl0.toNat m.thread 3,((m.point i cl m.now).answer t se 1 0).shift sl0 (a.slots.getD sl0.toNat ⟨0,0⟩).state 3):=
  (Evo.point cl _ hcl hb (Int.le_refl _)).trans ((Evo.answer (m:=m.point _ _ _) se 1 0 hse (by omega) (by omega) (fun _=>rfl)).trans (Evo.shift (m:=(m.point _ _ _).answer _ _ _ _) sl0 3 q0 (by rw[hac];exact q1) (by omega) (by omega)))
 have C1:=(((C.point i cl m.now).answer t se 1 0).ashift sl0.toNat m.thread 3).mshift sl0 (a.slots.getD sl0.toNat ⟨0,0⟩).state 3
 split
 ·exact E1
 ·rename_i hn
  have E2:Evo i t (h,a.shift sl0.toNat m.thread 3,((m.point i cl m.now).answer t se 1 0).shift sl0 (a.slots.getD sl0.toNat ⟨0,0⟩).state 3) _:=Evo.shift (p.saw-1) 4 (by omega) (by show p.saw-1<a.c.Sl;rw[hac];omega) (by omega) (by omega)
  have C2:=(C1.ashift (p.saw-1).toNat m.thread 4).mshift (p.saw-1) ((a.shift sl0.toNat m.thread 3).slots.getD (p.saw-1).toNat ⟨0,0⟩).state 4
  have R:=evo_retire (i:=i) (t:=t) (r:=⟨p.thread,p.saw-1,none⟩) C2 (by simp only[];omega) (by simp only[];omega)
  exact E1.trans (E2.trans R)
theorem evo_post {cl:Cll}{se:Sea}{p:Pst}(C:Core c L S N h a m)(I:PoI c p)(hcl:m.calls[i]? = some cl)(hse:m.seats[t]? = some se)(hb:cl.begin_<m.now)(hu:m.used=false) :
  Evo i t (h,a,m) ((Zj h a m i t cl se p).2.1,(Zj h a m i t cl se p).2.2.1,(Zj h a m i t cl se p).2.2.2.1):=by
 have hok:=C.ok
 have hc:=C.hc
 obtain⟨⟨k,hk,k0,k1⟩,i2,i3,i4⟩:=I
 have h1:=C.lt (Q8 hok).2
 unfold Zj
 rw[hk,hc]
 simp only[]
 by_cases s0:p.stage=0
 ·rw[if_pos s0]
  have E:=evo_take (i:=i) (t:=t) C (k0 s0) hu
  have Sm:=same_take a m k
  split
  ·exact E.trans (evo_took (by rw[Sm.calls];exact hcl) (by rw[Sm.seats];exact hse) (by rw[Sm.now];exact hb))
  ·exact E
 rw[if_neg s0]
 by_cases s1:p.stage=1
 ·rw[if_pos s1]
  obtain⟨g1,g2,g3⟩:=k1 (.inl s1)
  exact .store _ _ hu (C.lt (Jc hok (r:=11) (.inr ⟨.inr rfl,rfl⟩) g1 g2))
 rw[if_neg s1]
 by_cases s2:p.stage=2
 ·rw[if_pos s2]
  exact .load _ hu h1
 rw[if_neg s2]
 by_cases s3:p.stage=3
 ·rw[if_pos s3]
  obtain⟨g1,g2,g3⟩:=k1 (.inr (.inr s3))
  have hz:WOk c (adr c 2 0) p.link:=wok_cell hok (by omega)
  have hsw:=i3 s3
  split
  ·exact(Evo.swap _ _ _ hu h1).trans (evo_done (k:=k) (C.swap (adr c 2 0) (m.word (adr c 2 0)) p.saw p.link hz) hsw.2 g1 g2 hcl hse hb)
  ·exact .swap _ _ _ hu h1
 rw[if_neg s3]
 have s4:p.stage=4:=by rcases i2 with h|h|h|h|h<;>first|exact absurd h s0|exact absurd h s1|exact absurd h s2|exact absurd h s3|exact h
 obtain⟨r,sc,e1,e2,e3,e4⟩:=i4 s4
 rw[e1]
 simp only[e2]
 exact evo_scan C e3 hu
theorem evo_postReady {cl:Cll}{se:Sea}{p:Pst}(C:Core c L S N h a m)(t0:0≤p.thread)(t1:p.thread<c.T)(hcl:m.calls[i]? = some cl)(hse:m.seats[t]? = some se)(hb:cl.begin_<m.now) :
  Evo i t (h,a,m) (h,(Zq a m i t cl se p).2.1,(Zq a m i t cl se p).2.2.1):=by
 have E:=evo_takeReady (i:=i) (t:=t) (k:=⟨p.thread,1,0,0,0,false⟩) C t0 t1
 have Sm:=QQ a m ⟨p.thread,1,0,0,0,false⟩
 unfold Zq
 simp only[]
 split
 ·exact E.trans (evo_took (by rw[Sm.calls];exact hcl) (by rw[Sm.seats];exact hse) (by rw[Sm.now];exact hb))
 ·exact E
theorem evo_rdy {cl:Cll}{se:Sea}{k:Zz}(C:Core c L S N h a m)(ht:(t:Int)<c.T)(I:TI c t false (h.held.getD t 0) (a.caches.getD t []) k)(hcl:m.calls[i]? = some cl)(hse:m.seats[t]? = some se)(hb:cl.begin_<m.now) :
  Evo i t (h,a,m) ((Qj (h,a) m i t cl se k).2.1.1,(Qj (h,a) m i t cl se k).2.1.2,(Qj (h,a) m i t cl se k).2.2.1):=by
 cases k with
 | pst p=>exact evo_postReady C (by rw[I.1];omega) (by rw[I.1];exact ht) hcl hse hb
 | scn s=>exact .refl _
 | reg r=>exact .refl _
 | unr u=>exact .refl _
 | rdg r=>exact .refl _
 | clr ad=>exact .refl _
def RdP (b now:Int):Zz→Prop
 | .rdg r=>r.stage=3→b<r.point∧r.point≤now
 | _=>True
theorem evo_stp {cl:Cll}{se:Sea}{k:Zz}(C:Core c L S N h a m)(ht:(t:Int)<c.T)(I:TI c t true (h.held.getD t 0) (a.caches.getD t []) k)(hcl:m.calls[i]? = some cl)(hse:m.seats[t]? = some se)(hb:cl.begin_<m.now)(hp:RdP cl.begin_ m.now k)(hu:m.used=false) :
  Evo i t (h,a,m) ((Zn (h,a) m i t cl se k).2.1.1,(Zn (h,a) m i t cl se k).2.1.2,(Zn (h,a) m i t cl se k).2.2.1):=by
 have hok:=C.ok
 cases k with
 | reg r=>
  obtain⟨i1,i2,i3⟩:=I
  exact evo_reg C hse i2 i3 hu
 | unr u=>
  obtain⟨i1,i2,i3⟩:=I
  exact evo_unr C ht i1 i2 i3 hu
 | rdg r=>exact evo_read C I hcl hse hb hp hu
 | clr ad=>
  obtain⟨i1,i2⟩:=I
  exact .store _ _ hu (C.lt (by have hb:=Qx hok;have:=hb.b11;have:=hb.b12;have:=hb.b13;have:=hb.b14;have:=hok.S1;omega))
 | scn s=>exact evo_scan C (I.2.2 rfl) hu
 | pst p=>exact evo_post C (I.2.2.1 rfl) hcl hse hb hu
theorem rdp_stp {cl cl':Cll}{se:Sea}{k:Zz}(hb:cl.begin_<m.now)(hp:RdP cl.begin_ m.now k):RdP cl.begin_ m.now (Zn (h,a) m i t cl' se k).2.2.2:=by
 cases k with
 | rdg r=>
  simp only[Zn,RdP,ZT]at hp ⊢
  split
  ·unfold Z8;split<;>simp
  ·split
   ·simp
   ·split
    ·split
     ·simp only[];exact fun _=>⟨hb,Int.le_refl _⟩
     ·unfold Z8;split<;>simp
    ·exact hp
 | _=>exact trivial
theorem rdp_rdy {cl cl':Cll}{se:Sea}{k:Zz}{b now:Int}(hp:RdP b now k):RdP b now (Qj (h,a) m i t cl' se k).2.2.2:=by
 cases k with
 | rdg r=>exact hp
 | _=>exact trivial
end
end
end Go.Proofs.YtegafhhdegnigaaGreat
