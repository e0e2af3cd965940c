/-
  The same: a step of a call.
-/
import Derived.Test.YtefjbdajgakgpaaGreatAGen
import Derived.Test.YtefjbdajgakgpaaGreatAWord1
import Derived.Test.YtefjbdajgakgpaaGreatAInv
import Derived.Test.YtefjbdajgakgpaaGreatANew3
set_option linter.all false
namespace Go.Proofs.YtefjbdajgakgpaaGreat
section
open Go.RowKit Hp
set_option maxRecDepth 100000
set_option maxHeartbeats 1000000
attribute [local irreducible] Go.Calls
section
variable {c:Cfg}{L S N:Nat}{h:Haz}{a:Are}{m:Mch}
theorem reg_core {t:Nat}{se:Sea}{r:Reg}(C:Core c L S N h a m)(ht:r.thread=(t:Int))(i0:0≤r.i)(i1:r.i<c.R) :
  Core c (L+1) S N (Z3 h m t se r).2.1 a (Z3 h m t se r).2.2.1∧(∀j,j≠t→(Z3 h m t se r).2.1.held[j]? = h.held[j]?)∧((Z3 h m t se r).1=false→(Z3 h m t se r).2.2.2.thread=(t:Int)∧0≤(Z3 h m t se r).2.2.2.i∧(Z3 h m t se r).2.2.2.i<c.R):=by
 have hok:=C.ok
 obtain rfl:=C.hc
 have hw:=wok_active hok i0 i1 1
 unfold Z3
 simp only[]
 have hN:∀m',Core h.c (L+1) S N h a m'→Core h.c (L+1) S N (QK h m' t se r).2.1 a (QK h m' t se r).2.2.1∧(∀j,j≠t→(QK h m' t se r).2.1.held[j]? = h.held[j]?)∧((QK h m' t se r).1=false→(QK h m' t se r).2.2.2.thread=(t:Int)∧0≤(QK h m' t se r).2.2.2.i∧(QK h m' t se r).2.2.2.i<h.c.R):=by
  intro m' k
  unfold QK
  split
  ·exact⟨k,fun _ _=>rfl,fun _=>⟨ht,by simp only[];omega,by simp only[];omega⟩⟩
  ·exact⟨k.answer ..,fun _ _=>rfl,fun hf=>(by cases hf)⟩
 split
 ·split
  ·exact hN _ (C.load ..)
  ·exact⟨C.load ..,fun _ _=>rfl,fun _=>⟨ht,i0,i1⟩⟩
 ·split
  ·refine⟨((C.swap _ _ _ _ hw).answer ..).hold _ _ ⟨by omega,i1⟩,fun j hj=>set_ne (by rw[ht];simpa using hj),fun hf=>(by cases hf)⟩
  ·exact hN _ (C.swap _ _ _ _ hw)
theorem empty_inv {u:Unr}(C:Core c L S N h a m){t:Nat}(hu:u.thread=(t:Int))(ht:(t:Int)<c.T):UnI c (a.caches.getD t []) (Q8 a u):=by
 obtain⟨g1,g2,g3⟩:=C.cget (t:=(t:Int)) (by omega) ht
 rw[Yo]at g1 g2 g3
 have e:u.thread.toNat=t:=by omega
 unfold Q8 QG
 simp only[e]
 generalize a.caches.getD t []=x at g1 g2 g3 ⊢
 by_cases h0:x.length=0
 ·rw[if_pos h0]
  simp only[if_true]
  exact⟨.inr (.inr (.inr rfl)),fun hf=>by simp at hf,fun hf=>by simp at hf,fun hf=>by simp at hf⟩
 ·rw[if_neg h0]
  simp only[Yn,if_false]
  have hlt:x.length-1<x.length:=by omega
  have hm:x.getD (x.length-1) 0∈x:=by
   rw[Yb,Yd hlt];exact List.getElem_mem hlt
  exact⟨.inr (.inr (.inl rfl)),fun hf=>by simp at hf,fun hf=>by simp at hf,fun _=>⟨_,rfl,⟨(g3 _ hm).1,(g3 _ hm).2,.inl rfl,fun hf=>absurd rfl hf⟩,rfl,by omega⟩⟩
theorem flush_core {p:Psh}(C:Core c L S N h a m)(P:PInv c p){t:Nat}(hu:p.thread=(t:Int))(ht:(t:Int)<c.T)(hl:0<(a.caches.getD t []).length) :
  Core c (L+1) (S+1) N h (ZF a m p).2.1 (ZF a m p).2.2.1∧(∀j,j≠t→(ZF a m p).2.1.caches[j]? = a.caches[j]?) ∧
  ((ZF a m p).1=false→PInv c (ZF a m p).2.2.2∧(ZF a m p).2.2.2.thread=(t:Int)∧0<((ZF a m p).2.1.caches.getD t []).length):=by
 obtain⟨q1,q2,q3,q4⟩:=push_core C P
 obtain⟨g1,g2,g3⟩:=C.cget (t:=(t:Int)) (by omega) ht
 rw[Yo]at g1 g2 g3
 have hlt:=(List.getElem?_eq_some_iff.1 g1).1
 unfold ZF
 split
 ·rename_i hf
  refine⟨q1,fun j _=>by rw[q3],fun _=>⟨q2 hf,by rw[q4,hu],by rw[q3];exact hl⟩⟩
 ·have hx3:(Zi a m p).2.2.2.thread=p.thread:=q4
  have e:p.thread.toNat=t:=by omega
  simp only[e]
  generalize a.caches.getD t []=x at g1 g2 g3 hl ⊢
  have k2:Core c (L+1) (S+1) N h { (Zi a m p).2.1 with caches:=a.caches.set t (x.take (x.length-1)) } (Zi a m p).2.2.1:=by
   have:=q1.cache t (x.take (x.length-1)) (by simp only[List.length_take];omega) (fun z hz=>g3 z (List.mem_of_mem_take hz))
   rw[q3]at this
   exact this
  split
  ·exact⟨k2,fun j hj=>set_ne hj,fun hf=>(by cases hf)⟩
  ·refine⟨k2,fun j hj=>set_ne hj,fun _ => ?_⟩
   have hy:(x.take (x.length-1)).length=x.length-1:=by simp
   have hlt2:(x.take (x.length-1)).length-1<(x.take (x.length-1)).length:=by omega
   have hm:(x.take (x.length-1)).getD ((x.take (x.length-1)).length-1) 0∈x.take (x.length-1):=by
    rw[Yb,Yd hlt2];exact List.getElem_mem hlt2
   have hr:=g3 _ (List.mem_of_mem_take hm)
   refine⟨⟨hr.1,hr.2,.inl rfl,fun hf=>absurd rfl hf⟩,by rw[q4,hu],?_⟩
   simp only[Yb,Ye hlt]
   simp;omega
theorem unr_core {t:Nat}{u:Unr}(C:Core c L S N h a m)(hN:N<1000000)(ht:(t:Int)<c.T)(hu:u.thread=(t:Int))(hd:0≤h.held.getD t 0)(I:UnI c (a.caches.getD t []) u) :
  Core c (L+1) (S+66) N (Zz h a m u).2.1 (Zz h a m u).2.2.1 (Zz h a m u).2.2.2.1∧Fr t h (Zz h a m u).2.1 a (Zz h a m u).2.2.1 ∧
  ((Zz h a m u).1=false→(Zz h a m u).2.2.2.2.thread=(t:Int)∧0≤(Zz h a m u).2.1.held.getD t 0∧UnI c ((Zz h a m u).2.2.1.caches.getD t []) (Zz h a m u).2.2.2.2):=by
 have hok:=C.ok
 obtain rfl:=C.hc
 obtain⟨r1,_⟩:=C.hget ht
 obtain⟨i1,i2,i3,i4⟩:=I
 unfold Zz
 have e:u.thread.toNat=t:=by omega
 simp only[e]
 generalize hrc:h.held.getD t 0=rc at hd r1 ⊢
 by_cases s0:u.stage=0
 ·rw[if_pos s0]
  obtain⟨k0,k1⟩:=i2 s0
  have hz:=hz_adr hok hd r1 k0 k1
  have hb:=(ZB hok 9).1
  have hw:WOk h.c ((base h.c 9+rc*h.c.Hz+u.k).toNat:Int) 0:=wok_hz hok (by omega) (by omega) ⟨by omega,by have:=hok.S1;omega⟩
  have C1:=C.store _ (m.word (base h.c 9+rc*h.c.Hz+u.k).toNat) _ hw
  split
  ·rename_i hlt
   exact⟨C1.mono (by omega) (by omega) (by omega),.refl ..,fun _=>⟨hu,by rw[hrc];exact hd,⟨.inl s0,fun _=>⟨by simp only[];omega,hlt⟩,fun hf=>by simp only[s0]at hf;omega,fun hf=>by simp only[s0]at hf;omega⟩⟩⟩
  ·have hR:=ready_inv (s:=⟨u.thread,rc,6,0,false,fun _=>0,[],none⟩) C1 hd r1 (by simp only[];omega) (by simp only[];omega) rfl
   split
   ·exact⟨C1.mono (by omega) (by omega) (by omega),.refl ..,fun _=>⟨hu,by rw[hrc];exact hd,empty_inv C1 hu ht⟩⟩
   ·rename_i hf
    exact⟨C1.mono (by omega) (by omega) (by omega),.refl ..,fun _=>⟨hu,by rw[hrc];exact hd,⟨.inr (.inl rfl),fun hf=>by simp at hf,fun _=>⟨_,rfl,hR.1 (by simpa using hf),hR.2⟩,fun hf=>by simp at hf⟩⟩⟩
 rw[if_neg s0]
 by_cases s1:u.stage=1
 ·rw[if_pos s1]
  obtain⟨s,e1,e2,e3⟩:=i3 s1
  rw[e1]
  simp only[]
  have F:=scan_core C e2 hN
  generalize Zq h a m s=r at F ⊢
  obtain⟨f1,f2,f3,f4,f5⟩:=F
  have hfr:Fr t h r.2.1 a r.2.2.1:=⟨fun j _=>by rw[f3],fun j hj=>f4 j (by rw[e3,hu];simpa using hj)⟩
  split
  ·exact⟨f1,hfr,fun _=>⟨hu,by rw[f3,hrc];exact hd,empty_inv f1 hu ht⟩⟩
  ·rename_i hf
   exact⟨f1,hfr,fun _=>⟨hu,by rw[f3,hrc];exact hd,⟨.inr (.inl s1),fun hf=>by simp only[s1]at hf;omega,fun _=>⟨_,rfl,f2 (by simpa using hf),by rw[f5,e3]⟩,fun hf=>by simp only[s1]at hf;omega⟩⟩⟩
 rw[if_neg s1]
 by_cases s2:u.stage=2
 ·rw[if_pos s2]
  obtain⟨p,e1,e2,e3,e4⟩:=i4 s2
  rw[e1]
  simp only[]
  obtain⟨f1,f2,f3⟩:=flush_core C e2 (e3.trans hu) ht e4
  generalize ZF a m p=r at f1 f2 f3 ⊢
  refine⟨f1.mono (by omega) (by omega) (by omega),⟨fun _ _=>rfl,f2⟩,fun _=>⟨hu,by rw[hrc];exact hd,?_⟩⟩
  by_cases hf:r.1=true
  ·simp only[if_pos hf]
   exact⟨.inr (.inr (.inr rfl)),fun hf=>by simp at hf,fun hf=>by simp at hf,fun hf=>by simp at hf⟩
  ·simp only[if_neg hf]
   obtain⟨g1,g2,g3⟩:=f3 (by simpa using hf)
   exact⟨.inr (.inr (.inl rfl)),fun hf=>by simp at hf,fun hf=>by simp at hf,fun _=>⟨_,rfl,g1,g2.trans hu.symm,g3⟩⟩
 rw[if_neg s2]
 exact⟨((C.store _ _ _ (wok_active hok hd r1 0)).hold t (-1) ⟨by omega,by have:=hok.R1;omega⟩).mono (by omega) (by omega) (by omega),⟨fun j hj=>set_ne hj,fun _ _=>rfl⟩,fun hf=>(by cases hf)⟩
theorem read_core {i t:Nat}{x:Cll}{se:Sea}{r:Rdg}(C:Core c L S N h a m)(I:RdI c r) :
  Core c (L+1) S N h a (Z5 h m i t x se r).2.1∧((Z5 h m i t x se r).1=false→RdI c (Z5 h m i t x se r).2.2):=by
 have hok:=C.ok
 have hc:=C.hc
 obtain⟨i1,i2,i3,i4⟩:=I
 have hw:=(C.word (adr_lt14 hok).2).cell (by rw[Jc hok 2 (Int.le_refl 0)];simp)
 have hb:=(ZB hok 9).1
 have hS:∀m',Core c (L+1) S N h a m'→Core c (L+1) S N h a (Qy m' i t x se r (m.word (adr c 2 0))).2.1∧((Qy m' i t x se r (m.word (adr c 2 0))).1=false→RdI c (Qy m' i t x se r (m.word (adr c 2 0))).2.2):=by
  intro m' k
  unfold Qy
  split
  ·exact⟨(k.point ..).answer ..,fun hf=>(by cases hf)⟩
  ·exact⟨k,fun _=>⟨i1,i2,.inr (.inl rfl),fun _=>⟨by simp only[];omega,hw.2⟩⟩⟩
 unfold Z5
 rw[hc]
 simp only[]
 split
 ·exact hS _ (C.load ..)
 ·rename_i s0
  have hw2:=i4 s0
  split
  ·refine⟨C.store _ _ _ (wok_hz hok (by omega) (by omega) ⟨by omega,hw2.2⟩),fun _=>⟨i1,i2,.inr (.inr (.inl rfl)),fun _=>hw2⟩⟩
  ·split
   ·split
    ·exact⟨C.load ..,fun _=>⟨i1,i2,.inr (.inr (.inr rfl)),fun _=>hw2⟩⟩
    ·exact hS _ (C.load ..)
   ·exact⟨((C.load ..).point ..).answer ..,fun hf=>(by cases hf)⟩
theorem took_core {i t:Nat}{x:Cll}{se:Sea}{p:Pst}{k:Tak}(C:Core c L S N h a m)(hp:p.take=some k)(hk:Zg k = -1∨(0≤Zg k∧Zg k<c.Sl)) :
  Core c L S N h a (ZS m i t x se p k).2.1∧(ZS m i t x se p k).2.2.thread=p.thread∧((ZS m i t x se p k).1=false→PoI c (ZS m i t x se p k).2.2):=by
 unfold ZS
 split
 ·exact⟨(C.point ..).answer ..,rfl,fun hf=>(by cases hf)⟩
 ·exact⟨C,rfl,fun _=>⟨⟨k,hp,fun hf=>by simp at hf,fun _=>⟨by omega,by omega,rfl⟩⟩,.inr (.inl rfl),fun hf=>by simp at hf,fun hf=>by simp at hf⟩⟩
structure PostI (c:Cfg)(L S N:Nat)(t:Nat)(h:Haz)(a:Are)(r:Bool×Haz×Are×Mch×Pst):Prop where
 core:Core c L S N r.2.1 r.2.2.1 r.2.2.2.1
 held:r.2.1.held=h.held
 caches:∀j,j≠t→r.2.2.1.caches[j]? = a.caches[j]?
 fin:r.1=false→r.2.2.2.2.thread=(t:Int)∧PoI c r.2.2.2.2
theorem done_core {i t:Nat}{x:Cll}{se:Sea}{p:Pst}{k:Tak}{sl0:Int}(C:Core c L S N h a m)(ht:(t:Int)<c.T)(hp:p.take=some k)(hu:p.thread=(t:Int))(hd:0≤h.held.getD t 0)(hs:p.saw≤c.Sl) :
  PostI c L (S+3) (N+1) t h a (Ji h a m i t x se p sl0):=by
 unfold Ji
 simp only[]
 have C1:=(((C.point i x m.now).answer t se 1 0).ashift sl0.toNat m.thread 3).mshift sl0 (a.slots.getD sl0.toNat ⟨0,0⟩).state 3
 split
 ·exact⟨C1.mono (by omega) (by omega) (by omega),rfl,fun _ _=>rfl,fun hf=>(by cases hf)⟩
 ·rename_i hn
  have C2:=(C1.ashift (p.saw-1).toNat m.thread 4).mshift (p.saw-1) ((a.shift sl0.toNat m.thread 3).slots.getD (p.saw-1).toNat ⟨0,0⟩).state 4
  have R:=retire_core (r:=⟨p.thread,p.saw-1,none⟩) C2 (by simp only[];omega) (by simp only[];omega) (by simp only[];omega) (by simp only[];omega) (by simp only[hu,Yo];exact hd)
  generalize Zv h _ _ ⟨p.thread,p.saw-1,none⟩=r at R ⊢
  obtain⟨q1,q2,q3,q4⟩:=R
  refine⟨q1,q3,fun j _=>by rw[q4];rfl,fun hf => ?_⟩
  obtain⟨sc,e1,e2,e3⟩:=q2 hf
  exact⟨hu,⟨⟨k,hp,fun hf=>by simp at hf,fun hf=>by simp at hf⟩,.inr (.inr (.inr (.inr rfl))),fun hf=>by simp at hf,fun _=>⟨_,sc,rfl,e1,e2,e3⟩⟩⟩
theorem post_core {i t:Nat}{x:Cll}{se:Sea}{p:Pst}(C:Core c L S N h a m)(hN:N<1000000)(ht:(t:Int)<c.T)(hu:p.thread=(t:Int))(hd:0≤h.held.getD t 0)(I:PoI c p) :
  PostI c (L+1) (S+66) (N+1) t h a (ZT h a m i t x se p):=by
 have hok:=C.ok
 have hc:=C.hc
 obtain⟨⟨k,hk,k0,k1⟩,i2,i3,i4⟩:=I
 have hw:=(C.word (adr_lt14 hok).2).cell (by rw[Jc hok 2 (Int.le_refl 0)];simp)
 unfold ZT
 rw[hk,hc]
 simp only[]
 by_cases s0:p.stage=0
 ·rw[if_pos s0]
  obtain⟨e1,e2,e3,e4⟩:=take_core C (k0 s0)
  generalize Zp a m k=r at e1 e2 e3 e4 ⊢
  obtain⟨f1,f2,f3⟩:=took_core (i:=i) (t:=t) (x:=x) (se:=se) (p:={ p with take:=some r.2.2.2 }) e1 rfl e3
  split
  ·exact⟨f1.mono (by omega) (by omega) (by omega),rfl,fun j _=>by rw[e4],fun hf=>⟨f2.trans hu,f3 hf⟩⟩
  ·rename_i hf
   exact⟨e1.mono (by omega) (by omega) (by omega),rfl,fun j _=>by rw[e4],fun _=>⟨hu,⟨⟨_,rfl,fun _=>e2 (by simpa using hf),fun hf=>by simp only[s0]at hf;omega⟩,.inl s0,fun hf=>by simp only[s0]at hf;omega,fun hf=>by simp only[s0]at hf;omega⟩⟩⟩
 rw[if_neg s0]
 by_cases s1:p.stage=1
 ·rw[if_pos s1]
  obtain⟨g1,g2,g3⟩:=k1 (.inl s1)
  exact⟨(C.store _ _ _ (wok_value hok g1 g2 _)).mono (by omega) (by omega) (by omega),rfl,fun _ _=>rfl,fun _=>⟨hu,⟨⟨k,rfl,fun hf=>by simp at hf,fun _=>⟨g1,g2,g3⟩⟩,.inr (.inr (.inl rfl)),fun hf=>by simp at hf,fun hf=>by simp at hf⟩⟩⟩
 rw[if_neg s1]
 by_cases s2:p.stage=2
 ·rw[if_pos s2]
  obtain⟨g1,g2,g3⟩:=k1 (.inr (.inl s2))
  exact⟨(C.load _ _).mono (by omega) (by omega) (by omega),rfl,fun _ _=>rfl,fun _=>⟨hu,⟨⟨k,rfl,fun hf=>by simp at hf,fun _=>⟨g1,g2,g3⟩⟩,.inr (.inr (.inr (.inl rfl))),fun _=>hw,fun hf=>by simp at hf⟩⟩⟩
 rw[if_neg s2]
 by_cases s3:p.stage=3
 ·rw[if_pos s3]
  obtain⟨g1,g2,g3⟩:=k1 (.inr (.inr s3))
  have hz:WOk c (adr c 2 0) p.link:=wok_cell hok (by omega)
  have hsw:=i3 s3
  split
  ·have D:=done_core (i:=i) (t:=t) (x:=x) (se:=se) (p:=p) (sl0:=Zg k) (C.swap (adr c 2 0) (m.word (adr c 2 0)) p.saw p.link hz) ht hk hu hd hsw.2
   exact⟨D.core.mono (by omega) (by omega) (by omega),D.held,D.caches,D.fin⟩
  ·exact⟨(C.swap _ _ _ _ hz).mono (by omega) (by omega) (by omega),rfl,fun _ _=>rfl,fun _=>⟨hu,⟨⟨k,rfl,fun hf=>by simp at hf,fun _=>⟨g1,g2,g3⟩⟩,.inr (.inr (.inl rfl)),fun hf=>by simp at hf,fun hf=>by simp at hf⟩⟩⟩
 rw[if_neg s3]
 have s4:p.stage=4:=by rcases i2 with h|h|h|h|h<;>first|exact absurd h s0|exact absurd h s1|exact absurd h s2|exact absurd h s3|exact h
 obtain⟨r,sc,e1,e2,e3,e4⟩:=i4 s4
 rw[e1]
 simp only[e2]
 have F:=scan_core C e3 hN
 generalize Zq h a m sc=q at F ⊢
 obtain⟨f1,f2,f3,f4,f5⟩:=F
 refine⟨f1.mono (by omega) (by omega) (by omega),f3,fun j hj=>f4 j (by rw[e4,hu];simpa using hj),fun hf=>⟨hu,⟨⟨k,rfl,fun hf=>by simp only[s4]at hf;omega,fun hf=>by simp only[s4]at hf;omega⟩,.inr (.inr (.inr (.inr s4))),fun hf=>by simp only[s4]at hf;omega,fun _=>⟨_,_,rfl,rfl,f2 hf,by rw[f5,e4]⟩⟩⟩⟩
theorem step_core {i t:Nat}{x:Cll}{se:Sea}{k:Q3}(C:Core c L S N h a m)(hN:N<1000000)(ht:(t:Int)<c.T)(I:TI c t true (h.held.getD t 0) (a.caches.getD t []) k) :
  StI c (L+1) (S+66) (N+1) t h a (QA (h,a) m i t x se k):=by
 have hok:=C.ok
 cases k with
 | reg r=>
  obtain⟨i1,i2,i3⟩:=I
  obtain⟨f1,f2,f3⟩:=reg_core (se:=se) C i1 i2 i3
  exact⟨f1.mono (by omega) (by omega) (by omega),⟨f2,fun _ _=>rfl⟩,f3⟩
 | unr u=>
  obtain⟨i1,i2,i3⟩:=I
  obtain⟨f1,f2,f3⟩:=unr_core C hN ht i1 i2 i3
  exact⟨f1.mono (by omega) (by omega) (by omega),f2,f3⟩
 | rdg r=>
  obtain⟨f1,f2⟩:=read_core (i:=i) (t:=t) (x:=x) (se:=se) C I
  exact⟨f1.mono (by omega) (by omega) (by omega),.refl ..,f2⟩
 | clr ad=>
  obtain⟨i1,i2⟩:=I
  exact⟨(C.store _ _ _ (wok_hz hok i1 i2 ⟨by omega,by have:=hok.S1;omega⟩)).mono (by omega) (by omega) (by omega),.refl ..,fun hf=>(by cases hf)⟩
 | scn s=>
  obtain⟨i1,i2,i3⟩:=I
  have F:=scan_core C (i3 rfl) hN
  obtain⟨f1,f2,f3,f4,f5⟩:=F
  exact⟨f1.mono (by omega) (by omega) (by omega),⟨fun j _=>by simp only[QA];rw[f3],fun j hj=>f4 j (by rw[i1];simpa using hj)⟩,fun hf=>⟨by simp only[QA];rw[f5,i1],fun hf=>(by cases hf),fun _=>f2 hf⟩⟩
 | pst p=>
  obtain⟨i1,i2,i3,_⟩:=I
  obtain⟨f1,f2,f3,f4⟩:=post_core (i:=i) (x:=x) (se:=se) C hN ht i1 i2 (i3 rfl)
  exact⟨f1,⟨fun j _=>by simp only[QA];rw[f2],f3⟩,fun hf=>⟨(f4 hf).1,by simp only[QA];rw[f2];exact i2,fun _=>(f4 hf).2,fun hf=>(by cases hf)⟩⟩
end
end
section
open Go.RowKit
namespace Hp
structure Rd (A:Zb)(sz:Nat)(css:List (List Value))(v:Value):Prop where
 at_:(css=[]∧v=.slice none 0 0)∨∃a cap,css.length≤cap∧v=.slice (some a) css.length cap
 wf:∀c∈css,c.length=sz
 get:∀(O w:World) (F:Zb),Sat O w (A*F)→∀a n cap,v=.slice (some a) n cap→∀i c,css[i]? = some c→∀j x,c[j]? = some x→w.cell? ((a.add (i*sz)).add j)=some x
structure RAt (v:Value)(a:Addr):Prop where
 is:∃n cap,v=.slice (some a) n cap
section
variable {P:Program}{ops:Array Oper}{Q:Exit→Act→World→Prop}{w:World}{rest:List Oper}{O:World}{S R A:Zb}
variable {l:List Value}{ds:List Deferred}{T ty E:TypeId}{pos:String}{after:Array Edge}{gd:Option (Nat×Bool)}{d:Nat}{x y:Operand}{i sz n:Nat}{css:List (List Value)}{c:List Value}{v:Value}{a:Addr}
theorem Rd.len (h:Rd A sz css v):∃a cap,v=.slice a css.length cap:=by
 rcases h.at_ with⟨h1,h2⟩|⟨a,cap,_,h1⟩
 ·subst h1;exact⟨none,0,h2⟩
 ·exact⟨_,_,h1⟩
theorem wl_ir {kd:IntKind}{z:Int}{by_:Nat}(hr:Rd A sz css v)(h:SlcC P T E)(hE:ElC P E sz by_)(hx:ev l x=some v)(hy:ev l y=some (.int kd z))(hz:z=(i:Int))(hi:i<css.length)
  (hg:Region.wanted { dst:=some d,op:=.indexAddr T x y,type:=ty,pos,after,guard:=gd } (yielded ops l.toArray)=true)
  (kk:∀a,RAt v a→wpList P ops Q rest ⟨(l.set d (.pointer (some (a.add (i*sz))))).toArray,ds⟩ w) :
  wpList P ops Q ({ dst:=some d,op:=.indexAddr T x y,type:=ty,pos,after,guard:=gd }::rest) ⟨l.toArray,ds⟩ w:=by
 rcases hr.at_ with⟨h1,_⟩|⟨a,cap,_,e⟩
 ·subst h1;simp at hi
 refine Qa (v:=.pointer (some (a.add (i*sz)))) hg ?_ (ZK▸kk a ⟨_,_,e⟩)
 have h1:(0:Int)≤z∧z<(css.length:Int):=by omega
 have h2:z.toNat=i:=by omega
 subst e
 simp only[execOp,Zk hx,Zk hy,Instr.indexAt,asIntOf,Sem.run_bind,Sem.run_pure,Result.andThen_ok,run_underlying h.is,if_pos h1,h2,Z2 hE.size]
theorem wl_lr (hs:Sat O w S)(hr:Rd A sz css v)(h:AggC P T sz)(ha:RAt v a)(hx:ev l x=some (.pointer (some (a.add (i*sz)))))(hp:Pull S A R)(hi:css[i]? = some c)
  (hg:Region.wanted { dst:=some d,op:=.load T x,type:=ty,pos,after,guard:=gd } (yielded ops l.toArray)=true)
  (kk:wpList P ops Q rest ⟨(l.set d (.agg c.toArray)).toArray,ds⟩ w):wpList P ops Q ({ dst:=some d,op:=.load T x,type:=ty,pos,after,guard:=gd }::rest) ⟨l.toArray,ds⟩ w:=by
 refine Qa (v:=.agg c.toArray) hg ?_ (ZK▸kk)
 obtain⟨n,cap,e⟩:=ha.is
 have hl:=hr.wf c (Yc hi)
 have:=run_loadCells_list (P:=P) (w:=w) (a.add (i*sz)) c (fun j x hj=>hr.get O w R (hs.pull hp) a n cap e i c hi j x hj)
 rw[hl]at this
 simp only[execOp,Zk hx,Instr.loadAt,Instr.sureAddr,loadVar,Sem.run_bind,Sem.run_pure,Result.andThen_ok,run_isAgg h.agg,Z2 h.size,if_true,this]
theorem rd_reH {kd:IntKind}{zz:Int}{by_:Nat}(hr:Rd A sz css v)(h:SlcC P T E)(hE:ElC P E sz by_)(hx:ev l x=some v)(hy:ev l y=some (.int kd zz))(hz:zz=(i:Int))(hi:i≤css.length)
  (hg:Region.wanted { dst:=some d,op:=.slice T x none (some y) none,type:=ty,pos,after,guard:=gd } (yielded ops l.toArray)=true)
  (kk:wpList P ops Q rest ⟨(l.set d (resH v i)).toArray,ds⟩ w) :
  wpList P ops Q ({ dst:=some d,op:=.slice T x none (some y) none,type:=ty,pos,after,guard:=gd }::rest) ⟨l.toArray,ds⟩ w:=by
 refine Qa (v:=resH v i) hg ?_ (ZK▸kk)
 have h2:zz.toNat=i:=by omega
 rcases hr.at_ with⟨hc,hv⟩|⟨a,cap,g2,hv⟩
 ·subst hv;subst hc
  have hi0:i=0:=by simpa using hi
  have hz0:zz=0:=by omega
  subst hi0;subst hz0
  simp[execOp,Zk hx,Zk hy,Instr.sliceAt,Instr.slice,Instr.sliceBounds,Instr.sliceBound,asIntOf,run_underlying h.is,Z2 hE.size,resH]
 ·subst hv
  have h1:(0:Int)≤zz∧zz≤(cap:Int):=by omega
  simp[execOp,Zk hx,Zk hy,Instr.sliceAt,Instr.slice,Instr.sliceBounds,Instr.sliceBound,asIntOf,run_underlying h.is,Z2 hE.size,resH,h1,h2,Addr.add]
theorem Rd.resH (h:Rd A sz css v)(hi:i≤css.length):Rd A sz (css.take i) (Hp.resH v i):=by
 have hl:(css.take i).length=i:=by simp;omega
 refine⟨?_,fun c hc=>h.wf c (List.mem_of_mem_take hc),?_⟩
 ·rcases h.at_ with⟨h1,h2⟩|⟨a,cap,hc,h1⟩
  ·subst h1;subst h2
   have:i=0:=by simpa using hi
   subst this
   exact .inl ⟨rfl,rfl⟩
  ·subst h1
   exact .inr ⟨a,cap,by rw[hl];omega,by rw[hl];rfl⟩
 ·intro O w F hs a n cap e j c hj
  rcases h.at_ with⟨h1,h2⟩|⟨a',cap',hc,h1⟩
  ·subst h1;simp at hj
  ·subst h1
   injection e with e _ _
   injection e with e
   subst e
   refine h.get O w F hs a' _ _ rfl j c ?_
   rw[List.getElem?_take]at hj
   split at hj
   ·exact hj
   ·cases hj
end
theorem rd_pt {b off cap:Nat}{cs:List Value}{E:TypeId}{fr:Nat×Nat}{sz:Nat}{css:List (List Value)}{pre post:List Value}(hcs:cs=pre++css.flatten++post)(hpre:pre.length=off)(hw:∀c∈css,c.length=sz)(hpos:0<sz)(hcap:css.length≤cap) :
  Rd (pt b (.cells cs.toArray E fr)) sz css (.slice (some ⟨b,off,none⟩) css.length cap):=by
 refine⟨.inr ⟨_,_,hcap,rfl⟩,hw,?_⟩
 intro O w F hs a n cap' e i c hi j x hj
 injection e with e1 e2 e3
 injection e1 with e1
 subst e1
 have hb:=hs.block
 have hflen:∀css:List (List Value),(∀c∈css,c.length=sz)→∀i c,css[i]? = some c→∃L Rr,css.flatten=L++c++Rr∧L.length=i*sz:=by
  intro css hw i c hi
  obtain⟨h1,h2⟩:=split_at hi
  refine⟨(css.take i).flatten,(css.drop (i+1)).flatten,?_,?_⟩
  ·conv=>lhs;rw[h1]
   simp
  ·have:∀l:List (List Value),(∀c∈l,c.length=sz)→l.flatten.length=l.length*sz:=by
    intro l hl
    induction l with
    | nil=>simp
    | cons c r ih=>
     simp only[List.flatten_cons,List.length_append,List.length_cons,Nat.add_mul,Nat.one_mul]
     rw[ih (fun x hx=>hl x (by simp[hx])),hl c (by simp)];omega
   rw[this _ (fun c hc=>hw c (List.mem_of_mem_take hc)),h2]
 obtain⟨L,Rr,g1,g2⟩:=hflen css hw i c hi
 have hjl:=(List.getElem?_eq_some_iff.1 hj).1
 rw[Addr.add_lit,Addr.add_mid]
 rw[cell_of_row w b (off+i*sz+j) cs.toArray E fr hb]
 have e2:cs=(pre++L)++(c++(Rr++post)):=by rw[hcs,g1];simp
 show cs.toArray[off+i*sz+j]? = some x
 rw[List.getElem?_toArray,e2,List.getElem?_append_right (by simp[hpre,g2]),List.getElem?_append_left (by simp[hpre,g2];omega)]
 have:off+i*sz+j-(pre++L).length=j:=by simp[hpre,g2]
 rw[this];exact hj
end Hp
end
section
open Go.RowKit Hp
set_option maxRecDepth 100000
set_option maxHeartbeats 1000000
attribute [local irreducible] Go.Calls
theorem base14_le {c:Cfg}(h:c.Ok):base c 14≤8192:=by
 have e1:base c 14=base c 13+c.Sl:=rfl
 have e2:base c 13=base c 12+c.Sl:=rfl
 have e3:base c 12=base c 11+c.Sl:=rfl
 have e4:base c 11=base c 10+c.Sl:=rfl
 have e5:base c 10=base c 9+c.R*c.Hz:=rfl
 have e6:base c 9=base c 8+c.R:=rfl
 have e7:base c 8=base c 7+c.Bu:=rfl
 have e8:base c 7=6:=by simp[base,many]
 have:=h.rh.2
 have:=h.R2;have:=h.B2;have:=h.S2
 omega
abbrev HW:=Wst (Haz×Are) Q3
def wst0 (c:Cfg)(km:Nat)(vs:Value):HW:=⟨(haz0 c,are0 c),mch0 c.T.toNat (Ja c 0) (.map (some km)) vs,List.replicate c.T.toNat none⟩
theorem tsk_nones {τ:Type}{R:τ→Value→Zb}{O w:World}{F:Zb}(hs:Sat O w F):∀n,Sat O w (tskR R (List.replicate n none) (List.replicate n sea0)*F)
 | 0=>by simp only[List.replicate_zero,tskR,Em];exact hs
 | n+1=>by
  simp only[List.replicate_succ,tskR,Ma,Zw]
  exact⟨trivial,tsk_nones hs n⟩
theorem does_sl {P:Program}{f:FuncId}{args:Array Value}{E:TypeId}{sz:Nat}{css:List (List Value)}{v:Value}{B:Value→Zb}(h:∀A,Rd A sz css v→Does P f args A (fun u=>B u*A)) :
  Does P f args (sl E sz css v) (fun u=>B u*sl E sz css v):=by
 intro O w F hs
 obtain⟨hw,⟨rfl,rfl,hs1⟩|⟨b,off,cap,pre,post,rfl,h1,h2,h3,hs1⟩⟩:=Qr.1 hs
 ·have hR:Rd emp sz [] (.slice none 0 0):=⟨.inl ⟨rfl,rfl⟩,by simp,by simp⟩
  refine(h emp hR O w F (hs1.cast (Em _).symm)).mono ?_
  rintro e w' ⟨u,he,hs'⟩
  refine⟨u,he,?_⟩
  have hs2:Sat O w' (B u*F):=hs'.cast (by simp only[mul_emp])
  exact(Q9 (E:=E) hs2 hw.pos).cast (by ac_rfl)
 ·have hR:Rd (pt b (.cells (pre++css.flatten++post).toArray E)) sz css (.slice (some ⟨b,off,none⟩) css.length cap):=rd_pt rfl h1 (fun c hc=>(hw.wf c hc).1) hw.pos h2
  refine(h _ hR O w F hs1).mono ?_
  rintro e w' ⟨u,he,hs'⟩
  refine⟨u,he,?_⟩
  have hs2:Sat O w' (pt b (.cells (pre++css.flatten++post).toArray E)*(B u*F)):=hs'.cast (by ac_rfl)
  exact(Qr.2 ⟨hw,.inr ⟨b,off,cap,pre,post,rfl,h1,h2,h3,hs2⟩⟩).cast (by ac_rfl)
end
section
open Go.RowKit Hp
set_option maxRecDepth 100000
set_option maxHeartbeats 1000000
attribute [local irreducible] Go.Calls
section
variable {c:Cfg}{L S N:Nat}{h:Haz}{a:Are}{m:Mch}
theorem okr_of {t:Nat}{k:Q3}(C:Core c L S N h a m)(hu:m.used=false)(hL:L<4294967296)(hS:S<1000000000)(hN:N<1000000)(ht:(t:Int)<c.T)(I:TI c t false (h.held.getD t 0) (a.caches.getD t []) k):htOkr (h,a) m t k:=by
 have hz:=C.haz hu hL hS hN
 have hc:=C.hc
 cases k with
 | pst p=>obtain⟨i1,_⟩:=I;exact⟨hz,by omega,by rw[hc];omega⟩
 | scn s=>obtain⟨i1,i2,_⟩:=I;obtain⟨r0,r1,_⟩:=i2 rfl;exact⟨hz,r0,by rw[hc];exact r1⟩
 | reg r=>trivial
 | unr r=>trivial
 | rdg r=>trivial
 | clr r=>trivial
theorem oks_of {t:Nat}{k:Q3}(C:Core c L S N h a m)(hu:m.used=false)(hL:L<4294967296)(hS:S<1000000000)(hN:N<1000000)(ht:(t:Int)<c.T)(I:TI c t true (h.held.getD t 0) (a.caches.getD t []) k):htOks (h,a) m t k:=by
 have hz:=C.haz hu hL hS hN
 have hc:=C.hc
 have hok:=C.ok
 have hS2:=hok.S2
 have hC2:=hok.C2
 cases k with
 | reg r=>obtain⟨i1,i2,i3⟩:=I;exact⟨hz,by omega,by rw[hc];omega,i2,by rw[hc];exact i3⟩
 | unr u=>
  obtain⟨i1,i2,i3,i4,i5,i6⟩:=I
  refine⟨hz,by omega,by rw[hc];omega,by rw[i1];simpa using i2,i3,by rw[hc];exact i4,fun h1 => ?_,fun h2 => ?_⟩
  ·obtain⟨s,e1,e2,e3⟩:=i5 h1
   have F:=scan_core C e2 hN
   have g:=F.core.cget (t:=u.thread) (by omega) (by omega)
   exact⟨s,e1,e2.ok C hu hL hS hN,_,g.1,by have:=g.2.1;omega⟩
  ·obtain⟨p,e1,e2,e3,e4⟩:=i6 h2
   have g:=C.cget (t:=u.thread) (by omega) (by omega)
   exact⟨p,e1,e2.pok C hu hL hS,e3,_,g.1,by have:=g.2.1;omega,by rw[i1];simpa using e4⟩
 | pst p=>
  obtain⟨i1,i2,i3,_⟩:=I
  obtain⟨⟨k,hk,k0,k1⟩,j2,j3,j4⟩:=i3 rfl
  refine⟨k,hz,by omega,by rw[hc];omega,by rw[i1];simpa using i2,hk,j2,fun h0 => ?_,fun h1 => ?_,fun h3=>by rw[hc];exact j3 h3,fun h3 => ?_,fun h4 => ?_⟩
  ·have e:=(take_core C (k0 h0)).2.2.1
   show TakeOk a m k∧Zg (Zp a m k).2.2.2≤2147483646 ∧ -1≤Zg (Zp a m k).2.2.2
   exact⟨(k0 h0).ok C hu hL hS hN,by omega,by omega⟩
  ·have:=k1 (by omega)
   rw[hc];exact⟨this.1,this.2.1⟩
  ·have:=k1 (by omega)
   rw[hc];omega
  ·obtain⟨r,sc,e1,e2,e3,e4⟩:=j4 h4
   exact⟨r,sc,e1,e2,e3.ok C hu hL hS hN⟩
 | rdg r=>
  obtain⟨i1,i2,i3,i4⟩:=I
  have hb:=bases hok
  have hb9:=(ZB hok 9).1
  refine⟨hz,i3,by omega,?_,fun h3=>(i4 (by omega)).1,fun h3=>by rw[hc];exact(i4 (by omega)).2⟩
  rw[C.words]
  obtain⟨b1,b2,b8,b9,b10,b11,b12,b13,b14,rh,rh2⟩:=hb
  have:=hok.S1
  omega
 | clr ad=>
  obtain⟨i1,i2⟩:=I
  have hb:=bases hok
  have hl:=C.log
  have ha:=C.ahead
  refine⟨hu,?_,by omega,by omega⟩
  rw[C.words]
  obtain⟨b1,b2,b8,b9,b10,b11,b12,b13,b14,rh,rh2⟩:=hb
  have:=hok.S1
  omega
 | scn s=>exact(I.2.2 rfl).ok C hu hL hS hN
end
structure PI (c:Cfg)(n:Nat)(y:HW):Prop where
 cur:y.m.cur=none
 moves:y.m.moves=(n:Int)
 core:Core c n (100*n) n y.s.1 y.s.2 y.m
 tasks:y.tasks.length=c.T.toNat
 seats:y.m.seats.length=c.T.toNat
 calls:y.m.calls.length≤n
 task:∀(t:Nat) (k:Q3) (se:Sea),y.tasks[t]? = some (some k)→y.m.seats[t]? = some se→(∃i:Nat,se.last=(i:Int)∧i<y.m.calls.length)∧TI c t se.ready (y.s.1.held.getD t 0) (y.s.2.caches.getD t []) k
/-! ## the beginning -/
theorem fill_wok {c:Cfg}(hok:c.Ok){ws:List Int}(hw:∀(k:Nat) (u:Int),ws[k]? = some u→WOk c k u):∀n:Nat,(n:Int)+1≤c.Sl→∀(k:Nat) (u:Int),(QU ws (base c 10) 0 n)[k]? = some u→WOk c k u
 | 0,_,k,u,h=>hw k u h
 | n+1,hn,k,u,h=>by
  simp only[QU]at h
  have hb:=(ZB hok 10).1
  by_cases hk:(base c 10+((0+n:Nat):Int)).toNat=k
  ·subst hk
   rw[List.getElem?_set_self']at h
   cases hg:(QU ws (base c 10) 0 n)[(base c 10+((0+n:Nat):Int)).toNat]? with
   | none=>rw[hg]at h;simp at h
   | some w=>
    rw[hg]at h;simp at h;subst h
    have:=wok_next hok (i:=((0+n:Nat):Int)) (by omega) (by omega) (u:=((n:Int)+2)) ⟨by omega,by omega⟩
    simpa[adr] using this
  ·rw[Yf hk]at h
   exact fill_wok hok hw n (by omega) k u h
theorem first_wok {c:Cfg}(hok:c.Ok)(k:Nat)(u:Int)(h:(Ja c 0)[k]? = some u):WOk c k u:=by
 have hS1:=hok.S1
 simp only[Ja]at h
 rw[if_neg (by omega),if_pos (by show((0:Nat):Int)<c.Sl;omega)]at h
 refine fill_wok hok ?_ (c.Sl.toNat-1-0) (by omega) k u h
 intro k u h
 by_cases hk:k=0
 ·subst hk
  have h0:u=1:=by
   rw[List.getElem?_set_self']at h
   cases hg:(List.replicate (base c 14).toNat (0:Int))[0]? with
   | none=>rw[hg]at h;simp at h
   | some w=>rw[hg]at h;simp at h;exact h.symm
  subst h0
  have:=wok_head hok (u:=1) ⟨by omega,by omega,by omega⟩
  simpa[adr,base] using this
 ·rw[Yf (by omega)]at h
  have h0:u=0:=by
   have:=Yc h
   exact(List.mem_replicate.1 this).2
  subst h0
  exact⟨fun _=>⟨by omega,by omega,by omega⟩,fun _=>⟨by omega,by omega⟩,fun _ _=>⟨by omega,by omega⟩,fun _ _=>⟨by omega,by omega⟩,fun _=>⟨by omega,by omega⟩,fun _ _=>⟨by omega,by omega⟩⟩
theorem tot_nils:∀n,tot (List.replicate n [])=0
 | 0=>rfl
 | n+1=>by simp only[List.replicate_succ,tot,tot_nils n,List.length_nil]
theorem PI.start {c:Cfg}(hok:c.Ok)(km:Nat)(vs:Value):PI c 0 (wst0 c km vs):=by
 have h1:=hok.R1
 have h2:=hok.C1
 refine⟨rfl,rfl,⟨hok,rfl,rfl,firstW_len c 0,first_wok hok,by simp[wst0,mch0],by simp[wst0,mch0],by simp[wst0,mch0],by simp[wst0,are0],by simp[wst0,haz0],?_,by simp[wst0,haz0],by simp[wst0,haz0,tot_nils],?_,by simp[wst0,are0],?_,?_⟩,by simp[wst0],by simp[wst0,mch0],by simp[wst0,mch0],?_⟩
 ·intro r hr
  have:=(List.mem_replicate.1 hr).2
  subst this
  omega
 ·intro l hl z hz
  have:=(List.mem_replicate.1 hl).2
  subst this
  simp at hz
 ·intro x hx
  have:=(List.mem_replicate.1 hx).2
  subst this
  simpa using h2
 ·intro x hx z hz
  have:=(List.mem_replicate.1 hx).2
  subst this
  simp at hz
 ·intro t k se hk
  simp only[wst0,List.getElem?_replicate]at hk
  split at hk<;>simp at hk
end
end Go.Proofs.YtefjbdajgakgpaaGreat
