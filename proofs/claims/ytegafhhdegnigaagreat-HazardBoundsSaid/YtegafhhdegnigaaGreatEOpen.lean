/-
  HazardBounds: how many slots are in a state; what a step does to the words that calls wait for.
-/
import Derived.Test.YtegafhhdegnigaaGreatEAln2
set_option linter.all false
namespace Go.Proofs.YtegafhhdegnigaaGreat
open Go.RowKit Hp
set_option maxRecDepth 100000
set_option maxHeartbeats 1000000
attribute [local irreducible] Go.Calls
section
def cN (k:Int):List Slt→Int
 | []=>0
 | x::r=>(if x.state=k then 1 else 0)+cN k r
theorem cN_nn (k:Int):∀l,0≤cN k l∧cN k l≤(l.length:Int)
 | []=>by simp[cN]
 | x::r=>by
  have:=cN_nn k r
  simp only[cN,List.length_cons]
  split<;>omega
theorem cN_set (k:Int):∀(l:List Slt) (i:Nat) (x:Slt),i<l.length→cN k (l.set i x)+(if (l.getD i ⟨0,0⟩).state=k then 1 else 0)=cN k l+(if x.state=k then 1 else 0)
 | [],i,x,h=>by simp at h
 | a::r,0,x,_=>by simp only[Uz,cN,List.getD_cons_zero];omega
 | a::r,i+1,x,h=>by
  have:=cN_set k r i x (by simpa using h)
  simp only[Uc,cN,List.getD_cons_succ]
  omega
theorem cN_out {k:Int}{l:List Slt}{i:Nat}{x:Slt}(h:¬i<l.length):cN k (l.set i x)=cN k l:=by
 rw[List.set_eq_of_length_le (by omega)]
def c5 (a:Are):Int:=cN 5 a.slots
theorem c5_no (a:Are)(i:Nat)(th:Int){to:Int}(h:to≠5):c5 (a.shift i th to)≤c5 a:=by
 unfold c5 Are.shift
 by_cases hl:i<a.slots.length
 ·have:=cN_set 5 a.slots i ⟨to,if to=0∨to=3 then -1 else th⟩ hl
  by_cases h5:(a.slots.getD i ⟨0,0⟩).state=5
  ·simp only[if_neg h,if_pos h5]at this;simp only[];omega
  ·simp only[if_neg h,if_neg h5]at this;simp only[];omega
 ·simp only[cN_out hl];omega
theorem c5_off (a:Are){i:Nat}(th:Int){to:Int}(h:to≠5)(hl:i<a.slots.length)(h5:(a.slots.getD i ⟨0,0⟩).state=5):c5 (a.shift i th to)+1≤c5 a:=by
 unfold c5 Are.shift
 have:=cN_set 5 a.slots i ⟨to,if to=0∨to=3 then -1 else th⟩ hl
 simp only[if_neg h,if_pos h5]at this
 simp only[];omega
theorem c5_up (a:Are)(i:Nat)(th to:Int):c5 (a.shift i th to)≤c5 a+1:=by
 unfold c5 Are.shift
 by_cases hl:i<a.slots.length
 ·have:=cN_set 5 a.slots i ⟨to,if to=0∨to=3 then -1 else th⟩ hl
  by_cases h5:(a.slots.getD i ⟨0,0⟩).state=5<;>by_cases h6:to=5
  ·simp only[if_pos h6,if_pos h5]at this;simp only[];omega
  ·simp only[if_neg h6,if_pos h5]at this;simp only[];omega
  ·simp only[if_pos h6,if_neg h5]at this;simp only[];omega
  ·simp only[if_neg h6,if_neg h5]at this;simp only[];omega
 ·simp only[cN_out hl];omega
def Hc (c:Cfg)(m m':Mch):Prop:=m'.word (adr c 1 0)=m.word (adr c 1 0)∧m'.word (adr c 2 0)=m.word (adr c 2 0)
section
variable {t:Nat}{c:Cfg}{L S N:Nat}{h:Haz}{a:Are}{m m' m'':Mch}
theorem Hc.refl (m:Mch):Hc c m m:=⟨rfl,rfl⟩
theorem Hc.trans (h1:Hc c m m')(h2:Hc c m' m''):Hc c m m'':=⟨h2.1.trans h1.1,h2.2.trans h1.2⟩
theorem Hc.of (h:m'.mem.words=m.mem.words):Hc c m m':=by unfold Hc Mch.word;rw[h];exact⟨rfl,rfl⟩
theorem Hc.set {A:Nat}{z:Int}(h:m'.mem.words=m.mem.words.set A z)(h1:A≠adr c 1 0)(h2:A≠adr c 2 0):Hc c m m':=by
 unfold Hc Mch.word
 rw[h]
 simp only[Yb]
 rw[Yf h1,Yf h2]
 exact⟨rfl,rfl⟩
theorem Hc.load (j:Nat):Hc c m (m.load j (m.word j)):=.of rfl
theorem Hc.store {A:Nat}(z:Int)(h:A≠adr c 1 0∧A≠adr c 2 0):Hc c m (m.store A (m.word A) z):=.set rfl h.1 h.2
theorem Hc.swap {A:Nat}(o z:Int)(h:A≠adr c 1 0∧A≠adr c 2 0):Hc c m (m.swap A (m.word A) o z):=by
 by_cases e:m.word A=o
 ·exact .set (z:=z) (by simp only[Mch.swap];rw[if_pos e]) h.1 h.2
 ·exact .of (by simp only[Mch.swap];rw[if_neg e])
theorem Hc.fail {A:Nat}{o z:Int}(h:m.word A≠o):Hc c m (m.swap A (m.word A) o z):=.of (by simp only[Mch.swap];rw[if_neg h])
theorem farA (hc:c.Ok){r:Nat}{z:Int}(h1:r=8∨r=9∨r=10∨r=11)(h0:0≤z):adr c r z≠adr c 1 0∧adr c r z≠adr c 2 0:=by
 have e:=QP hc r h0
 have e1:=QP hc 1 (Int.le_refl 0)
 have e2:=QP hc 2 (Int.le_refl 0)
 obtain⟨b1,b2,b8,b9,b10,b11,b12,b13,b14,rh,rh2⟩:=Qx hc
 have:=hc.S1
 have:=hc.R1
 rcases h1 with rfl|rfl|rfl|rfl<;>omega
theorem far9 (hc:c.Ok){A:Nat}(h0:base c 9≤(A:Int)):A≠adr c 1 0∧A≠adr c 2 0:=by
 have e1:=QP hc 1 (Int.le_refl 0)
 have e2:=QP hc 2 (Int.le_refl 0)
 obtain⟨b1,b2,b8,b9,b10,b11,b12,b13,b14,rh,rh2⟩:=Qx hc
 have:=hc.S1
 have:=hc.R1
 omega
def Dn (c:Cfg)(m:Mch)(a:Are)(m':Mch)(a':Are)(d:Int):Prop:=c5 a'+d+1≤c5 a∨(c5 a'+d≤c5 a∧Hc c m m')
theorem Dn.quiet {a':Are}{d:Int}(h1:a'.slots=a.slots)(h2:Hc c m m')(h3:d≤0):Dn c m a m' a' d:=.inr ⟨by unfold c5;rw[h1];omega,h2⟩
theorem Dn.mono {a':Are}{d d':Int}(h:Dn c m a m' a' d)(hd:d'≤d):Dn c m a m' a' d':=by
 rcases h with h|⟨h,h2⟩
 ·exact .inl (by omega)
 ·exact .inr ⟨by omega,h2⟩
theorem push_q {p:Psh}(k:Core c L S N h a m)(I:PInv c p):((Za a m p).1=false∧(Za a m p).2.1=a∧Hc c m (Za a m p).2.2.1)∨((Za a m p).1=true∧(Za a m p).2.1=a.shift p.slot.toNat m.thread 0):=by
 obtain⟨p1,p2,p3,p4⟩:=I
 have hac:=k.ac
 unfold Za
 rw[hac]
 split
 ·exact .inl ⟨rfl,rfl,.load _⟩
 ·split
  ·exact .inl ⟨rfl,rfl,.store _ (farA k.ok (.inr (.inr (.inl rfl))) p1)⟩
  ·simp only[]
   split
   ·exact .inr ⟨rfl,rfl⟩
   ·rename_i hw
    exact .inl ⟨rfl,rfl,.fail hw⟩
theorem free_q (th:Int):∀(pend:List Int) (g:Option Psh) (a:Are) (m:Mch),c5 (Zu th pend g a m).2.2.2.1≤c5 a∧Hc c m (Zu th pend g a m).2.2.2.2
 | [],g,a,m=>⟨Int.le_refl _,.refl _⟩
 | s::r,g,a,m=>by
  unfold Zu
  unfold Zy
  simp only[]
  split
  ·simp only[Yn,if_false]
   exact⟨Int.le_refl _,.refl _⟩
  ·simp only[if_true]
   obtain⟨h1,h2⟩:=free_q th r (some { slot:=s,at_:=0,head:=0,thread:=th }) ({ a with caches:=a.caches.set th.toNat (a.caches.getD th.toNat []++[s]) }.shift s.toNat m.thread 1) (m.shift s (a.slots.getD s.toNat ⟨0,0⟩).state 1)
   refine⟨Int.le_trans h1 ?_,(Hc.of rfl).trans h2⟩
   exact c5_no { a with caches:=a.caches.set th.toNat (a.caches.getD th.toNat []++[s]) } _ _ (by omega)
theorem scan_q {s:Scn}(C:Core c L S N h a m)(I:ScI c s)(hst:∀p,s.stage=5→s.give=some p→p.slot.toNat<a.slots.length∧(a.slots.getD p.slot.toNat ⟨0,0⟩).state=5):Dn c m a (Zf h a m s).2.2.2.1 (Zf h a m s).2.2.1 0:=by
 have hok:=C.ok
 have hac:=C.ac
 obtain rfl:=C.hc
 obtain⟨i1,i2,i3,i4,i5,i6,i7,i8,i9⟩:=I
 unfold Zf
 by_cases s0:s.stage=0
 ·rw[if_pos s0]
  unfold QH
  simp only[]
  split<;>exact .quiet rfl (.load _) (by omega)
 rw[if_neg s0]
 by_cases s1:s.stage=1
 ·rw[if_pos s1]
  obtain⟨a0,a1,a2⟩:=i6 (by omega)
  unfold Qm
  simp only[]
  split<;>exact .quiet rfl (.swap _ _ (farA hok (.inl rfl) a0)) (by omega)
 rw[if_neg s1]
 by_cases s2:s.stage=2
 ·rw[if_pos s2]
  obtain⟨a0,a1,a2⟩:=i6 (by omega)
  exact .quiet rfl (.store _ (farA hok (.inl rfl) a0)) (by omega)
 rw[if_neg s2]
 by_cases s3:s.stage=3
 ·rw[if_pos s3]
  unfold Qo
  dsimp only
  split
  ·exact .quiet rfl (.load _) (by omega)
  ·simp only[Z2,Qf]
   obtain⟨h1,h2⟩:=free_q (c:=h.c) s.thread (s.pending++(h.lists.getD s.record.toNat []).filter (Z3 (Qa s.named (m.word (base h.c 9+s.at_).toNat-1)))) s.give a (m.load (base h.c 9+s.at_).toNat (m.word (base h.c 9+s.at_).toNat))
   exact .inr ⟨by omega,(Hc.load _).trans h2⟩
 rw[if_neg s3]
 obtain⟨p,p1,p2,p3,p4⟩:=i9 (by omega)
 rw[p1]
 simp only[]
 obtain⟨q1,q2⟩:=hst p (by omega) p1
 unfold Qp
 simp only[]
 rcases push_q C p2 with⟨e1,e2,e3⟩|⟨e1,e2⟩
 ·rw[if_neg (by rw[e1];simp)]
  exact .quiet (by simp only[e2]) e3 (by omega)
 ·rw[if_pos e1]
  obtain⟨h1,_⟩:=free_q (c:=h.c) s.thread s.pending (some (Za a m p).2.2.2) (Za a m p).2.1 (Za a m p).2.2.1
  have h2:=c5_off a m.thread (to:=0) (by omega) q1 q2
  rw[←e2]at h2
  exact .inl (by simp only[];omega)
def sk (c:Cfg)(ca:Int):Zz→Int
 | .pst p=>if p.stage=0 then 3 else if p.stage=4 then 0 else 2
 | .unr u=>if u.stage=0∨u.stage=1 then c.Ca else if u.stage=2 then ca else 0
 | _=>0
def skU (c:Cfg)(ca:Int)(u:Unr):Int:=if u.stage=0∨u.stage=1 then c.Ca else if u.stage=2 then ca else 0
theorem skU_le {ca:Int}{u:Unr}(h0:0≤c.Ca)(h:ca≤c.Ca):skU c ca u≤c.Ca:=by
 unfold skU
 split
 ·omega
 ·split<;>omega
theorem unr_q {u:Unr}(C:Core c L S N h a m)(ht:(t:Int)<c.T)(hu:u.thread=(t:Int))(hd:0≤h.held.getD t 0)(I:UnI c (a.caches.getD t []) u)
  (hst:∀s p,u.stage=1→u.scan=some s→s.stage=5→s.give=some p→p.slot.toNat<a.slots.length∧(a.slots.getD p.slot.toNat ⟨0,0⟩).state=5)
  (hca:(((Zg h a m u).2.2.1.caches.getD t []).length:Int)≤c.Ca) :
  Dn c m a (Zg h a m u).2.2.2.1 (Zg h a m u).2.2.1 (skU c (((Zg h a m u).2.2.1.caches.getD t []).length:Int) (Zg h a m u).2.2.2.2-skU c ((a.caches.getD t []).length:Int) u):=by
 have hok:=C.ok
 have hC0:=hok.C1
 have hsk:=skU_le (u:=(Zg h a m u).2.2.2.2) hC0 hca
 obtain rfl:=C.hc
 obtain⟨r1,_⟩:=C.hget ht
 obtain⟨i1,i2,i3,i4⟩:=I
 by_cases s0:u.stage=0
 ·have e0:skU h.c ((a.caches.getD t []).length:Int) u=h.c.Ca:=by unfold skU;rw[if_pos (.inl s0)]
  rw[e0]
  refine Dn.mono (d:=0) ?_ (by omega)
  clear hsk hca e0
  unfold Zg
  have e:u.thread.toNat=t:=by omega
  simp only[e]
  rw[if_pos s0]
  obtain⟨k0,k1⟩:=i2 s0
  have hz:=hz_adr hok hd r1 k0 k1
  have hb9:=(ZS hok 9).1
  have h1:=far9 hok (A:=(base h.c 9+h.held.getD t 0*h.c.Hz+u.k).toNat) (by omega)
  split
  ·exact .quiet rfl (.store _ h1) (by omega)
  ·split<;>exact .quiet rfl (.store _ h1) (by omega)
 by_cases s1:u.stage=1
 ·have e0:skU h.c ((a.caches.getD t []).length:Int) u=h.c.Ca:=by unfold skU;rw[if_pos (.inr s1)]
  rw[e0]
  refine Dn.mono (d:=0) ?_ (by omega)
  clear hsk hca e0
  unfold Zg
  have e:u.thread.toNat=t:=by omega
  simp only[e]
  rw[if_neg s0,if_pos s1]
  obtain⟨s,e1,e2,e3⟩:=i3 s1
  rw[e1]
  simp only[]
  have F:=scan_q C e2 (fun p h5 hg=>hst s p s1 e1 h5 hg)
  split<;>exact F
 by_cases s2:u.stage=2
 ·obtain⟨p,e1,e2,e3,e4⟩:=i4 s2
  have e0:skU h.c ((a.caches.getD t []).length:Int) u=((a.caches.getD t []).length:Int):=by unfold skU;rw[if_neg (by omega),if_pos s2]
  rw[e0]
  clear hsk hca e0
  have htl:t<a.caches.length:=by rw[C.caches];omega
  have ep:p.thread.toNat=t:=by omega
  unfold Zg
  have e:u.thread.toNat=t:=by omega
  simp only[e]
  rw[if_neg s0,if_neg s1,if_pos s2,e1]
  simp only[]
  unfold ZL
  rcases push_q C e2 with⟨f1,f2,f3⟩|⟨f1,f2⟩
  ·rw[if_pos f1]
   rw[if_neg (by rw[f1];simp)]
   simp only[f1,f2,skU,Yn,if_false,show ¬(2:Int)=0 by decide,show ¬(2:Int)=1 by decide,s2,or_self,if_true]
   exact .quiet rfl f3 (by omega)
  ·rw[if_neg (by rw[f1];simp)]
   have h2:=c5_no a p.slot.toNat m.thread (to:=0) (by omega)
   rw[←f2]at h2
   have g1:((a.caches.set t ((a.caches.getD t []).take ((a.caches.getD t []).length-1))).getD t []).length=(a.caches.getD t []).length-1:=by
    rw[Yb,Ye htl]
    simp
   simp only[ep]
   split
   ·rename_i h1
    simp only[skU,if_true]
    left
    show c5 (Za a m p).2.1+_+1≤_
    simp only[show ¬(3:Int)=0 by decide,show ¬(3:Int)=1 by decide,show ¬(3:Int)=2 by decide,or_self,if_false]
    omega
   ·rename_i h1
    simp only[Yn,if_false,skU]
    left
    show c5 (Za a m p).2.1+_+1≤_
    simp only[show ¬(2:Int)=0 by decide,show ¬(2:Int)=1 by decide,s2,or_self,if_false,if_true]
    rw[g1]
    omega
 ·have e0:skU h.c ((a.caches.getD t []).length:Int) u=0:=by unfold skU;rw[if_neg (by omega),if_neg s2]
  rw[e0]
  clear hsk hca e0
  unfold Zg
  have e:u.thread.toNat=t:=by omega
  simp only[e]
  rw[if_neg s0,if_neg s1,if_neg s2]
  simp only[skU]
  rw[if_neg (by omega),if_neg s2]
  exact .quiet rfl ((Hc.store _ (farA hok (.inl rfl) hd)).trans (.of rfl)) (by omega)
def skP (p:Pst):Int:=if p.stage=0 then 3 else if p.stage=4 then 0 else 2
theorem post_q {p:Pst}{i:Nat}{cl:Cll}{se:Sea}(C:Core c L S N h a m)(T:PoI c p)
  (hst:∀r s q,p.stage=4→p.retire=some r→r.scan=some s→s.stage=5→s.give=some q→q.slot.toNat<a.slots.length∧(a.slots.getD q.slot.toNat ⟨0,0⟩).state=5) (hf:(Zj h a m i t cl se p).1=false) :
  Dn c m a (Zj h a m i t cl se p).2.2.2.1 (Zj h a m i t cl se p).2.2.1 (skP (Zj h a m i t cl se p).2.2.2.2-skP p):=by
 have hok:=C.ok
 have hc:=C.hc
 have hac:=C.ac
 obtain⟨⟨k,e1,t0,t1⟩,j1,j2,j3⟩:=T
 unfold Zj at hf ⊢
 rw[e1]at hf ⊢
 simp only[hc]at hf ⊢
 by_cases h0:p.stage=0
 ·rw[if_pos h0]at hf ⊢
  have e0:skP p=3:=by unfold skP;rw[if_pos h0]
  have g2:((Zi a m k).1=true∧c5 (Zi a m k).2.1≤c5 a)∨((Zi a m k).2.1=a∧Hc c m (Zi a m k).2.2.1):=by
   unfold Zi
   rw[hac]
   split
   ·exact .inr ⟨rfl,.load _⟩
   ·split
    ·exact .inr ⟨rfl,.load _⟩
    ·simp only[]
     split
     ·exact .inl ⟨rfl,c5_no _ _ _ (by omega)⟩
     ·rename_i hw
      exact .inr ⟨rfl,.fail hw⟩
  by_cases h1:(Zi a m k).1=true
  ·rw[if_pos h1]at hf ⊢
   simp only[]at hf ⊢
   unfold ZE at hf ⊢
   by_cases h2:Zh (Zi a m k).2.2.2<0
   ·rw[if_pos h2]at hf;cases hf
   ·rw[if_neg h2]
    simp only[skP,e0]
    simp only[show ¬(1:Int)=0 by decide,show ¬(1:Int)=4 by decide,h0,if_false,if_true]
    rcases g2 with⟨_,g⟩|⟨g,g'⟩
    ·exact .inl (by omega)
    ·exact .inl (by rw[g];omega)
  ·rw[if_neg h1]at hf ⊢
   simp only[skP,h0,if_true]
   rcases g2 with⟨g,_⟩|⟨g,g'⟩
   ·exact absurd g h1
   ·exact .quiet (by rw[g]) g' (by omega)
 rw[if_neg h0]at hf ⊢
 by_cases h1:p.stage=1
 ·rw[if_pos h1]
  obtain⟨q1,q2,q3⟩:=t1 (.inl h1)
  have e0:skP p=2:=by unfold skP;rw[if_neg h0,if_neg (by omega)]
  rw[e0]
  refine .quiet rfl (.store _ (farA hok (.inr (.inr (.inr rfl))) q1)) ?_
  simp only[skP];simp only[show ¬(2:Int)=0 by decide,show ¬(2:Int)=4 by decide,if_false];omega
 rw[if_neg h1]at hf ⊢
 by_cases h2:p.stage=2
 ·rw[if_pos h2]
  have e0:skP p=2:=by unfold skP;rw[if_neg h0,if_neg (by omega)]
  rw[e0]
  refine .quiet rfl (.load _) ?_
  simp only[skP];simp only[show ¬(3:Int)=0 by decide,show ¬(3:Int)=4 by decide,if_false];omega
 rw[if_neg h2]at hf ⊢
 by_cases h3:p.stage=3
 ·rw[if_pos h3]at hf ⊢
  have e0:skP p=2:=by unfold skP;rw[if_neg h0,if_neg (by omega)]
  rw[e0]
  by_cases h4:m.word (adr c 2 0)=p.saw
  ·rw[if_pos h4]at hf ⊢
   unfold ZY at hf ⊢
   simp only[]at hf ⊢
   by_cases h5:p.saw-1<0
   ·rw[if_pos h5]at hf;cases hf
   ·rw[if_neg h5]at hf ⊢
    simp only[]at hf ⊢
    unfold ZA at hf ⊢
    simp only[]at hf ⊢
    have g1:=c5_no a (Zh k).toNat (m.swap (adr c 2 0) (m.word (adr c 2 0)) p.saw p.link).thread (to:=3) (by omega)
    have g2:=c5_no (a.shift (Zh k).toNat (m.swap (adr c 2 0) (m.word (adr c 2 0)) p.saw p.link).thread 3) (p.saw-1).toNat (m.swap (adr c 2 0) (m.word (adr c 2 0)) p.saw p.link).thread (to:=4) (by omega)
    have g3:=fun th=>c5_up ((a.shift (Zh k).toNat (m.swap (adr c 2 0) (m.word (adr c 2 0)) p.saw p.link).thread 3).shift (p.saw-1).toNat (m.swap (adr c 2 0) (m.word (adr c 2 0)) p.saw p.link).thread 4) (p.saw-1).toNat th 5
    split
    ·rename_i h6
     rw[if_pos h6]at hf;cases hf
    ·simp only[skP]
     simp only[show ¬(4:Int)=0 by decide,if_false,if_true]
     left
     refine Int.le_trans (Int.add_le_add_right (Int.add_le_add_right (g3 _) _) _) ?_
     omega
  ·rw[if_neg h4]
   refine .quiet rfl (.fail h4) ?_
   simp only[skP];simp only[show ¬(2:Int)=0 by decide,show ¬(2:Int)=4 by decide,if_false];omega
 rw[if_neg h3]at hf ⊢
 have h4:p.stage=4:=by clear j2 j3 t1;omega
 obtain⟨r,sc,e2,e3,e4,e5⟩:=j3 h4
 have e0:skP p=0:=by unfold skP;rw[if_neg h0,if_pos h4]
 rw[e0]
 have g:=scan_q C e4 (fun q h5 hg=>hst r sc q h4 e2 e3 h5 hg)
 rw[e2]
 simp only[e3,skP,h4]
 simp only[show ¬(4:Int)=0 by decide,if_false,if_true]
 exact g.mono (by omega)
def GvR (a:Are)(k:Zz):Prop:=∀s p,scOf k=some s→s.stage=5→s.give=some p→p.slot.toNat<a.slots.length∧(a.slots.getD p.slot.toNat ⟨0,0⟩).state=5
theorem dn_stp {k:Zz}{i:Nat}{cl:Cll}{se:Sea}(C:Core c L S N h a m)(ht:(t:Int)<c.T)(I:TI c t true (h.held.getD t 0) (a.caches.getD t []) k)(hG:GvR a k)
  (hca:(((Zn (h,a) m i t cl se k).2.1.2.caches.getD t []).length:Int)≤c.Ca) (hf:(Zn (h,a) m i t cl se k).1=false) :
  Dn c m a (Zn (h,a) m i t cl se k).2.2.1 (Zn (h,a) m i t cl se k).2.1.2 (sk c (((Zn (h,a) m i t cl se k).2.1.2.caches.getD t []).length:Int) (Zn (h,a) m i t cl se k).2.2.2-sk c ((a.caches.getD t []).length:Int) k):=by
 have hok:=C.ok
 cases k with
 | reg r=>
  obtain⟨i1,i2,i3⟩:=I
  have hc:=C.hc
  have hN:∀m',Hc c m' (ZV h m' t se r).2.2.1:=by
   intro m'
   unfold ZV
   split
   ·exact .refl _
   ·exact .of rfl
  refine .quiet rfl ?_ (by simp only[Zn,sk];omega)
  show Hc c m (ZU h m t se r).2.2.1
  have h1:=farA hok (r:=8) (.inl rfl) i2
  unfold ZU
  rw[hc]
  simp only[]
  split
  ·split
   ·exact(Hc.load _).trans (hN _)
   ·exact .load _
  ·split
   ·exact(Hc.swap _ _ h1).trans (.of rfl)
   ·exact(Hc.swap _ _ h1).trans (hN _)
 | unr u=>
  obtain⟨i1,i2,i3⟩:=I
  exact unr_q C ht i1 i2 i3 (fun s p s1 e h5 hg=>hG s p (by simp only[scOf,if_pos s1];exact e) h5 hg) hca
 | rdg r=>
  have hc:=C.hc
  obtain⟨i1,i2,i3,i4⟩:=I
  have hb9:=(ZS hok 9).1
  have hS:∀m' u,Hc c m' (Z8 m' i t cl se r u).2.1:=by
   intro m' u
   unfold Z8
   split
   ·exact .of rfl
   ·exact .refl _
  refine .quiet rfl ?_ (by simp only[Zn,sk];omega)
  show Hc c m (ZT h m i t cl se r).2.1
  unfold ZT
  rw[hc]
  simp only[]
  split
  ·exact(Hc.load _).trans (hS _ _)
  ·split
   ·exact .store _ (far9 hok (by omega))
   ·split
    ·split
     ·exact .load _
     ·exact(Hc.load _).trans (hS _ _)
    ·exact(Hc.load _).trans (.of rfl)
 | clr ad=>cases hf
 | scn s=>
  have g:=scan_q C (I.2.2 rfl) (fun q h5 hg=>hG s q rfl h5 hg)
  exact g.mono (by simp only[Zn,sk];omega)
 | pst p=>exact post_q C (I.2.2.1 rfl) (fun r s q h4 e2 e3 h5 hg=>hG s q (by simp only[scOf,if_pos h4,e2];exact e3) h5 hg) hf
end
end
section
def kd:Zz→Int
 | .reg _=>20
 | .unr _=>21
 | .pst _=>22
 | .rdg _=>23
 | .clr _=>24
 | .scn _=>25
theorem kd_rdy (s:Haz×Are)(m:Mch)(i t:Nat)(cl:Cll)(se:Sea)(k:Zz):kd (Qj s m i t cl se k).2.2.2=kd k:=by cases k<;>rfl
theorem kd_stp (s:Haz×Are)(m:Mch)(i t:Nat)(cl:Cll)(se:Sea)(k:Zz):kd (Zn s m i t cl se k).2.2.2=kd k:=by cases k<;>rfl
abbrev RT:=Bool×(Haz×Are)×Mch×Zz
def rsx (pr:Int→Prop)(c:Cfg)(r:RT):Sx:=sx pr c r.2.1.1 r.2.1.2 r.2.2.1
def rS (r:RT):List Int:=if r.1=true then [] else hS r.2.2.2
def rL (r:RT):List Int:=if r.1=true then [] else hL r.2.2.2
def rst (r:RT):St3:=(r.2.1.1,r.2.1.2,r.2.2.1)
structure Half (c:Cfg)(n L S N:Nat)(g:Int)(y:HW)(t i:Nat)(cl:Cll)(se:Sea)(k:Zz)(Z Y:Int→Nat)(pr:Int→Prop)(F:List Int)(r:RT):Prop where
 core:Core c L S N r.2.1.1 r.2.1.2 r.2.2.1
 ti:r.1=false→TI c t true (r.2.1.1.held.getD t 0) (r.2.1.2.caches.getD t []) r.2.2.2
 gd:Gd c g Z Y F (rsx pr c r) (rS r) (rL r)
 td:r.1=false→TD c t (rsx pr c r) r.2.2.2
 thread:r.2.2.1.thread=(t:Int)
 now:r.2.2.1.now=(n:Int)
 calls:∃z,r.2.2.1.calls=y.m.calls.set i { cl with point:=z }∧(z=cl.point∨cl.begin_<z∧z≤n)
 seats:∃q v,r.2.2.1.seats=y.m.seats.set t { se with ready:=true,kind:=q,value:=v }∧(1≤q∧q≤6∧(q≠2→v=0))
 kd:kd r.2.2.2=kd k
 rdp:RdP cl.begin_ n r.2.2.2
def QG (y:HW)(t i:Nat)(se:Sea):Mch:=y.tick.m.prep t i y.m.moves se
def Qg (y:HW)(t i:Nat)(r:RT):HW:=⟨r.2.1,ZC r.2.2.1 t i y.m.moves (getC r.2.2.1 i) (getS r.2.2.1 t) r.1,y.tasks.set t (if r.1=true then none else some r.2.2.2)⟩
structure StepO (c:Cfg)(n:Nat)(pr:Int→Prop)(F:List Int)(y:HW)(t i:Nat)(cl:Cll)(se:Sea)(k:Zz)(Z Y:Int→Nat)(r1:RT)(pr1:Int→Prop)(F1:List Int)(r2:RT)(pr2:Int→Prop)(F2:List Int):Prop where
 htT:(t:Int)<c.T
 hk:y.tasks[t]? = some (some k)
 hse:y.m.seats[t]? = some se
 hl:se.last=(i:Int)
 hc:y.m.calls[i]? = some cl
 end_:cl.end_ = -1
 thr:cl.thread=(t:Int)
 bn:cl.begin_<n
 Zeq:Z=cnt2 ((y.tasks.set t none).map tS)
 Yeq:Y=cnt2 ((y.tasks.set t none).map tL)
 c0:Core c n (100*n) n y.s.1 y.s.2 (QG y t i se)
 i0:TI c t se.ready (y.s.1.held.getD t 0) (y.s.2.caches.getD t []) k
 g0:Gd c n Z Y F (sx pr c y.s.1 y.s.2 (QG y t i se)) (hS k) (hL k)
 d0:TD c t (sx pr c y.s.1 y.s.2 (QG y t i se)) k
 fr:se.ready=false→hS k=[]∧hL k=[]
 h1:Half c n n (100*n+1) n n y t i cl se k Z Y pr1 F1 r1
 used1:r1.2.2.1.used=false
 rdy:se.ready=false∧r1=Qj y.s (QG y t i se) i t cl { se with ready:=true } k∨se.ready=true∧r1=(false,y.s,QG y t i se,k)∧pr1=pr∧F1=F
 rl1:Rl Z t (OwW c t (sx pr c y.s.1 y.s.2 (QG y t i se)) (QG y t i se).mem.log r1.2.2.1.mem.log) (sx pr c y.s.1 y.s.2 (QG y t i se)) (rsx pr1 c r1)
 he1:r1.2.1.1.held=y.s.1.held
 ev1:Evo i t (y.s.1,y.s.2,QG y t i se) (rst r1)
 h2:Half c n (n+1) (100*n+67) (n+1) (n+1) y t i cl se k Z Y pr2 F2 r2
 stp:r1.1=true∧r2=r1∧pr2=pr1∧F2=F1∨r1.1=false∧r2=Zn r1.2.1 r1.2.2.1 i t (getC r1.2.2.1 i) (getS r1.2.2.1 t) r1.2.2.2
 rl2:Rl Z t (OwW c t (rsx pr1 c r1) r1.2.2.1.mem.log r2.2.2.1.mem.log) (rsx pr1 c r1) (rsx pr2 c r2)
 ev2:Evo i t (rst r1) (rst r2)
section
variable {c:Cfg}{n:Nat}{y y':HW}
theorem Half.getC {L S N:Nat}{g:Int}{t i:Nat}{cl:Cll}{se:Sea}{k:Zz}{Z Y:Int→Nat}{pr:Int→Prop}{F:List Int}{r:RT}(H:Half c n L S N g y t i cl se k Z Y pr F r)(hc:y.m.calls[i]? = some cl) :
  ∃z,getC r.2.2.1 i={ cl with point:=z }∧r.2.2.1.calls=y.m.calls.set i { cl with point:=z }∧r.2.2.1.calls[i]? = some { cl with point:=z }∧(z=cl.point∨cl.begin_<z∧z≤n):=by
 obtain⟨z,h1,h2⟩:=H.calls
 have h3:r.2.2.1.calls[i]? = some { cl with point:=z }:=by rw[h1];exact Ye (List.getElem?_eq_some_iff.1 hc).1
 exact⟨z,by simp[Go.Proofs.YtegafhhdegnigaaGreat.getC,Yb,h3],h1,h3,h2⟩
theorem Half.getS {L S N:Nat}{g:Int}{t i:Nat}{cl:Cll}{se:Sea}{k:Zz}{Z Y:Int→Nat}{pr:Int→Prop}{F:List Int}{r:RT}(H:Half c n L S N g y t i cl se k Z Y pr F r)(hc:y.m.seats[t]? = some se) :
  ∃q v,getS r.2.2.1 t={ se with ready:=true,kind:=q,value:=v }∧r.2.2.1.seats=y.m.seats.set t { se with ready:=true,kind:=q,value:=v }∧r.2.2.1.seats[t]? = some { se with ready:=true,kind:=q,value:=v }∧(1≤q∧q≤6∧(q≠2→v=0)):=by
 obtain⟨q,v,h1,h2⟩:=H.seats
 have h3:r.2.2.1.seats[t]? = some { se with ready:=true,kind:=q,value:=v }:=by rw[h1];exact Ye (List.getElem?_eq_some_iff.1 hc).1
 exact⟨q,v,by simp[Go.Proofs.YtegafhhdegnigaaGreat.getS,Yb,h3],h1,h3,h2⟩
theorem move_open {pr:Int→Prop}{F:List Int}{bh ba:Nat}{CX:Zd}{K:Int→Option Value}{mv:Mv}{b:Bool}(P:PI c n y)(R:Q4 c n y)(D:DI c pr F n y)(hn:n<65536)(hM:Jn (hzT bh ba CX) K ZW y mv b y') :
  (y'=y.tick∧DI c pr F ((n+1:Nat):Int) y') ∨
  (∃(t:Nat) (k:Zz) (v vc:Value),mv.thread=(t:Int)∧(t:Int)<c.T∧mv.op≠0∧y.tasks[t]? = some none∧K mv.op≠none∧ZW y.s t mv=some k∧y'=⟨y.s,ZD y.m t mv v vc,y.tasks.set t (some k)⟩∧DI c pr F ((n+1:Nat):Int) y') ∨
  (∃(t i:Nat) (cl:Cll) (se:Sea) (k:Zz) (Z Y:Int→Nat) (r1:RT) (pr1:Int→Prop) (F1:List Int) (r2:RT) (pr2:Int→Prop) (F2:List Int),mv.thread=(t:Int)∧mv.op=0∧StepO c n pr F y t i cl se k Z Y r1 pr1 F1 r2 pr2 F2∧y'=Qg y t i r2∧DI c pr2 F2 ((n+1:Nat):Int) y'):=by
 have e1:((n+1:Nat):Int)=(n:Int)+1:=by omega
 rw[e1]
 have tick:DI c pr F ((n:Int)+1) y.tick:=⟨D.gd.mono (by omega),D.td,D.fresh⟩
 cases hM with
 | out=>exact .inl ⟨rfl,tick⟩
 | idle=>exact .inl ⟨rfl,tick⟩
 | busy=>exact .inl ⟨rfl,tick⟩
 | nokit=>exact .inl ⟨rfl,tick⟩
 | refused=>exact .inl ⟨rfl,tick⟩
 | begin_ t k v vc ht hop hk hKn hmk=>
  have hlt:=(List.getElem?_eq_some_iff.1 hk).1
  have htT:(t:Int)<c.T:=by have:=P.core.ok.T1;have:=P.tasks;omega
  obtain⟨m1,m2,m3⟩:=made_td (pr:=pr) P.core htT hmk
  refine .inr (.inl ⟨t,k,v,vc,ht,htT,hop,hk,hKn,hmk,rfl,⟨?_,?_,?_⟩⟩)
  ·refine Gd.mono (n:=n) ?_ (by omega)
   refine Gd.unfocus (o:=some k) hlt ?_ (fun s hs=>by rw[show tS (some k)=hS k from rfl,m1]at hs;simp at hs)
   have:=D.gd.focus hk
   rw[show tS (some k)=hS k from rfl,show tL (some k)=hL k from rfl,m1,m2]
   exact this
  ·intro j kj hkj
   simp only[]at hkj
   by_cases hj:j=t
   ·subst hj
    rw[Ye hlt]at hkj
    cases hkj;exact m3
   ·rw[Zx hj]at hkj
    exact D.td j kj hkj
  ·intro j kj se hkj hse hf
   simp only[ZD]at hkj hse
   by_cases hj:j=t
   ·subst hj
    rw[Ye hlt]at hkj
    cases hkj;exact⟨m1,m2⟩
   ·rw[Zx hj]at hkj hse
    exact D.fresh j kj se hkj hse hf
 | step t i cl se k ht hop hk hse hl hc=>
  refine .inr (.inr ?_)
  obtain⟨p1,p2,p3,p4,p5,p6,p7⟩:=P
  have hok:=p3.ok
  have hlt:=(List.getElem?_eq_some_iff.1 hse).1
  have hltk:=(List.getElem?_eq_some_iff.1 hk).1
  have hilt:=(List.getElem?_eq_some_iff.1 hc).1
  have htT:(t:Int)<c.T:=by omega
  obtain⟨_,I⟩:=p7 t k se hk hse
  obtain⟨i',cl',b1,b2,b3,b4,b5,b6⟩:=R.busy t k se hk hse
  have hii:i'=i:=by omega
  subst hii
  rw[hc]at b2
  cases b2
  have hbn:=(R.cl _ (Yc hc)).bn
  have C1:Core c n (100*n) n y.s.1 y.s.2 y.tick.m:=p3.of rfl rfl rfl rfl
  have C0:Core c n (100*n) n y.s.1 y.s.2 (y.tick.m.prep t i' y.m.moves se):=p3.of rfl rfl rfl rfl
  have hci:QS (y.tick.m.prep t i' y.m.moves se) i' t cl { se with ready:=true }:=⟨rfl,hc,by simp[Mch.prep,Wst.tick,hlt]⟩
  obtain⟨⟨⟨r1,r2,r3⟩,r4⟩,r5⟩:=rdy_more (bh:=bh) (ba:=ba) (CX:=CX) (now:=y.m.moves) C1 (by omega) htT hc hlt I
  obtain⟨⟨e1,e2,e3⟩,e4⟩:=more_core (bh:=bh) (ba:=ba) (CX:=CX) (now:=y.m.moves) C1 (by omega) htT hc hlt I
  have hx0:sx pr c y.s.1 y.s.2 (y.tick.m.prep t i' y.m.moves se)=sx pr c y.s.1 y.s.2 y.m:=Qy rfl
  have T0:Told i' t cl (y.tick.m.prep t i' y.m.moves se):=⟨⟨cl.point,hc,.inl rfl⟩,⟨_,hci.seat,b5.1,b5.2.1,b5.2.2⟩⟩
  have G0:=D.gd.focus hk
  have D0:=D.td t k hk
  rw[←hx0]at G0 D0
  generalize hZ:cnt2 ((y.tasks.set t none).map tS)=Z at G0
  generalize hY:cnt2 ((y.tasks.set t none).map tL)=Y at G0
  have hsd:y.s=(y.s.1,y.s.2):=rfl
  have hrd:(Zb (hzT bh ba CX) (y.s.1,y.s.2) y.tick.m i' t cl se k y.m.moves).1=false∧se.ready=true∧Zb (hzT bh ba CX) (y.s.1,y.s.2) y.tick.m i' t cl se k y.m.moves=(false,y.s,QG y t i' se,k)∨se.ready=false∧Zb (hzT bh ba CX) (y.s.1,y.s.2) y.tick.m i' t cl se k y.m.moves=Qj y.s (QG y t i' se) i' t cl { se with ready:=true } k:=by
   unfold Zb
   split
   ·rename_i hf;exact .inr ⟨hf,rfl⟩
   ·rename_i hf;exact .inl ⟨rfl,by simpa using hf,rfl⟩
  have E1:∃pr' F',Gd c n Z Y F' (rsx pr' c (Zb (hzT bh ba CX) (y.s.1,y.s.2) y.tick.m i' t cl se k y.m.moves)) (rS (Zb (hzT bh ba CX) (y.s.1,y.s.2) y.tick.m i' t cl se k y.m.moves)) (rL (Zb (hzT bh ba CX) (y.s.1,y.s.2) y.tick.m i' t cl se k y.m.moves)) ∧
    Rl Z t (OwW c t (sx pr c y.s.1 y.s.2 (y.tick.m.prep t i' y.m.moves se)) (QG y t i' se).mem.log (Zb (hzT bh ba CX) (y.s.1,y.s.2) y.tick.m i' t cl se k y.m.moves).2.2.1.mem.log) (sx pr c y.s.1 y.s.2 (y.tick.m.prep t i' y.m.moves se)) (rsx pr' c (Zb (hzT bh ba CX) (y.s.1,y.s.2) y.tick.m i' t cl se k y.m.moves)) ∧
    ((Zb (hzT bh ba CX) (y.s.1,y.s.2) y.tick.m i' t cl se k y.m.moves).1=false→TD c t (rsx pr' c (Zb (hzT bh ba CX) (y.s.1,y.s.2) y.tick.m i' t cl se k y.m.moves)) (Zb (hzT bh ba CX) (y.s.1,y.s.2) y.tick.m i' t cl se k y.m.moves).2.2.2)∧(se.ready=true→pr'=pr∧F'=F):=by
   unfold Zb
   split
   ·rename_i hf
    rw[hf]at I
    obtain⟨pr',F',q1,q2,q3⟩:=(ready_gd (n:=n) (i:=i') (cl:=cl) (se:={ se with ready:=true }) C0 htT rfl I (D.fresh t k se hk hse hf) G0 D0).ex
    exact⟨pr',F',q1.mono (by omega),q2,q3,fun h=>by rw[hf]at h;cases h⟩
   ·exact⟨pr,F,G0.mono (by omega),Rl.refl ..,fun _=>D0,fun _=>⟨rfl,rfl⟩⟩
  have V1:Evo i' t (y.s.1,y.s.2,y.tick.m.prep t i' y.m.moves se) (rst (Zb (hzT bh ba CX) (y.s.1,y.s.2) y.tick.m i' t cl se k y.m.moves))∧RdP cl.begin_ n (Zb (hzT bh ba CX) (y.s.1,y.s.2) y.tick.m i' t cl se k y.m.moves).2.2.2:=by
   unfold Zb
   split
   ·rename_i hf
    rw[hf]at I
    exact⟨evo_rdy C0 htT I hci.call hci.seat (by show cl.begin_<y.m.moves;omega),rdp_rdy (cl:=cl) b6⟩
   ·exact⟨.refl _,b6⟩
  have hkd1:kd (Zb (hzT bh ba CX) (y.s.1,y.s.2) y.tick.m i' t cl se k y.m.moves).2.2.2=kd k:=by
   unfold Zb
   split
   ·exact kd_rdy ..
   ·rfl
  have hth:(Zb (hzT bh ba CX) (y.s.1,y.s.2) y.tick.m i' t cl se k y.m.moves).2.2.1.thread=(t:Int):=r4.thread
  have hnow:(Zb (hzT bh ba CX) (y.s.1,y.s.2) y.tick.m i' t cl se k y.m.moves).2.2.1.now=n:=by rw[r4.now];exact p2
  have hhe:(Zb (hzT bh ba CX) (y.s.1,y.s.2) y.tick.m i' t cl se k y.m.moves).2.1.1.held=y.s.1.held:=by
   unfold Zb
   split
   ·cases k<;>rfl
   ·rfl
  obtain⟨z,kk,vv,hcc⟩:=r4.curIn hci
  unfold Qi
  rw[hsd]
  simp only[]
  have told:∀r:RT,QM i' t cl { se with ready:=true } (y.tick.m.prep t i' y.m.moves se) r.2.2.1→Evo i' t (y.s.1,y.s.2,y.tick.m.prep t i' y.m.moves se) (rst r) →
    (∃z,r.2.2.1.calls=y.m.calls.set i' { cl with point:=z }∧(z=cl.point∨cl.begin_<z∧z≤n))∧(∃q v,r.2.2.1.seats=y.m.seats.set t { se with ready:=true,kind:=q,value:=v }∧(1≤q∧q≤6∧(q≠2→v=0))):=by
   intro r f4 EV
   obtain⟨⟨⟨z,T1,T2⟩,⟨se1,T3,T4,T5,T6⟩⟩,Tn⟩:=T0.evo EV
   simp only[rst]at T1 T2 T3 Tn
   obtain⟨z1,hz1⟩:=f4.calls
   obtain⟨k1,v1,hk1⟩:=f4.seats
   refine⟨⟨z,?_,?_⟩,⟨k1,v1,?_,?_⟩⟩
   ·have e:r.2.2.1.calls=y.m.calls.set i' { cl with point:=z1 }:=hz1
    rw[e]at T1 ⊢
    rw[Ye hilt]at T1
    injection T1 with T1
    injection T1 with _ _ _ _ _ _ T1
    rw[T1]
   ·rcases T2 with e|⟨e1,e2⟩
    ·exact .inl e
    ·exact .inr ⟨e1,by rw[Tn]at e2;rw[←p2];exact e2⟩
   ·rw[hk1]
    simp only[Mch.prep,Wst.tick,Yl]
   ·rw[hk1]at T3
    simp only[Mch.prep,Wst.tick]at T3
    rw[Ye (by simp;exact hlt)]at T3
    cases T3
    exact⟨T4,T5,T6⟩
  obtain⟨pr1,F1,q1,q2,q3,q4⟩:=E1
  obtain⟨V1,V1'⟩:=V1
  have tl1:=told _ r4 V1
  have HH1:Half c n n (100*n+1) n n y t i' cl se k Z Y pr1 F1 (Zb (hzT bh ba CX) (y.s.1,y.s.2) y.tick.m i' t cl se k y.m.moves):=
   ⟨r1,r3,q1,q3,hth,hnow,tl1.1,tl1.2,hkd1,V1'⟩
  have E2:∃pr' F',Gd c (n+1) Z Y F' (rsx pr' c (ZQ (hzT bh ba CX) i' t (Zb (hzT bh ba CX) (y.s.1,y.s.2) y.tick.m i' t cl se k y.m.moves))) (rS (ZQ (hzT bh ba CX) i' t (Zb (hzT bh ba CX) (y.s.1,y.s.2) y.tick.m i' t cl se k y.m.moves))) (rL (ZQ (hzT bh ba CX) i' t (Zb (hzT bh ba CX) (y.s.1,y.s.2) y.tick.m i' t cl se k y.m.moves))) ∧
    Rl Z t (OwW c t (rsx pr1 c (Zb (hzT bh ba CX) (y.s.1,y.s.2) y.tick.m i' t cl se k y.m.moves)) (Zb (hzT bh ba CX) (y.s.1,y.s.2) y.tick.m i' t cl se k y.m.moves).2.2.1.mem.log (ZQ (hzT bh ba CX) i' t (Zb (hzT bh ba CX) (y.s.1,y.s.2) y.tick.m i' t cl se k y.m.moves)).2.2.1.mem.log) (rsx pr1 c (Zb (hzT bh ba CX) (y.s.1,y.s.2) y.tick.m i' t cl se k y.m.moves)) (rsx pr' c (ZQ (hzT bh ba CX) i' t (Zb (hzT bh ba CX) (y.s.1,y.s.2) y.tick.m i' t cl se k y.m.moves))) ∧
    ((ZQ (hzT bh ba CX) i' t (Zb (hzT bh ba CX) (y.s.1,y.s.2) y.tick.m i' t cl se k y.m.moves)).1=false→TD c t (rsx pr' c (ZQ (hzT bh ba CX) i' t (Zb (hzT bh ba CX) (y.s.1,y.s.2) y.tick.m i' t cl se k y.m.moves))) (ZQ (hzT bh ba CX) i' t (Zb (hzT bh ba CX) (y.s.1,y.s.2) y.tick.m i' t cl se k y.m.moves)).2.2.2) ∧
    Evo i' t (rst (Zb (hzT bh ba CX) (y.s.1,y.s.2) y.tick.m i' t cl se k y.m.moves)) (rst (ZQ (hzT bh ba CX) i' t (Zb (hzT bh ba CX) (y.s.1,y.s.2) y.tick.m i' t cl se k y.m.moves)))∧RdP cl.begin_ n (ZQ (hzT bh ba CX) i' t (Zb (hzT bh ba CX) (y.s.1,y.s.2) y.tick.m i' t cl se k y.m.moves)).2.2.2 ∧
    kd (ZQ (hzT bh ba CX) i' t (Zb (hzT bh ba CX) (y.s.1,y.s.2) y.tick.m i' t cl se k y.m.moves)).2.2.2=kd k ∧
    ((Zb (hzT bh ba CX) (y.s.1,y.s.2) y.tick.m i' t cl se k y.m.moves).1=true∧ZQ (hzT bh ba CX) i' t (Zb (hzT bh ba CX) (y.s.1,y.s.2) y.tick.m i' t cl se k y.m.moves)=Zb (hzT bh ba CX) (y.s.1,y.s.2) y.tick.m i' t cl se k y.m.moves∧pr'=pr1∧F'=F1∨(Zb (hzT bh ba CX) (y.s.1,y.s.2) y.tick.m i' t cl se k y.m.moves).1=false∧ZQ (hzT bh ba CX) i' t (Zb (hzT bh ba CX) (y.s.1,y.s.2) y.tick.m i' t cl se k y.m.moves)=Zn (Zb (hzT bh ba CX) (y.s.1,y.s.2) y.tick.m i' t cl se k y.m.moves).2.1 (Zb (hzT bh ba CX) (y.s.1,y.s.2) y.tick.m i' t cl se k y.m.moves).2.2.1 i' t (getC (Zb (hzT bh ba CX) (y.s.1,y.s.2) y.tick.m i' t cl se k y.m.moves).2.2.1 i') (getS (Zb (hzT bh ba CX) (y.s.1,y.s.2) y.tick.m i' t cl se k y.m.moves).2.2.1 t) (Zb (hzT bh ba CX) (y.s.1,y.s.2) y.tick.m i' t cl se k y.m.moves).2.2.2):=by
   generalize Zb (hzT bh ba CX) (y.s.1,y.s.2) y.tick.m i' t cl se k y.m.moves=r at r1 r2 r3 r4 r5 hcc hth hhe hnow hkd1 q1 q2 q3 V1 V1' ⊢
   unfold ZQ
   split
   ·rename_i hf
    have q1':=q1
    unfold rS rL at q1'
    rw[if_neg (by simp[hf]),if_neg (by simp[hf])]at q1'
    have hb:(getC r.2.2.1 i').begin_=cl.begin_:=by rw[hcc.getC]
    have X:=step_gd (i:=i') (cl:=getC r.2.2.1 i') (se:=getS r.2.2.1 t) r1 (by omega) htT hth (r3 hf) (by omega) (q1'.mono (n':=n) (by omega)) (q3 hf)
    obtain⟨pr2,F2,x1,x2,x3⟩:=X
    have XE:=evo_stp (i:=i') (t:=t) (cl:=getC r.2.2.1 i') (se:=getS r.2.2.1 t) r1 htT (r3 hf) (by rw[hcc.getC];exact hcc.call) (by rw[hcc.getS];exact hcc.seat) (by rw[hb,hnow];exact hbn) (by rw[hb,hnow];exact V1') r5
    have Y:=rdp_stp (h:=r.2.1.1) (a:=r.2.1.2) (m:=r.2.2.1) (i:=i') (t:=t) (cl:=cl) (cl':=getC r.2.2.1 i') (se:=getS r.2.2.1 t) (k:=r.2.2.2) (by rw[hnow];exact hbn) (by rw[hnow];exact V1')
    rw[hnow]at Y
    refine⟨pr2,F2,x1,x2,x3,XE,Y,?_,.inr ⟨hf,rfl⟩⟩
    exact(kd_stp ..).trans hkd1
   ·rename_i hf
    exact⟨pr1,F1,q1.mono (by omega),Rl.refl ..,q3,.refl _,V1',hkd1,.inl ⟨by simpa using hf,rfl,rfl,rfl⟩⟩
  obtain⟨pr2,F2,s1,s2,s3,s4,s5,s6,s7⟩:=E2
  have tl2:=told _ e4 (V1.trans s4)
  have HH2:Half c n (n+1) (100*n+67) (n+1) (n+1) y t i' cl se k Z Y pr2 F2 (ZQ (hzT bh ba CX) i' t (Zb (hzT bh ba CX) (y.s.1,y.s.2) y.tick.m i' t cl se k y.m.moves)):=
   ⟨e1,e3,s1,s3,e4.thread,by rw[e4.now];exact p2,tl2.1,tl2.2,s6,s5⟩
  have SO:StepO c n pr F y t i' cl se k Z Y (Zb (hzT bh ba CX) (y.s.1,y.s.2) y.tick.m i' t cl se k y.m.moves) pr1 F1 (ZQ (hzT bh ba CX) i' t (Zb (hzT bh ba CX) (y.s.1,y.s.2) y.tick.m i' t cl se k y.m.moves)) pr2 F2:=
   ⟨htT,hk,hse,hl,hc,b4,b3,hbn,hZ.symm,hY.symm,C0,I,G0,D0,fun hf=>D.fresh t k se hk hse hf,HH1,r5,by
    rcases hrd with⟨_,w1,w2⟩|⟨w1,w2⟩
    ·exact .inr ⟨w1,w2,q4 w1⟩
    ·exact .inl ⟨w1,w2⟩,q2,hhe,V1,HH2,s7,s2,s4⟩
  refine⟨t,i',cl,se,k,Z,Y,_,pr1,F1,_,pr2,F2,ht,hop,SO,rfl,?_⟩
  have hT2:=(q2.weaken fun _ hj=>hj.1).trans (s2.weaken fun j hj=>(hj.1.he (by show y.s.1.held[t]? = _;simp only[rsx,sx];rw[hhe]):Own c t (sx pr c y.s.1 y.s.2 (y.tick.m.prep t i' y.m.moves se)) j))
  clear SO HH1 HH2 hrd V1 s4
  obtain⟨k1,v1,hk1⟩:=e4.seats
  generalize ZQ (hzT bh ba CX) i' t (Zb (hzT bh ba CX) (y.s.1,y.s.2) y.tick.m i' t cl se k y.m.moves)=r at e1 e2 e3 e4 s1 s2 s3 hk1 hT2 ⊢
  have hsS:∀j,j≠t→r.2.2.1.seats[j]? = y.m.seats[j]? := by
   intro j hj
   rw[hk1,Zx hj]
   simp only[Mch.prep,Wst.tick]
   rw[Zx hj]
  have hwd:∀cl2 se2 now b2,(ZC r.2.2.1 t i' now cl2 se2 b2).mem.words=r.2.2.1.mem.words:=by
   intro cl2 se2 now b2;unfold ZC;split<;>rfl
  have hx1:∀cl2 se2 now b2,sx pr2 c r.2.1.1 r.2.1.2 (ZC r.2.2.1 t i' now cl2 se2 b2)=sx pr2 c r.2.1.1 r.2.1.2 r.2.2.1:=fun cl2 se2 now b2=>Qy (hwd cl2 se2 now b2)
  refine⟨?_,?_,?_⟩
  ·simp only[hx1]
   refine Gd.unfocus hltk ?_ ?_
   ·rw[hZ,hY]
    have q1:=s1
    unfold rS rL at q1
    by_cases hb:r.1=true
    ·rw[if_pos hb,if_pos hb]at q1
     rw[if_pos hb];exact q1
    ·rw[if_neg hb,if_neg hb]at q1
     rw[if_neg hb];exact q1
   ·intro s hs
    by_cases hb:r.1=true
    ·rw[if_pos hb]at hs;simp[tS]at hs
    ·rw[if_neg hb]at hs
     exact(s3 (by simpa using hb)).st s hs
  ·intro j kj hkj
   simp only[]at hkj
   simp only[hx1]
   by_cases hj:j=t
   ·subst hj
    rw[Ye hltk]at hkj
    by_cases hb:r.1=true
    ·rw[if_pos hb]at hkj;cases hkj
    ·rw[if_neg hb]at hkj
     cases hkj
     exact s3 (by simpa using hb)
   ·rw[Zx hj]at hkj
    have hjT:j<y.m.seats.length:=by have:=(List.getElem?_eq_some_iff.1 hkj).1;omega
    obtain⟨_,I2⟩:=p7 j kj _ hkj (Yd hjT)
    have T2:=(TkS.of I2 (fun hf=>D.fresh j kj _ hkj (Yd hjT) hf)).2
    have Dj:=D.td j kj hkj
    rw[←hx0]at Dj
    refine Dj.rely hT2 hj T2 (fun s hs => ?_) (fun w h1 h2=>hj (own_two G0 hok h1 h2))
    rw[←hZ]
    refine cnt2_at (i:=j) (l:=hS kj) ?_ hs
    rw[Ym,Zx hj,hkj];rfl
  ·intro j kj sj hkj hsj hf
   simp only[]at hkj hsj
   by_cases hj:j=t
   ·subst hj
    rw[Ye hltk]at hkj
    by_cases hb:r.1=true
    ·rw[if_pos hb]at hkj;cases hkj
    ·exfalso
     have hsj2:r.2.2.1.seats[j]? = some sj:=by
      unfold ZC at hsj
      rw[if_neg hb]at hsj
      exact hsj
     rw[hk1,Ye (by simp[Mch.prep,Wst.tick];exact hlt)]at hsj2
     cases hsj2
     cases hf
   ·rw[Zx hj]at hkj
    have hsj2:y.m.seats[j]? = some sj:=by
     rw[←hsS j hj]
     unfold ZC at hsj
     split at hsj
     ·simp only[]at hsj;rw[Zx hj]at hsj;exact hsj
     ·exact hsj
    exact D.fresh j kj sj hkj hsj2 hf
structure JOk (c:Cfg)(J:Nat→(Int→Prop)→HW→Prop):Prop where
 start:∀km vs,J 0 (fun _=>False) (wst0 c km vs)
 tick:∀n pr y,n<65536→PI c n y→Q4 c n y→(∃F,DI c pr F n y)→J n pr y→J (n+1) pr y.tick
 beg:∀n pr y mv t k v vc,n<65536→PI c n y→Q4 c n y→(∃F,DI c pr F n y)→J n pr y→mv.thread=((t:Nat):Int)→(t:Int)<c.T→mv.op≠0→y.tasks[t]? = some none→20≤mv.op∧mv.op≤25→ZW y.s t mv=some k→J (n+1) pr ⟨y.s,ZD y.m t mv v vc,y.tasks.set t (some k)⟩
 step:∀n pr F y t i cl se k Z Y r1 pr1 F1 r2 pr2 F2,n<65536→PI c n y→Q4 c n y→StepO c n pr F y t i cl se k Z Y r1 pr1 F1 r2 pr2 F2→Q4 c ((n+1:Nat):Int) (Qg y t i r2)→J n pr y→J (n+1) pr2 (Qg y t i r2)
structure KI (c:Cfg)(J:Nat→(Int→Prop)→HW→Prop)(n:Nat)(y:HW):Prop where
 pi:PI c n y
 ok:Q4 c n y
 ex:∃pr F,DI c pr F n y∧J n pr y
theorem kitFn_op {x:Caps}{o:Int}(h:kitFn x o≠none):20≤o∧o≤25:=by
 unfold kitFn at h
 repeat'(split at h)
 all_goals first|omega|exact absurd rfl h
end
end
end Go.Proofs.YtegafhhdegnigaaGreat
