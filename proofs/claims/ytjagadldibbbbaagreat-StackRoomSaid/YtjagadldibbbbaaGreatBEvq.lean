/-
  Small effects of the hazards' calls: which addresses are accessed, what is shifted, pointed, answered.
-/
import Derived.Test.YtjagadldibbbbaaGreatBInv5
set_option linter.all false
namespace Go.Proofs.YtjagadldibbbbaaGreat
open Go.RowKit Hp
set_option maxRecDepth 100000
set_option maxHeartbeats 1000000
attribute [local irreducible] Go.Calls
abbrev St3:=Haz×Are×Mch
inductive EvQ (Q:Nat→Prop) (i t:Nat):St3→St3→Prop where
 | refl (x:St3):EvQ Q i t x x
 | trans {x y z:St3}:EvQ Q i t x y→EvQ Q i t y z→EvQ Q i t x z
 | load {h:Haz} {a:Are} {m:Mch} (j:Nat):m.used=false→j<m.mem.words.length∧Q j→EvQ Q i t (h,a,m) (h,a,m.load j (m.word j))
 | store {h:Haz} {a:Are} {m:Mch} (j:Nat) (z:Int):m.used=false→j<m.mem.words.length∧Q j→EvQ Q i t (h,a,m) (h,a,m.store j (m.word j) z)
 | swap {h:Haz} {a:Are} {m:Mch} (j:Nat) (o z:Int):m.used=false→j<m.mem.words.length∧Q j→EvQ Q i t (h,a,m) (h,a,m.swap j (m.word j) o z)
 | shift {h:Haz} {a:Are} {m:Mch} (s to:Int):0≤s→s<a.c.Sl→0≤to→to≤5→EvQ Q i t (h,a,m) (h,a.shift s.toNat m.thread to,m.shift s (a.slots.getD s.toNat ⟨0,0⟩).state to)
 | point {h:Haz} {a:Are} {m:Mch} (cl:Cll) (z:Int):m.calls[i]? = some cl→cl.begin_<z→z≤m.now→EvQ Q i t (h,a,m) (h,a,m.point i cl z)
 | answer {h:Haz} {a:Are} {m:Mch} (se:Sea) (k v:Int):m.seats[t]? = some se→1≤k→k≤6→(k≠2→v=0)→EvQ Q i t (h,a,m) (h,a,m.answer t se k v)
 | haz {h:Haz} (h':Haz) {a:Are} {m:Mch}:EvQ Q i t (h,a,m) (h',a,m)
 | cache {h:Haz} {a:Are} {m:Mch} (cs:List (List Int)):EvQ Q i t (h,a,m) (h,{ a with caches:=cs },m)
def HzA (c:Cfg)(j:Nat):Prop:=(j:Int)<base c 12∧(j:Int)≠base c 3
class QOk (c:Cfg) (Q:Nat→Prop):Prop where
 q:∀j,HzA c j→Q j
section
variable {i t:Nat}{c:Cfg}{L S N:Nat}{h:Haz}{a:Are}{m:Mch}{Q:Nat→Prop}[QOk c Q]
theorem Core.lq (k:Core c L S N h a m){j:Nat}(hj:HzA c j):j<m.mem.words.length∧Q j:=by
 have hb:=bases k.ok
 have:=k.ok.S1
 refine⟨?_,QOk.q (c:=c) j hj⟩
 rw[k.words]
 have:=hj.1
 obtain⟨b1,b2,b8,b9,b10,b11,b12,b13,b14,rh,rh2,b3⟩:=hb
 omega
theorem adr_lq14 {c:Cfg}(hc:c.Ok):HzA c (adr c 1 0)∧HzA c (adr c 2 0):=by
 have e:=adr_i hc 1 (Int.le_refl 0)
 have e2:=adr_i hc 2 (Int.le_refl 0)
 have:=hc.R1
 have:=hc.S1
 obtain⟨b1,b2,b8,b9,b10,b11,b12,b13,b14,rh,rh2,b3⟩:=bases hc
 refine⟨⟨?_,?_⟩,?_,?_⟩<;>omega
theorem adr_lq' {c:Cfg}(hc:c.Ok){r:Nat}{z n:Int}(h1:r=8∧n=c.R∨(r=10∨r=11)∧n=c.Sl)(h0:0≤z)(hz:z<n):HzA c (adr c r z):=by
 have e:=adr_i hc r h0
 obtain⟨b1,b2,b8,b9,b10,b11,b12,b13,b14,rh,rh2,b3⟩:=bases hc
 have:=hc.S1
 have:=hc.R1
 refine⟨?_,?_⟩
 ·rcases h1 with⟨rfl,rfl⟩|⟨rfl|rfl,rfl⟩<;>omega
 ·rcases h1 with⟨rfl,rfl⟩|⟨rfl|rfl,rfl⟩<;>omega
theorem hz_lq {c:Cfg}(hc:c.Ok){z:Int}(h0:base c 9≤z)(h1:z<base c 10):HzA c z.toNat:=by
 have hb9:=(ZE hc 9).1
 have:=hc.S1
 have:=hc.R1
 obtain⟨b1,b2,b8,b9,b10,b11,b12,b13,b14,rh,rh2,b3⟩:=bases hc
 refine⟨?_,?_⟩<;>omega
theorem evq_push {p:Psh}(k:Core c L S N h a m)(P:PInv c p)(hu:m.used=false):EvQ Q i t (h,a,m) (h,(Ze a m p).2.1,(Ze a m p).2.2.1):=by
 obtain⟨p1,p2,p3,p4⟩:=P
 have hac:=k.ac
 have h1:=k.lq (Q:=Q) (adr_lq14 k.ok).1
 have h2:=k.lq (Q:=Q) (adr_lq' k.ok (.inr ⟨.inl rfl,rfl⟩) p1 p2)
 unfold Ze
 rw[hac]
 split
 ·exact .load _ hu h1
 ·split
  ·exact .store _ _ hu h2
  ·simp only[]
   split
   ·exact(EvQ.swap _ _ _ hu h1).trans (EvQ.shift (m:=m.swap _ _ _ _) _ _ p1 (by rw[hac];exact p2) (by omega) (by omega))
   ·exact .swap _ _ _ hu h1
theorem evq_give {p:Psh}(hac:a.c=c)(s0:0≤p.slot)(s1:p.slot<c.Sl):EvQ Q i t (h,a,m) (h,(Zn a m p).2.1,(Zn a m p).2.2.1):=by
 unfold Zn
 split
 ·exact .refl _
 ·exact(EvQ.cache _).trans (EvQ.shift (a:={ a with caches:=_ }) _ _ s0 (by rw[←hac]at s1;exact s1) (by omega) (by omega))
theorem give_c (a:Are)(m:Mch)(p:Psh):(Zn a m p).2.1.c=a.c:=by
 unfold Zn;split<;>rfl
theorem evq_free (th:Int):∀(pend:List Int) (g:Option Psh) (a:Are) (m:Mch),a.c=c→(∀z∈pend,0≤z∧z<c.Sl)→EvQ Q i t (h,a,m) (h,(ZG th pend g a m).2.2.2.1,(ZG th pend g a m).2.2.2.2)
 | [],g,a,m,_,_=>.refl _
 | s::r,g,a,m,hac,hin=>by
  have hs:=hin s (List.mem_cons_self ..)
  have hg:=evq_give (Q:=Q) (i:=i) (t:=t) (h:=h) (m:=m) (p:=⟨s,1,0,th⟩) hac hs.1 hs.2
  unfold ZG
  split
  ·exact hg.trans (evq_free th r _ _ _ (by rw[give_c];exact hac) (fun z hz=>hin z (List.mem_cons_of_mem _ hz)))
  ·exact hg
theorem evq_scan {s:Scn}(k:Core c L S N h a m)(I:ScI c s)(hu:m.used=false):EvQ Q i t (h,a,m) ((Zs h a m s).2.1,(Zs h a m s).2.2.1,(Zs h a m s).2.2.2.1):=by
 have hok:=k.ok
 have hac:=k.ac
 have hb:=bases hok
 obtain rfl:=k.hc
 obtain⟨i1,i2,i3,i4,i5,i6,i7,i8,i9⟩:=I
 unfold Zs
 by_cases s0:s.stage=0
 ·rw[if_pos s0]
  obtain⟨a0,a1,a2⟩:=i6 (by omega)
  have h1:=k.lq (Q:=Q) (adr_lq' hok (.inl ⟨rfl,rfl⟩) a0 a1)
  unfold scanTry
  simp only[]
  split<;>exact .load _ hu h1
 rw[if_neg s0]
 by_cases s1:s.stage=1
 ·rw[if_pos s1]
  obtain⟨a0,a1,a2⟩:=i6 (by omega)
  have h1:=k.lq (Q:=Q) (adr_lq' hok (.inl ⟨rfl,rfl⟩) a0 a1)
  unfold Qr
  simp only[]
  split
  ·exact(EvQ.swap _ _ _ hu h1).trans (.haz _)
  ·exact .swap _ _ _ hu h1
 rw[if_neg s1]
 by_cases s2:s.stage=2
 ·rw[if_pos s2]
  obtain⟨a0,a1,a2⟩:=i6 (by omega)
  have h1:=k.lq (Q:=Q) (adr_lq' hok (.inl ⟨rfl,rfl⟩) a0 a1)
  exact .store _ _ hu h1
 rw[if_neg s2]
 by_cases s3:s.stage=3
 ·rw[if_pos s3]
  obtain⟨⟨a0,a1⟩,a2,a3⟩:=i8 s3
  have hp:=i7 (by omega)
  have hb9:=(ZE hok 9).1
  have h1:(base h.c 9+s.at_).toNat<m.mem.words.length∧Q (base h.c 9+s.at_).toNat:=k.lq (Q:=Q) (hz_lq hok (by omega) (by have:=hb.b10;omega))
  obtain⟨e1,e2,e3⟩:=k.lget i1 i2
  unfold QJ
  dsimp only
  split
  ·exact .load _ hu h1
  ·simp only[QV,QB,hp,List.nil_append]
   refine(EvQ.load _ hu h1).trans ((EvQ.haz { h with lists:=h.lists.set s.record.toNat ((h.lists.getD s.record.toNat []).filter (QD (Z9 s.named (m.word (base h.c 9+s.at_).toNat-1)))) }).trans ?_)
   exact evq_free (c:=h.c) _ _ _ _ _ hac (fun z hz=>e3 z (List.mem_filter.1 hz).1)
 rw[if_neg s3]
 obtain⟨p,p1,p2,p3,p4⟩:=i9 (by omega)
 rw[p1]
 simp only[]
 have hq:=evq_push (Q:=Q) (i:=i) (t:=t) k p2 hu
 have hc:=(push_core k p2).1.ac
 unfold Qs
 simp only[]
 split
 ·exact hq.trans (evq_free (c:=h.c) _ _ _ _ _ hc p3)
 ·exact hq
theorem evq_retire {r:Ret}(k:Core c L S N h a m)(s0:0≤r.slot)(s1:r.slot<c.Sl):EvQ Q i t (h,a,m) ((Zt h a m r).2.1,(Zt h a m r).2.2.1,(Zt h a m r).2.2.2.1):=by
 have hac:=k.ac
 unfold Zt
 simp only[]
 split<;>exact(EvQ.shift _ _ s0 (by rw[hac];exact s1) (by omega) (by omega)).trans (.haz _)
theorem evq_takeReady {k:Tak}(C:Core c L S N h a m)(t0:0≤k.thread)(t1:k.thread<c.T):EvQ Q i t (h,a,m) (h,(Zj a m k).2.1,(Zj a m k).2.2.1):=by
 obtain rfl:=C.ac
 obtain⟨g1,g2,g3⟩:=C.cget t0 t1
 unfold Zj
 simp only[]
 split
 ·exact .refl _
 ·rename_i h0
  generalize a.caches.getD k.thread.toNat []=x at g1 g2 g3 h0 ⊢
  have hlt:x.length-1<x.length:=by omega
  have hm:x.getD (x.length-1) 0∈x:=by
   rw[Yb,Yd hlt];simp
  obtain⟨q1,q2⟩:=g3 _ hm
  exact(EvQ.cache _).trans (EvQ.shift (a:={ a with caches:=_ }) _ _ q1 q2 (by omega) (by omega))
theorem evq_take {k:Tak}(C:Core c L S N h a m)(T:TkI c k)(hu:m.used=false):EvQ Q i t (h,a,m) (h,(Zq a m k).2.1,(Zq a m k).2.2.1):=by
 have hok:=C.ok
 have hac:=C.ac
 obtain⟨t1,t2,t3,t4⟩:=T
 have h1:=C.lq (Q:=Q) (adr_lq14 hok).1
 unfold Zq
 rw[hac]
 split
 ·exact .load _ hu h1
 ·rename_i hn
  obtain⟨h3,h4,h5⟩:=t3 hn
  have h2:=C.lq (Q:=Q) (adr_lq' hok (r:=10) (z:=k.head%4294967296-1) (.inr ⟨.inl rfl,rfl⟩) (by omega) (by omega))
  split
  ·exact .load _ hu h2
  ·simp only[]
   split
   ·exact(EvQ.swap _ _ _ hu h1).trans (EvQ.shift (m:=m.swap _ _ _ _) _ _ (by omega) (by rw[hac];omega) (by omega) (by omega))
   ·exact .swap _ _ _ hu h1
theorem evq_reg {se:Sea}{r:Reg}(C:Core c L S N h a m)(hse:m.seats[t]? = some se)(i0:0≤r.i)(i1:r.i<c.R)(hu:m.used=false):EvQ Q i t (h,a,m) ((ZZ h m t se r).2.1,a,(ZZ h m t se r).2.2.1):=by
 have hok:=C.ok
 obtain rfl:=C.hc
 have h1:=C.lq (Q:=Q) (adr_lq' hok (.inl ⟨rfl,rfl⟩) i0 i1)
 have hN:∀m',m'.seats[t]? = some se→EvQ Q i t (h,a,m') ((QC h m' t se r).2.1,a,(QC h m' t se r).2.2.1):=by
  intro m' hs
  unfold QC
  split
  ·exact .refl _
  ·exact .answer _ _ _ hs (by omega) (by omega) (fun _=>rfl)
 unfold ZZ
 simp only[]
 split
 ·split
  ·exact(EvQ.load _ hu h1).trans (hN _ hse)
  ·exact .load _ hu h1
 ·split
  ·exact(EvQ.swap _ _ _ hu h1).trans ((EvQ.answer (m:=m.swap _ _ _ _) se 2 r.i hse (by omega) (by omega) (fun hf=>absurd rfl hf)).trans (.haz _))
  ·exact(EvQ.swap _ _ _ hu h1).trans (hN _ hse)
theorem evq_flush {p:Psh}(k:Core c L S N h a m)(P:PInv c p)(hu:m.used=false):EvQ Q i t (h,a,m) (h,(ZD a m p).2.1,(ZD a m p).2.2.1):=by
 have hq:=evq_push (Q:=Q) (i:=i) (t:=t) k P hu
 unfold ZD
 split
 ·exact hq
 ·simp only[]
  split<;>exact hq.trans (.cache _)
theorem evq_unr {u:Unr}(C:Core c L S N h a m)(ht:(t:Int)<c.T)(hu':u.thread=(t:Int))(hd:0≤h.held.getD t 0)(I:UnI c (a.caches.getD t []) u)(hu:m.used=false) :
  EvQ Q i t (h,a,m) ((Zw h a m u).2.1,(Zw h a m u).2.2.1,(Zw h a m u).2.2.2.1):=by
 have hok:=C.ok
 obtain rfl:=C.hc
 obtain⟨r1,_⟩:=C.hget ht
 obtain⟨i1,i2,i3,i4⟩:=I
 unfold Zw
 have e:u.thread.toNat=t:=by omega
 simp only[e]
 by_cases s0:u.stage=0
 ·rw[if_pos s0]
  obtain⟨k0,k1⟩:=i2 s0
  have hz:=hz_adr hok hd r1 k0 k1
  have hb:=(ZE hok 9).1
  have h1:(base h.c 9+h.held.getD t 0*h.c.Hz+u.k).toNat<m.mem.words.length∧Q (base h.c 9+h.held.getD t 0*h.c.Hz+u.k).toNat:=C.lq (Q:=Q) (hz_lq hok (by omega) (by omega))
  split
  ·exact .store _ _ hu h1
  ·split<;>exact .store _ _ hu h1
 rw[if_neg s0]
 by_cases s1:u.stage=1
 ·rw[if_pos s1]
  obtain⟨s,e1,e2,e3⟩:=i3 s1
  rw[e1]
  simp only[]
  have F:=evq_scan (Q:=Q) (i:=i) (t:=t) C e2 hu
  split<;>exact F
 rw[if_neg s1]
 by_cases s2:u.stage=2
 ·rw[if_pos s2]
  obtain⟨p,e1,e2,e3,e4⟩:=i4 s2
  rw[e1]
  exact evq_flush C e2 hu
 rw[if_neg s2]
 exact(EvQ.store _ _ hu (C.lq (Q:=Q) (adr_lq' hok (.inl ⟨rfl,rfl⟩) hd r1))).trans (.haz _)
theorem evq_read {cl:Cll}{se:Sea}{r:Rdg}(C:Core c L S N h a m)(I:RdI c r)(hcl:m.calls[i]? = some cl)(hse:m.seats[t]? = some se)(hb:cl.begin_<m.now)(hp:r.stage=3→cl.begin_<r.point∧r.point≤m.now)(hu:m.used=false) :
  EvQ Q i t (h,a,m) (h,a,(Z0 h m i t cl se r).2.1):=by
 have hok:=C.ok
 have hc:=C.hc
 obtain⟨i1,i2,i3,i4⟩:=I
 have hb9:=(ZE hok 9).1
 have hbs:=bases hok
 have h1:=C.lq (Q:=Q) (adr_lq14 hok).2
 have h2:r.addr.toNat<m.mem.words.length∧Q r.addr.toNat:=C.lq (Q:=Q) (hz_lq hok (by omega) (by omega))
 have hS:∀m' u,m'.calls=m.calls→m'.seats=m.seats→m'.now=m.now→EvQ Q i t (h,a,m') (h,a,(Qt m' i t cl se r u).2.1):=by
  intro m' u e1 e2 e3
  unfold Qt
  split
  ·exact(EvQ.point cl _ (by rw[e1];exact hcl) (by rw[e3];exact hb) (Int.le_refl _)).trans (EvQ.answer (m:=m'.point _ _ _) se 3 0 (by rw[←e2]at hse;exact hse) (by omega) (by omega) (fun _=>rfl))
  ·exact .refl _
 unfold Z0
 rw[hc]
 simp only[]
 split
 ·exact(EvQ.load _ hu h1).trans (hS _ _ rfl rfl rfl)
 ·rename_i s0
  have hw2:=i4 s0
  split
  ·exact .store _ _ hu h2
  ·rename_i s1
   split
   ·split
    ·exact .load _ hu h1
    ·exact(EvQ.load _ hu h1).trans (hS _ _ rfl rfl rfl)
   ·rename_i s2
    obtain⟨q1,q2⟩:=hp (by omega)
    have h3:=C.lq (Q:=Q) (adr_lq' hok (r:=11) (z:=r.w-1) (.inr ⟨.inr rfl,rfl⟩) (by omega) (by omega))
    exact(EvQ.load _ hu h3).trans ((EvQ.point (m:=m.load _ _) cl r.point hcl q1 q2).trans (EvQ.answer (m:=(m.load _ _).point _ _ _) se 2 _ hse (by omega) (by omega) (fun hf=>absurd rfl hf)))
theorem evq_took {cl:Cll}{se:Sea}{p:Pst}{k:Tak}{m':Mch}(hcl:m'.calls[i]? = some cl)(hse:m'.seats[t]? = some se)(hb:cl.begin_<m'.now):EvQ Q i t (h,a,m') (h,a,(ZT m' i t cl se p k).2.1):=by
 unfold ZT
 split
 ·exact(EvQ.point cl _ hcl hb (Int.le_refl _)).trans (EvQ.answer (m:=m'.point _ _ _) se 4 0 hse (by omega) (by omega) (fun _=>rfl))
 ·exact .refl _
theorem evq_done {cl:Cll}{se:Sea}{p:Pst}{k:Tak}{sl0:Int}(C:Core c L S N h a m)(hs:p.saw≤c.Sl)(q0:0≤sl0)(q1:sl0<c.Sl)(hcl:m.calls[i]? = some cl)(hse:m.seats[t]? = some se)(hb:cl.begin_<m.now) :
  EvQ Q i t (h,a,m) ((QX h a m i t cl se p sl0).2.1,(QX h a m i t cl se p sl0).2.2.1,(QX h a m i t cl se p sl0).2.2.2.1):=by
 have hac:=C.ac
 unfold QX
 simp only[]
 have E1:EvQ Q i t (h,a,m) (h,a.shift sl0.toNat m.thread 3,((m.point i cl m.now).answer t se 1 0).shift sl0 (a.slots.getD sl0.toNat ⟨0,0⟩).state 3):=
  (EvQ.point cl _ hcl hb (Int.le_refl _)).trans ((EvQ.answer (m:=m.point _ _ _) se 1 0 hse (by omega) (by omega) (fun _=>rfl)).trans (EvQ.shift (m:=(m.point _ _ _).answer _ _ _ _) sl0 3 q0 (by rw[hac];exact q1) (by omega) (by omega)))
 have C1:=(((C.point i cl m.now).answer t se 1 0).ashift sl0.toNat m.thread 3).mshift sl0 (a.slots.getD sl0.toNat ⟨0,0⟩).state 3
 split
 ·exact E1
 ·rename_i hn
  have E2:EvQ Q i t (h,a.shift sl0.toNat m.thread 3,((m.point i cl m.now).answer t se 1 0).shift sl0 (a.slots.getD sl0.toNat ⟨0,0⟩).state 3) _:=EvQ.shift (p.saw-1) 4 (by omega) (by show p.saw-1<a.c.Sl;rw[hac];omega) (by omega) (by omega)
  have C2:=(C1.ashift (p.saw-1).toNat m.thread 4).mshift (p.saw-1) ((a.shift sl0.toNat m.thread 3).slots.getD (p.saw-1).toNat ⟨0,0⟩).state 4
  have R:=evq_retire (Q:=Q) (i:=i) (t:=t) (r:=⟨p.thread,p.saw-1,none⟩) C2 (by simp only[];omega) (by simp only[];omega)
  exact E1.trans (E2.trans R)
theorem evq_post {cl:Cll}{se:Sea}{p:Pst}(C:Core c L S N h a m)(I:PoI c p)(hcl:m.calls[i]? = some cl)(hse:m.seats[t]? = some se)(hb:cl.begin_<m.now)(hu:m.used=false) :
  EvQ Q i t (h,a,m) ((ZO h a m i t cl se p).2.1,(ZO h a m i t cl se p).2.2.1,(ZO h a m i t cl se p).2.2.2.1):=by
 have hok:=C.ok
 have hc:=C.hc
 obtain⟨⟨k,hk,k0,k1⟩,i2,i3,i4⟩:=I
 have h1:=C.lq (Q:=Q) (adr_lq14 hok).2
 unfold ZO
 rw[hk,hc]
 simp only[]
 by_cases s0:p.stage=0
 ·rw[if_pos s0]
  have E:=evq_take (Q:=Q) (i:=i) (t:=t) C (k0 s0) hu
  have Sm:=same_take a m k
  split
  ·exact E.trans (evq_took (by rw[Sm.calls];exact hcl) (by rw[Sm.seats];exact hse) (by rw[Sm.now];exact hb))
  ·exact E
 rw[if_neg s0]
 by_cases s1:p.stage=1
 ·rw[if_pos s1]
  obtain⟨g1,g2,g3⟩:=k1 (.inl s1)
  exact .store _ _ hu (C.lq (Q:=Q) (adr_lq' hok (r:=11) (.inr ⟨.inr rfl,rfl⟩) g1 g2))
 rw[if_neg s1]
 by_cases s2:p.stage=2
 ·rw[if_pos s2]
  exact .load _ hu h1
 rw[if_neg s2]
 by_cases s3:p.stage=3
 ·rw[if_pos s3]
  obtain⟨g1,g2,g3⟩:=k1 (.inr (.inr s3))
  have hz:WOk c (adr c 2 0) p.link:=wok_cell hok (by omega)
  have hsw:=i3 s3
  split
  ·exact(EvQ.swap _ _ _ hu h1).trans (evq_done (k:=k) (C.swap (adr c 2 0) (m.word (adr c 2 0)) p.saw p.link hz) hsw.2 g1 g2 hcl hse hb)
  ·exact .swap _ _ _ hu h1
 rw[if_neg s3]
 have s4:p.stage=4:=by rcases i2 with h|h|h|h|h<;>first|exact absurd h s0|exact absurd h s1|exact absurd h s2|exact absurd h s3|exact h
 obtain⟨r,sc,e1,e2,e3,e4⟩:=i4 s4
 rw[e1]
 simp only[e2]
 exact evq_scan C e3 hu
theorem evq_postReady {cl:Cll}{se:Sea}{p:Pst}(C:Core c L S N h a m)(t0:0≤p.thread)(t1:p.thread<c.T)(hcl:m.calls[i]? = some cl)(hse:m.seats[t]? = some se)(hb:cl.begin_<m.now) :
  EvQ Q i t (h,a,m) (h,(ZI a m i t cl se p).2.1,(ZI a m i t cl se p).2.2.1):=by
 have E:=evq_takeReady (Q:=Q) (i:=i) (t:=t) (k:=⟨p.thread,1,0,0,0,false⟩) C t0 t1
 have Sm:=ZH a m ⟨p.thread,1,0,0,0,false⟩
 unfold ZI
 simp only[]
 split
 ·exact E.trans (evq_took (by rw[Sm.calls];exact hcl) (by rw[Sm.seats];exact hse) (by rw[Sm.now];exact hb))
 ·exact E
theorem evq_rdy {cl:Cll}{se:Sea}{k:QP}(C:Core c L S N h a m)(ht:(t:Int)<c.T)(I:TI c t false (h.held.getD t 0) (a.caches.getD t []) k)(hcl:m.calls[i]? = some cl)(hse:m.seats[t]? = some se)(hb:cl.begin_<m.now) :
  EvQ Q i t (h,a,m) ((Qv (h,a) m i t cl se k).2.1.1,(Qv (h,a) m i t cl se k).2.1.2,(Qv (h,a) m i t cl se k).2.2.1):=by
 cases k with
 | pst p=>exact evq_postReady C (by rw[I.1];omega) (by rw[I.1];exact ht) hcl hse hb
 | scn s=>exact .refl _
 | reg r=>exact .refl _
 | unr u=>exact .refl _
 | rdg r=>exact .refl _
 | clr ad=>exact .refl _
def RdP (b now:Int):QP→Prop
 | .rdg r=>r.stage=3→b<r.point∧r.point≤now
 | _=>True
theorem evq_stp {cl:Cll}{se:Sea}{k:QP}(C:Core c L S N h a m)(ht:(t:Int)<c.T)(I:TI c t true (h.held.getD t 0) (a.caches.getD t []) k)(hcl:m.calls[i]? = some cl)(hse:m.seats[t]? = some se)(hb:cl.begin_<m.now)(hp:RdP cl.begin_ m.now k)(hu:m.used=false) :
  EvQ Q i t (h,a,m) ((Qw (h,a) m i t cl se k).2.1.1,(Qw (h,a) m i t cl se k).2.1.2,(Qw (h,a) m i t cl se k).2.2.1):=by
 have hok:=C.ok
 cases k with
 | reg r=>
  obtain⟨i1,i2,i3⟩:=I
  exact evq_reg C hse i2 i3 hu
 | unr u=>
  obtain⟨i1,i2,i3⟩:=I
  exact evq_unr C ht i1 i2 i3 hu
 | rdg r=>exact evq_read C I hcl hse hb hp hu
 | clr ad=>
  obtain⟨i1,i2⟩:=I
  have hq:=hz_lq (z:=(ad:Int)) hok i1 i2
  rw[Yo]at hq
  exact .store _ _ hu (C.lq hq)
 | scn s=>exact evq_scan C (I.2.2 rfl) hu
 | pst p=>exact evq_post C (I.2.2.1 rfl) hcl hse hb hu
theorem rdp_stp {cl cl':Cll}{se:Sea}{k:QP}(hb:cl.begin_<m.now)(hp:RdP cl.begin_ m.now k):RdP cl.begin_ m.now (Qw (h,a) m i t cl' se k).2.2.2:=by
 cases k with
 | rdg r=>
  simp only[Qw,RdP,Z0]at hp ⊢
  split
  ·unfold Qt;split<;>simp
  ·split
   ·simp
   ·split
    ·split
     ·simp only[];exact fun _=>⟨hb,Int.le_refl _⟩
     ·unfold Qt;split<;>simp
    ·exact hp
 | _=>exact trivial
theorem rdp_rdy {cl cl':Cll}{se:Sea}{k:QP}{b now:Int}(hp:RdP b now k):RdP b now (Qv (h,a) m i t cl' se k).2.2.2:=by
 cases k with
 | rdg r=>exact hp
 | _=>exact trivial
end
end Go.Proofs.YtjagadldibbbbaaGreat
