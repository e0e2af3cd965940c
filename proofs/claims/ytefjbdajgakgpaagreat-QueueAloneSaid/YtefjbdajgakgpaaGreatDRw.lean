import Derived.Test.YtefjbdajgakgpaaGreatDInv4
set_option linter.all false
namespace Go.Proofs.YtefjbdajgakgpaaGreat
open Go.RowKit Hp
set_option maxRecDepth 100000
set_option maxHeartbeats 1000000
attribute [local irreducible] Go.Calls
section
abbrev St3:=Haz×Are×Mch
inductive EvQ (Q:Nat→Prop) (i t:Nat):St3→St3→Prop where
 | refl (x:St3):EvQ Q i t x x
 | trans {x y z:St3}:EvQ Q i t x y→EvQ Q i t y z→EvQ Q i t x z
 | load {h:Haz} {a:Are} {m:Mch} (j:Nat):m.used=false→j<m.mem.words.length∧Q j→EvQ Q i t (h,a,m) (h,a,m.load j (m.word j))
 | store {h:Haz} {a:Are} {m:Mch} (j:Nat) (z:Int):m.used=false→j<m.mem.words.length∧Q j→EvQ Q i t (h,a,m) (h,a,m.store j (m.word j) z)
 | swap {h:Haz} {a:Are} {m:Mch} (j:Nat) (o z:Int):m.used=false→j<m.mem.words.length∧Q j→EvQ Q i t (h,a,m) (h,a,m.swap j (m.word j) o z)
 | shift {h:Haz} {a:Are} {m:Mch} (s to:Int):0≤s→s<a.c.Sl→0≤to→to≤5→EvQ Q i t (h,a,m) (h,a.shift s.toNat m.thread to,m.shift s (a.slots.getD s.toNat ⟨0,0⟩).state to)
 | point {h:Haz} {a:Are} {m:Mch} (cl:Cll) (z:Int):m.calls[i]? = some cl→cl.begin_<z→z≤m.now→EvQ Q i t (h,a,m) (h,a,m.point i cl z)
 | answer {h:Haz} {a:Are} {m:Mch} (se:Sea) (k v:Int):m.seats[t]? = some se→1≤k→k≤6→(k≠2→v=0)→EvQ Q i t (h,a,m) (h,a,m.answer t se k v)
 | haz {h:Haz} (h':Haz) {a:Are} {m:Mch}:EvQ Q i t (h,a,m) (h',a,m)
 | cache {h:Haz} {a:Are} {m:Mch} (cs:List (List Int)):EvQ Q i t (h,a,m) (h,{ a with caches:=cs },m)
def HzA (c:Cfg)(j:Nat):Prop:=(j:Int)<base c 11∧((j:Int)<base c 3∨base c 8≤(j:Int))
class QOk (c:Cfg) (Q:Nat→Prop):Prop where
 q:∀j,HzA c j→Q j
section
variable {i t:Nat}{c:Cfg}{L S N:Nat}{h:Haz}{a:Are}{m:Mch}{Q:Nat→Prop}[QOk c Q]
theorem Core.lq (k:Core c L S N h a m){j:Nat}(hj:HzA c j):j<m.mem.words.length∧Q j:=by
 have hb:=Qg k.ok
 have:=k.ok.S1
 refine⟨?_,QOk.q (c:=c) j hj⟩
 rw[k.words]
 have:=hj.1
 obtain⟨b1,b2,b8,b9,b10,b11,b12,b13,b14,rh,rh2,b3⟩:=hb
 omega
theorem adr_lq14 {c:Cfg}(hc:c.Ok):HzA c (adr c 1 0)∧HzA c (adr c 2 0):=by
 have e:=ZY hc 1 (Int.le_refl 0)
 have e2:=ZY hc 2 (Int.le_refl 0)
 have:=hc.R1
 have:=hc.S1
 obtain⟨b1,b2,b8,b9,b10,b11,b12,b13,b14,rh,rh2,b3⟩:=Qg hc
 refine⟨⟨?_,?_⟩,?_,?_⟩<;>omega
theorem adr_lq' {c:Cfg}(hc:c.Ok){r:Nat}{z n:Int}(h1:r=8∧n=c.R∨r=10∧n=c.Sl)(h0:0≤z)(hz:z<n):HzA c (adr c r z):=by
 have e:=ZY hc r h0
 obtain⟨b1,b2,b8,b9,b10,b11,b12,b13,b14,rh,rh2,b3⟩:=Qg hc
 have:=hc.S1
 have:=hc.R1
 refine⟨?_,?_⟩
 ·rcases h1 with⟨rfl,rfl⟩|⟨rfl,rfl⟩<;>omega
 ·rcases h1 with⟨rfl,rfl⟩|⟨rfl,rfl⟩<;>omega
theorem Core.l11 (k:Core c L S N h a m){z:Int}(h0:0≤z)(hz:z<c.Sl):adr c 11 z<m.mem.words.length:=by
 have e:=ZY k.ok 11 h0
 have hb:=Qg k.ok
 have:=k.ok.S1
 rw[k.words]
 obtain⟨b1,b2,b8,b9,b10,b11,b12,b13,b14,rh,rh2,b3⟩:=hb
 omega
theorem hz_lq {c:Cfg}(hc:c.Ok){z:Int}(h0:base c 9≤z)(h1:z<base c 10):HzA c z.toNat:=by
 have hb9:=(ZD hc 9).1
 have:=hc.S1
 have:=hc.R1
 obtain⟨b1,b2,b8,b9,b10,b11,b12,b13,b14,rh,rh2,b3⟩:=Qg hc
 refine⟨?_,?_⟩<;>omega
theorem evq_push {p:Psh}(k:Core c L S N h a m)(P:PInv c p)(hu:m.used=false):EvQ Q i t (h,a,m) (h,(Za a m p).2.1,(Za a m p).2.2.1):=by
 obtain⟨p1,p2,p3,p4⟩:=P
 have hac:=k.ac
 have h1:=k.lq (Q:=Q) (adr_lq14 k.ok).1
 have h2:=k.lq (Q:=Q) (adr_lq' k.ok (.inr ⟨rfl,rfl⟩) p1 p2)
 unfold Za
 rw[hac]
 split
 ·exact .load _ hu h1
 ·split
  ·exact .store _ _ hu h2
  ·simp only[]
   split
   ·exact(EvQ.swap _ _ _ hu h1).trans (EvQ.shift (m:=m.swap _ _ _ _) _ _ p1 (by rw[hac];exact p2) (by omega) (by omega))
   ·exact .swap _ _ _ hu h1
theorem evq_give {p:Psh}(hac:a.c=c)(s0:0≤p.slot)(s1:p.slot<c.Sl):EvQ Q i t (h,a,m) (h,(Zq a m p).2.1,(Zq a m p).2.2.1):=by
 unfold Zq
 split
 ·exact .refl _
 ·exact(EvQ.cache _).trans (EvQ.shift (a:={ a with caches:=_ }) _ _ s0 (by rw[←hac]at s1;exact s1) (by omega) (by omega))
theorem give_c (a:Are)(m:Mch)(p:Psh):(Zq a m p).2.1.c=a.c:=by
 unfold Zq;split<;>rfl
theorem evq_free (th:Int):∀(pend:List Int) (g:Option Psh) (a:Are) (m:Mch),a.c=c→(∀z∈pend,0≤z∧z<c.Sl)→EvQ Q i t (h,a,m) (h,(Zu th pend g a m).2.2.2.1,(Zu th pend g a m).2.2.2.2)
 | [],g,a,m,_,_=>.refl _
 | s::r,g,a,m,hac,hin=>by
  have hs:=hin s (List.mem_cons_self ..)
  have hg:=evq_give (Q:=Q) (i:=i) (t:=t) (h:=h) (m:=m) (p:=⟨s,1,0,th⟩) hac hs.1 hs.2
  unfold Zu
  split
  ·exact hg.trans (evq_free th r _ _ _ (by rw[give_c];exact hac) (fun z hz=>hin z (List.mem_cons_of_mem _ hz)))
  ·exact hg
theorem evq_scan {s:Scn}(k:Core c L S N h a m)(I:ScI c s)(hu:m.used=false):EvQ Q i t (h,a,m) ((Zl h a m s).2.1,(Zl h a m s).2.2.1,(Zl h a m s).2.2.2.1):=by
 have hok:=k.ok
 have hac:=k.ac
 have hb:=Qg hok
 obtain rfl:=k.hc
 obtain⟨i1,i2,i3,i4,i5,i6,i7,i8,i9⟩:=I
 unfold Zl
 by_cases s0:s.stage=0
 ·rw[if_pos s0]
  obtain⟨a0,a1,a2⟩:=i6 (by omega)
  have h1:=k.lq (Q:=Q) (adr_lq' hok (.inl ⟨rfl,rfl⟩) a0 a1)
  unfold Jp
  simp only[]
  split<;>exact .load _ hu h1
 rw[if_neg s0]
 by_cases s1:s.stage=1
 ·rw[if_pos s1]
  obtain⟨a0,a1,a2⟩:=i6 (by omega)
  have h1:=k.lq (Q:=Q) (adr_lq' hok (.inl ⟨rfl,rfl⟩) a0 a1)
  unfold QJ
  simp only[]
  split
  ·exact(EvQ.swap _ _ _ hu h1).trans (.haz _)
  ·exact .swap _ _ _ hu h1
 rw[if_neg s1]
 by_cases s2:s.stage=2
 ·rw[if_pos s2]
  obtain⟨a0,a1,a2⟩:=i6 (by omega)
  have h1:=k.lq (Q:=Q) (adr_lq' hok (.inl ⟨rfl,rfl⟩) a0 a1)
  exact .store _ _ hu h1
 rw[if_neg s2]
 by_cases s3:s.stage=3
 ·rw[if_pos s3]
  obtain⟨⟨a0,a1⟩,a2,a3⟩:=i8 s3
  have hp:=i7 (by omega)
  have hb9:=(ZD hok 9).1
  have h1:(base h.c 9+s.at_).toNat<m.mem.words.length∧Q (base h.c 9+s.at_).toNat:=k.lq (Q:=Q) (hz_lq hok (by omega) (by have:=hb.b10;omega))
  obtain⟨e1,e2,e3⟩:=k.lget i1 i2
  unfold QU
  dsimp only
  split
  ·exact .load _ hu h1
  ·simp only[Qq,QC,hp,List.nil_append]
   refine(EvQ.load _ hu h1).trans ((EvQ.haz { h with lists:=h.lists.set s.record.toNat ((h.lists.getD s.record.toNat []).filter (QQ (Qi s.named (m.word (base h.c 9+s.at_).toNat-1)))) }).trans ?_)
   exact evq_free (c:=h.c) _ _ _ _ _ hac (fun z hz=>e3 z (List.mem_filter.1 hz).1)
 rw[if_neg s3]
 obtain⟨p,p1,p2,p3,p4⟩:=i9 (by omega)
 rw[p1]
 simp only[]
 have hq:=evq_push (Q:=Q) (i:=i) (t:=t) k p2 hu
 have hc:=(push_core k p2).1.ac
 unfold QK
 simp only[]
 split
 ·exact hq.trans (evq_free (c:=h.c) _ _ _ _ _ hc p3)
 ·exact hq
theorem evq_retire {r:Ret}(k:Core c L S N h a m)(s0:0≤r.slot)(s1:r.slot<c.Sl):EvQ Q i t (h,a,m) ((Zr h a m r).2.1,(Zr h a m r).2.2.1,(Zr h a m r).2.2.2.1):=by
 have hac:=k.ac
 unfold Zr
 simp only[]
 split<;>exact(EvQ.shift _ _ s0 (by rw[hac];exact s1) (by omega) (by omega)).trans (.haz _)
theorem evq_takeReady {k:Tak}(C:Core c L S N h a m)(t0:0≤k.thread)(t1:k.thread<c.T):EvQ Q i t (h,a,m) (h,(Zf a m k).2.1,(Zf a m k).2.2.1):=by
 obtain rfl:=C.ac
 obtain⟨g1,g2,g3⟩:=C.cget t0 t1
 unfold Zf
 simp only[]
 split
 ·exact .refl _
 ·rename_i h0
  generalize a.caches.getD k.thread.toNat []=x at g1 g2 g3 h0 ⊢
  have hlt:x.length-1<x.length:=by omega
  have hm:x.getD (x.length-1) 0∈x:=by
   rw[Yb,Yd hlt];simp
  obtain⟨q1,q2⟩:=g3 _ hm
  exact(EvQ.cache _).trans (EvQ.shift (a:={ a with caches:=_ }) _ _ q1 q2 (by omega) (by omega))
theorem evq_take {k:Tak}(C:Core c L S N h a m)(T:TkI c k)(hu:m.used=false):EvQ Q i t (h,a,m) (h,(Zh a m k).2.1,(Zh a m k).2.2.1):=by
 have hok:=C.ok
 have hac:=C.ac
 obtain⟨t1,t2,t3,t4⟩:=T
 have h1:=C.lq (Q:=Q) (adr_lq14 hok).1
 unfold Zh
 rw[hac]
 split
 ·exact .load _ hu h1
 ·rename_i hn
  obtain⟨h3,h4,h5⟩:=t3 hn
  have h2:=C.lq (Q:=Q) (adr_lq' hok (r:=10) (z:=k.head%4294967296-1) (.inr ⟨rfl,rfl⟩) (by omega) (by omega))
  split
  ·exact .load _ hu h2
  ·simp only[]
   split
   ·exact(EvQ.swap _ _ _ hu h1).trans (EvQ.shift (m:=m.swap _ _ _ _) _ _ (by omega) (by rw[hac];omega) (by omega) (by omega))
   ·exact .swap _ _ _ hu h1
theorem evq_reg {se:Sea}{r:Reg}(C:Core c L S N h a m)(hse:m.seats[t]? = some se)(i0:0≤r.i)(i1:r.i<c.R)(hu:m.used=false):EvQ Q i t (h,a,m) ((Z4 h m t se r).2.1,a,(Z4 h m t se r).2.2.1):=by
 have hok:=C.ok
 obtain rfl:=C.hc
 have h1:=C.lq (Q:=Q) (adr_lq' hok (.inl ⟨rfl,rfl⟩) i0 i1)
 have hN:∀m',m'.seats[t]? = some se→EvQ Q i t (h,a,m') ((Qv h m' t se r).2.1,a,(Qv h m' t se r).2.2.1):=by
  intro m' hs
  unfold Qv
  split
  ·exact .refl _
  ·exact .answer _ _ _ hs (by omega) (by omega) (fun _=>rfl)
 unfold Z4
 simp only[]
 split
 ·split
  ·exact(EvQ.load _ hu h1).trans (hN _ hse)
  ·exact .load _ hu h1
 ·split
  ·exact(EvQ.swap _ _ _ hu h1).trans ((EvQ.answer (m:=m.swap _ _ _ _) se 2 r.i hse (by omega) (by omega) (fun hf=>absurd rfl hf)).trans (.haz _))
  ·exact(EvQ.swap _ _ _ hu h1).trans (hN _ hse)
theorem evq_flush {p:Psh}(k:Core c L S N h a m)(P:PInv c p)(hu:m.used=false):EvQ Q i t (h,a,m) (h,(ZC a m p).2.1,(ZC a m p).2.2.1):=by
 have hq:=evq_push (Q:=Q) (i:=i) (t:=t) k P hu
 unfold ZC
 split
 ·exact hq
 ·simp only[]
  split<;>exact hq.trans (.cache _)
theorem evq_unr {u:Unr}(C:Core c L S N h a m)(ht:(t:Int)<c.T)(hu':u.thread=(t:Int))(hd:0≤h.held.getD t 0)(I:UnI c (a.caches.getD t []) u)(hu:m.used=false) :
  EvQ Q i t (h,a,m) ((Zs h a m u).2.1,(Zs h a m u).2.2.1,(Zs h a m u).2.2.2.1):=by
 have hok:=C.ok
 obtain rfl:=C.hc
 obtain⟨r1,_⟩:=C.hget ht
 obtain⟨i1,i2,i3,i4⟩:=I
 unfold Zs
 have e:u.thread.toNat=t:=by omega
 simp only[e]
 by_cases s0:u.stage=0
 ·rw[if_pos s0]
  obtain⟨k0,k1⟩:=i2 s0
  have hz:=hz_adr hok hd r1 k0 k1
  have hb:=(ZD hok 9).1
  have h1:(base h.c 9+h.held.getD t 0*h.c.Hz+u.k).toNat<m.mem.words.length∧Q (base h.c 9+h.held.getD t 0*h.c.Hz+u.k).toNat:=C.lq (Q:=Q) (hz_lq hok (by omega) (by omega))
  split
  ·exact .store _ _ hu h1
  ·split<;>exact .store _ _ hu h1
 rw[if_neg s0]
 by_cases s1:u.stage=1
 ·rw[if_pos s1]
  obtain⟨s,e1,e2,e3⟩:=i3 s1
  rw[e1]
  simp only[]
  have F:=evq_scan (Q:=Q) (i:=i) (t:=t) C e2 hu
  split<;>exact F
 rw[if_neg s1]
 by_cases s2:u.stage=2
 ·rw[if_pos s2]
  obtain⟨p,e1,e2,e3,e4⟩:=i4 s2
  rw[e1]
  exact evq_flush C e2 hu
 rw[if_neg s2]
 exact(EvQ.store _ _ hu (C.lq (Q:=Q) (adr_lq' hok (.inl ⟨rfl,rfl⟩) hd r1))).trans (.haz _)
theorem evq_read {cl:Cll}{se:Sea}{r:Rdg}(C:Core c L S N h a m)(I:RdI c r)(hR:r.stage=3→Q (adr c 11 (r.w-1)))(hcl:m.calls[i]? = some cl)(hse:m.seats[t]? = some se)(hb:cl.begin_<m.now)(hp:r.stage=3→cl.begin_<r.point∧r.point≤m.now)(hu:m.used=false) :
  EvQ Q i t (h,a,m) (h,a,(ZZ h m i t cl se r).2.1):=by
 have hok:=C.ok
 have hc:=C.hc
 obtain⟨i1,i2,i3,i4⟩:=I
 have hb9:=(ZD hok 9).1
 have hbs:=Qg hok
 have h1:=C.lq (Q:=Q) (adr_lq14 hok).2
 have h2:r.addr.toNat<m.mem.words.length∧Q r.addr.toNat:=C.lq (Q:=Q) (hz_lq hok (by omega) (by omega))
 have hS:∀m' u,m'.calls=m.calls→m'.seats=m.seats→m'.now=m.now→EvQ Q i t (h,a,m') (h,a,(Qf m' i t cl se r u).2.1):=by
  intro m' u e1 e2 e3
  unfold Qf
  split
  ·exact(EvQ.point cl _ (by rw[e1];exact hcl) (by rw[e3];exact hb) (Int.le_refl _)).trans (EvQ.answer (m:=m'.point _ _ _) se 3 0 (by rw[←e2]at hse;exact hse) (by omega) (by omega) (fun _=>rfl))
  ·exact .refl _
 unfold ZZ
 rw[hc]
 simp only[]
 split
 ·exact(EvQ.load _ hu h1).trans (hS _ _ rfl rfl rfl)
 ·rename_i s0
  have hw2:=i4 s0
  split
  ·exact .store _ _ hu h2
  ·rename_i s1
   split
   ·split
    ·exact .load _ hu h1
    ·exact(EvQ.load _ hu h1).trans (hS _ _ rfl rfl rfl)
   ·rename_i s2
    obtain⟨q1,q2⟩:=hp (by omega)
    have h3:adr c 11 (r.w-1)<m.mem.words.length∧Q (adr c 11 (r.w-1)):=⟨C.l11 (by omega) (by omega),hR (by omega)⟩
    exact(EvQ.load _ hu h3).trans ((EvQ.point (m:=m.load _ _) cl r.point hcl q1 q2).trans (EvQ.answer (m:=(m.load _ _).point _ _ _) se 2 _ hse (by omega) (by omega) (fun hf=>absurd rfl hf)))
theorem evq_took {cl:Cll}{se:Sea}{p:Pst}{k:Tak}{m':Mch}(hcl:m'.calls[i]? = some cl)(hse:m'.seats[t]? = some se)(hb:cl.begin_<m'.now):EvQ Q i t (h,a,m') (h,a,(ZH m' i t cl se p k).2.1):=by
 unfold ZH
 split
 ·exact(EvQ.point cl _ hcl hb (Int.le_refl _)).trans (EvQ.answer (m:=m'.point _ _ _) se 4 0 hse (by omega) (by omega) (fun _=>rfl))
 ·exact .refl _
theorem evq_done {cl:Cll}{se:Sea}{p:Pst}{k:Tak}{sl0:Int}(C:Core c L S N h a m)(hs:p.saw≤c.Sl)(q0:0≤sl0)(q1:sl0<c.Sl)(hcl:m.calls[i]? = some cl)(hse:m.seats[t]? = some se)(hb:cl.begin_<m.now) :
  EvQ Q i t (h,a,m) ((Je h a m i t cl se p sl0).2.1,(Je h a m i t cl se p sl0).2.2.1,(Je h a m i t cl se p sl0).2.2.2.1):=by
 have hac:=C.ac
 unfold Je
 simp only[]
 have E1:EvQ Q i t (h,a,m) (h,a.shift sl0.toNat m.thread 3,((m.point i cl m.now).answer t se 1 0).shift sl0 (a.slots.getD sl0.toNat ⟨0,0⟩).state 3):=
  (EvQ.point cl _ hcl hb (Int.le_refl _)).trans ((EvQ.answer (m:=m.point _ _ _) se 1 0 hse (by omega) (by omega) (fun _=>rfl)).trans (EvQ.shift (m:=(m.point _ _ _).answer _ _ _ _) sl0 3 q0 (by rw[hac];exact q1) (by omega) (by omega)))
 have C1:=(((C.point i cl m.now).answer t se 1 0).ashift sl0.toNat m.thread 3).mshift sl0 (a.slots.getD sl0.toNat ⟨0,0⟩).state 3
 split
 ·exact E1
 ·rename_i hn
  have E2:EvQ Q i t (h,a.shift sl0.toNat m.thread 3,((m.point i cl m.now).answer t se 1 0).shift sl0 (a.slots.getD sl0.toNat ⟨0,0⟩).state 3) _:=EvQ.shift (p.saw-1) 4 (by omega) (by show p.saw-1<a.c.Sl;rw[hac];omega) (by omega) (by omega)
  have C2:=(C1.ashift (p.saw-1).toNat m.thread 4).mshift (p.saw-1) ((a.shift sl0.toNat m.thread 3).slots.getD (p.saw-1).toNat ⟨0,0⟩).state 4
  have R:=evq_retire (Q:=Q) (i:=i) (t:=t) (r:=⟨p.thread,p.saw-1,none⟩) C2 (by simp only[];omega) (by simp only[];omega)
  exact E1.trans (E2.trans R)
theorem evq_post {cl:Cll}{se:Sea}{p:Pst}(C:Core c L S N h a m)(I:PoI c p)(hV:p.stage=1→Q (adr c 11 (p.link-1)))(hcl:m.calls[i]? = some cl)(hse:m.seats[t]? = some se)(hb:cl.begin_<m.now)(hu:m.used=false) :
  EvQ Q i t (h,a,m) ((ZP h a m i t cl se p).2.1,(ZP h a m i t cl se p).2.2.1,(ZP h a m i t cl se p).2.2.2.1):=by
 have hok:=C.ok
 have hc:=C.hc
 obtain⟨⟨k,hk,k0,k1⟩,i2,i3,i4⟩:=I
 have h1:=C.lq (Q:=Q) (adr_lq14 hok).2
 unfold ZP
 rw[hk,hc]
 simp only[]
 by_cases s0:p.stage=0
 ·rw[if_pos s0]
  have E:=evq_take (Q:=Q) (i:=i) (t:=t) C (k0 s0) hu
  have Sm:=same_take a m k
  split
  ·exact E.trans (evq_took (by rw[Sm.calls];exact hcl) (by rw[Sm.seats];exact hse) (by rw[Sm.now];exact hb))
  ·exact E
 rw[if_neg s0]
 by_cases s1:p.stage=1
 ·rw[if_pos s1]
  obtain⟨g1,g2,g3⟩:=k1 (.inl s1)
  exact .store _ _ hu ⟨C.l11 g1 g2,by rw[show Zd k=p.link-1 by omega];exact hV s1⟩
 rw[if_neg s1]
 by_cases s2:p.stage=2
 ·rw[if_pos s2]
  exact .load _ hu h1
 rw[if_neg s2]
 by_cases s3:p.stage=3
 ·rw[if_pos s3]
  obtain⟨g1,g2,g3⟩:=k1 (.inr (.inr s3))
  have hz:WOk c (adr c 2 0) p.link:=wok_cell hok (by omega)
  have hsw:=i3 s3
  split
  ·exact(EvQ.swap _ _ _ hu h1).trans (evq_done (k:=k) (C.swap (adr c 2 0) (m.word (adr c 2 0)) p.saw p.link hz) hsw.2 g1 g2 hcl hse hb)
  ·exact .swap _ _ _ hu h1
 rw[if_neg s3]
 have s4:p.stage=4:=by rcases i2 with h|h|h|h|h<;>first|exact absurd h s0|exact absurd h s1|exact absurd h s2|exact absurd h s3|exact h
 obtain⟨r,sc,e1,e2,e3,e4⟩:=i4 s4
 rw[e1]
 simp only[e2]
 exact evq_scan C e3 hu
theorem evq_postReady {cl:Cll}{se:Sea}{p:Pst}(C:Core c L S N h a m)(t0:0≤p.thread)(t1:p.thread<c.T)(hcl:m.calls[i]? = some cl)(hse:m.seats[t]? = some se)(hb:cl.begin_<m.now) :
  EvQ Q i t (h,a,m) (h,(ZM a m i t cl se p).2.1,(ZM a m i t cl se p).2.2.1):=by
 have E:=evq_takeReady (Q:=Q) (i:=i) (t:=t) (k:=⟨p.thread,1,0,0,0,false⟩) C t0 t1
 have Sm:=Z2 a m ⟨p.thread,1,0,0,0,false⟩
 unfold ZM
 simp only[]
 split
 ·exact E.trans (evq_took (by rw[Sm.calls];exact hcl) (by rw[Sm.seats];exact hse) (by rw[Sm.now];exact hb))
 ·exact E
theorem evq_rdy {cl:Cll}{se:Sea}{k:Z8}(C:Core c L S N h a m)(ht:(t:Int)<c.T)(I:TI c t false (h.held.getD t 0) (a.caches.getD t []) k)(hcl:m.calls[i]? = some cl)(hse:m.seats[t]? = some se)(hb:cl.begin_<m.now) :
  EvQ Q i t (h,a,m) ((Qw (h,a) m i t cl se k).2.1.1,(Qw (h,a) m i t cl se k).2.1.2,(Qw (h,a) m i t cl se k).2.2.1):=by
 cases k with
 | pst p=>exact evq_postReady C (by rw[I.1];omega) (by rw[I.1];exact ht) hcl hse hb
 | scn s=>exact .refl _
 | reg r=>exact .refl _
 | unr u=>exact .refl _
 | rdg r=>exact .refl _
 | clr ad=>exact .refl _
def RdP (b now:Int):Z8→Prop
 | .rdg r=>r.stage=3→b<r.point∧r.point≤now
 | _=>True
theorem evq_stp {cl:Cll}{se:Sea}{k:Z8}(C:Core c L S N h a m)(ht:(t:Int)<c.T)(I:TI c t true (h.held.getD t 0) (a.caches.getD t []) k)(hcl:m.calls[i]? = some cl)(hse:m.seats[t]? = some se)(hb:cl.begin_<m.now)(hp:RdP cl.begin_ m.now k)(hu:m.used=false)
  (hR:∀r,k=.rdg r→r.stage=3→Q (adr c 11 (r.w-1))) (hV:∀p,k=.pst p→p.stage=1→Q (adr c 11 (p.link-1))) :
  EvQ Q i t (h,a,m) ((ZQ (h,a) m i t cl se k).2.1.1,(ZQ (h,a) m i t cl se k).2.1.2,(ZQ (h,a) m i t cl se k).2.2.1):=by
 have hok:=C.ok
 cases k with
 | reg r=>
  obtain⟨i1,i2,i3⟩:=I
  exact evq_reg C hse i2 i3 hu
 | unr u=>
  obtain⟨i1,i2,i3⟩:=I
  exact evq_unr C ht i1 i2 i3 hu
 | rdg r=>exact evq_read C I (hR r rfl) hcl hse hb hp hu
 | clr ad=>
  obtain⟨i1,i2⟩:=I
  have hq:=hz_lq (z:=(ad:Int)) hok i1 i2
  rw[Yo]at hq
  exact .store _ _ hu (C.lq hq)
 | scn s=>exact evq_scan C (I.2.2 rfl) hu
 | pst p=>exact evq_post C (I.2.2.1 rfl) (hV p rfl) hcl hse hb hu
theorem rdp_stp {cl cl':Cll}{se:Sea}{k:Z8}(hb:cl.begin_<m.now)(hp:RdP cl.begin_ m.now k):RdP cl.begin_ m.now (ZQ (h,a) m i t cl' se k).2.2.2:=by
 cases k with
 | rdg r=>
  simp only[ZQ,RdP,ZZ]at hp ⊢
  split
  ·unfold Qf;split<;>simp
  ·split
   ·simp
   ·split
    ·split
     ·simp only[];exact fun _=>⟨hb,Int.le_refl _⟩
     ·unfold Qf;split<;>simp
    ·exact hp
 | _=>exact trivial
theorem rdp_rdy {cl cl':Cll}{se:Sea}{k:Z8}{b now:Int}(hp:RdP b now k):RdP b now (Qw (h,a) m i t cl' se k).2.2.2:=by
 cases k with
 | rdg r=>exact hp
 | _=>exact trivial
end
end
section
structure Nt (Q:Nat→Prop)(m m':Mch):Prop where
 log:∃es,m'.mem.log=m.mem.log++es∧∀e∈es,e.thread=m.thread∧∃j:Nat,e.addr=(j:Int)∧Q j
 word:∀j,¬Q j→m'.word j=m.word j
 thread:m'.thread=m.thread
 len:m'.mem.words.length=m.mem.words.length
section
variable {Q:Nat→Prop}{m m' m'':Mch}
theorem Nt.refl (Q:Nat→Prop)(m:Mch):Nt Q m m:=⟨⟨[],by simp,by simp⟩,fun _ _=>rfl,rfl,rfl⟩
theorem Nt.trans (A:Nt Q m m')(B:Nt Q m' m''):Nt Q m m'':=by
 obtain⟨⟨es,a1,a2⟩,a3,a4,a5⟩:=A
 obtain⟨⟨fs,b1,b2⟩,b3,b4,b5⟩:=B
 refine⟨⟨es++fs,by rw[b1,a1,List.append_assoc],fun e he => ?_⟩,fun j hj=>(b3 j hj).trans (a3 j hj),b4.trans a4,b5.trans a5⟩
 rcases List.mem_append.1 he with h|h
 ·exact a2 e h
 ·rw[←a4];exact b2 e h
theorem Nt.of (h1:m'.mem=m.mem)(h2:m'.thread=m.thread):Nt Q m m' :=
 ⟨⟨[],by rw[h1];simp,by simp⟩,fun _ _=>by unfold Mch.word;rw[h1],h2,by rw[h1]⟩
theorem nt_load (j:Nat)(hQ:Q j)(u:Int):Nt Q m (m.load j u):=
 ⟨⟨[_],rfl,fun e he=>by rw[List.mem_singleton.1 he];exact⟨rfl,j,rfl,hQ⟩⟩,fun _ _=>rfl,rfl,rfl⟩
theorem nt_word_set {m:Mch}{j k:Nat}{z:Int}(h:k≠j):(m.mem.words.set j z).getD k 0=m.word k:=by
 unfold Mch.word
 rw[Yb,Yb,Yf (Ne.symm h)]
theorem QV (j:Nat)(hQ:Q j)(u z:Int):Nt Q m (m.store j u z):=
 ⟨⟨[_],rfl,fun e he=>by rw[List.mem_singleton.1 he];exact⟨rfl,j,rfl,hQ⟩⟩,fun k hk=>nt_word_set (fun e=>hk (e▸hQ)),rfl,by simp[Mch.store]⟩
theorem nt_swap (j:Nat)(hQ:Q j)(u o z:Int):Nt Q m (m.swap j u o z):=by
 refine⟨⟨[_],rfl,fun e he=>by rw[List.mem_singleton.1 he];exact⟨rfl,j,rfl,hQ⟩⟩,fun k hk => ?_,rfl,?_⟩
 ·by_cases h:u=o
  ·have e:(m.swap j u o z).word k=(m.mem.words.set j z).getD k 0:=by unfold Mch.word Mch.swap;simp only[if_pos h]
   rw[e]
   exact nt_word_set (fun e=>hk (e▸hQ))
  ·unfold Mch.word Mch.swap
   simp only[if_neg h]
 ·simp only[Mch.swap]
  split<;>simp
theorem evq_nt {i t:Nat}{x y:St3}(E:EvQ Q i t x y):Nt Q x.2.2 y.2.2:=by
 induction E with
 | refl x=>exact Nt.refl ..
 | trans _ _ a b=>exact a.trans b
 | load j _ h=>exact nt_load j h.2 _
 | store j z _ h=>exact QV j h.2 _ _
 | swap j o z _ h=>exact nt_swap j h.2 _ _ _
 | shift=>exact Nt.of rfl rfl
 | point=>exact Nt.of rfl rfl
 | answer=>exact Nt.of rfl rfl
 | haz=>exact Nt.refl ..
 | cache=>exact Nt.refl ..
end
end
section
class TopR where
 r:Nat
 is:r=3∨r=4
variable [TopR]
def cnt2:List (List Int)→Int→Nat
 | [],_=>0
 | l::r,s=>l.count s+cnt2 r s
theorem cnt2_set:∀ {ls:List (List Int)} {i:Nat} {l:List Int} (x:List Int) (s:Int),ls[i]? = some l→cnt2 (ls.set i x) s+l.count s=cnt2 ls s+x.count s
 | [],_,_,_,_,h=>by simp at h
 | a::r,0,l,x,s,h=>by simp at h;subst h;simp only[Uz,cnt2];omega
 | a::r,i+1,l,x,s,h=>by
  simp only[Ue]at h
  have:=cnt2_set x s h
  simp only[Uc,cnt2];omega
theorem cnt2_get:∀ {ls:List (List Int)} {i:Nat} {l:List Int} (s:Int),ls[i]? = some l→l.count s≤cnt2 ls s
 | [],_,_,_,h=>by simp at h
 | a::r,0,l,s,h=>by simp at h;subst h;simp only[cnt2];omega
 | a::r,i+1,l,s,h=>by
  simp only[Ue]at h
  have:=cnt2_get s h
  simp only[cnt2];omega
theorem cnt2_nils (s:Int):∀n,cnt2 (List.replicate n []) s=0
 | 0=>rfl
 | n+1=>by simp only[List.replicate_succ,cnt2,cnt2_nils s n,List.count_nil]
theorem cnt2_mem {ls:List (List Int)}{l:List Int}{s:Int}(h:l∈ls)(hs:s∈l):0<cnt2 ls s:=by
 obtain⟨i,hi⟩:=List.getElem?_of_mem h
 have:=cnt2_get s hi
 have:=List.count_pos_iff.2 hs
 omega
theorem cnt2_at {ls:List (List Int)}{i:Nat}{l:List Int}{s:Int}(h:ls[i]? = some l)(hs:s∈l):0<cnt2 ls s:=cnt2_mem (Yc h) hs
structure MV where
 hd:Int
 cell:Int
 nx:Int→Int
 act:Int→Int
 hz:Int→Int
 val:Int→Int
 top:Int
 ln:Int→Int
def upd (f:Int→Int)(k z:Int):Int→Int:=fun x=>if x=k then z else f x
theorem Qm (f:Int→Int)(k z:Int):upd f k z k=z:=by simp[upd]
theorem Jw (f:Int→Int){k x:Int}(z:Int)(h:x≠k):upd f k z x=f x:=by simp[upd,h]
def mv (c:Cfg)(m:Mch):MV where
 hd:=m.word (adr c 1 0)
 cell:=m.word (adr c 2 0)
 nx s:=if 0≤s∧s<c.Sl then m.word (adr c 10 s) else 0
 act r:=if 0≤r∧r<c.R then m.word (adr c 8 r) else 0
 hz j:=if 0≤j∧j<c.R*c.Hz then m.word (adr c 9 j) else 0
 val s:=if 0≤s∧s<c.Sl then m.word (adr c 11 s) else 0
 top:=m.word (adr c TopR.r 0)
 ln s:=if 0≤s∧s<c.Sl then m.word (adr c 13 s) else 0
theorem mv_same {c:Cfg}{m m':Mch}(h:m'.mem.words=m.mem.words):mv c m'=mv c m:=by
 unfold mv Mch.word;rw[h]
theorem Q4 {m m':Mch}{A:Nat}{z:Int}(h:m'.mem.words=m.mem.words.set A z)(hA:A<m.mem.words.length)(j:Nat):m'.word j=if j=A then z else m.word j:=by
 unfold Mch.word
 rw[h]
 simp only[Yb]
 by_cases e:j=A
 ·subst e
  rw[Ye hA,if_pos rfl];rfl
 ·rw[Yf (Ne.symm e),if_neg e]
section
variable {c:Cfg}{m m':Mch}{z:Int}
structure Adrs (c:Cfg):Prop where
 a1:((adr c 1 0:Nat):Int)=0
 a2:((adr c 2 0:Nat):Int)=1
 a3:((adr c TopR.r 0:Nat):Int)=2∨((adr c TopR.r 0:Nat):Int)=3
 a8:∀i,0≤i→((adr c 8 i:Nat):Int)=base c 8+i
 a9:∀i,0≤i→((adr c 9 i:Nat):Int)=base c 9+i
 a10:∀i,0≤i→((adr c 10 i:Nat):Int)=base c 10+i
 a11:∀i,0≤i→((adr c 11 i:Nat):Int)=base c 11+i
 a13:∀i,0≤i→((adr c 13 i:Nat):Int)=base c 13+i
theorem adrs {c:Cfg}(h:c.Ok):Adrs c:=by
 have b:=Qg h
 refine⟨?_,?_,?_,fun i hi=>ZY h 8 hi,fun i hi=>ZY h 9 hi,fun i hi=>ZY h 10 hi,fun i hi=>ZY h 11 hi,fun i hi=>ZY h 13 hi⟩
 ·have:=ZY h 1 (Int.le_refl 0);have:=b.b1;omega
 ·have:=ZY h 2 (Int.le_refl 0);have:=b.b2;omega
 ·rcases TopR.is with e|e
  ·have:=ZY h 3 (Int.le_refl 0);have:=b.b3;rw[e];omega
  ·have:=ZY h 4 (Int.le_refl 0);have h4:base c 4=3:=by simp[base,many]
   rw[e];omega
theorem Core.lt {L S N:Nat}{h:Haz}{a:Are}(k:Core c L S N h a m){j:Nat}(hj:(j:Int)<base c 14):j<m.mem.words.length:=by rw[k.words];omega
theorem adr_lt' {c:Cfg}(hc:c.Ok){r:Nat}{z n:Int}(h1:r=8∧n=c.R∨(r=10∨r=11∨r=13)∧n=c.Sl)(h0:0≤z)(hz:z<n):((adr c r z:Nat):Int)<base c 14:=by
 have e:=ZY hc r h0
 obtain⟨b1,b2,b8,b9,b10,b11,b12,b13,b14,rh,rh2,b3⟩:=Qg hc
 have:=hc.S1
 rcases h1 with⟨rfl,rfl⟩|⟨rfl|rfl|rfl,rfl⟩<;>omega
theorem mv_hd (hok:c.Ok)(h:m'.mem.words=m.mem.words.set (adr c 1 0) z)(hA:(adr c 1 0)<m.mem.words.length):mv c m'={ mv c m with hd:=z }:=by
 obtain⟨b1,b2,b8,b9,b10,b11,b12,b13,b14,rh,rh2,b3⟩:=Qg hok
 obtain⟨a1,a2,a3,a8,a9,a10,a11,a13⟩:=adrs hok
 have hS:=hok.S1
 have hR:=hok.R1
 unfold mv
 simp only[Q4 h hA]
 simp only[MV.mk.injEq,if_true,true_and,and_true]
 refine⟨?_,?_,?_,?_,?_,?_,?_⟩
 all_goals(first|rw[if_neg (by omega)]|(funext i;split<;>first|rfl|(rename_i hi;have:=a8 i hi.1;have:=a9 i hi.1;have:=a10 i hi.1;have:=a11 i hi.1;have:=a13 i hi.1;rw[if_neg (by omega)])))
theorem mv_cell (hok:c.Ok)(h:m'.mem.words=m.mem.words.set (adr c 2 0) z)(hA:(adr c 2 0)<m.mem.words.length):mv c m'={ mv c m with cell:=z }:=by
 obtain⟨b1,b2,b8,b9,b10,b11,b12,b13,b14,rh,rh2,b3⟩:=Qg hok
 obtain⟨a1,a2,a3,a8,a9,a10,a11,a13⟩:=adrs hok
 have hS:=hok.S1
 have hR:=hok.R1
 unfold mv
 simp only[Q4 h hA]
 simp only[MV.mk.injEq,if_true,true_and,and_true]
 refine⟨?_,?_,?_,?_,?_,?_,?_⟩
 all_goals(first|rw[if_neg (by omega)]|(funext i;split<;>first|rfl|(rename_i hi;have:=a8 i hi.1;have:=a9 i hi.1;have:=a10 i hi.1;have:=a11 i hi.1;have:=a13 i hi.1;rw[if_neg (by omega)])))
theorem mv_top (hok:c.Ok)(h:m'.mem.words=m.mem.words.set (adr c TopR.r 0) z)(hA:(adr c TopR.r 0)<m.mem.words.length):mv c m'={ mv c m with top:=z }:=by
 obtain⟨b1,b2,b8,b9,b10,b11,b12,b13,b14,rh,rh2,b3⟩:=Qg hok
 obtain⟨a1,a2,a3,a8,a9,a10,a11,a13⟩:=adrs hok
 have hS:=hok.S1
 have hR:=hok.R1
 unfold mv
 simp only[Q4 h hA]
 simp only[MV.mk.injEq,if_true,true_and,and_true]
 refine⟨?_,?_,?_,?_,?_,?_,?_⟩
 all_goals(first|rw[if_neg (by omega)]|(funext i;split<;>first|rfl|(rename_i hi;have:=a8 i hi.1;have:=a9 i hi.1;have:=a10 i hi.1;have:=a11 i hi.1;have:=a13 i hi.1;rw[if_neg (by omega)])))
theorem mv_nx (hok:c.Ok){s:Int}(h0:0≤s)(h1:s<c.Sl)(h:m'.mem.words=m.mem.words.set (adr c 10 s) z)(hA:adr c 10 s<m.mem.words.length):mv c m'={ mv c m with nx:=upd (mv c m).nx s z }:=by
 obtain⟨b1,b2,b8,b9,b10,b11,b12,b13,b14,rh,rh2,b3⟩:=Qg hok
 obtain⟨a1,a2,a3,a8,a9,a10,a11,a13⟩:=adrs hok
 have hS:=hok.S1
 have hR:=hok.R1
 have hs:=a10 s h0
 unfold mv
 simp only[Q4 h hA]
 simp only[MV.mk.injEq]
 refine⟨?_,?_,?_,?_,?_,?_,?_,?_⟩
 all_goals first
  | (
   funext i;unfold upd;by_cases e:i=s
   ·subst e;rw[if_pos ⟨h0,h1⟩,if_pos rfl,if_pos rfl]
   ·rw[if_neg e]
    by_cases hi:0≤i∧i<c.Sl
    ·have:=a10 i hi.1
     simp only[if_pos hi];rw[if_neg (by omega)]
    ·simp only[if_neg hi])
  | (first|rw[if_neg (by omega)]|(funext i;split<;>first|rfl|(rename_i hi;have:=a8 i hi.1;have:=a9 i hi.1;have:=a10 i hi.1;have:=a11 i hi.1;have:=a13 i hi.1;rw[if_neg (by omega)])))
theorem mv_act (hok:c.Ok){s:Int}(h0:0≤s)(h1:s<c.R)(h:m'.mem.words=m.mem.words.set (adr c 8 s) z)(hA:adr c 8 s<m.mem.words.length):mv c m'={ mv c m with act:=upd (mv c m).act s z }:=by
 obtain⟨b1,b2,b8,b9,b10,b11,b12,b13,b14,rh,rh2,b3⟩:=Qg hok
 obtain⟨a1,a2,a3,a8,a9,a10,a11,a13⟩:=adrs hok
 have hS:=hok.S1
 have hR:=hok.R1
 have hs:=a8 s h0
 unfold mv
 simp only[Q4 h hA]
 simp only[MV.mk.injEq]
 refine⟨?_,?_,?_,?_,?_,?_,?_,?_⟩
 all_goals first
  | (
   funext i;unfold upd;by_cases e:i=s
   ·subst e;rw[if_pos ⟨h0,h1⟩,if_pos rfl,if_pos rfl]
   ·rw[if_neg e]
    by_cases hi:0≤i∧i<c.R
    ·have:=a8 i hi.1
     simp only[if_pos hi];rw[if_neg (by omega)]
    ·simp only[if_neg hi])
  | (first|rw[if_neg (by omega)]|(funext i;split<;>first|rfl|(rename_i hi;have:=a8 i hi.1;have:=a9 i hi.1;have:=a10 i hi.1;have:=a11 i hi.1;have:=a13 i hi.1;rw[if_neg (by omega)])))
theorem mv_hz (hok:c.Ok){s:Int}(h0:0≤s)(h1:s<c.R*c.Hz)(h:m'.mem.words=m.mem.words.set (adr c 9 s) z)(hA:adr c 9 s<m.mem.words.length):mv c m'={ mv c m with hz:=upd (mv c m).hz s z }:=by
 obtain⟨b1,b2,b8,b9,b10,b11,b12,b13,b14,rh,rh2,b3⟩:=Qg hok
 obtain⟨a1,a2,a3,a8,a9,a10,a11,a13⟩:=adrs hok
 have hS:=hok.S1
 have hR:=hok.R1
 have hs:=a9 s h0
 unfold mv
 simp only[Q4 h hA]
 simp only[MV.mk.injEq]
 refine⟨?_,?_,?_,?_,?_,?_,?_,?_⟩
 all_goals first
  | (
   funext i;unfold upd;by_cases e:i=s
   ·subst e;rw[if_pos ⟨h0,h1⟩,if_pos rfl,if_pos rfl]
   ·rw[if_neg e]
    by_cases hi:0≤i∧i<c.R*c.Hz
    ·have:=a9 i hi.1
     simp only[if_pos hi];rw[if_neg (by omega)]
    ·simp only[if_neg hi])
  | (first|rw[if_neg (by omega)]|(funext i;split<;>first|rfl|(rename_i hi;have:=a8 i hi.1;have:=a9 i hi.1;have:=a10 i hi.1;have:=a11 i hi.1;have:=a13 i hi.1;rw[if_neg (by omega)])))
theorem mv_val (hok:c.Ok){s:Int}(h0:0≤s)(h1:s<c.Sl)(h:m'.mem.words=m.mem.words.set (adr c 11 s) z)(hA:adr c 11 s<m.mem.words.length):mv c m'={ mv c m with val:=upd (mv c m).val s z }:=by
 obtain⟨b1,b2,b8,b9,b10,b11,b12,b13,b14,rh,rh2,b3⟩:=Qg hok
 obtain⟨a1,a2,a3,a8,a9,a10,a11,a13⟩:=adrs hok
 have hS:=hok.S1
 have hR:=hok.R1
 have hs:=a11 s h0
 unfold mv
 simp only[Q4 h hA]
 simp only[MV.mk.injEq]
 refine⟨?_,?_,?_,?_,?_,?_,?_,?_⟩
 all_goals first
  | (
   funext i;unfold upd;by_cases e:i=s
   ·subst e;rw[if_pos ⟨h0,h1⟩,if_pos rfl,if_pos rfl]
   ·rw[if_neg e]
    by_cases hi:0≤i∧i<c.Sl
    ·have:=a11 i hi.1
     simp only[if_pos hi];rw[if_neg (by omega)]
    ·simp only[if_neg hi])
  | (first|rw[if_neg (by omega)]|(funext i;split<;>first|rfl|(rename_i hi;have:=a8 i hi.1;have:=a9 i hi.1;have:=a10 i hi.1;have:=a11 i hi.1;have:=a13 i hi.1;rw[if_neg (by omega)])))
theorem mv_ln (hok:c.Ok){s:Int}(h0:0≤s)(h1:s<c.Sl)(h:m'.mem.words=m.mem.words.set (adr c 13 s) z)(hA:adr c 13 s<m.mem.words.length):mv c m'={ mv c m with ln:=upd (mv c m).ln s z }:=by
 obtain⟨b1,b2,b8,b9,b10,b11,b12,b13,b14,rh,rh2,b3⟩:=Qg hok
 obtain⟨a1,a2,a3,a8,a9,a10,a11,a13⟩:=adrs hok
 have hS:=hok.S1
 have hR:=hok.R1
 have hs:=a13 s h0
 unfold mv
 simp only[Q4 h hA]
 simp only[MV.mk.injEq]
 refine⟨?_,?_,?_,?_,?_,?_,?_,?_⟩
 all_goals first
  | (
   funext i;unfold upd;by_cases e:i=s
   ·subst e;rw[if_pos ⟨h0,h1⟩,if_pos rfl,if_pos rfl]
   ·rw[if_neg e]
    by_cases hi:0≤i∧i<c.Sl
    ·have:=a13 i hi.1
     simp only[if_pos hi];rw[if_neg (by omega)]
    ·simp only[if_neg hi])
  | (first|rw[if_neg (by omega)]|(funext i;split<;>first|rfl|(rename_i hi;have:=a8 i hi.1;have:=a9 i hi.1;have:=a10 i hi.1;have:=a11 i hi.1;have:=a13 i hi.1;rw[if_neg (by omega)])))
end
def Jt (nx:Int→Int):Int→List Int→Prop
 | x,[]=>x=0
 | x,s::F=>x=s+1∧0≤s∧Jt nx (nx s) F
theorem Jt.upd {nx:Int→Int}{k z:Int}:∀ {x:Int} {F:List Int},Jt nx x F→k∉F→Jt (upd nx k z) x F
 | _,[],h,_=>h
 | _,s::F,⟨h1,h2,h3⟩,hk=>by
  simp only[List.mem_cons,not_or]at hk
  exact⟨h1,h2,by rw[Jw _ _ (Ne.symm hk.1)];exact h3.upd hk.2⟩
def Are.sl (a:Are)(s:Int):Slt:=if 0≤s then a.slots.getD s.toNat ⟨0,0⟩ else ⟨0,0⟩
def updS (f:Int→Slt)(k:Int)(z:Slt):Int→Slt:=fun x=>if x=k then z else f x
theorem Qo (f:Int→Slt)(k:Int)(z:Slt):updS f k z k=z:=by simp[updS]
theorem updS_ne (f:Int→Slt){k x:Int}(z:Slt)(h:x≠k):updS f k z x=f x:=by simp[updS,h]
theorem Jn {a:Are}{s th to:Int}(h0:0≤s)(h1:s.toNat<a.slots.length):(a.shift s.toNat th to).sl=updS a.sl s ⟨to,if to=0∨to=3 then -1 else th⟩:=by
 funext i
 unfold Are.sl updS Are.shift
 simp only[Yb]
 by_cases e:i=s
 ·subst e
  rw[if_pos h0,if_pos rfl,Ye h1];rfl
 ·rw[if_neg e]
  split
  ·rw[Yf (by omega)]
  ·rfl
end
end Go.Proofs.YtefjbdajgakgpaaGreat
