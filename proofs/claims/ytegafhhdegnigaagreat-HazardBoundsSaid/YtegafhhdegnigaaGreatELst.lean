/-
  HazardSafe: each step by small effects that are safe: accesses to slots that are open, shifts that may be made, nothing given back that a hazard protects.
-/
import Derived.Test.YtegafhhdegnigaaGreatEOpen
set_option linter.all false
namespace Go.Proofs.YtegafhhdegnigaaGreat
open Go.RowKit Hp
set_option maxRecDepth 100000
set_option maxHeartbeats 1000000
attribute [local irreducible] Go.Calls
section
def MayS (t:Int)(x:Slt)(to:Int):Prop:=
 (x.state=0∧to=2)∨(x.state=1∧(to=2∨to=0)∧x.holder=t)∨(x.state=2∧(to=3∨to=1∨to=0)∧x.holder=t)∨(x.state=3∧to=4)∨(x.state=4∧to=5∧x.holder=t)∨(x.state=5∧(to=1∨to=0))
def Hzj (c:Cfg)(j:Nat):Prop:=base c 9≤(j:Int)∧(j:Int)<base c 10
inductive EvP (c:Cfg) (Q:Nat→Prop) (P B:Int→Prop) (w:Prop) (t:Nat):St3→St3→Prop where
 | refl (x:St3):EvP c Q P B w t x x
 | trans {x y z:St3}:EvP c Q P B w t x y→EvP c Q P B w t y z→EvP c Q P B w t x z
 | load {h:Haz} {a:Are} {m:Mch} (j:Nat):Q j→EvP c Q P B w t (h,a,m) (h,a,m.load j (m.word j))
 | store {h:Haz} {a:Are} {m:Mch} (j:Nat) (z:Int):Q j→(Hzj c j→w)→EvP c Q P B w t (h,a,m) (h,a,m.store j (m.word j) z)
 | swap {h:Haz} {a:Are} {m:Mch} (j:Nat) (o z:Int):Q j→¬Hzj c j→EvP c Q P B w t (h,a,m) (h,a,m.swap j (m.word j) o z)
 | shift {h:Haz} {a:Are} {m:Mch} (s to:Int):0≤s→m.thread=(t:Int)→MayS t (a.sl s) to→((a.sl s).state=5→P s)→¬w→(to=4→B s)→EvP c Q P B w t (h,a,m) (h,a.shift s.toNat m.thread to,m.shift s (a.slots.getD s.toNat ⟨0,0⟩).state to)
 | quiet {h:Haz} {a:Are} {m m':Mch}:m'.mem=m.mem→m'.shifts=m.shifts→m'.now=m.now→m'.thread=m.thread→EvP c Q P B w t (h,a,m) (h,a,m')
 | haz {h:Haz} (h':Haz) {a:Are} {m:Mch}:EvP c Q P B w t (h,a,m) (h',a,m)
 | cache {h:Haz} {a:Are} {m:Mch} (cs:List (List Int)):EvP c Q P B w t (h,a,m) (h,{ a with caches:=cs },m)
section
variable {t:Nat}{c:Cfg}{L S N:Nat}{h:Haz}{a:Are}{m:Mch}{Q:Nat→Prop}{P B:Int→Prop}{w:Prop}
theorem lt11 (hc:c.Ok){r:Nat}{z:Int}(h1:r=1∧z=0∨r=2∧z=0∨r=8∧z<c.R∨r=9∧z<c.R*c.Hz∨r=10∧z<c.Sl)(h0:0≤z):((adr c r z:Nat):Int)<base c 11:=by
 have e:=QP hc r h0
 obtain⟨b1,b2,b8,b9,b10,b11,b12,b13,b14,rh,rh2⟩:=Qx hc
 have:=hc.S1
 have:=hc.R1
 rcases h1 with⟨rfl,rfl⟩|⟨rfl,rfl⟩|⟨rfl,_⟩|⟨rfl,_⟩|⟨rfl,_⟩<;>omega
theorem nhz (hc:c.Ok){r:Nat}{z:Int}(h1:r=1∧z=0∨r=2∧z=0∨r=8∧z<c.R∨r=10)(h0:0≤z):¬Hzj c (adr c r z):=by
 have e:=QP hc r h0
 obtain⟨b1,b2,b8,b9,b10,b11,b12,b13,b14,rh,rh2⟩:=Qx hc
 have:=hc.S1
 have:=hc.R1
 unfold Hzj
 rcases h1 with⟨rfl,rfl⟩|⟨rfl,rfl⟩|⟨rfl,_⟩|rfl<;>omega
theorem evp_push {p:Psh}(k:Core c L S N h a m)(I:PInv c p)(hQ:∀j:Nat,(j:Int)<base c 11→Q j)(ht:m.thread=(t:Int))(hm:MayS t (a.sl p.slot) 0)(hp:(a.sl p.slot).state=5→P p.slot)(hw:¬w) :
  EvP c Q P B w t (h,a,m) (h,(Za a m p).2.1,(Za a m p).2.2.1):=by
 obtain⟨p1,p2,p3,p4⟩:=I
 have hac:=k.ac
 have h1:=hQ _ (lt11 k.ok (.inl ⟨rfl,rfl⟩) (by omega))
 have h2:=hQ _ (lt11 k.ok (r:=10) (.inr (.inr (.inr (.inr ⟨rfl,p2⟩)))) p1)
 unfold Za
 rw[hac]
 split
 ·exact .load _ h1
 ·split
  ·exact .store _ _ h2 (fun hf=>absurd hf (nhz k.ok (.inr (.inr (.inr rfl))) p1))
  ·simp only[]
   split
   ·exact(EvP.swap _ _ _ h1 (nhz k.ok (.inl ⟨rfl,rfl⟩) (by omega))).trans (EvP.shift (m:=m.swap _ _ _ _) _ _ p1 ht hm hp hw (fun hf=>by omega))
   ·exact .swap _ _ _ h1 (nhz k.ok (.inl ⟨rfl,rfl⟩) (by omega))
theorem sl_ne {a:Are}{cs:List (List Int)}{s s' th to:Int}(h0:0≤s)(h1:s.toNat<a.slots.length)(hne:s'≠s):({ a with caches:=cs }.shift s.toNat th to).sl s'=a.sl s':=by
 rw[Q0 (a:={ a with caches:=cs }) h0 h1,updS_ne _ _ hne];rfl
theorem evp_free (hw:¬w):∀(pend:List Int) (g:Option Psh) (a:Are) (m:Mch),m.thread=(t:Int)→pend.Nodup→(∀z∈pend,(0≤z∧z.toNat<a.slots.length)∧(a.sl z).state=5∧P z) →
  EvP c Q P B w t (h,a,m) (h,(Zu (t:Int) pend g a m).2.2.2.1,(Zu (t:Int) pend g a m).2.2.2.2)
 | [],g,a,m,_,_,_=>.refl _
 | s::r,g,a,m,ht,hn,hin=>by
  obtain⟨⟨s0,s1⟩,h5,hP⟩:=hin s (List.mem_cons_self ..)
  obtain⟨n1,n2⟩:=List.nodup_cons.1 hn
  unfold Zu
  unfold Zy
  simp only[]
  by_cases hf:a.c.Ca≤((a.caches.getD ((t:Int)).toNat []).length:Int)
  ·rw[if_pos hf]
   simp only[Yn,if_false]
   exact .refl _
  ·rw[if_neg hf]
   simp only[if_true]
   refine EvP.trans ((EvP.cache _).trans (EvP.shift (a:={ a with caches:=_ }) s 1 s0 ht ?_ (fun _=>hP) hw (fun hf=>by omega))) (evp_free hw r _ _ _ ht n2 fun z hz => ?_)
   ·exact .inr (.inr (.inr (.inr (.inr ⟨h5,.inl rfl⟩))))
   ·obtain⟨⟨z0,z1⟩,z5,zP⟩:=hin z (List.mem_cons_of_mem _ hz)
    have hne:z≠s:=fun e=>n1 (e▸hz)
    refine⟨⟨z0,by simp only[Are.shift,List.length_set];exact z1⟩,?_,zP⟩
    rw[sl_ne s0 s1 hne]
    exact z5
theorem push_sl {p:Psh}(h0:0≤p.slot)(h1:p.slot.toNat<a.slots.length){z:Int}(hne:z≠p.slot):(Za a m p).2.1.sl z=a.sl z:=by
 unfold Za
 split
 ·rfl
 ·split
  ·rfl
  ·simp only[]
   split
   ·rw[Q0 h0 h1,updS_ne _ _ hne]
   ·rfl
theorem push_len (a:Are)(m:Mch)(p:Psh):(Za a m p).2.1.slots.length=a.slots.length∧(Za a m p).2.2.1.thread=m.thread:=by
 unfold Za
 split
 ·exact⟨rfl,rfl⟩
 ·split
  ·exact⟨rfl,rfl⟩
  ·simp only[]
   split
   ·exact⟨by simp only[Are.shift,List.length_set],rfl⟩
   ·exact⟨rfl,rfl⟩
variable {n:Int}{Z Y:Int→Nat}{F:List Int}{K Lk:List Int}{pr:Int→Prop}
theorem Gd.nodup {x:Sx}(G:Gd c n Z Y F x K Lk):K.Nodup:=List.nodup_iff_count.2 fun s=>by have:=G.le s;omega
theorem Gd.rng {x:Sx}(G:Gd c n Z Y F x K Lk){s:Int}(h:s∈K):0≤s∧s<c.Sl:=G.range (by have:=cpos h;omega)
theorem evp_scan {s:Scn}(C:Core c L S N h a m)(I:ScI c s)(hs:s.thread=(t:Int))(hm:m.thread=(t:Int))(G:Gd c n Z Y F (sx pr c h a m) (scnP s) (lkS s))(D:ScD t (sx pr c h a m) s)
  (hQ:∀j:Nat,(j:Int)<base c 11→Q j) (hP:∀s0,(∀j,pr j→(mv c m).hz j≠s0+1)→P s0) (hnw:¬w) :
  EvP c Q P B w t (h,a,m) ((Zf h a m s).2.1,(Zf h a m s).2.2.1,(Zf h a m s).2.2.2.1):=by
 have hok:=C.ok
 have hac:=C.ac
 have hb:=Qx hok
 obtain rfl:=C.hc
 obtain⟨i1,i2,i3,i4,i5,i6,i7,i8,i9⟩:=I
 obtain⟨d1,d2,d3,d4,d5⟩:=D
 obtain⟨e1,e2,e3⟩:=C.lget i1 i2
 have hK:s.stage≠5→scnP s=[]:=fun hz=>by unfold scnP;rw[if_neg hz]
 unfold Zf
 by_cases s0:s.stage=0
 ·rw[if_pos s0]
  obtain⟨a0,a1,a2⟩:=i6 (by omega)
  have h1:=hQ _ (lt11 hok (r:=8) (.inr (.inr (.inl ⟨rfl,a1⟩))) a0)
  unfold QH
  simp only[]
  split<;>exact .load _ h1
 rw[if_neg s0]
 by_cases s1:s.stage=1
 ·rw[if_pos s1]
  obtain⟨a0,a1,a2⟩:=i6 (by omega)
  have h1:=hQ _ (lt11 hok (r:=8) (.inr (.inr (.inl ⟨rfl,a1⟩))) a0)
  unfold Qm
  simp only[]
  split
  ·exact(EvP.swap _ _ _ h1 (nhz hok (.inr (.inr (.inl ⟨rfl,a1⟩))) a0)).trans (.haz _)
  ·exact .swap _ _ _ h1 (nhz hok (.inr (.inr (.inl ⟨rfl,a1⟩))) a0)
 rw[if_neg s1]
 by_cases s2:s.stage=2
 ·rw[if_pos s2]
  obtain⟨a0,a1,a2⟩:=i6 (by omega)
  exact .store _ _ (hQ _ (lt11 hok (r:=8) (.inr (.inr (.inl ⟨rfl,a1⟩))) a0)) (fun hf=>absurd hf (nhz hok (.inr (.inr (.inl ⟨rfl,a1⟩))) a0))
 rw[if_neg s2]
 by_cases s3:s.stage=3
 ·rw[if_pos s3]
  obtain⟨⟨a0,a1⟩,a2,a3⟩:=i8 s3
  have hp:=i7 (by omega)
  have hA:(base h.c 9+s.at_).toNat=adr h.c 9 s.at_:=rfl
  have h1:=hQ _ (lt11 hok (r:=9) (.inr (.inr (.inr (.inl ⟨rfl,a1⟩)))) a0)
  have d2:=d2 s3
  have hw:m.word (adr h.c 9 s.at_)=(mv h.c m).hz s.at_:=(hz_at a0 a1).symm
  have look':∀s0∈h.lists.getD s.record.toNat [],∀j,0≤j→j<s.at_+1→pr j→(mv h.c m).hz j=s0+1→0<Qa s.named (m.word (adr h.c 9 s.at_)-1) s0:=by
   intro s0 hs0 j j0 j1 hpj hz
   have h0:=(a3 s0).1
   unfold Qa
   by_cases e:j=s.at_
   ·subst e
    rw[if_pos (by omega)]
    have:s0=m.word (adr h.c 9 s.at_)-1:=by omega
    have:=(a3 (m.word (adr h.c 9 s.at_)-1)).1
    omega
   ·have:=d2 s0 hs0 j j0 (by omega) hpj hz
    split
    ·rename_i e2;rw[←e2];omega
    ·exact this
  unfold Qo
  simp only[Z2,hA]
  split
  ·exact .load _ h1
  ·rename_i hlast
   simp only[Qf,hp,List.nil_append]
   generalize hnm:Qa s.named (m.word (adr h.c 9 s.at_)-1)=nm at look' ⊢
   generalize hx:h.lists.getD s.record.toNat []=x0 at e1 e2 e3 look' ⊢
   have hst:∀s0∈x0,(a.sl s0).state=5:=fun s0 h0=>G.stL x0 (Yc e1) s0 h0
   have hun:∀s0∈x0.filter (Z3 nm),∀j,pr j→(mv h.c m).hz j≠s0+1:=by
    intro s0 h0 j hj hz
    obtain⟨h1,h2⟩:=List.mem_filter.1 h0
    obtain⟨⟨p1,p1'⟩,_,_⟩:=G.pr1 j hj
    have:=look' s0 h1 j p1 (by omega) hj hz
    have hs0:=(e3 s0 h1).1
    have h2:¬0<unNone nm s0:=by simpa[Z3,Qq] using h2
    unfold unNone at h2
    rw[if_neg (by omega)]at h2
    exact h2 this
   have hnd:(x0.filter (Z3 nm)).Nodup:=List.Sublist.nodup List.filter_sublist (List.nodup_iff_count.2 fun s'=>by
    have h1:=G.le s'
    have h2:=cnt2_get (s:=s') e1
    have h3:cnt2 (sx pr h.c h a m).lists s'=cnt2 h.lists s':=rfl
    omega)
   refine(EvP.load _ h1).trans ((EvP.haz { h with lists:=h.lists.set s.record.toNat (x0.filter (Qq nm)) }).trans ?_)
   rw[hs]
   exact evp_free hnw _ _ _ _ hm hnd fun z hz=>⟨⟨(e3 z (List.mem_filter.1 hz).1).1,by rw[C.slots];have:=e3 z (List.mem_filter.1 hz).1;omega⟩,hst z (List.mem_filter.1 hz).1,hP z (hun z hz)⟩
 rw[if_neg s3]
 obtain⟨p,p1,p2,p3,p4⟩:=i9 (by omega)
 have s5:s.stage=5:=by omega
 have hk5:scnP s=p.slot::s.pending:=by unfold scnP;rw[if_pos s5,p1];rfl
 rw[hk5]at G d4 d5
 rw[p1]
 simp only[]
 have hps:=G.rng (s:=p.slot) (List.mem_cons_self ..)
 have hpl:p.slot.toNat<a.slots.length:=by rw[C.slots];omega
 have hq:=evp_push (h:=h) (Q:=Q) (P:=P) (B:=B) C p2 hQ hm (.inr (.inr (.inr (.inr (.inr ⟨d4 _ (List.mem_cons_self ..),.inr rfl⟩))))) (fun _=>hP _ (d5 _ (List.mem_cons_self ..))) hnw
 unfold Qp
 simp only[]
 split
 ·refine hq.trans ?_
  rw[hs]
  obtain⟨n1,n2⟩:=List.nodup_cons.1 G.nodup
  refine evp_free hnw _ _ _ _ ((push_len a m p).2.trans hm) n2 fun z hz => ?_
  have hr:=G.rng (s:=z) (List.mem_cons_of_mem _ hz)
  have hne:z≠p.slot:=fun e=>n1 (e▸hz)
  refine⟨⟨hr.1,by rw[(push_len a m p).1,C.slots];omega⟩,?_,hP z (d5 z (List.mem_cons_of_mem _ hz))⟩
  rw[push_sl hps.1 hpl hne]
  exact d4 z (List.mem_cons_of_mem _ hz)
 ·exact hq
theorem evp_retire {r:Ret}(hs0:0≤r.slot)(hm:m.thread=(t:Int))(hst:a.sl r.slot=⟨4,(t:Int)⟩)(hw:¬w):EvP c Q P B w t (h,a,m) ((ZA h a m r).2.1,(ZA h a m r).2.2.1,(ZA h a m r).2.2.2.1):=by
 have h1:MayS t (a.sl r.slot) 5:=by rw[hst];exact .inr (.inr (.inr (.inr (.inl ⟨rfl,rfl,rfl⟩))))
 have h2:(a.sl r.slot).state=5→P r.slot:=fun hf=>by rw[hst]at hf;cases hf
 unfold ZA
 simp only[]
 split<;>exact(EvP.shift _ _ hs0 hm h1 h2 hw (fun hf=>by omega)).trans (.haz _)
theorem evp_take {k:Tak}(C:Core c L S N h a m)(T:TkI c k)(hm:m.thread=(t:Int))(G:Gd c n Z Y F (sx pr c h a m) K Lk)(hQ:∀j:Nat,(j:Int)<base c 11→Q j)(hnw:¬w) :
  EvP c Q P B w t (h,a,m) (h,(Zi a m k).2.1,(Zi a m k).2.2.1):=by
 have hok:=C.ok
 have hac:=C.ac
 obtain⟨t1,t2,t3,t4⟩:=T
 have h1:=hQ _ (lt11 hok (.inl ⟨rfl,rfl⟩) (by omega))
 unfold Zi
 rw[hac]
 split
 ·exact .load _ h1
 ·rename_i hn
  obtain⟨h3,h4,h5⟩:=t3 hn
  have h2:=hQ _ (lt11 hok (r:=10) (z:=k.head%4294967296-1) (.inr (.inr (.inr (.inr ⟨rfl,by omega⟩)))) (by omega))
  split
  ·exact .load _ h2
  ·simp only[]
   split
   ·rename_i hw
    have hc:Chain (mv c m).nx (k.head%4294967296) F:=by have:=G.chain;rw[←hw];exact this
    have hmem:k.head%4294967296-1∈F:=by
     cases F with
     | nil=>have:k.head%4294967296=0:=hc;omega
     | cons s r=>obtain⟨e,_,_⟩:=hc;rw[e];simp
    have hst:(a.sl (k.head%4294967296-1)).state=0:=G.stF _ hmem
    exact(EvP.swap _ _ _ h1 (nhz hok (.inl ⟨rfl,rfl⟩) (by omega))).trans (EvP.shift (m:=m.swap _ _ _ _) _ _ (by omega) hm (.inl ⟨hst,rfl⟩) (fun hf=>by rw[hst]at hf;cases hf) hnw (fun hf=>by omega))
   ·exact .swap _ _ _ h1 (nhz hok (.inl ⟨rfl,rfl⟩) (by omega))
theorem evp_reg {se:Sea}{r:Reg}(C:Core c L S N h a m)(i0:0≤r.i)(i1:r.i<c.R)(hQ:∀j:Nat,(j:Int)<base c 11→Q j):EvP c Q P B w t (h,a,m) ((ZU h m t se r).2.1,a,(ZU h m t se r).2.2.1):=by
 have hok:=C.ok
 obtain rfl:=C.hc
 have h1:=hQ _ (lt11 hok (r:=8) (.inr (.inr (.inl ⟨rfl,i1⟩))) i0)
 have hN:∀m',EvP h.c Q P B w t (h,a,m') ((ZV h m' t se r).2.1,a,(ZV h m' t se r).2.2.1):=by
  intro m'
  unfold ZV
  split
  ·exact .refl _
  ·exact .quiet rfl rfl rfl rfl
 have h2:=nhz hok (r:=8) (.inr (.inr (.inl ⟨rfl,i1⟩))) i0
 unfold ZU
 simp only[]
 split
 ·split
  ·exact(EvP.load _ h1).trans (hN _)
  ·exact .load _ h1
 ·split
  ·exact(EvP.swap _ _ _ h1 h2).trans (.trans (y:=(h,a,(m.swap (adr h.c 8 r.i) (m.word (adr h.c 8 r.i)) 0 1).answer t se 2 r.i)) (.quiet rfl rfl rfl rfl) (.haz _))
  ·exact(EvP.swap _ _ _ h1 h2).trans (hN _)
theorem evp_flush {p:Psh}(C:Core c L S N h a m)(I:PInv c p)(hQ:∀j:Nat,(j:Int)<base c 11→Q j)(hm:m.thread=(t:Int))(hst:a.sl p.slot=⟨1,(t:Int)⟩)(hw:¬w):EvP c Q P B w t (h,a,m) (h,(ZL a m p).2.1,(ZL a m p).2.2.1):=by
 have hq:=evp_push (h:=h) (Q:=Q) (P:=P) (B:=B) C I hQ hm (by rw[hst];exact .inr (.inl ⟨rfl,.inr rfl,rfl⟩)) (fun hf=>by rw[hst]at hf;cases hf) hw
 unfold ZL
 split
 ·exact hq
 ·simp only[]
  split<;>exact hq.trans (.cache _)
theorem evp_unr {u:Unr}(C:Core c L S N h a m)(ht:(t:Int)<c.T)(hm:m.thread=(t:Int))(hu':u.thread=(t:Int))(hd:0≤h.held.getD t 0)(I:UnI c (a.caches.getD t []) u)
  (G:Gd c n Z Y F (sx pr c h a m) (hS (.unr u)) (hL (.unr u))) (D:TD c t (sx pr c h a m) (.unr u)) (hQ:∀j:Nat,(j:Int)<base c 11→Q j) (hP:∀s0,(∀j,pr j→(mv c m).hz j≠s0+1)→P s0) (hw0:u.stage=0→w) (hw1:u.stage=1∨u.stage=2→¬w) :
  EvP c Q P B w t (h,a,m) ((Zg h a m u).2.1,(Zg h a m u).2.2.1,(Zg h a m u).2.2.2.1):=by
 have hok:=C.ok
 obtain rfl:=C.hc
 obtain⟨r1,_⟩:=C.hget ht
 obtain⟨i1,i2,i3,i4⟩:=I
 unfold Zg
 have e:u.thread.toNat=t:=by omega
 simp only[e]
 by_cases s0:u.stage=0
 ·rw[if_pos s0]
  obtain⟨k0,k1⟩:=i2 s0
  have hz:=hz_adr hok hd r1 k0 k1
  have h1:Q (base h.c 9+h.held.getD t 0*h.c.Hz+u.k).toNat:=hQ _ (by have hb:=Qx hok;have:=hb.b11;have:=(ZS hok 9).1;have:=hok.S1;omega)
  split
  ·exact .store _ _ h1 (fun _=>hw0 s0)
  ·split<;>exact .store _ _ h1 (fun _=>hw0 s0)
 rw[if_neg s0]
 by_cases s1:u.stage=1
 ·rw[if_pos s1]
  obtain⟨s,e1,e2,e3⟩:=i3 s1
  rw[e1]
  simp only[]
  obtain⟨q1,q2⟩:=hS_unr1 s1 e1
  rw[q1,q2]at G
  have F:=evp_scan (Q:=Q) (P:=P) (B:=B) (w:=w) (t:=t) C e2 (by omega) hm G (D.scan s (by simp only[scOf,if_pos s1];exact e1)) hQ hP (hw1 (.inl s1))
  split<;>exact F
 rw[if_neg s1]
 by_cases s2:u.stage=2
 ·rw[if_pos s2]
  obtain⟨p,e1,e2,e3,e4⟩:=i4 s2
  rw[e1]
  obtain⟨_,y,hy⟩:=D.flush u rfl s2 p e1
  exact evp_flush C e2 hQ hm (G.stC t _ hy _ (by simp)) (hw1 (.inr s2))
 rw[if_neg s2]
 exact(EvP.store _ _ (hQ _ (lt11 hok (r:=8) (.inr (.inr (.inl ⟨rfl,r1⟩))) hd)) (fun hf=>absurd hf (nhz hok (.inr (.inr (.inl ⟨rfl,r1⟩))) hd))).trans (.haz _)
theorem evp_read {i:Nat}{cl:Cll}{se:Sea}{r:Rdg}(C:Core c L S N h a m)(I:RdI c r)(hQ:∀j:Nat,(j:Int)<base c 11→Q j)(hR:r.stage=3→Q (adr c 11 (r.w-1)))(hw0:r.stage=1→w) :
  EvP c Q P B w t (h,a,m) (h,a,(ZT h m i t cl se r).2.1):=by
 have hok:=C.ok
 have hc:=C.hc
 obtain⟨i1,i2,i3,i4⟩:=I
 have hb9:=(ZS hok 9).1
 have hbs:=Qx hok
 have h1:=hQ _ (lt11 hok (.inr (.inl ⟨rfl,rfl⟩)) (by omega))
 have h2:Q r.addr.toNat:=hQ _ (by have:=hbs.b11;have:=hok.S1;omega)
 have hS:∀m' u,EvP c Q P B w t (h,a,m') (h,a,(Z8 m' i t cl se r u).2.1):=by
  intro m' u
  unfold Z8
  split
  ·exact .quiet rfl rfl rfl rfl
  ·exact .refl _
 unfold ZT
 rw[hc]
 simp only[]
 split
 ·exact(EvP.load _ h1).trans (hS _ _)
 ·split
  ·rename_i s0 s1
   exact .store _ _ h2 (fun _=>hw0 s1)
  ·split
   ·split
    ·exact .load _ h1
    ·exact(EvP.load _ h1).trans (hS _ _)
   ·rename_i s0 s1 s2
    exact(EvP.load _ (hR (by omega))).trans (.quiet rfl rfl rfl rfl)
theorem evp_took {i:Nat}{cl:Cll}{se:Sea}{p:Pst}{k:Tak}{m':Mch}:EvP c Q P B w t (h,a,m') (h,a,(ZE m' i t cl se p k).2.1):=by
 unfold ZE
 split
 ·exact .quiet rfl rfl rfl rfl
 ·exact .refl _
theorem evp_done {i:Nat}{cl:Cll}{se:Sea}{p:Pst}{sl0:Int}(hm:m.thread=(t:Int))(q0:0≤sl0)(q1:sl0.toNat<a.slots.length)(w0:0≤p.saw)(w1:p.saw≤a.slots.length)(h2:a.sl sl0=⟨2,(t:Int)⟩)(h3:1≤p.saw→(a.sl (p.saw-1)).state=3)(hw:¬w)(hB:∀s,(a.sl s).state=3→B s) :
  EvP c Q P B w t (h,a,m) ((ZY h a m i t cl se p sl0).2.1,(ZY h a m i t cl se p sl0).2.2.1,(ZY h a m i t cl se p sl0).2.2.2.1):=by
 unfold ZY
 simp only[]
 have E1:EvP c Q P B w t (h,a,m) (h,a.shift sl0.toNat m.thread 3,((m.point i cl m.now).answer t se 1 0).shift sl0 (a.slots.getD sl0.toNat ⟨0,0⟩).state 3):=
  .trans (y:=(h,a,(m.point i cl m.now).answer t se 1 0)) (.quiet rfl rfl rfl rfl) (EvP.shift (Q:=Q) (P:=P) (B:=B) (w:=w) (h:=h) (a:=a) (m:=(m.point i cl m.now).answer t se 1 0) sl0 3 q0 hm (by rw[h2];exact .inr (.inr (.inl ⟨rfl,.inl rfl,rfl⟩))) (fun hf=>by rw[h2]at hf;cases hf) hw (fun hf=>by omega))
 split
 ·exact E1
 ·rename_i hn
  have h3:=h3 (by omega)
  have hne:p.saw-1≠sl0:=fun e=>by rw[e,h2]at h3;cases h3
  have e1:(a.shift sl0.toNat m.thread 3).sl (p.saw-1)=a.sl (p.saw-1):=by rw[Q0 q0 q1,updS_ne _ _ hne]
  have E2:EvP c Q P B w t (h,a.shift sl0.toNat m.thread 3,((m.point i cl m.now).answer t se 1 0).shift sl0 (a.slots.getD sl0.toNat ⟨0,0⟩).state 3) _:=
   EvP.shift (p.saw-1) 4 (by omega) hm (by rw[e1];exact .inr (.inr (.inr (.inl ⟨h3,rfl⟩)))) (fun hf=>by rw[e1,h3]at hf;cases hf) hw (fun _=>hB _ h3)
  refine E1.trans (E2.trans (evp_retire (by show 0≤p.saw-1;omega) hm ?_ hw))
  show((a.shift sl0.toNat m.thread 3).shift (p.saw-1).toNat m.thread 4).sl (p.saw-1)=_
  rw[Q0 (by omega) (by simp only[Are.shift,List.length_set];omega),QV,hm]
  rfl
theorem evp_post {i:Nat}{cl:Cll}{se:Sea}{p:Pst}(C:Core c L S N h a m)(hm:m.thread=(t:Int))(hu:p.thread=(t:Int))(I:PoI c p)
  (G:Gd c n Z Y F (sx pr c h a m) (hS (.pst p)) (hL (.pst p))) (D:TD c t (sx pr c h a m) (.pst p)) (hQ:∀j:Nat,(j:Int)<base c 11→Q j) (hV:p.stage=1→Q (adr c 11 (p.link-1))) (hP:∀s0,(∀j,pr j→(mv c m).hz j≠s0+1)→P s0) (hnw:¬w) (hB:∀s,(a.sl s).state=3→B s) :
  EvP c Q P B w t (h,a,m) ((Zj h a m i t cl se p).2.1,(Zj h a m i t cl se p).2.2.1,(Zj h a m i t cl se p).2.2.2.1):=by
 have hok:=C.ok
 have hc:=C.hc
 obtain⟨⟨k,hk,k0,k1⟩,i2,i3,i4⟩:=I
 have h1:=hQ _ (lt11 hok (.inr (.inl ⟨rfl,rfl⟩)) (by omega))
 unfold Zj
 rw[hk,hc]
 simp only[]
 by_cases s0:p.stage=0
 ·rw[if_pos s0]
  have E:=evp_take (Q:=Q) (P:=P) (B:=B) (h:=h) C (k0 s0) hm G hQ hnw
  split
  ·exact E.trans evp_took
  ·exact E
 rw[if_neg s0]
 by_cases s1:p.stage=1
 ·rw[if_pos s1]
  obtain⟨g1,g2,g3⟩:=k1 (.inl s1)
  have e:Zh k=p.link-1:=by omega
  rw[e]
  exact .store _ _ (hV s1) (fun hf=>absurd hf (by have:=QP hok 11 g1;have hb:=Qx hok;have:=hb.b11;have:=hok.S1;unfold Hzj;rw[←e];omega))
 rw[if_neg s1]
 by_cases s2:p.stage=2
 ·rw[if_pos s2]
  exact .load _ h1
 rw[if_neg s2]
 by_cases s3:p.stage=3
 ·rw[if_pos s3]
  obtain⟨g1,g2,g3⟩:=k1 (.inr (.inr s3))
  have hsw:=i3 s3
  have e:Zh k=p.link-1:=by omega
  split
  ·rename_i hw
   refine(EvP.swap _ _ _ h1 (nhz hok (.inr (.inl ⟨rfl,rfl⟩)) (by omega))).trans (evp_done hm g1 (by rw[C.slots];omega) hsw.1 (by rw[C.slots];omega) ?_ (fun h1 => ?_) hnw hB)
   ·rw[e]
    exact D.own _ (by simp only[hO];rw[if_pos (.inr (.inr s3))];simp)
   ·exact G.stX (p.saw-1) (by omega) (by show m.word (adr c 2 0)=_;rw[hw];omega)
  ·exact .swap _ _ _ h1 (nhz hok (.inr (.inl ⟨rfl,rfl⟩)) (by omega))
 rw[if_neg s3]
 have s4:p.stage=4:=by rcases i2 with h|h|h|h|h<;>first|exact absurd h s0|exact absurd h s1|exact absurd h s2|exact absurd h s3|exact h
 obtain⟨r,sc,e1,e2,e3,e4⟩:=i4 s4
 rw[e1]
 simp only[e2]
 obtain⟨q1,q2⟩:=hS_pst4 s4 e1 e2
 rw[q1,q2]at G
 exact evp_scan C e3 (by omega) hm G (D.scan sc (by simp only[scOf,if_pos s4,e1];exact e2)) hQ hP hnw
def WrH:Zz→Prop
 | .rdg r=>r.stage=1
 | .clr _=>True
 | .unr u=>u.stage=0
 | _=>False
theorem evp_stp {i:Nat}{cl:Cll}{se:Sea}{k:Zz}(C:Core c L S N h a m)(ht:(t:Int)<c.T)(hm:m.thread=(t:Int))(I:TI c t true (h.held.getD t 0) (a.caches.getD t []) k)
  (G:Gd c n Z Y F (sx pr c h a m) (hS k) (hL k)) (D:TD c t (sx pr c h a m) k) (hQ:∀j:Nat,(j:Int)<base c 11→Q j) (hR:∀r,k=.rdg r→r.stage=3→Q (adr c 11 (r.w-1))) (hV:∀p,k=.pst p→p.stage=1→Q (adr c 11 (p.link-1)))
  (hP:∀s0,(∀j,pr j→(mv c m).hz j≠s0+1)→P s0) (hB:∀s,(a.sl s).state=3→B s) :
  EvP c Q P B (WrH k) t (h,a,m) ((Zn (h,a) m i t cl se k).2.1.1,(Zn (h,a) m i t cl se k).2.1.2,(Zn (h,a) m i t cl se k).2.2.1):=by
 have hok:=C.ok
 cases k with
 | reg r=>
  obtain⟨i1,i2,i3⟩:=I
  exact evp_reg C i2 i3 hQ
 | unr u=>
  obtain⟨i1,i2,i3⟩:=I
  exact evp_unr C ht hm i1 i2 i3 G D hQ hP (fun h=>h) (fun h hf=>by have hf:u.stage=0:=hf;omega)
 | rdg r=>exact evp_read C I hQ (hR r rfl) (fun h=>h)
 | clr ad=>
  obtain⟨i1,i2⟩:=I
  exact .store _ _ (hQ _ (by have hb:=Qx hok;have:=hb.b11;have:=hok.S1;omega)) (fun _=>trivial)
 | scn s=>exact evp_scan C (I.2.2 rfl) I.1 hm G (D.scan s rfl) hQ hP id
 | pst p=>exact evp_post C hm I.1 (I.2.2.1 rfl) G D hQ (hV p rfl) hP id hB
end
end
section
def put (sl:List Slt)(x:Shf):List Slt:=sl.set x.slot.toNat ⟨x.to,if x.to=0∨x.to=3 then -1 else x.thread⟩
def puts (sl:List Slt)(ds:List Shf):List Slt:=ds.foldl put sl
theorem Q9 (sl:List Slt)(x y:List Shf):puts sl (x++y)=puts (puts sl x) y:=List.foldl_append ..
def MayL:List Slt→List Shf→Prop
 | _,[]=>True
 | sl,x::r=>MayS x.thread (sl.getD x.slot.toNat ⟨0,0⟩) x.to∧MayL (put sl x) r
theorem mayL_append:∀ {x y:List Shf} {sl:List Slt},MayL sl (x++y)↔MayL sl x∧MayL (puts sl x) y
 | [],y,sl=>by simp[MayL,puts]
 | d::x,y,sl=>by
  have h:=mayL_append (x:=x) (y:=y) (sl:=put sl d)
  simp only[List.cons_append,MayL]
  rw[h]
  exact⟨fun⟨h1,h2,h3⟩=>⟨⟨h1,h2⟩,h3⟩,fun⟨⟨h1,h2⟩,h3⟩=>⟨h1,h2,h3⟩⟩
def Each (R:List Slt→Shf→Prop)(sl:List Slt)(ds:List Shf):Prop:=∀pre d post,ds=pre++d::post→R (puts sl pre) d
theorem each_nil {R:List Slt→Shf→Prop}{sl:List Slt}:Each R sl []:=fun pre d post e=>by simp at e
theorem each_one {R:List Slt→Shf→Prop}{sl:List Slt}{d:Shf}(h:R sl d):Each R sl [d]:=fun pre d' post e=>by
 cases pre with
 | nil=>simp at e;rw[←e.1];exact h
 | cons a r=>simp at e
theorem each_append {R:List Slt→Shf→Prop}{sl:List Slt}{x y:List Shf}(h1:Each R sl x)(h2:Each R (puts sl x) y):Each R sl (x++y):=by
 intro pre d post e
 rcases List.append_eq_append_iff.1 e with⟨a',e1,e2⟩|⟨c',e1,e2⟩
 ·rw[e1,Q9]
  exact h2 a' d post e2
 ·cases c' with
  | nil=>
   simp only[List.append_nil]at e1
   simp only[List.nil_append]at e2
   rw[←e1]
   exact h2 [] d post e2.symm
  | cons z c'' =>
   simp only[List.cons_append,List.cons.injEq]at e2
   obtain⟨rfl,rfl⟩:=e2
   exact h1 pre d c'' e1
structure Eff (c:Cfg)(Q:Nat→Prop)(P B:Int→Prop)(w:Prop)(t:Nat)(x y:St3)(es:List Acc)(ds:List Shf):Prop where
 log:y.2.2.mem.log=x.2.2.mem.log++es
 shifts:y.2.2.shifts=x.2.2.shifts++ds
 slots:y.2.1.slots=puts x.2.1.slots ds
 acc:∀e∈es,∃j:Nat,e.addr=(j:Int)∧Q j∧(e.kind=1∨(Hzj c j→w∧e.kind=2))
 quiet:w→ds=[]
 each:Each (fun sl d=>0≤d.slot∧d.thread=(t:Int)∧MayS t (sl.getD d.slot.toNat ⟨0,0⟩) d.to∧((sl.getD d.slot.toNat ⟨0,0⟩).state=5→P d.slot)∧(d.to=4→B d.slot)) x.2.1.slots ds
 mm:y.2.2.mem.move=x.2.2.mem.move
 now:y.2.2.now=x.2.2.now
 th:y.2.2.thread=x.2.2.thread
 em:∀e∈es,e.move=x.2.2.mem.move∧e.thread=x.2.2.thread
 dm:∀d∈ds,d.move=x.2.2.now
theorem EvP.eff {c:Cfg}{Q:Nat→Prop}{P B:Int→Prop}{w:Prop}{t:Nat}{x y:St3}(h:EvP c Q P B w t x y):∃es ds,Eff c Q P B w t x y es ds:=by
 induction h with
 | refl x=>exact⟨[],[],by simp,by simp,rfl,by simp,fun _=>rfl,each_nil,rfl,rfl,rfl,by simp,by simp⟩
 | trans _ _ ih1 ih2=>
  obtain⟨es1,ds1,a1,a2,a3,a4,a5,a6,a7,a8,a9,a10,a11⟩:=ih1
  obtain⟨es2,ds2,b1,b2,b3,b4,b5,b6,b7,b8,b9,b10,b11⟩:=ih2
  refine⟨es1++es2,ds1++ds2,by rw[b1,a1,List.append_assoc],by rw[b2,a2,List.append_assoc],by rw[b3,a3,Q9],fun e he => ?_,fun hw=>by rw[a5 hw,b5 hw];rfl,each_append a6 (by rw[←a3];exact b6),b7.trans a7,b8.trans a8,b9.trans a9,fun e he => ?_,fun e he => ?_⟩
  ·rcases List.mem_append.1 he with h|h
   ·exact a4 e h
   ·exact b4 e h
  ·rcases List.mem_append.1 he with h|h
   ·exact a10 e h
   ·have:=b10 e h;rw[a7,a9]at this;exact this
  ·rcases List.mem_append.1 he with h|h
   ·exact a11 e h
   ·have:=b11 e h;rw[a8]at this;exact this
 | load j hq=>exact⟨[_],[],rfl,by simp[Mch.load],rfl,fun e he=>by simp at he;subst he;exact⟨j,rfl,hq,.inl rfl⟩,fun _=>rfl,each_nil,rfl,rfl,rfl,fun e he=>by simp at he;subst he;exact⟨rfl,rfl⟩,by simp⟩
 | store j z hq hw=>exact⟨[_],[],rfl,by simp[Mch.store],rfl,fun e he=>by simp at he;subst he;exact⟨j,rfl,hq,.inr fun hz=>⟨hw hz,rfl⟩⟩,fun _=>rfl,each_nil,rfl,rfl,rfl,fun e he=>by simp at he;subst he;exact⟨rfl,rfl⟩,by simp⟩
 | swap j o z hq hn=>exact⟨[_],[],rfl,by simp[Mch.swap],rfl,fun e he=>by simp at he;subst he;exact⟨j,rfl,hq,.inr fun hz=>absurd hz hn⟩,fun _=>rfl,each_nil,rfl,rfl,rfl,fun e he=>by simp at he;subst he;exact⟨rfl,rfl⟩,by simp⟩
 | @shift h a m s to h0 ht hm hp hw hb=>
  have e:a.sl s=a.slots.getD s.toNat ⟨0,0⟩:=by unfold Are.sl;rw[if_pos h0]
  rw[e]at hm hp
  exact⟨[],[⟨m.now,m.thread,s,(a.slots.getD s.toNat ⟨0,0⟩).state,to⟩],by simp[Mch.shift],rfl,by simp[puts,put,Are.shift],by simp,fun h=>absurd h hw,each_one ⟨h0,ht,hm,hp,hb⟩,rfl,rfl,rfl,by simp,by simp⟩
 | quiet h1 h2 h3 h4=>exact⟨[],[],by rw[h1];simp,by rw[h2];simp,rfl,by simp,fun _=>rfl,each_nil,by rw[h1],h3,h4,by simp,by simp⟩
 | haz h'=>exact⟨[],[],by simp,by simp,rfl,by simp,fun _=>rfl,each_nil,rfl,rfl,rfl,by simp,by simp⟩
 | cache cs=>exact⟨[],[],by simp,by simp,rfl,by simp,fun _=>rfl,each_nil,rfl,rfl,rfl,by simp,by simp⟩
end
section
theorem cN_put (k:Int)(sl:List Slt)(d:Shf):cN k (put sl d)≤cN k sl+(if d.to=k then 1 else 0):=by
 unfold put
 by_cases hl:d.slot.toNat<sl.length
 ·have:=cN_set k sl d.slot.toNat ⟨d.to,if d.to=0∨d.to=3 then -1 else d.thread⟩ hl
  by_cases h5:(sl.getD d.slot.toNat ⟨0,0⟩).state=k<;>by_cases h6:d.to=k
  ·simp only[if_pos h6,if_pos h5]at this ⊢;omega
  ·simp only[if_neg h6,if_pos h5]at this ⊢;omega
  ·simp only[if_pos h6,if_neg h5]at this ⊢;omega
  ·simp only[if_neg h6,if_neg h5]at this ⊢;omega
 ·rw[cN_out hl];split<;>omega
theorem cN_puts_no {k:Int}:∀ {ds:List Shf} {sl:List Slt},(∀d∈ds,d.to≠k)→cN k (puts sl ds)≤cN k sl
 | [],_,_=>Int.le_refl _
 | d::r,sl,h=>by
  have h1:=cN_put k sl d
  rw[if_neg (h d (List.mem_cons_self ..))]at h1
  have h2:=cN_puts_no (ds:=r) (sl:=put sl d) fun z hz=>h z (List.mem_cons_of_mem _ hz)
  show cN k (puts (put sl d) r)≤_
  omega
def Pln (ds:List Shf):Prop:=∀d∈ds,d.to≠4∧d.to≠5
inductive OkD (ds:List Shf):Prop where
 | pln (h:Pln ds)
 | done (a:List Shf) (x y z:Shf) (h1:ds=a++[x,y,z]) (h2:Pln a) (h3:x.to=3) (h4:y.to=4) (h5:z.to=5)
theorem okD_pre {ds a b:List Shf}(h:OkD ds)(e:ds=a++b)(hb:b≠[])(sl:List Slt):cN 5 (puts sl a)≤cN 5 sl∧cN 4 (puts sl a)≤cN 4 sl+1:=by
 have pln:∀a':List Shf,Pln a'→cN 5 (puts sl a')≤cN 5 sl∧cN 4 (puts sl a')≤cN 4 sl:=fun a' h=>⟨cN_puts_no fun d hd=>(h d hd).2,cN_puts_no fun d hd=>(h d hd).1⟩
 have sub:∀ {a' p q:List Shf},Pln a'→a'=p++q→Pln p:=fun h e d hd=>h d (by rw[e];exact List.mem_append_left _ hd)
 cases h with
 | pln h=>
  have:=pln a (sub h e)
  omega
 | done a' x y z h1 h2 h3 h4 h5=>
  rw[h1]at e
  rcases List.append_eq_append_iff.1 e with⟨w,e1,e2⟩|⟨w,e1,e2⟩
  ·have h0:=pln a' h2
   rw[e1,Q9]
   match w,e2 with
   | [],_=>exact⟨by show cN 5 (puts sl a')≤_;omega,by show cN 4 (puts sl a')≤_;omega⟩
   | [x'],e2=>
    simp at e2
    obtain⟨rfl,_⟩:=e2
    have g1:=cN_put 5 (puts sl a') x
    have g2:=cN_put 4 (puts sl a') x
    rw[if_neg (by omega)]at g1 g2
    exact⟨by show cN 5 (put (puts sl a') x)≤_;omega,by show cN 4 (put (puts sl a') x)≤_;omega⟩
   | [x',y'],e2=>
    simp at e2
    obtain⟨rfl,rfl,_⟩:=e2
    have g1:=cN_put 5 (puts sl a') x
    have g2:=cN_put 4 (puts sl a') x
    rw[if_neg (by omega)]at g1 g2
    have g3:=cN_put 5 (put (puts sl a') x) y
    have g4:=cN_put 4 (put (puts sl a') x) y
    rw[if_neg (by omega)]at g3
    rw[if_pos h4]at g4
    exact⟨by show cN 5 (put (put (puts sl a') x) y)≤_;omega,by show cN 4 (put (put (puts sl a') x) y)≤_;omega⟩
   | x'::y'::z'::w',e2=>
    simp at e2
    obtain⟨_,_,_,e3⟩:=e2
    exact absurd e3.2 hb
  ·have:=pln a (sub h2 e1)
   omega
section
variable {t:Nat}{c:Cfg}{L S N:Nat}{h:Haz}{a:Are}{m m' m'':Mch}
def Shs (A:List Shf→Prop)(m m':Mch):Prop:=∃ds,m'.shifts=m.shifts++ds∧A ds
theorem Shs.refl (m:Mch):Shs Pln m m:=⟨[],by simp,fun d hd=>by simp at hd⟩
theorem Shs.of (h:m'.shifts=m.shifts):Shs Pln m m':=⟨[],by simp[h],fun d hd=>by simp at hd⟩
theorem Shs.trans (h1:Shs Pln m m')(h2:Shs Pln m' m''):Shs Pln m m'':=by
 obtain⟨d1,a1,a2⟩:=h1
 obtain⟨d2,b1,b2⟩:=h2
 exact⟨d1++d2,by rw[b1,a1,List.append_assoc],fun d hd=>(List.mem_append.1 hd).elim (a2 d) (b2 d)⟩
theorem Shs.shift (s f:Int){to:Int}(h4:to≠4)(h5:to≠5):Shs Pln m (m.shift s f to):=⟨_,rfl,fun d hd=>by simp at hd;subst hd;exact⟨h4,h5⟩⟩
theorem sh_push (a:Are)(m:Mch)(p:Psh):Shs Pln m (Za a m p).2.2.1:=by
 unfold Za
 split
 ·exact .of rfl
 ·split
  ·exact .of rfl
  ·simp only[]
   split
   ·exact(Shs.of (m':=m.swap _ _ _ _) rfl).trans (.shift _ _ (by omega) (by omega))
   ·exact .of rfl
theorem sh_free (th:Int):∀(pend:List Int) (g:Option Psh) (a:Are) (m:Mch),Shs Pln m (Zu th pend g a m).2.2.2.2
 | [],g,a,m=>.refl _
 | s::r,g,a,m=>by
  unfold Zu
  unfold Zy
  simp only[]
  split
  ·simp only[Yn,if_false]
   exact .refl _
  ·simp only[if_true]
   exact(Shs.shift _ _ (by omega) (by omega)).trans (sh_free th r _ _ _)
theorem sh_scan (h:Haz)(a:Are)(m:Mch)(s:Scn):Shs Pln m (Zf h a m s).2.2.2.1:=by
 unfold Zf
 split
 ·unfold QH;simp only[];split<;>exact .of rfl
 ·split
  ·unfold Qm;simp only[];split<;>exact .of rfl
  ·split
   ·unfold QO;exact .of rfl
   ·split
    ·unfold Qo
     dsimp only
     split
     ·exact .of rfl
     ·simp only[Z2,Qf]
      exact(Shs.of (m':=m.load _ _) rfl).trans (sh_free _ _ _ _ _)
    ·split
     ·unfold Qp
      simp only[]
      split
      ·exact(sh_push ..).trans (sh_free _ _ _ _ _)
      ·exact sh_push ..
     ·exact .refl _
theorem sh_takeReady (a:Are)(m:Mch)(k:Tak):Shs Pln m (Zk a m k).2.2.1:=by
 unfold Zk
 simp only[]
 split
 ·exact .refl _
 ·exact .shift _ _ (by omega) (by omega)
theorem sh_take (a:Are)(m:Mch)(k:Tak):Shs Pln m (Zi a m k).2.2.1:=by
 unfold Zi
 split
 ·exact .of rfl
 ·split
  ·exact .of rfl
  ·simp only[]
   split
   ·exact(Shs.of (m':=m.swap _ _ _ _) rfl).trans (.shift _ _ (by omega) (by omega))
   ·exact .of rfl
theorem sh_took {i:Nat}{cl:Cll}{se:Sea}{p:Pst}{k:Tak}:Shs Pln m (ZE m i t cl se p k).2.1:=by
 unfold ZE
 split
 ·exact .of rfl
 ·exact .refl _
theorem sh_unr (h:Haz)(a:Are)(m:Mch)(u:Unr):Shs Pln m (Zg h a m u).2.2.2.1:=by
 unfold Zg
 simp only[]
 split
 ·split
  ·exact .of rfl
  ·split<;>exact .of rfl
 ·split
  ·split
   ·exact .refl _
   ·split<;>exact sh_scan ..
  ·split
   ·split
    ·exact .refl _
    ·simp only[]
     unfold ZL
     split
     ·exact sh_push ..
     ·simp only[]
      split<;>exact sh_push ..
   ·exact .of rfl
theorem sh_reg {se:Sea}{r:Reg}:Shs Pln m (ZU h m t se r).2.2.1:=by
 have hN:∀m',Shs Pln m' (ZV h m' t se r).2.2.1:=by
  intro m'
  unfold ZV
  split
  ·exact .refl _
  ·exact .of rfl
 unfold ZU
 simp only[]
 split
 ·split
  ·exact(Shs.of (m':=m.load _ _) rfl).trans (hN _)
  ·exact .of rfl
 ·split
  ·exact .of rfl
  ·exact(Shs.of (m':=m.swap _ _ _ _) rfl).trans (hN _)
theorem sh_read {i:Nat}{cl:Cll}{se:Sea}{r:Rdg}:Shs Pln m (ZT h m i t cl se r).2.1:=by
 have hS:∀m' u,Shs Pln m' (Z8 m' i t cl se r u).2.1:=by
  intro m' u
  unfold Z8
  split
  ·exact .of rfl
  ·exact .refl _
 unfold ZT
 simp only[]
 split
 ·exact(Shs.of (m':=m.load _ _) rfl).trans (hS _ _)
 ·split
  ·exact .of rfl
  ·split
   ·split
    ·exact .of rfl
    ·exact(Shs.of (m':=m.load _ _) rfl).trans (hS _ _)
   ·exact .of rfl
theorem Shs.ok (h:Shs Pln m m'):Shs OkD m m':=by
 obtain⟨d,a,b⟩:=h
 exact⟨d,a,.pln b⟩
theorem Shs.then (h1:Shs Pln m m')(h2:Shs OkD m' m''):Shs OkD m m'':=by
 obtain⟨d1,a1,a2⟩:=h1
 obtain⟨d2,b1,b2⟩:=h2
 refine⟨d1++d2,by rw[b1,a1,List.append_assoc],?_⟩
 cases b2 with
 | pln b2=>exact .pln fun d hd=>(List.mem_append.1 hd).elim (a2 d) (b2 d)
 | done a' x y z g1 g2 g3 g4 g5=>exact .done (d1++a') x y z (by rw[g1,List.append_assoc]) (fun d hd=>(List.mem_append.1 hd).elim (a2 d) (g2 d)) g3 g4 g5
theorem sh_done {i:Nat}{cl:Cll}{se:Sea}{p:Pst}{s0:Int}:Shs OkD m (ZY h a m i t cl se p s0).2.2.2.1:=by
 unfold ZY
 simp only[]
 split
 ·exact(Shs.shift (m:=(m.point i cl m.now).answer t se 1 0) s0 _ (by omega) (by omega)).ok
 ·unfold ZA
  simp only[]
  have key:∀(m':Mch) (x y z:Shf),m'.shifts=m.shifts++[x]++[y]++[z]→x.to=3→y.to=4→z.to=5→Shs OkD m m':=fun m' x y z e h3 h4 h5=>⟨[x,y,z],by rw[e];simp,.done [] x y z rfl (fun d hd=>by simp at hd) h3 h4 h5⟩
  split<;>exact key _ _ _ _ rfl rfl rfl rfl
theorem sh_post {i:Nat}{cl:Cll}{se:Sea}{p:Pst}:Shs OkD m (Zj h a m i t cl se p).2.2.2.1:=by
 unfold Zj
 split
 ·exact(Shs.refl _).ok
 ·simp only[]
  split
  ·split
   ·exact((sh_take ..).trans sh_took).ok
   ·exact(sh_take ..).ok
  ·split
   ·exact(Shs.of rfl).ok
   ·split
    ·exact(Shs.of rfl).ok
    ·split
     ·split
      ·exact(Shs.of (m':=m.swap _ _ _ _) rfl).then sh_done
      ·exact(Shs.of rfl).ok
     ·split
      ·exact(Shs.refl _).ok
      ·split
       ·exact(Shs.refl _).ok
       ·exact(sh_scan ..).ok
theorem sh_stp {k:Zz}{i:Nat}{cl:Cll}{se:Sea}{s:Haz×Are}:Shs OkD m (Zn s m i t cl se k).2.2.1:=by
 cases k with
 | reg r=>exact sh_reg.ok
 | unr u=>exact(sh_unr ..).ok
 | rdg r=>exact sh_read.ok
 | clr ad=>exact(Shs.of rfl).ok
 | scn s=>exact(sh_scan ..).ok
 | pst p=>exact sh_post
theorem sh_rdy {k:Zz}{i:Nat}{cl:Cll}{se:Sea}{s:Haz×Are}:Shs Pln m (Qj s m i t cl se k).2.2.1:=by
 cases k with
 | pst p=>
  show Shs Pln m (Zq s.2 m i t cl se p).2.2.1
  unfold Zq
  simp only[]
  split
  ·exact(sh_takeReady ..).trans sh_took
  ·exact sh_takeReady ..
 | _=>exact .refl _
end
end
section
def s0 (c:Cfg):List Slt:=(are0 c).slots
def sAt (c:Cfg)(sh:List Shf)(s:Int):Slt:=(puts (s0 c) sh).getD s.toNat ⟨0,0⟩
def opn (x:Slt)(t:Int):Prop:=x.state=3∨x.state=4∨x.state=5∨x.state=2∧x.holder=t
def Seen (c:Cfg)(sh:List Shf)(s fr:Int):Prop:=∃p x q,sh=p++x::q∧fr≤x.move∧(sAt c p s).state=3
def Wrt (a:Int)(e:Acc):Prop:=e.addr=a∧(e.kind=2∨e.kind=3∧e.saw=e.old)
instance (a:Int) (e:Acc):Decidable (Wrt a e):=by unfold Wrt;exact Ii
def wr1 (a:Int)(w:Int×Int)(e:Acc):Int×Int:=if Wrt a e then (e.move,e.new) else w
def lastW (a:Int)(l:List Acc):Int×Int:=l.foldl (wr1 a) (-1,0)
theorem puts_len:∀(ds:List Shf) (sl:List Slt),(puts sl ds).length=sl.length
 | [],_=>rfl
 | d::r,sl=>by show(puts (put sl d) r).length=_;rw[puts_len r];simp[put]
theorem fold_none {a:Int}:∀ {l:List Acc} {w:Int×Int},(∀e∈l,¬Wrt a e)→l.foldl (wr1 a) w=w
 | [],_,_=>rfl
 | e::r,w,h=>by
  show r.foldl (wr1 a) (wr1 a w e)=w
  rw[show wr1 a w e=w from if_neg (h e (List.mem_cons_self ..))]
  exact fold_none fun e he=>h e (List.mem_cons_of_mem _ he)
theorem fold_some {a:Int}:∀ {l:List Acc} {w:Int×Int},(∃e∈l,Wrt a e)→∃e∈l,Wrt a e∧l.foldl (wr1 a) w=(e.move,e.new)
 | [],_,h=>by obtain⟨e,h,_⟩:=h;simp at h
 | e::r,w,h=>by
  show ∃e'∈e::r,Wrt a e'∧r.foldl (wr1 a) (wr1 a w e)=_
  by_cases hr:∃e∈r,Wrt a e
  ·obtain⟨e',h1,h2,h3⟩:=fold_some (w:=wr1 a w e) hr
   exact⟨e',List.mem_cons_of_mem _ h1,h2,h3⟩
  ·obtain⟨e',h1,h2⟩:=h
   rcases List.mem_cons.1 h1 with rfl|h1
   ·exact⟨e',List.mem_cons_self ..,h2,by rw[fold_none fun z hz hw=>hr ⟨z,hz,hw⟩];exact if_pos h2⟩
   ·exact absurd ⟨e',h1,h2⟩ hr
theorem lastW_none {a:Int}{l es:List Acc}(h:∀e∈es,¬Wrt a e):lastW a (l++es)=lastW a l:=by
 unfold lastW;rw[List.foldl_append];exact fold_none h
theorem lastW_some {a:Int}{l es:List Acc}(h:∃e∈es,Wrt a e):∃e∈es,Wrt a e∧lastW a (l++es)=(e.move,e.new):=by
 unfold lastW;rw[List.foldl_append];exact fold_some h
theorem shfs_puts:∀ {ds:List Shf} {sl sl':List Slt},shfs sl ds=some sl'→sl'=puts sl ds
 | [],sl,sl',h=>by cases h;rfl
 | d::r,sl,sl',h=>by
  simp only[shfs]at h
  cases h1:shf1 sl d with
  | none=>rw[h1]at h;cases h
  | some s1=>
   rw[h1]at h
   have:=shfs_puts (ds:=r) (sl:=s1) h
   unfold shf1 at h1
   split at h1
   ·cases h1;exact this
   ·cases h1
structure SafJ (c:Cfg)(pr:Int→Prop)(lg:List Acc)(sh:List Shf):Prop where
 acc:∀e∈lg,(0≤e.addr∧e.addr<base c 11)∨∃s,e.addr=base c 11+s∧0≤s∧s<c.Sl∧opn (sAt c (sh.filter (fun x=>decide (x.move≤e.move))) s) e.thread
 may:MayL (s0 c) sh
 held:∀p x q,sh=p++x::q→(sAt c p x.slot).state=5→∀j,0≤j→j<c.R*c.Hz→(lastW (base c 9+j) (lg.filter (fun e=>decide (e.move≤x.move)))).2=x.slot+1 →
  ¬Seen c p x.slot (lastW (base c 9+j) (lg.filter (fun e=>decide (e.move≤x.move)))).1
 since:∀j s,0≤j→j<c.R*c.Hz→0≤s→s<c.Sl→(lastW (base c 9+j) lg).2=s+1→(Seen c sh s (lastW (base c 9+j) lg).1∨(sAt c sh s).state=3)→pr j
section
variable {c:Cfg}{n:Int}{t:Nat}{pr pr':Int→Prop}{x y:St3}{es:List Acc}{ds:List Shf}{Q:Nat→Prop}{P B:Int→Prop}{w:Prop}
theorem sAt_app (c:Cfg)(a b:List Shf)(s:Int):sAt c (a++b) s=(puts (puts (s0 c) a) b).getD s.toNat ⟨0,0⟩:=by unfold sAt;rw[Q9]
theorem stay {sl:List Slt}{s:Int}(h0:0≤s):∀(r pre:List Shf) (all:List Shf),all=pre++r→Each (fun sl d=>0≤d.slot∧d.thread=(t:Int)∧MayS t (sl.getD d.slot.toNat ⟨0,0⟩) d.to∧((sl.getD d.slot.toNat ⟨0,0⟩).state=5→P d.slot)∧(d.to=4→B d.slot)) sl all →
  ((puts sl pre).getD s.toNat ⟨0,0⟩).state=3→((puts sl all).getD s.toNat ⟨0,0⟩).state=3∨B s
 | [],pre,all,e,_,h=>by rw[e,List.append_nil];exact .inl h
 | d::r,pre,all,e,hE,h=>by
  obtain⟨d0,_,d2,_,d4⟩:=hE pre d r e
  have e':all=(pre++[d])++r:=by rw[e];simp
  by_cases hs:d.slot=s
  ·subst hs
   refine .inr (d4 ?_)
   rcases d2 with⟨h1,_⟩|⟨h1,_⟩|⟨h1,_⟩|⟨_,h1⟩|⟨h1,_⟩|⟨h1,_⟩<;>omega
  ·refine stay h0 r (pre++[d]) all e' hE ?_
   rw[Q9]
   show((put (puts sl pre) d).getD s.toNat ⟨0,0⟩).state=3
   unfold put
   rw[Yb,Yf (by omega),←Yb]
   exact h
theorem each_may {R:List Slt→Shf→Prop}(hR:∀sl d,R sl d→MayS d.thread (sl.getD d.slot.toNat ⟨0,0⟩) d.to):∀(ds:List Shf) (sl:List Slt),Each R sl ds→MayL sl ds
 | [],_,_=>trivial
 | d::r,sl,h=>⟨hR _ _ (h [] d r rfl),each_may hR r _ fun pre d' post e=>h (d::pre) d' post (by rw[e];rfl)⟩
theorem split_app {α:Type}{a b p q:List α}{x:α}(h:a++b=p++x::q):(∃q',a=p++x::q'∧q=q'++b)∨∃p',p=a++p'∧b=p'++x::q:=by
 rcases List.append_eq_append_iff.1 h with⟨a',e1,e2⟩|⟨c',e1,e2⟩
 ·exact .inr ⟨a',e1,e2⟩
 ·cases c' with
  | nil=>exact .inr ⟨[],by simpa using e1.symm,by simpa using e2.symm⟩
  | cons z c'' =>
   simp only[List.cons_append,List.cons.injEq]at e2
   obtain⟨rfl,e2⟩:=e2
   exact .inl ⟨c'',e1,e2⟩
theorem filter_app_none {α:Type}{p:α→Bool}{a b:List α}(h:∀z∈b,p z=false):(a++b).filter p=a.filter p:=by
 have hb:b.filter p=[]:=List.filter_eq_nil_iff.2 (fun z hz=>by rw[h z hz];simp)
 rw[List.filter_append,hb,List.append_nil]
theorem filter_all {α:Type}{p:α→Bool}{a:List α}(h:∀z∈a,p z=true):a.filter p=a:=List.filter_eq_self.2 h
theorem SafJ.half (hok:c.Ok)(S:SafJ c pr x.2.2.mem.log x.2.2.shifts)(E:Eff c Q P B w t x y es ds)(hsl:x.2.1.slots=puts (s0 c) x.2.2.shifts)
  (hm:x.2.2.mem.move=n) (hn:x.2.2.now=n) (hth:x.2.2.thread=(t:Int)) (hlt:∀e∈x.2.2.mem.log,e.move<n) (hsh:∀d∈x.2.2.shifts,d.move≤n) (hshw:w→∀d∈x.2.2.shifts,d.move<n)
  (hQ:∀j,Q j→(j:Int)<base c 11∨∃s,(j:Int)=base c 11+s∧0≤s∧s<c.Sl∧opn (y.2.1.slots.getD s.toNat ⟨0,0⟩) t)
  (hP:∀s,P s→∀j,0≤j→j<c.R*c.Hz→pr j→(lastW (base c 9+j) x.2.2.mem.log).2≠s+1) (hB:∀s,B s→0≤s→(sAt c x.2.2.shifts s).state=3)
  (hpr:∀j,0≤j→j<c.R*c.Hz→(¬ ∃e∈es,e.kind=2∧e.addr=base c 9+j)→pr j→pr' j)
  (hpr2:∀j s,0≤j→j<c.R*c.Hz→0≤s→s<c.Sl→(lastW (base c 9+j) y.2.2.mem.log).2=s+1→(sAt c y.2.2.shifts s).state=3→pr' j)
  (hrg:∀d∈ds,d.slot<c.Sl) :
  SafJ c pr' y.2.2.mem.log y.2.2.shifts:=by
 have hbs:=Qx hok
 have hb9:=(ZS hok 9).1
 have b10:base c 10=base c 9+c.R*c.Hz:=rfl
 have em:=fun e he=>(E.em e he).1.trans hm
 have dm:=fun d hd=>(E.dm d hd).trans hn
 have hwr:∀j,0≤j→j<c.R*c.Hz→∀e∈es,Wrt (base c 9+j) e→w∧e.kind=2:=by
  intro j j0 j1 e he hw
  obtain⟨k,hk,_,h⟩:=E.acc e he
  obtain⟨w1,w2⟩:=hw
  rcases h with h|h
  ·omega
  ·exact h ⟨by omega,by omega⟩
 have hyS:∀s,(y.2.1.slots.getD s.toNat ⟨0,0⟩)=sAt c y.2.2.shifts s:=by
  intro s;rw[E.slots,E.shifts,hsl,sAt_app]
 have hnl:ds≠[]→¬w:=fun h hw=>h (E.quiet hw)
 have hnow:ds≠[]→∀j,0≤j→j<c.R*c.Hz→∀e∈es,¬Wrt (base c 9+j) e:=fun h j j0 j1 e he hw=>hnl h (hwr j j0 j1 e he hw).1
 refine⟨fun e he => ?_,?_,?_,?_⟩
 ·rw[E.log]at he
  rcases List.mem_append.1 he with he|he
  ·have hl:=hlt e he
   rw[E.shifts,filter_app_none fun d hd=>by have:=dm d hd;rw[decide_eq_false_iff_not];omega]
   exact S.acc e he
  ·obtain⟨k,hk,hq,_⟩:=E.acc e he
   rw[hk]
   rcases hQ k hq with h|⟨s,h1,h2,h3,h4⟩
   ·exact .inl ⟨by omega,h⟩
   ·refine .inr ⟨s,h1,h2,h3,?_⟩
    have hmv:=em e he
    rw[E.shifts,filter_all (fun d hd=>by
     rw[decide_eq_true_eq,hmv]
     rcases List.mem_append.1 hd with hd|hd
     ·exact hsh d hd
     ·rw[dm d hd];omega),←E.shifts,←hyS,(E.em e he).2,hth]
    exact h4
 ·rw[E.shifts,mayL_append,←hsl]
  exact⟨S.may,each_may (fun sl d h=>by rw[h.2.1];exact h.2.2.1) ds _ E.each⟩
 ·intro p d q e h5 j j0 j1 hv hseen
  rw[E.log]at hv hseen
  rw[E.shifts]at e
  rcases split_app e with⟨q',e1,e2⟩|⟨p',e1,e2⟩
  ·have hd:d∈x.2.2.shifts:=by rw[e1];simp
   have hfl:lastW (base c 9+j) ((x.2.2.mem.log++es).filter (fun e=>decide (e.move≤d.move)))=lastW (base c 9+j) (x.2.2.mem.log.filter (fun e=>decide (e.move≤d.move))):=by
    rw[List.filter_append]
    refine lastW_none fun e he hw => ?_
    obtain⟨he,hle⟩:=List.mem_filter.1 he
    rw[decide_eq_true_eq,em e he]at hle
    have:=hshw (hwr j j0 j1 e he hw).1 d hd
    omega
   rw[hfl]at hv hseen
   exact S.held p d q' e1 h5 j j0 j1 hv hseen
  ·have hd:d∈ds:=by rw[e2];simp
   have hdn:ds≠[]:=List.ne_nil_of_mem hd
   have hdm:=dm d hd
   have hfl:lastW (base c 9+j) ((x.2.2.mem.log++es).filter (fun e=>decide (e.move≤d.move)))=lastW (base c 9+j) x.2.2.mem.log:=by
    rw[filter_all fun z hz=>by
     rw[decide_eq_true_eq,hdm]
     rcases List.mem_append.1 hz with hz|hz
     ·have:=hlt z hz;omega
     ·rw[em z hz];omega]
    exact lastW_none (hnow hdn j j0 j1)
   rw[hfl]at hv hseen
   obtain⟨d0,_,d2,d3,_⟩:=E.each p' d q e2
   have hst:((puts x.2.1.slots p').getD d.slot.toNat ⟨0,0⟩).state=5:=by rw[hsl,←sAt_app,←e1];exact h5
   have hPd:=d3 hst
   have hds:=hrg d hd
   refine hP _ hPd j j0 j1 ?_ hv
   refine S.since j d.slot j0 j1 d0 hds hv ?_
   obtain⟨p1,z,r,f1,f2,f3⟩:=hseen
   rw[e1]at f1
   rcases split_app f1 with⟨q',g1,g2⟩|⟨p2,g1,g2⟩
   ·exact .inl ⟨p1,z,q',g1,f2,f3⟩
   ·rw[g1,sAt_app,←hsl]at f3
    have hE:Each (fun sl d=>0≤d.slot∧d.thread=(t:Int)∧MayS t (sl.getD d.slot.toNat ⟨0,0⟩) d.to∧((sl.getD d.slot.toNat ⟨0,0⟩).state=5→P d.slot)∧(d.to=4→B d.slot)) x.2.1.slots p' :=
     fun a b k hk=>E.each a b (k++d::q) (by rw[e2,hk];simp)
    rcases stay d0 (z::r) p2 p' g2 hE f3 with h|h
    ·omega
    ·exact .inr (hB _ h d0)
 ·intro j s j0 j1 h0 h1 hv hL
  have hfin:(sAt c y.2.2.shifts s).state=3→pr' j:=hpr2 j s j0 j1 h0 h1 hv
  rcases hL with hL|hL
  ·by_cases hw:∃e∈es,Wrt (base c 9+j) e
   ·obtain⟨e,he,hwe,hl⟩:=lastW_some (l:=x.2.2.mem.log) hw
    rw[E.log,hl]at hL
    have hww:=(hwr j j0 j1 e he hwe).1
    obtain⟨p,d,q,f1,f2,f3⟩:=hL
    rw[E.shifts,E.quiet hww,List.append_nil]at f1
    have:=hshw hww d (by rw[f1];simp)
    have:=em e he
    simp only[]at f2
    omega
   ·have hl:lastW (base c 9+j) y.2.2.mem.log=lastW (base c 9+j) x.2.2.mem.log:=by
     rw[E.log];exact lastW_none fun e he hwe=>hw ⟨e,he,hwe⟩
    rw[hl]at hL hv
    have hpk:pr j→pr' j:=hpr j j0 j1 fun⟨e,he,k1,k2⟩=>hw ⟨e,he,k2,.inl k1⟩
    obtain⟨p,d,q,f1,f2,f3⟩:=hL
    rw[E.shifts]at f1
    rcases split_app f1 with⟨q',g1,g2⟩|⟨p2,g1,g2⟩
    ·exact hpk (S.since j s j0 j1 h0 h1 hv (.inl ⟨p,d,q',g1,f2,f3⟩))
    ·rw[g1,sAt_app,←hsl]at f3
     rcases stay h0 (d::q) p2 ds g2 E.each f3 with h|h
     ·refine hfin ?_
      rw[E.shifts,sAt_app,←hsl];exact h
     ·exact hpk (S.since j s j0 j1 h0 h1 hv (.inr (hB _ h h0)))
  ·exact hfin hL
end
end
section
def Am (c:Cfg):Int:=c.R*c.Hz
def Bt (c:Cfg):Int:=if c.Rt≤Am c+1 then Am c+1 else c.Rt
theorem bt_le (c:Cfg):Am c+1≤Bt c∧c.Rt≤Bt c:=by unfold Bt;split<;>omega
def ll (h:Haz)(r:Int):Int:=((h.lists.getD r.toNat []).length:Int)
def hlp (rc at_:Int):Int:=if rc<at_ then at_-1 else at_
structure LsS (c:Cfg)(s:Scn)(l:Int):Prop where
 try_:s.stage=0∨s.stage=1→l≤Bt c+hlp s.record s.at_*Am c
 lv:s.stage=2→l≤Bt c+(hlp s.record s.at_+1)*Am c
 look:s.stage=3→l≤Bt c+(c.R-1)*Am c∧∃w:List Int,(w.length:Int)=s.at_∧∀z,0≤z→0<s.named z→z∈w
 done:s.stage=5∨s.stage=6→l≤Am c
theorem am_nn {c:Cfg}(hok:c.Ok):0≤Am c:=hok.rh.1
theorem am_mono {c:Cfg}(hok:c.Ok){x y:Int}(h:x≤y):x*Am c≤y*Am c:=Int.mul_le_mul_of_nonneg_right h (am_nn hok)
theorem nodup_len:∀ {l w:List Int},l.Nodup→(∀z∈l,z∈w)→l.length≤w.length
 | [],w,_,_=>Nat.zero_le _
 | a::r,w,hn,hs=>by
  obtain⟨n1,n2⟩:=List.nodup_cons.1 hn
  have ha:=hs a (List.mem_cons_self ..)
  have h:=nodup_len (w:=w.erase a) n2 fun z hz=>by
   have:z≠a:=fun e=>n1 (e▸hz)
   exact(List.mem_erase_of_ne this).2 (hs z (List.mem_cons_of_mem _ hz))
  have h2:=List.length_erase_of_mem ha
  have h3:0<w.length:=List.length_pos_of_mem ha
  simp only[List.length_cons]
  omega
section
variable {c:Cfg}{L S N:Nat}{h:Haz}{a:Are}{m:Mch}{t:Nat}
variable {n:Int}{Z Y:Int→Nat}{F:List Int}{pr:Int→Prop}{K K2:List Int}
theorem next_ls (hok:c.Ok)(hc:h.c=c){s:Scn}(r0:0≤s.record)(r1:s.record<c.R)(a0 : -1≤s.at_)(a1:s.at_<c.R)(ne:s.at_≠s.record)(hb:ll h s.record≤Bt c+(hlp s.record s.at_+1)*Am c) :
  LsS c (ZI h s).2 (ll h s.record)∧(ZI h s).2.record=s.record∧((ZI h s).1=true→ll h s.record≤Am c):=by
 have hA:=am_nn hok
 obtain⟨k,hk⟩:∃k,k=if s.at_+1=s.record then s.at_+2 else s.at_+1:=⟨_,rfl⟩
 have hh:hlp s.record k=hlp s.record s.at_+1:=by
  rw[hk];unfold hlp
  split<;>split<;>split<;>omega
 have hk2:c.R≤k→hlp s.record s.at_+1≤c.R-1:=by
  rw[hk];unfold hlp
  split<;>split<;>omega
 unfold ZI
 rw[hc]
 simp only[]
 rw[←hk]
 split
 ·exact⟨⟨fun _=>by rw[hh];exact hb,fun h=>by simp at h,fun h=>by simp at h,fun h=>by simp at h⟩,rfl,fun h=>by cases h⟩
 ·rename_i hkR
  have hb2:=am_mono hok (hk2 (by omega))
  split
  ·rename_i hl
   have h0:ll h s.record=0:=by unfold ll;rw[hl];rfl
   exact⟨⟨fun h=>by simp at h,fun h=>by simp at h,fun h=>by simp at h,fun _=>by omega⟩,rfl,fun _=>by omega⟩
  ·exact⟨⟨fun h=>by simp at h,fun h=>by simp at h,fun _=>⟨by omega,[],rfl,fun z _ hz=>by simp at hz⟩,fun h=>by simp at h⟩,rfl,fun h=>by cases h⟩
theorem ready_ls (hok:c.Ok)(hc:h.c=c){s:Scn}(r0:0≤s.record)(r1:s.record<c.R)(hb:ll h s.record≤Bt c) :
  LsS c (ZK h s).2 (ll h s.record)∧((ZK h s).1=true→ll h s.record≤Am c):=by
 have e:hlp s.record (-1)+1=0:=by unfold hlp;split<;>omega
 have h1:=next_ls (h:=h) hok hc (s:={ s with at_ := -1 }) r0 r1 (by simp) (by simp only[];have:=hok.R1;omega) (by simp only[];omega) (by simp only[];rw[e];omega)
 exact⟨h1.1,h1.2.2⟩
structure LsP (c:Cfg)(h:Haz)(s:Scn)(r:Bool×Haz×Are×Mch×Scn):Prop where
 ls:LsS c r.2.2.2.2 (ll r.2.1 s.record)
 oth:∀q,0≤q→q≠s.record→r.2.1.lists.getD q.toNat []=h.lists.getD q.toNat []∨r.2.1.lists.getD q.toNat []=[]
 held:r.2.1.held=h.held
 fin:r.1=true→ll r.2.1 s.record≤Am c
theorem getD_set {l:List (List Int)}{q r:Int}{x:List Int}(q0:0≤q)(r0:0≤r):(l.set r.toNat x).getD q.toNat []=if q=r∧r.toNat<l.length then x else l.getD q.toNat []:=by
 by_cases e:q=r
 ·subst e
  by_cases hl:q.toNat<l.length
  ·rw[if_pos ⟨rfl,hl⟩,Yb,Ye hl];rfl
  ·rw[if_neg (fun h=>hl h.2),Yb,Yb,List.getElem?_eq_none (by simp;omega),List.getElem?_eq_none (by omega)]
 ·rw[if_neg (fun h=>e h.1),Yb,Yf (by omega),←Yb]
theorem scan_ls {s:Scn}(C:Core c L S N h a m)(I:ScI c s)(G:Gd c n Z Y F (sx pr c h a m) K K2)(D:ScD t (sx pr c h a m) s)(H:LsS c s (ll h s.record))
  (U:∀q,0≤q→q<c.R→(mv c m).act q=0→ll h q≤Am c):LsP c h s (Zf h a m s):=by
 have hok:=C.ok
 have hA:=am_nn hok
 obtain rfl:=C.hc
 obtain⟨i1,i2,i3,i4,i5,i6,i7,i8,i9⟩:=I
 obtain⟨h1,h2,h3,h4⟩:=H
 obtain⟨e1,e2,e3⟩:=C.lget i1 i2
 have same:∀q,0≤q→q≠s.record→h.lists.getD q.toNat []=h.lists.getD q.toNat []∨h.lists.getD q.toNat []=[]:=fun _ _ _=>.inl rfl
 unfold Zf
 by_cases s0:s.stage=0
 ·rw[if_pos s0]
  obtain⟨a0,a1,a2⟩:=i6 (by omega)
  have hb:=h1 (.inl s0)
  have hb2:=am_mono hok (show hlp s.record s.at_≤hlp s.record s.at_+1 by omega)
  obtain⟨n1,n2,n3⟩:=next_ls hok rfl i1 i2 (by omega) a1 a2 (by omega)
  unfold QH
  simp only[]
  split
  ·exact⟨n1,same,rfl,n3⟩
  ·exact⟨⟨fun _=>hb,fun h=>by simp at h,fun h=>by simp at h,fun h=>by simp at h⟩,same,rfl,fun h=>by cases h⟩
 rw[if_neg s0]
 by_cases s1:s.stage=1
 ·rw[if_pos s1]
  obtain⟨a0,a1,a2⟩:=i6 (by omega)
  have hb:=h1 (.inr s1)
  have hb2:=am_mono hok (show hlp s.record s.at_≤hlp s.record s.at_+1 by omega)
  obtain⟨n1,n2,n3⟩:=next_ls hok rfl i1 i2 (by omega) a1 a2 (by omega)
  unfold Qm
  simp only[]
  split
  ·rename_i hw
   have hu:=U s.at_ a0 a1 (by rw[act_at a0 a1];exact hw)
   have hl1:s.record.toNat<h.lists.length:=by rw[C.lists];omega
   have hnew:ll { h with lists:=(h.lists.set s.record.toNat (h.lists.getD s.record.toNat []++h.lists.getD s.at_.toNat [])).set s.at_.toNat [] } s.record=ll h s.record+ll h s.at_:=by
    unfold ll
    simp only[]
    rw[getD_set i1 a0,if_neg (fun h=>a2 h.1.symm),getD_set i1 i1,if_pos ⟨rfl,hl1⟩,List.length_append]
    omega
   refine⟨⟨fun h=>by simp at h,fun _ => ?_,fun h=>by simp at h,fun h=>by simp at h⟩,fun q q0 qn => ?_,rfl,fun h=>by cases h⟩
   ·simp only[]at hnew ⊢
    rw[hnew]
    have:(hlp s.record s.at_+1)*Am h.c=hlp s.record s.at_*Am h.c+Am h.c:=by rw[Int.add_mul,Int.one_mul]
    omega
   ·simp only[]
    rw[getD_set q0 a0]
    split
    ·exact .inr rfl
    ·rw[getD_set q0 i1,if_neg (fun h=>qn h.1)];exact .inl rfl
  ·exact⟨n1,same,rfl,n3⟩
 rw[if_neg s1]
 by_cases s2:s.stage=2
 ·rw[if_pos s2]
  obtain⟨a0,a1,a2⟩:=i6 (by omega)
  obtain⟨n1,n2,n3⟩:=next_ls hok rfl i1 i2 (by omega) a1 a2 (h2 s2)
  exact⟨n1,same,rfl,n3⟩
 rw[if_neg s2]
 by_cases s3:s.stage=3
 ·rw[if_pos s3]
  obtain⟨⟨a0,a1⟩,a2,a3⟩:=i8 s3
  obtain⟨b1,w,w1,w2⟩:=h3 s3
  have hw:∀z,0≤z→0<Qa s.named (m.word (base h.c 9+s.at_).toNat-1) z→z∈(m.word (base h.c 9+s.at_).toNat-1)::w:=by
   intro z z0 hz
   unfold Qa at hz
   by_cases e:z=m.word (base h.c 9+s.at_).toNat-1
   ·rw[e];exact List.mem_cons_self ..
   ·rw[if_neg e]at hz
    exact List.mem_cons_of_mem _ (w2 z z0 hz)
  by_cases hlast:s.at_+1<h.c.R*h.c.Hz
  ·rw[show Qo h a m s=_ from if_pos hlast]
   simp only[Z2]
   refine⟨⟨fun h=>by simp[s3]at h,fun h=>by simp[s3]at h,fun _=>⟨b1,_,?_,hw⟩,fun h=>by simp[s3]at h⟩,same,rfl,fun h=>by cases h⟩
   simp only[List.length_cons]
   omega
  ·rw[show Qo h a m s=_ from if_neg hlast]
   simp only[Z2,Qf]
   generalize hnm:Qa s.named (m.word (base h.c 9+s.at_).toNat-1)=nm at hw ⊢
   have hl1:s.record.toNat<h.lists.length:=by rw[C.lists];omega
   have hnd:(h.lists.getD s.record.toNat []).Nodup:=List.nodup_iff_count.2 fun s'=>by
    have q1:=G.le s'
    have q2:=cnt2_get (s:=s') e1
    have q3:cnt2 (sx pr h.c h a m).lists s'=cnt2 h.lists s':=rfl
    omega
   have hle:((h.lists.getD s.record.toNat []).filter (Qq nm)).length≤((m.word (base h.c 9+s.at_).toNat-1)::w).length:=by
    refine nodup_len (List.Sublist.nodup List.filter_sublist hnd) fun z hz => ?_
    obtain⟨z1,z2⟩:=List.mem_filter.1 hz
    have z0:=(e3 z z1).1
    have z2:0<unNone nm z:=by simpa[Qq] using z2
    unfold unNone at z2
    rw[if_neg (by omega)]at z2
    exact hw z z0 z2
   have hnew:ll { h with lists:=h.lists.set s.record.toNat ((h.lists.getD s.record.toNat []).filter (Qq nm)) } s.record≤Am h.c:=by
    unfold ll
    simp only[]
    rw[getD_set i1 i1,if_pos ⟨rfl,hl1⟩]
    simp only[List.length_cons]at hle
    have:s.at_+1≤Am h.c:=by unfold Am;omega
    omega
   refine⟨⟨fun hf => ?_,fun hf => ?_,fun hf => ?_,fun _=>hnew⟩,fun q q0 qn => ?_,rfl,fun _=>hnew⟩
   ·exfalso
    simp only[ZO]at hf
    split at hf<;>omega
   ·exfalso
    simp only[ZO]at hf
    split at hf<;>omega
   ·exfalso
    simp only[ZO]at hf
    split at hf<;>omega
   ·simp only[]
    rw[getD_set q0 i1,if_neg (fun h=>qn h.1)];exact .inl rfl
 rw[if_neg s3]
 clear h1 h2 h3
 obtain⟨p,p1,p2,p3,p4⟩:=i9 (by omega)
 have s5:s.stage=5:=by omega
 have hb:=h4 (.inl s5)
 rw[p1]
 simp only[]
 unfold Qp
 simp only[]
 split
 ·refine⟨⟨fun hf => ?_,fun hf => ?_,fun hf => ?_,fun _=>hb⟩,same,rfl,fun _=>hb⟩
  all_goals
   exfalso
   simp only[ZO]at hf
   split at hf<;>omega
 ·exact⟨⟨fun hf=>by simp[s5]at hf,fun hf=>by simp[s5]at hf,fun hf=>by simp[s5]at hf,fun _=>hb⟩,same,rfl,fun _=>hb⟩
end
end
end Go.Proofs.YtegafhhdegnigaaGreat
