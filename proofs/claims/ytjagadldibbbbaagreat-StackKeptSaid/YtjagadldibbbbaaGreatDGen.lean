/-
  The same: scans.
-/
import Derived.Test.YtjagadldibbbbaaGreatDInv
import Derived.Test.YtjagadldibbbbaaGreatDMach2
set_option linter.all false
namespace Go.Proofs.YtjagadldibbbbaaGreat
open Go.RowKit Hp
set_option maxRecDepth 100000
set_option maxHeartbeats 1000000
attribute [local irreducible] Go.Calls
section
structure ScI (c:Cfg)(s:Scn):Prop where
 rec0:0≤s.record
 rec1:s.record<c.R
 thr0:0≤s.thread
 thr1:s.thread<c.T
 stage:s.stage=0∨s.stage=1∨s.stage=2∨s.stage=3∨s.stage=5
 try_:s.stage≤2→0≤s.at_∧s.at_<c.R∧s.at_≠s.record
 pend:s.stage≤3→s.pending=[]
 look:s.stage=3→(0≤s.at_∧s.at_<c.R*c.Hz)∧s.hasMap=true∧∀k,0≤s.named k∧s.named k≤s.at_
 give:s.stage=5→∃p,s.give=some p∧PInv c p∧(∀z∈s.pending,0≤z∧z<c.Sl)∧s.pending.length<1000000
section
variable {c:Cfg}{L S N:Nat}{h:Haz}{a:Are}{m:Mch}{s:Scn}
theorem ScI.ok (I:ScI c s)(k:Core c L S N h a m)(hu:m.used=false)(hL:L<4294967296)(hS:S<1000000000)(hN:N<1000000):ScanOk h a m s:=by
 obtain⟨i1,i2,i3,i4,i5,i6,i7,i8,i9⟩:=I
 have hz:=k.haz hu hL hS hN
 have hok:=k.ok
 have hac:=k.ac
 have hb:=QI hok
 obtain rfl:=k.hc
 refine⟨hz,i1,i2,i3,i4,i5,i6,?_,?_⟩
 ·intro h3
  obtain⟨⟨l1,l2⟩,l3,l4⟩:=i8 h3
  have hb9:=(ZD hok 9).1
  have h14:((base h.c 9+s.at_).toNat:Int)<base h.c 14:=by
   obtain⟨b1,b2,b8,b9,b10,b11,b12,b13,b14,rh,rh2⟩:=hb
   have:=hok.S1
   omega
  have hw:=(k.word h14).hz (by omega) (by have:=hb.b10;omega)
  have hS2:=hok.S2
  exact⟨⟨l1,l2⟩,l3,i7 (by omega),⟨hw.1,by omega⟩,fun z=>⟨(l4 z).1,by have:=(l4 z).2;have:=hb.rh2;omega⟩⟩
 ·intro h5
  obtain⟨p,p1,p2,p3,p4⟩:=i9 h5
  exact⟨p,p1,p2.pok k hu hL hS,by rw[hac];exact p3,p4⟩
theorem next_inv (k:Core c L S N h a m)(r0:0≤s.record)(r1:s.record<c.R)(t0:0≤s.thread)(t1:s.thread<c.T)(ha : -1≤s.at_)(hp:s.pending=[]) :
  ((ZE h s).1=false→ScI c (ZE h s).2)∧(ZE h s).2.thread=s.thread:=by
 have hb:=QI k.ok
 obtain rfl:=k.hc
 unfold ZE
 simp only[]
 by_cases h1:(if s.at_+1=s.record then s.at_+2 else s.at_+1)<h.c.R
 ·rw[if_pos h1]
  refine⟨fun _=>⟨r0,r1,t0,t1,.inl rfl,fun _ => ?_,fun _=>hp,fun hf=>by simp at hf,fun hf=>by simp at hf⟩,rfl⟩
  simp only[]
  split at h1<;>rename_i h2
  ·rw[if_pos h2];omega
  ·rw[if_neg h2];omega
 ·rw[if_neg h1]
  split
  ·exact⟨fun hf=>(by cases hf),rfl⟩
  ·refine⟨fun _=>⟨r0,r1,t0,t1,.inr (.inr (.inr (.inl rfl))),fun hf=>by simp at hf,fun _=>hp,fun _=>⟨⟨by simp,?_⟩,rfl,fun z=>by simp⟩,fun hf=>by simp at hf⟩,rfl⟩
   have:=hb.rh
   show(0:Int)<h.c.R*h.c.Hz
   omega
theorem ready_inv (k:Core c L S N h a m)(r0:0≤s.record)(r1:s.record<c.R)(t0:0≤s.thread)(t1:s.thread<c.T)(hp:s.pending=[]) :
  ((ZL h s).1=false→ScI c (ZL h s).2)∧(ZL h s).2.thread=s.thread:=by
 unfold ZL
 exact next_inv (s:={ s with at_ := -1 }) k r0 r1 t0 t1 (by simp) hp
structure ScanInv (c:Cfg)(L S N:Nat)(h:Haz)(a:Are)(th:Int)(r:Bool×Haz×Are×Mch×Scn):Prop where
 core:Core c L S N r.2.1 r.2.2.1 r.2.2.2.1
 fin:r.1=false→ScI c r.2.2.2.2
 held:r.2.1.held=h.held
 caches:∀j,j≠th.toNat→r.2.2.1.caches[j]? = a.caches[j]?
 thr:r.2.2.2.2.thread=th
theorem take_list (k:Core c L S N h a m){r q:Int}(r0:0≤r)(r1:r<c.R)(q0:0≤q)(q1:q<c.R)(hne:q≠r) :
  Core c L S N { h with lists:=(h.lists.set r.toNat (h.lists.getD r.toNat []++h.lists.getD q.toNat [])).set q.toNat [] } a m:=by
 obtain⟨e1,_,e3⟩:=k.lget r0 r1
 obtain⟨f1,_,f3⟩:=k.lget q0 q1
 generalize h.lists.getD r.toNat []=x at e1 e3 ⊢
 generalize h.lists.getD q.toNat []=y at f1 f3 ⊢
 refine k.list _ (by simp only[List.length_set];exact k.lists) ?_ ?_
 ·have t1:=tot_set (x:=x++y) e1
  have t2:=tot_set (ls:=h.lists.set r.toNat (x++y)) (i:=q.toNat) (l:=y) (x:=[]) (by rw[ZX (by omega)];exact f1)
  have t3:=k.tot
  simp only[List.length_append,List.length_nil]at t1 t2
  omega
 ·intro l hl z hz
  rcases List.mem_or_eq_of_mem_set hl with hl|rfl
  ·rcases List.mem_or_eq_of_mem_set hl with hl|rfl
   ·exact k.ins l hl z hz
   ·rcases List.mem_append.1 hz with hz|hz
    ·exact e3 z hz
    ·exact f3 z hz
  ·simp at hz
theorem free_at (k:Core c L S N h a m){th:Int}(t0:0≤th)(t1:th<c.T)(pend:List Int)(g:Option Psh)(hin:∀z∈pend,0≤z∧z<c.Sl) :
  FreeInv c L (S+65) N h a th pend.length (ZK th pend g a m):=by
 have hC:=k.ok.C2
 have h1:=k.ok.C1
 have hg:=(k.cget t0 t1).2.1
 obtain⟨f1,f2,f3⟩:=free_core th t0 t1 pend g a m S (c.Ca.toNat-(a.caches.getD th.toNat []).length) k hin (by omega)
 exact⟨f1.mono (by omega) (by omega) (by omega),f2,f3⟩
theorem scan_core (k:Core c L S N h a m)(I:ScI c s)(hN:N<1000000):ScanInv c (L+1) (S+66) N h a s.thread (Zt h a m s):=by
 have hok:=k.ok
 have hb:=QI hok
 obtain rfl:=k.hc
 obtain⟨i1,i2,i3,i4,i5,i6,i7,i8,i9⟩:=I
 unfold Zt
 by_cases s0:s.stage=0
 ·rw[if_pos s0]
  obtain⟨a0,a1,a2⟩:=i6 (by omega)
  have hN:=next_inv k i1 i2 i3 i4 (by omega) (i7 (by omega))
  unfold Ji
  simp only[]
  split
  ·exact⟨(k.load _ _).mono (by omega) (by omega) (by omega),hN.1,rfl,fun _ _=>rfl,hN.2⟩
  ·exact⟨(k.load _ _).mono (by omega) (by omega) (by omega),fun _=>⟨i1,i2,i3,i4,.inr (.inl rfl),fun _=>⟨a0,a1,a2⟩,fun _=>i7 (by omega),fun hf=>by simp at hf,fun hf=>by simp at hf⟩,rfl,fun _ _=>rfl,rfl⟩
 rw[if_neg s0]
 by_cases s1:s.stage=1
 ·rw[if_pos s1]
  obtain⟨a0,a1,a2⟩:=i6 (by omega)
  have hN:=next_inv k i1 i2 i3 i4 (by omega) (i7 (by omega))
  have hw:=wok_active hok a0 a1 1
  unfold QK
  simp only[]
  split
  ·exact⟨(take_list (k.swap _ _ _ _ hw) i1 i2 a0 a1 a2).mono (by omega) (by omega) (by omega),fun _=>⟨i1,i2,i3,i4,.inr (.inr (.inl rfl)),fun _=>⟨a0,a1,a2⟩,fun _=>i7 (by omega),fun hf=>by simp at hf,fun hf=>by simp at hf⟩,rfl,fun _ _=>rfl,rfl⟩
  ·exact⟨(k.swap _ _ _ _ hw).mono (by omega) (by omega) (by omega),hN.1,rfl,fun _ _=>rfl,hN.2⟩
 rw[if_neg s1]
 by_cases s2:s.stage=2
 ·rw[if_pos s2]
  obtain⟨a0,a1,a2⟩:=i6 (by omega)
  have hN:=next_inv k i1 i2 i3 i4 (by omega) (i7 (by omega))
  have hw:=wok_active hok a0 a1 0
  unfold Ja
  exact⟨(k.store _ _ _ hw).mono (by omega) (by omega) (by omega),hN.1,rfl,fun _ _=>rfl,hN.2⟩
 rw[if_neg s2]
 by_cases s3:s.stage=3
 ·rw[if_pos s3]
  obtain⟨⟨a0,a1⟩,a2,a3⟩:=i8 s3
  have hp:=i7 (by omega)
  have hnm:∀z w,0≤Qa s.named z w∧Qa s.named z w≤s.at_+1:=by
   intro z w
   have:=a3 z
   have:=a3 w
   unfold Qa
   split<;>omega
  unfold QW
  dsimp only
  split
  ·rename_i hlt
   have hlt:s.at_+1<h.c.R*h.c.Hz:=hlt
   have hSI:ScI h.c { s with named:=Qa s.named (m.word (base h.c 9+s.at_).toNat-1),at_:=s.at_+1 } :=
    ⟨i1,i2,i3,i4,.inr (.inr (.inr (.inl s3))),fun hf=>by simp only[s3]at hf;omega,fun _=>hp,fun _=>⟨⟨by simp only[];omega,hlt⟩,a2,fun z=>hnm _ z⟩,fun hf=>by simp only[s3]at hf;omega⟩
   exact⟨(k.load _ _).mono (by omega) (by omega) (by omega),fun _=>hSI,rfl,fun _ _=>rfl,rfl⟩
  ·obtain⟨e1,e2,e3⟩:=k.lget i1 i2
   have k2:∀(u:Int),Core h.c (L+1) S N { h with lists:=h.lists.set s.record.toNat ((h.lists.getD s.record.toNat []).filter (QG (Qa s.named u))) } a (m.load (base h.c 9+s.at_).toNat (m.word (base h.c 9+s.at_).toNat)):=by
    intro u
    refine(k.load _ _).list _ (by simp only[List.length_set];exact k.lists) ?_ ?_
    ·have t1:=tot_set (x:=(h.lists.getD s.record.toNat []).filter (QG (Qa s.named u))) e1
     have t2:=List.length_filter_le (QG (Qa s.named u)) (h.lists.getD s.record.toNat [])
     have t3:=k.tot
     omega
    ·intro l hl z hz
     rcases List.mem_or_eq_of_mem_set hl with hl|rfl
     ·exact k.ins l hl z hz
     ·exact e3 z (List.mem_filter.1 hz).1
   have k3:=k2 (m.word (base h.c 9+s.at_).toNat-1)
   simp only[Q9,QS,hp,List.nil_append]
   have F:=free_at k3 i3 i4 ((h.lists.getD s.record.toNat []).filter (Qc (Qa s.named (m.word (base h.c 9+s.at_).toNat-1)))) s.give (fun z hz=>e3 z (List.mem_filter.1 hz).1)
   have hlen:=List.length_filter_le (Qc (Qa s.named (m.word (base h.c 9+s.at_).toNat-1))) (h.lists.getD s.record.toNat [])
   generalize ZK s.thread ((h.lists.getD s.record.toNat []).filter (Qc (Qa s.named (m.word (base h.c 9+s.at_).toNat-1)))) s.give a (m.load (base h.c 9+s.at_).toNat (m.word (base h.c 9+s.at_).toNat))=r at F ⊢
   refine⟨F.core.mono (by omega) (by omega) (by omega),?_,rfl,F.caches,rfl⟩
   intro hf
   obtain⟨⟨p,p1,p2⟩,p3,p4⟩:=F.fin hf
   simp only[]at hf
   rw[hf]
   exact⟨i1,i2,i3,i4,.inr (.inr (.inr (.inr rfl))),fun h2=>by simp[ZR]at h2,fun h2=>by simp[ZR]at h2,fun h2=>by simp[ZR]at h2,fun _=>⟨p,p1,p2,p3,by show r.2.1.length<_;omega⟩⟩
 rw[if_neg s3]
 obtain⟨p,p1,p2,p3,p4⟩:=i9 (by omega)
 have s5:s.stage=5:=by omega
 rw[p1]
 simp only[]
 obtain⟨q1,q2,q3,q4⟩:=push_core k p2
 unfold QL
 simp only[]
 split
 ·have F:=free_at q1 i3 i4 s.pending (some (Za a m p).2.2.2) p3
  generalize ZK s.thread s.pending (some (Za a m p).2.2.2) (Za a m p).2.1 (Za a m p).2.2.1=r at F ⊢
  refine⟨F.core.mono (by omega) (by omega) (by omega),?_,rfl,fun j hj=>(F.caches j hj).trans (by rw[q3]),rfl⟩
  intro hf
  obtain⟨⟨p',p1',p2'⟩,p3',p4'⟩:=F.fin hf
  simp only[]at hf
  rw[hf]
  exact⟨i1,i2,i3,i4,.inr (.inr (.inr (.inr rfl))),fun h2=>by simp[ZR]at h2,fun h2=>by simp[ZR]at h2,fun h2=>by simp[ZR]at h2,fun _=>⟨p',p1',p2',p3',by show r.2.1.length<_;omega⟩⟩
 ·rename_i hne
  have hf:(Za a m p).1=false:=by simpa using hne
  exact⟨q1.mono (by omega) (by omega) (by omega),fun _=>⟨i1,i2,i3,i4,.inr (.inr (.inr (.inr s5))),fun h2=>by simp only[s5]at h2;omega,fun h2=>by simp only[s5]at h2;omega,fun h2=>by simp only[s5]at h2;omega,fun _=>⟨_,rfl,q2 hf,p3,p4⟩⟩,rfl,fun j _=>by simp only[q3],rfl⟩
structure RetInv (c:Cfg)(L S N:Nat)(h:Haz)(a:Are)(th:Int)(r:Bool×Haz×Are×Mch×Ret):Prop where
 core:Core c L S N r.2.1 r.2.2.1 r.2.2.2.1
 fin:r.1=false→∃sc,r.2.2.2.2.scan=some sc∧ScI c sc∧sc.thread=th
 held:r.2.1.held=h.held
 caches:r.2.2.1.caches=a.caches
theorem retire_core {r:Ret}(k:Core c L S N h a m)(t0:0≤r.thread)(t1:r.thread<c.T)(s0:0≤r.slot)(s1:r.slot<c.Sl)(hh:0≤h.held.getD r.thread.toNat 0) :
  RetInv c L (S+1) (N+1) h a r.thread (Zv h a m r):=by
 obtain rfl:=k.hc
 have hl:r.thread.toNat<h.held.length:=by rw[k.held];omega
 have hr1:h.held.getD r.thread.toNat 0<h.c.R:=by
  have e:h.held[r.thread.toNat]? = some (h.held.getD r.thread.toNat 0):=by rw[Yb,Yd hl];rfl
  exact(k.hin _ (Yc e)).2
 generalize hrec:h.held.getD r.thread.toNat 0=rc at hh hr1
 obtain⟨e1,e2,e3⟩:=k.lget hh hr1
 have k1:Core h.c L (S+1) (N+1) { h with lists:=h.lists.set rc.toNat (h.lists.getD rc.toNat []++[r.slot]) } (a.shift r.slot.toNat m.thread 5) (m.shift r.slot (a.slots.getD r.slot.toNat ⟨0,0⟩).state 5):=by
  refine((k.mshift _ _ _).ashift _ _ _).list _ (by simp only[List.length_set];exact k.lists) ?_ ?_
  ·have t1:=tot_set (x:=h.lists.getD rc.toNat []++[r.slot]) e1
   have t3:=k.tot
   simp only[List.length_append,List.length_cons,List.length_nil]at t1
   omega
  ·intro l hl z hz
   rcases List.mem_or_eq_of_mem_set hl with hl|rfl
   ·exact k.ins l hl z hz
   ·rcases List.mem_append.1 hz with hz|hz
    ·exact e3 z hz
    ·simp at hz;subst hz;exact⟨s0,s1⟩
 unfold Zv
 rw[hrec]
 simp only[]
 split
 ·exact⟨k1,fun hf=>(by cases hf),rfl,rfl⟩
 ·have hR:=ready_inv (s:=⟨r.thread,rc,6,0,false,fun _=>0,[],none⟩) k1 hh hr1 t0 t1 rfl
  exact⟨k1,fun hf=>⟨_,rfl,hR.1 hf,hR.2⟩,rfl,rfl⟩
end
end
section
section
variable {c:Cfg}{L S N:Nat}{h:Haz}{a:Are}{m:Mch}
theorem Core.point (k:Core c L S N h a m)(i:Nat)(x:Cll)(z:Int):Core c L S N h a (m.point i x z):=k.of rfl rfl rfl rfl
theorem Core.answer (k:Core c L S N h a m)(i:Nat)(x:Sea)(y z:Int):Core c L S N h a (m.answer i x y z):=k.of rfl rfl rfl rfl
/-! ## taking -/
structure TkI (c:Cfg)(k:Tak):Prop where
 at0:k.at_=1∨k.at_=2∨k.at_=3
 taken:k.taken=false
 head:k.at_≠1→(0≤k.head∧k.head<18446744073709551616)∧1≤k.head%4294967296∧k.head%4294967296≤c.Sl
 next:k.at_=3→0≤k.next∧k.next≤c.Sl
theorem took_no {k:Tak}(h:k.taken=false):Ze k = -1:=by unfold Ze;simp[h]
theorem takeReady_core {k:Tak}(C:Core c L S N h a m)(t0:0≤k.thread)(t1:k.thread<c.T) :
  (Zg a m k=(false,a,m,k))∨((Zg a m k).1=true∧Core c L (S+1) N h (Zg a m k).2.1 (Zg a m k).2.2.1∧(0≤Ze (Zg a m k).2.2.2∧Ze (Zg a m k).2.2.2<c.Sl)∧∀j,j≠k.thread.toNat→(Zg a m k).2.1.caches[j]? = a.caches[j]?):=by
 obtain rfl:=C.ac
 obtain⟨g1,g2,g3⟩:=C.cget t0 t1
 unfold Zg
 simp only[]
 by_cases h0:(a.caches.getD k.thread.toNat []).length=0
 ·rw[if_pos h0];exact .inl rfl
 ·rw[if_neg h0]
  generalize a.caches.getD k.thread.toNat []=x at g1 g2 g3 h0 ⊢
  have hlt:x.length-1<x.length:=by omega
  have hm:x.getD (x.length-1) 0∈x:=by
   rw[Yb,Yd hlt];simp
  refine .inr ⟨rfl,((C.cache _ _ (by simp only[List.length_take];omega) (fun z hz=>g3 z (List.mem_of_mem_take hz))).ashift _ _ _).mshift _ _ _,?_,fun j hj=>ZX hj⟩
  exact g3 _ hm
theorem take_core {k:Tak}(C:Core c L S N h a m)(T:TkI c k) :
  Core c (L+1) (S+1) N h (Zj a m k).2.1 (Zj a m k).2.2.1∧((Zj a m k).1=false→TkI c (Zj a m k).2.2.2)∧(Ze (Zj a m k).2.2.2 = -1∨(0≤Ze (Zj a m k).2.2.2∧Ze (Zj a m k).2.2.2<c.Sl))∧(Zj a m k).2.1.caches=a.caches:=by
 have hok:=C.ok
 have hac:=C.ac
 obtain⟨t1,t2,t3,t4⟩:=T
 have hw:=(C.word (adr_lt14 hok).1).head (by rw[QQ hok 1 (Int.le_refl 0)];simp)
 have hS2:=hok.S2
 unfold Zj
 rw[hac]
 split
 ·refine⟨(C.load _ _).mono (by omega) (by omega) (by omega),fun hf => ?_,.inl (took_no t2),rfl⟩
  have hne:¬m.word (adr c 1 0)%4294967296=0:=by simpa using hf
  simp only[if_neg hne]
  exact⟨.inr (.inl rfl),t2,fun _=>⟨⟨hw.1,hw.2.1⟩,by show 1≤m.word (adr c 1 0)%4294967296;omega,hw.2.2⟩,fun hf=>by simp at hf⟩
 ·rename_i h1
  obtain⟨h3,h4,h5⟩:=t3 h1
  split
  ·refine⟨(C.load _ _).mono (by omega) (by omega) (by omega),fun _=>⟨.inr (.inr rfl),t2,fun _=>⟨h3,h4,h5⟩,fun _ => ?_⟩,.inl (took_no t2),rfl⟩
   have e:=QQ hok 10 (i:=k.head%4294967296-1) (by omega)
   have hb:=QI hok
   have:=hok.R1
   have hlt:((adr c 10 (k.head%4294967296-1):Nat):Int)<base c 14:=by
    obtain⟨b1,b2,b8,b9,b10,b11,b12,b13,b14,rh,rh2⟩:=hb;omega
   exact(C.word hlt).next (by omega) (by have:=hb.b11;omega)
  ·have h6:=t4 (by omega)
   have hz:WOk c (adr c 1 0) ((k.head / 4294967296+1)%4294967296*4294967296+k.next):=wok_head hok ⟨by omega,by omega,by omega⟩
   simp only[]
   split
   ·refine⟨((C.swap _ _ _ _ hz).ashift _ _ _).mshift _ _ _,fun hf=>(by cases hf),.inr ?_,rfl⟩
    simp only[Jd,Ze,if_true]
    omega
   ·exact⟨(C.swap _ _ _ _ hz).mono (by omega) (by omega) (by omega),fun _=>⟨.inl rfl,t2,fun hf=>absurd rfl hf,fun hf=>by simp at hf⟩,.inl (took_no t2),rfl⟩
theorem TkI.ok {k:Tak}(T:TkI c k)(C:Core c L S N h a m)(hu:m.used=false)(hL:L<4294967296)(hS:S<1000000000)(hN:N<1000000):TakeOk a m k:=by
 have hac:=C.ac
 have hS2:=C.ok.S2
 have hw:=(C.word (adr_lt14 C.ok).1).head (by rw[QQ C.ok 1 (Int.le_refl 0)];simp)
 obtain⟨t1,t2,t3,t4⟩:=T
 refine⟨(C.haz hu hL hS hN).ok,t1,fun _=>⟨by rw[hac];exact hw.1,by rw[hac];exact hw.2.1,by rw[hac];have:=hw.2.2;omega⟩,fun h1=>⟨(t3 h1).1.1,(t3 h1).1.2,by have:=(t3 h1).2.2;omega⟩,fun h1=>(t3 h1).2.1,fun h1=>by rw[hac];exact(t3 h1).2.2,fun h3=>(t4 h3).1,fun h3=>by have:=(t4 h3).2;omega⟩
/-! ## the calls -/
structure PoI (c:Cfg)(p:Pst):Prop where
 take:∃k,p.take=some k∧(p.stage=0→TkI c k)∧(p.stage=1∨p.stage=2∨p.stage=3→0≤Ze k∧Ze k<c.Sl∧p.link=Ze k+1)
 stage:p.stage=0∨p.stage=1∨p.stage=2∨p.stage=3∨p.stage=4
 saw:p.stage=3→0≤p.saw∧p.saw≤c.Sl
 ret:p.stage=4→∃r sc,p.retire=some r∧r.scan=some sc∧ScI c sc∧sc.thread=p.thread
structure UnI (c:Cfg)(ca:List Int)(u:Unr):Prop where
 stage:u.stage=0∨u.stage=1∨u.stage=2∨u.stage=3
 k:u.stage=0→0≤u.k∧u.k<c.Hz
 scan:u.stage=1→∃s,u.scan=some s∧ScI c s∧s.thread=u.thread
 flush:u.stage=2→∃p,u.flush=some p∧PInv c p∧p.thread=u.thread∧0<ca.length
structure RdI (c:Cfg)(r:Rdg):Prop where
 a0:base c 9≤r.addr
 a1:r.addr<base c 10
 stage:r.stage=0∨r.stage=1∨r.stage=2∨r.stage=3
 w:r.stage≠0→1≤r.w∧r.w≤c.Sl
def TI (c:Cfg)(t:Nat)(rdy:Bool)(hd:Int)(ca:List Int):Qd→Prop
 | .reg r=>r.thread=t∧0≤r.i∧r.i<c.R
 | .unr u=>u.thread=t∧0≤hd∧UnI c ca u
 | .pst p=>p.thread=t∧0≤hd∧(rdy=true→PoI c p)∧(rdy=false→p.take=none∧p.stage=0∧p.retire=none)
 | .rdg r=>RdI c r
 | .clr ad=>base c 9≤ad∧ad<base c 10
 | .scn s=>s.thread=t∧(rdy=false→0≤s.record∧s.record<c.R∧s.pending=[])∧(rdy=true→ScI c s)
theorem hz_adr {c:Cfg}(hc:c.Ok){r k:Int}(r0:0≤r)(r1:r<c.R)(k0:0≤k)(k1:k<c.Hz):base c 9≤base c 9+r*c.Hz+k∧base c 9+r*c.Hz+k<base c 10:=by
 have h1:=(QI hc).b10
 have h2:0≤r*c.Hz:=Int.mul_nonneg r0 (by omega)
 have h3:(r+1)*c.Hz≤c.R*c.Hz:=Int.mul_le_mul_of_nonneg_right (by omega) (by omega)
 have h4:(r+1)*c.Hz=r*c.Hz+c.Hz:=by rw[Int.add_mul,Int.one_mul]
 omega
theorem Core.hget (k:Core c L S N h a m){t:Nat}(ht:(t:Int)<c.T):h.held.getD t 0<c.R ∧ -1≤h.held.getD t 0:=by
 have hl:t<h.held.length:=by rw[k.held];omega
 have e:h.held[t]? = some (h.held.getD t 0):=by rw[Yb,Yd hl];rfl
 exact⟨(k.hin _ (Yc e)).2,(k.hin _ (Yc e)).1⟩
theorem made_inv {mv:Mv}{k:Qd}{t:Nat}(C:Core c L S N h a m)(ht:(t:Int)<c.T)(hk:Z9 (h,a) t mv=some k)(ca:List Int):TI c t false (h.held.getD t 0) ca k:=by
 have hc:=C.hc
 have hok:=C.ok
 have hR:=hok.R1
 have hH:=hok.H1
 obtain⟨r1,r0⟩:=C.hget ht
 unfold Z9 at hk
 simp only[hc]at hk
 generalize h.held.getD t 0=hd at hk r0 r1 ⊢
 split at hk
 ·split at hk
  ·cases hk;exact⟨rfl,by simp,by show(0:Int)<c.R;omega⟩
  ·cases hk
 ·split at hk
  ·cases hk
  ·rename_i hnn
   split at hk
   ·cases hk;exact⟨rfl,by omega,.inl rfl,fun _=>⟨by simp,by show(0:Int)<c.Hz;omega⟩,fun hf=>by simp at hf,fun hf=>by simp at hf⟩
   ·split at hk
    ·cases hk;exact⟨rfl,by omega,fun hf=>(by cases hf),fun _=>⟨rfl,rfl,rfl⟩⟩
    ·split at hk
     ·split at hk
      ·rename_i hb
       obtain⟨a1,a2⟩:=hz_adr hok (by omega) r1 hb.1 hb.2
       cases hk;exact⟨a1,a2,.inl rfl,fun hf=>absurd rfl hf⟩
      ·cases hk
     ·split at hk
      ·split at hk
       ·rename_i hb
        obtain⟨a1,a2⟩:=hz_adr hok (by omega) r1 hb.1 hb.2
        have:=(ZD hok 9).1
        cases hk;exact⟨by omega,by omega⟩
       ·cases hk
      ·cases hk;exact⟨rfl,fun _=>⟨by simp only[];omega,r1,rfl⟩,fun hf=>(by cases hf)⟩
structure Fr (t:Nat)(h h':Haz)(a a':Are):Prop where
 held:∀j,j≠t→h'.held[j]? = h.held[j]?
 caches:∀j,j≠t→a'.caches[j]? = a.caches[j]?
theorem Fr.refl (t:Nat)(h:Haz)(a:Are):Fr t h h a a:=⟨fun _ _=>rfl,fun _ _=>rfl⟩
structure StI (c:Cfg)(L S N:Nat)(t:Nat)(h:Haz)(a:Are)(r:Bool×(Haz×Are)×Mch×Qd):Prop where
 core:Core c L S N r.2.1.1 r.2.1.2 r.2.2.1
 fr:Fr t h r.2.1.1 a r.2.1.2
 fin:r.1=false→TI c t true (r.2.1.1.held.getD t 0) (r.2.1.2.caches.getD t []) r.2.2.2
theorem ready_core {i t:Nat}{cl:Cll}{se:Sea}{k:Qd}(C:Core c L S N h a m)(ht:(t:Int)<c.T)(I:TI c t false (h.held.getD t 0) (a.caches.getD t []) k) :
  StI c L (S+1) N t h a (Qw (h,a) m i t cl se k)∧(Qw (h,a) m i t cl se k).2.2.1.used=m.used:=by
 cases k with
 | reg r=>exact⟨⟨C.mono (by omega) (by omega) (by omega),.refl ..,fun _=>I⟩,rfl⟩
 | unr u=>exact⟨⟨C.mono (by omega) (by omega) (by omega),.refl ..,fun _=>I⟩,rfl⟩
 | rdg r=>exact⟨⟨C.mono (by omega) (by omega) (by omega),.refl ..,fun _=>I⟩,rfl⟩
 | clr ad=>exact⟨⟨C.mono (by omega) (by omega) (by omega),.refl ..,fun _=>I⟩,rfl⟩
 | scn s=>
  obtain⟨rfl',hr,_⟩:=I
  obtain⟨r0,r1,hp⟩:=hr rfl
  have hR:=ready_inv C r0 r1 (by omega) (by omega) hp
  exact⟨⟨C.mono (by omega) (by omega) (by omega),.refl ..,fun hf=>⟨by simp only[Qw];rw[hR.2];exact rfl',fun hf=>(by cases hf),fun _=>hR.1 hf⟩⟩,rfl⟩
 | pst p=>
  obtain⟨rfl',hd,_,hno⟩:=I
  obtain⟨n1,n2,n3⟩:=hno rfl
  have hu:∀(x:Tak),(Zg a m x).2.2.1.used=m.used:=by
   intro x;unfold Zg;simp only[];split<;>rfl
  have hR:=takeReady_core (k:=⟨p.thread,1,0,0,0,false⟩) C (by simp only[];omega) (by simp only[];omega)
  have hu:=hu ⟨p.thread,1,0,0,0,false⟩
  simp only[Qw]
  unfold ZQ
  simp only[]
  generalize Zg a m ⟨p.thread,1,0,0,0,false⟩=r at hR hu ⊢
  obtain⟨r1,r2,r3,r4⟩:=r
  rcases hR with e|⟨e1,e2,e3,e4⟩
  ·cases e
   simp only[Yn,if_false]
   refine⟨⟨C.mono (by omega) (by omega) (by omega),.refl ..,fun _=>⟨rfl',hd,fun _=>⟨⟨_,rfl,fun _=>⟨.inl rfl,rfl,fun hf=>absurd rfl hf,fun hf=>by simp at hf⟩,fun hf => ?_⟩,.inl n2,fun hf => ?_,fun hf => ?_⟩,fun hf=>(by cases hf)⟩⟩,by first|trivial|rfl⟩<;>simp[n2]at hf
  ·simp only[]at e1 e2 e3 e4 hu
   subst e1
   simp only[if_true]
   unfold ZJ
   rw[if_neg (by omega)]
   refine⟨⟨e2,⟨fun _ _=>rfl,fun j hj=>e4 j (by rw[rfl'];simpa using hj)⟩,fun _=>⟨rfl',hd,fun _=>⟨⟨_,rfl,fun hf=>by simp at hf,fun _=>⟨e3.1,e3.2,rfl⟩⟩,.inr (.inl rfl),fun hf=>by simp at hf,fun hf=>by simp at hf⟩,fun hf=>(by cases hf)⟩⟩,hu⟩
end
end
section
abbrev GW (τ:Type):=Wst (Haz×Are) τ
abbrev GI (τ:Type):=Nat→Bool→Int→List Int→τ→Prop
abbrev GR (τ:Type):=Bool×(Haz×Are)×Mch×τ
structure StG {τ:Type}(I:GI τ)(c:Cfg)(L S N:Nat)(t:Nat)(h:Haz)(a:Are)(r:GR τ):Prop where
 core:Core c L S N r.2.1.1 r.2.1.2 r.2.2.1
 fr:Fr t h r.2.1.1 a r.2.1.2
 fin:r.1=false→I t true (r.2.1.1.held.getD t 0) (r.2.1.2.caches.getD t []) r.2.2.2
structure TInv (c:Cfg){τ:Type}(T:Tasks (Haz×Are) τ)(mkr:Haz×Are→Nat→Mv→Option τ)(I:GI τ):Prop where
 rdy:∀ {L S N:Nat} {h:Haz} {a:Are} {m:Mch} {i t:Nat} {cl:Cll} {se:Sea} {k:τ},Core c L S N h a m→(t:Int)<c.T→I t false (h.held.getD t 0) (a.caches.getD t []) k →
  StG I c L (S+1) N t h a (T.rdy (h,a) m i t cl se k)∧(T.rdy (h,a) m i t cl se k).2.2.1.used=m.used
 stp:∀ {L S N:Nat} {h:Haz} {a:Are} {m:Mch} {i t:Nat} {cl:Cll} {se:Sea} {k:τ},Core c L S N h a m→N<1000000→(t:Int)<c.T→I t true (h.held.getD t 0) (a.caches.getD t []) k →
  StG I c (L+1) (S+66) (N+1) t h a (T.stp (h,a) m i t cl se k)
 okr:∀ {L S N:Nat} {h:Haz} {a:Are} {m:Mch} {t:Nat} {k:τ},Core c L S N h a m→m.used=false→L<4294967296→S<1000000000→N<1000000→(t:Int)<c.T→I t false (h.held.getD t 0) (a.caches.getD t []) k→T.okr (h,a) m t k
 oks:∀ {L S N:Nat} {h:Haz} {a:Are} {m:Mch} {t:Nat} {k:τ},Core c L S N h a m→m.used=false→L<4294967296→S<1000000000→N<1000000→(t:Int)<c.T→I t true (h.held.getD t 0) (a.caches.getD t []) k→T.oks (h,a) m t k
 made:∀ {L S N:Nat} {h:Haz} {a:Are} {m:Mch} {t:Nat} {mv:Mv} {k:τ},Core c L S N h a m→(t:Int)<c.T→mkr (h,a) t mv=some k→∀ca,I t false (h.held.getD t 0) ca k
structure GHalf {τ:Type}(I:GI τ)(c:Cfg)(L S N:Nat)(i t:Nat)(cl:Cll)(se:Sea)(h:Haz)(a:Are)(m:Mch)(r:GR τ):Prop extends StG I c L S N t h a r where
 frame:Qp i t cl se m r.2.2.1
structure PG {τ:Type}(I:GI τ)(c:Cfg)(n:Nat)(y:GW τ):Prop where
 cur:y.m.cur=none
 moves:y.m.moves=(n:Int)
 core:Core c n (100*n) n y.s.1 y.s.2 y.m
 tasks:y.tasks.length=c.T.toNat
 seats:y.m.seats.length=c.T.toNat
 calls:y.m.calls.length≤n
 task:∀(t:Nat) (k:τ) (se:Sea),y.tasks[t]? = some (some k)→y.m.seats[t]? = some se→(∃i:Nat,se.last=(i:Int)∧i<y.m.calls.length)∧I t se.ready (y.s.1.held.getD t 0) (y.s.2.caches.getD t []) k
def QC {τ:Type}(y:GW τ)(t i:Nat)(se:Sea):Mch:=y.tick.m.prep t i y.m.moves se
def QY {τ:Type}(y:GW τ)(t i:Nat)(r:GR τ):GW τ:=⟨r.2.1,QU r.2.2.1 t i y.m.moves (getC r.2.2.1 i) (getS r.2.2.1 t) r.1,y.tasks.set t (if r.1=true then none else some r.2.2.2)⟩
structure GStep {τ:Type}(T:Tasks (Haz×Are) τ)(I:GI τ)(c:Cfg)(n:Nat)(y:GW τ)(t i:Nat)(cl:Cll)(se:Sea)(k:τ)(r1 r2:GR τ):Prop where
 htT:(t:Int)<c.T
 hk:y.tasks[t]? = some (some k)
 hse:y.m.seats[t]? = some se
 hl:se.last=(i:Int)
 hc:y.m.calls[i]? = some cl
 c0:Core c n (100*n) n y.s.1 y.s.2 (QC y t i se)
 i0:I t se.ready (y.s.1.held.getD t 0) (y.s.2.caches.getD t []) k
 h1:GHalf I c n (100*n+1) n i t cl { se with ready:=true } y.s.1 y.s.2 (QC y t i se) r1
 used1:r1.2.2.1.used=false
 rdy:se.ready=false∧r1=T.rdy y.s (QC y t i se) i t cl { se with ready:=true } k∨se.ready=true∧r1=(false,y.s,QC y t i se,k)
 h2:GHalf I c (n+1) (100*n+67) (n+1) i t cl { se with ready:=true } y.s.1 y.s.2 (QC y t i se) r2
 stp:r1.1=true∧r2=r1∨r1.1=false∧∃z q v,ZG r1.2.2.1 i t { cl with point:=z } { se with ready:=true,kind:=q,value:=v }∧r2=T.stp r1.2.1 r1.2.2.1 i t { cl with point:=z } { se with ready:=true,kind:=q,value:=v } r1.2.2.2
section
variable {τ:Type}{T:Tasks (Haz×Are) τ}{mkr:Haz×Are→Nat→Mv→Option τ}{I:GI τ}{c:Cfg}{n:Nat}{y y':GW τ}{K:Int→Option Value}
theorem Qp.trans' {i t:Nat}{cl:Cll}{s:Sea}{m0 m1 m2:Mch}{z k v:Int}(f:Qp i t cl s m0 m1)(g:Qp i t { cl with point:=z } { s with kind:=k,value:=v } m1 m2):Qp i t cl s m0 m2:=by
 obtain⟨z1,hz1⟩:=f.calls
 obtain⟨k1,v1,hk1⟩:=f.seats
 obtain⟨z2,hz2⟩:=g.calls
 obtain⟨k2,v2,hk2⟩:=g.seats
 exact⟨g.cur.trans f.cur,g.vs.trans f.vs,g.vc.trans f.vc,g.kit.trans f.kit,g.moves.trans f.moves,g.now.trans f.now,g.thread.trans f.thread,
  ⟨z2,by rw[hz2,hz1,Yl]⟩,⟨k2,v2,by rw[hk2,hk1,Yl]⟩⟩
theorem g_rdy (hT:T.Good)(hI:TInv c T mkr I){L S N:Nat}{h:Haz}{a:Are}{m:Mch}{i t:Nat}{cl:Cll}{se:Sea}{k:τ}{now:Int}(C:Core c L S N h a m)(ht:(t:Int)<c.T)(hc:m.calls[i]? = some cl)(hs:t<m.seats.length)
  (I0:I t se.ready (h.held.getD t 0) (a.caches.getD t []) k) :
  GHalf I c L (S+1) N i t cl { se with ready:=true } h a (m.prep t i now se) (Zp T (h,a) m i t cl se k now)∧(Zp T (h,a) m i t cl se k now).2.2.1.used=false:=by
 have C0:Core c L S N h a (m.prep t i now se):=C.of rfl rfl rfl rfl
 have hci:ZG (m.prep t i now se) i t cl { se with ready:=true }:=⟨rfl,hc,by simp[Mch.prep,hs]⟩
 unfold Zp
 split
 ·rename_i hf
  rw[hf]at I0
  obtain⟨e1,e4⟩:=hI.rdy (i:=i) (cl:=cl) (se:={ se with ready:=true }) C0 ht I0
  exact⟨⟨e1,hT.fr _ _ _ _ _ _ _ hci⟩,e4⟩
 ·rename_i hf
  have hf:se.ready=true:=by simpa using hf
  rw[hf]at I0
  exact⟨⟨⟨C0.mono (by omega) (by omega) (by omega),.refl ..,fun _=>I0⟩,(Same.refl _).frame hci⟩,rfl⟩
theorem PG.may {ok:Haz×Are→Prop}(hK:∀ {L S N:Nat} {h:Haz} {a:Are} {m:Mch},Core c L S N h a m→ok (h,a))(hT:T.Good)(hI:TInv c T mkr I)(P:PG I c n y)(hn:n<65536)(mv:Mv):MayMove T ok c.T.toNat y mv:=by
 obtain⟨p1,p2,p3,p4,p5,p6,p7⟩:=P
 have hok:=p3.ok
 have hT1:=hok.T1
 refine⟨p1,by omega,by omega,by omega,p4,p5,hK p3,by omega,?_⟩
 intro t k se ht hop hk hse
 obtain⟨⟨i,e1,e2⟩,I0⟩:=p7 t k se hk hse
 have hlt:=(List.getElem?_eq_some_iff.1 hse).1
 have htT:(t:Int)<c.T:=by omega
 have C0:Core c n (100*n) n y.s.1 y.s.2 (y.tick.m.prep t i y.m.moves se):=p3.of rfl rfl rfl rfl
 have C1:Core c n (100*n) n y.s.1 y.s.2 y.tick.m:=p3.of rfl rfl rfl rfl
 refine⟨i,_,e1,Yd e2,fun hf => ?_,fun hf => ?_⟩
 ·rw[hf]at I0
  exact hI.okr C0 rfl (by omega) (by omega) (by omega) htT I0
 ·obtain⟨⟨⟨r1,r2,r3⟩,_⟩,r5⟩:=g_rdy hT hI (i:=i) (cl:=y.m.calls[i]) (now:=y.m.moves) C1 htT (Yd e2) hlt I0
  exact hI.oks r1 r5 (by omega) (by omega) (by omega) htT (r3 hf)
theorem PG.tick (P:PG I c n y):PG I c (n+1) y.tick:=by
 obtain⟨p1,p2,p3,p4,p5,p6,p7⟩:=P
 exact⟨p1,by simp only[Wst.tick];omega,(p3.mono (by omega) (by omega) (by omega)).of rfl rfl rfl rfl,p4,p5,by simp only[Wst.tick];omega,p7⟩
theorem g_others {t j:Nat}{b:Bool}{h h':Haz}{a a':Are}{k:τ}(hj:j≠t)(f:Fr t h h' a a')(I0:I j b (h.held.getD j 0) (a.caches.getD j []) k):I j b (h'.held.getD j 0) (a'.caches.getD j []) k:=by
 rw[Yb,Yb]at I0 ⊢
 rw[f.held j hj,f.caches j hj]
 exact I0
theorem g_open (hT:T.Good)(hI:TInv c T mkr I){mv:Mv}{b:Bool}(P:PG I c n y)(hn:n<65536)(hM:MoveTo T K mkr y mv b y') :
  (y'=y.tick) ∨
  (∃(t:Nat) (k:τ) (v vc:Value),mv.thread=(t:Int)∧(t:Int)<c.T∧mv.op≠0∧y.tasks[t]? = some none∧K mv.op≠none∧mkr y.s t mv=some k∧y'=⟨y.s,ZC y.m t mv v vc,y.tasks.set t (some k)⟩) ∨
  (∃(t i:Nat) (cl:Cll) (se:Sea) (k:τ) (r1 r2:GR τ),mv.thread=(t:Int)∧mv.op=0∧GStep T I c n y t i cl se k r1 r2∧y'=QY y t i r2):=by
 cases hM with
 | out=>exact .inl rfl
 | idle=>exact .inl rfl
 | busy=>exact .inl rfl
 | nokit=>exact .inl rfl
 | refused=>exact .inl rfl
 | begin_ t k v vc ht hop hk hKn hmk=>
  have hlt:=(List.getElem?_eq_some_iff.1 hk).1
  have htT:(t:Int)<c.T:=by have:=P.core.ok.T1;have:=P.tasks;omega
  exact .inr (.inl ⟨t,k,v,vc,ht,htT,hop,hk,hKn,hmk,rfl⟩)
 | step t i cl se k ht hop hk hse hl hc=>
  refine .inr (.inr ?_)
  obtain⟨p1,p2,p3,p4,p5,p6,p7⟩:=P
  have hlt:=(List.getElem?_eq_some_iff.1 hse).1
  have htT:(t:Int)<c.T:=by have:=p3.ok.T1;omega
  obtain⟨_,I0⟩:=p7 t k se hk hse
  have C1:Core c n (100*n) n y.s.1 y.s.2 y.tick.m:=p3.of rfl rfl rfl rfl
  have C0:Core c n (100*n) n y.s.1 y.s.2 (QC y t i se):=p3.of rfl rfl rfl rfl
  have hci:ZG (QC y t i se) i t cl { se with ready:=true }:=⟨rfl,hc,by simp[QC,Mch.prep,Wst.tick,hlt]⟩
  obtain⟨G1,u1⟩:=g_rdy hT hI (i:=i) (cl:=cl) (now:=y.m.moves) C1 htT hc hlt I0
  have hsd:y.s=(y.s.1,y.s.2):=rfl
  have hrd:se.ready=false∧Zp T (y.s.1,y.s.2) y.tick.m i t cl se k y.m.moves=T.rdy y.s (QC y t i se) i t cl { se with ready:=true } k∨se.ready=true∧Zp T (y.s.1,y.s.2) y.tick.m i t cl se k y.m.moves=(false,y.s,QC y t i se,k):=by
   unfold Zp
   split
   ·rename_i hf;exact .inl ⟨hf,rfl⟩
   ·rename_i hf;exact .inr ⟨by simpa using hf,rfl⟩
  have G2:∃r2,r2=Q2 T i t (Zp T (y.s.1,y.s.2) y.tick.m i t cl se k y.m.moves)∧GHalf I c (n+1) (100*n+67) (n+1) i t cl { se with ready:=true } y.s.1 y.s.2 (QC y t i se) r2 ∧
    ((Zp T (y.s.1,y.s.2) y.tick.m i t cl se k y.m.moves).1=true∧r2=Zp T (y.s.1,y.s.2) y.tick.m i t cl se k y.m.moves∨(Zp T (y.s.1,y.s.2) y.tick.m i t cl se k y.m.moves).1=false ∧
     ∃z q v,ZG (Zp T (y.s.1,y.s.2) y.tick.m i t cl se k y.m.moves).2.2.1 i t { cl with point:=z } { se with ready:=true,kind:=q,value:=v } ∧
      r2=T.stp (Zp T (y.s.1,y.s.2) y.tick.m i t cl se k y.m.moves).2.1 (Zp T (y.s.1,y.s.2) y.tick.m i t cl se k y.m.moves).2.2.1 i t { cl with point:=z } { se with ready:=true,kind:=q,value:=v } (Zp T (y.s.1,y.s.2) y.tick.m i t cl se k y.m.moves).2.2.2):=by
   generalize Zp T (y.s.1,y.s.2) y.tick.m i t cl se k y.m.moves=r at G1 u1 ⊢
   obtain⟨⟨r1,r2,r3⟩,r4⟩:=G1
   refine⟨_,rfl,?_⟩
   unfold Q2
   split
   ·rename_i hf
    obtain⟨z,kk,vv,hcc⟩:=r4.curIn hci
    rw[hcc.getC,hcc.getS]
    obtain⟨e1,e2,e3⟩:=hI.stp (i:=i) (cl:={ cl with point:=z }) (se:={ se with ready:=true,kind:=kk,value:=vv }) r1 (by omega) htT (r3 hf)
    have fs:=hT.fs r.2.1 _ i t _ _ r.2.2.2 hcc
    exact⟨⟨⟨e1,⟨fun j hj=>(e2.held j hj).trans (r2.held j hj),fun j hj=>(e2.caches j hj).trans (r2.caches j hj)⟩,e3⟩,r4.trans' fs⟩,.inr ⟨hf,z,kk,vv,hcc,rfl⟩⟩
   ·rename_i hf
    exact⟨⟨⟨r1.mono (by omega) (by omega) (by omega),r2,r3⟩,r4⟩,.inl ⟨by simpa using hf,rfl⟩⟩
  obtain⟨r2,e2,G2,G3⟩:=G2
  refine⟨t,i,cl,se,k,_,r2,ht,hop,⟨htT,hk,hse,hl,hc,C0,I0,G1,u1,hrd,G2,G3⟩,?_⟩
  subst e2
  rfl
theorem PG.move (hT:T.Good)(hI:TInv c T mkr I){mv:Mv}{b:Bool}(P:PG I c n y)(hn:n<65536)(h:MoveTo T K mkr y mv b y'):PG I c (n+1) y':=by
 rcases g_open hT hI P hn h with rfl|⟨t,k,v,vc,ht,htT,hop,hk,hKn,hmk,rfl⟩|⟨t,i,cl,se,k,r1,r,ht,hop,G,rfl⟩
 ·exact P.tick
 ·obtain⟨p1,p2,p3,p4,p5,p6,p7⟩:=P
  have hlt:=(List.getElem?_eq_some_iff.1 hk).1
  refine⟨p1,by simp only[ZC];omega,(p3.mono (by omega) (by omega) (by omega)).of rfl rfl rfl rfl,by simp[p4],by simp[ZC,p5],by simp[ZC];omega,?_⟩
  intro j kj sj hkj hsj
  simp only[ZC]at hkj hsj
  by_cases hj:j=t
  ·subst hj
   rw[Ye (by omega)]at hkj hsj
   cases hkj
   cases hsj
   exact⟨⟨_,rfl,by simp[ZC]⟩,hI.made p3 htT hmk _⟩
  ·rw[ZX hj]at hkj hsj
   obtain⟨⟨i',q1,q2⟩,q3⟩:=p7 j kj sj hkj hsj
   exact⟨⟨i',q1,by simp[ZC];omega⟩,q3⟩
 ·obtain⟨p1,p2,p3,p4,p5,p6,p7⟩:=P
  have hlt:=(List.getElem?_eq_some_iff.1 G.hse).1
  have hci:ZG (QC y t i se) i t cl { se with ready:=true }:=⟨rfl,G.hc,by simp[QC,Mch.prep,Wst.tick,hlt]⟩
  obtain⟨⟨e1,e2,e3⟩,e4⟩:=G.h2
  have hc:=G.hc
  obtain⟨z,kk,vv,hcc⟩:=e4.curIn hci
  obtain⟨z1,hz1⟩:=e4.calls
  obtain⟨k1,v1,hk1⟩:=e4.seats
  have hcl:r.2.2.1.calls.length=y.m.calls.length:=by rw[hz1];simp[QC,Mch.prep,Wst.tick]
  have hsl:r.2.2.1.seats.length=y.m.seats.length:=by rw[hk1];simp[QC,Mch.prep,Wst.tick]
  have hmv:r.2.2.1.moves=y.m.moves+1:=e4.moves
  have hsS:∀j,j≠t→r.2.2.1.seats[j]? = y.m.seats[j]? := by
   intro j hj
   rw[hk1,ZX hj]
   simp only[QC,Mch.prep,Wst.tick]
   rw[ZX hj]
  unfold QY
  rw[hcc.getC,hcc.getS]
  by_cases hb:r.1=true
  ·simp only[QU,if_pos hb]
   refine⟨rfl,by show r.2.2.1.moves=_;omega,(e1.mono (by omega) (by omega) (by omega)).of rfl rfl rfl rfl,by simp[p4],by simp[hsl,p5],by simp;omega,?_⟩
   intro j kj sj hkj hsj
   simp only[]at hkj hsj
   by_cases hj:j=t
   ·subst hj
    rw[Ye (by omega)]at hkj
    simp at hkj
   ·rw[ZX hj]at hkj hsj
    rw[hsS j hj]at hsj
    obtain⟨⟨i',q1,q2⟩,q3⟩:=p7 j kj sj hkj hsj
    exact⟨⟨i',q1,by simp;omega⟩,g_others hj e2 q3⟩
  ·simp only[QU,if_neg hb]
   refine⟨rfl,by show r.2.2.1.moves=_;omega,(e1.mono (by omega) (by omega) (by omega)).of rfl rfl rfl rfl,by simp[p4],by simp[hsl,p5],by simp;omega,?_⟩
   intro j kj sj hkj hsj
   simp only[]at hkj hsj
   by_cases hj:j=t
   ·subst hj
    rw[Ye (by omega)]at hkj
    simp at hkj
    subst hkj
    rw[hcc.seat]at hsj
    cases hsj
    exact⟨⟨i,G.hl,by have:=(List.getElem?_eq_some_iff.1 hc).1;simp only[];omega⟩,e3 (by simpa using hb)⟩
   ·rw[ZX hj]at hkj
    rw[hsS j hj]at hsj
    obtain⟨⟨i',q1,q2⟩,q3⟩:=p7 j kj sj hkj hsj
    exact⟨⟨i',q1,by simp only[];omega⟩,g_others hj e2 q3⟩
structure JG (T:Tasks (Haz×Are) τ)(mkr:Haz×Are→Nat→Mv→Option τ)(I:GI τ)(c:Cfg)(ops:Int→Prop)(J:Nat→GW τ→Prop):Prop where
 tick:∀n y,n<65536→PG I c n y→J n y→J (n+1) y.tick
 beg:∀n y mv t k v vc,n<65536→PG I c n y→J n y→mv.thread=((t:Nat):Int)→(t:Int)<c.T→ops mv.op→y.tasks[t]? = some none→mkr y.s t mv=some k→J (n+1) ⟨y.s,ZC y.m t mv v vc,y.tasks.set t (some k)⟩
 step:∀n y t i cl se k r1 r2,n<65536→PG I c n y→GStep T I c n y t i cl se k r1 r2→PG I c (n+1) (QY y t i r2)→J n y→J (n+1) (QY y t i r2)
theorem JG.move {ops:Int→Prop}{J:Nat→GW τ→Prop}(hJ:JG T mkr I c ops J)(hT:T.Good)(hI:TInv c T mkr I)(hK:∀o,K o≠none→ops o){mv:Mv}{b:Bool}(P:PG I c n y)(j:J n y)(hn:n<65536)(h:MoveTo T K mkr y mv b y'):J (n+1) y':=by
 have P':=P.move hT hI hn h
 rcases g_open hT hI P hn h with rfl|⟨t,k,v,vc,ht,htT,hop,hk,hKn,hmk,rfl⟩|⟨t,i,cl,se,k,r1,r,ht,hop,G,rfl⟩
 ·exact hJ.tick n y hn P j
 ·exact hJ.beg n y mv t k v vc hn P j ht htT (hK _ hKn) hk hmk
 ·exact hJ.step n y t i cl se k r1 r hn P G P' j
end
end
end Go.Proofs.YtjagadldibbbbaaGreat
