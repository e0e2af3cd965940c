/-
  The same: scans.
-/
import Derived.Test.YtefjbdajgakgpaaGreatAInv
import Derived.Test.YtefjbdajgakgpaaGreatAKit
set_option linter.all false
namespace Go.Proofs.YtefjbdajgakgpaaGreat
open Go.RowKit Hp
set_option maxRecDepth 100000
set_option maxHeartbeats 1000000
attribute [local irreducible] Go.Calls
section
structure ScI (c:Cfg)(s:Scn):Prop where
 rec0:0≤s.record
 rec1:s.record<c.R
 thr0:0≤s.thread
 thr1:s.thread<c.T
 stage:s.stage=0∨s.stage=1∨s.stage=2∨s.stage=3∨s.stage=5
 try_:s.stage≤2→0≤s.at_∧s.at_<c.R∧s.at_≠s.record
 pend:s.stage≤3→s.pending=[]
 look:s.stage=3→(0≤s.at_∧s.at_<c.R*c.Hz)∧s.hasMap=true∧∀k,0≤s.named k∧s.named k≤s.at_
 give:s.stage=5→∃p,s.give=some p∧PInv c p∧(∀z∈s.pending,0≤z∧z<c.Sl)∧s.pending.length<1000000
section
variable {c:Cfg}{L S N:Nat}{h:Haz}{a:Are}{m:Mch}{s:Scn}
theorem ScI.ok (I:ScI c s)(k:Core c L S N h a m)(hu:m.used=false)(hL:L<4294967296)(hS:S<1000000000)(hN:N<1000000):ScanOk h a m s:=by
 obtain⟨i1,i2,i3,i4,i5,i6,i7,i8,i9⟩:=I
 have hz:=k.haz hu hL hS hN
 have hok:=k.ok
 have hac:=k.ac
 have hb:=bases hok
 obtain rfl:=k.hc
 refine⟨hz,i1,i2,i3,i4,i5,i6,?_,?_⟩
 ·intro h3
  obtain⟨⟨l1,l2⟩,l3,l4⟩:=i8 h3
  have hb9:=(ZB hok 9).1
  have h14:((base h.c 9+s.at_).toNat:Int)<base h.c 14:=by
   obtain⟨b1,b2,b8,b9,b10,b11,b12,b13,b14,rh,rh2⟩:=hb
   have:=hok.S1
   omega
  have hw:=(k.word h14).hz (by omega) (by have:=hb.b10;omega)
  have hS2:=hok.S2
  exact⟨⟨l1,l2⟩,l3,i7 (by omega),⟨hw.1,by omega⟩,fun z=>⟨(l4 z).1,by have:=(l4 z).2;have:=hb.rh2;omega⟩⟩
 ·intro h5
  obtain⟨p,p1,p2,p3,p4⟩:=i9 h5
  exact⟨p,p1,p2.pok k hu hL hS,by rw[hac];exact p3,p4⟩
theorem next_inv (k:Core c L S N h a m)(r0:0≤s.record)(r1:s.record<c.R)(t0:0≤s.thread)(t1:s.thread<c.T)(ha : -1≤s.at_)(hp:s.pending=[]) :
  ((ZE h s).1=false→ScI c (ZE h s).2)∧(ZE h s).2.thread=s.thread:=by
 have hb:=bases k.ok
 obtain rfl:=k.hc
 unfold ZE
 simp only[]
 by_cases h1:(if s.at_+1=s.record then s.at_+2 else s.at_+1)<h.c.R
 ·rw[if_pos h1]
  refine⟨fun _=>⟨r0,r1,t0,t1,.inl rfl,fun _ => ?_,fun _=>hp,fun hf=>by simp at hf,fun hf=>by simp at hf⟩,rfl⟩
  simp only[]
  split at h1<;>rename_i h2
  ·rw[if_pos h2];omega
  ·rw[if_neg h2];omega
 ·rw[if_neg h1]
  split
  ·exact⟨fun hf=>(by cases hf),rfl⟩
  ·refine⟨fun _=>⟨r0,r1,t0,t1,.inr (.inr (.inr (.inl rfl))),fun hf=>by simp at hf,fun _=>hp,fun _=>⟨⟨by simp,?_⟩,rfl,fun z=>by simp⟩,fun hf=>by simp at hf⟩,rfl⟩
   have:=hb.rh
   show(0:Int)<h.c.R*h.c.Hz
   omega
theorem ready_inv (k:Core c L S N h a m)(r0:0≤s.record)(r1:s.record<c.R)(t0:0≤s.thread)(t1:s.thread<c.T)(hp:s.pending=[]) :
  ((Qo h s).1=false→ScI c (Qo h s).2)∧(Qo h s).2.thread=s.thread:=by
 unfold Qo
 exact next_inv (s:={ s with at_ := -1 }) k r0 r1 t0 t1 (by simp) hp
structure ScanInv (c:Cfg)(L S N:Nat)(h:Haz)(a:Are)(th:Int)(r:Bool×Haz×Are×Mch×Scn):Prop where
 core:Core c L S N r.2.1 r.2.2.1 r.2.2.2.1
 fin:r.1=false→ScI c r.2.2.2.2
 held:r.2.1.held=h.held
 caches:∀j,j≠th.toNat→r.2.2.1.caches[j]? = a.caches[j]?
 thr:r.2.2.2.2.thread=th
theorem take_list (k:Core c L S N h a m){r q:Int}(r0:0≤r)(r1:r<c.R)(q0:0≤q)(q1:q<c.R)(hne:q≠r) :
  Core c L S N { h with lists:=(h.lists.set r.toNat (h.lists.getD r.toNat []++h.lists.getD q.toNat [])).set q.toNat [] } a m:=by
 obtain⟨e1,_,e3⟩:=k.lget r0 r1
 obtain⟨f1,_,f3⟩:=k.lget q0 q1
 generalize h.lists.getD r.toNat []=x at e1 e3 ⊢
 generalize h.lists.getD q.toNat []=y at f1 f3 ⊢
 refine k.list _ (by simp only[List.length_set];exact k.lists) ?_ ?_
 ·have t1:=tot_set (x:=x++y) e1
  have t2:=tot_set (ls:=h.lists.set r.toNat (x++y)) (i:=q.toNat) (l:=y) (x:=[]) (by rw[set_ne (by omega)];exact f1)
  have t3:=k.tot
  simp only[List.length_append,List.length_nil]at t1 t2
  omega
 ·intro l hl z hz
  rcases List.mem_or_eq_of_mem_set hl with hl|rfl
  ·rcases List.mem_or_eq_of_mem_set hl with hl|rfl
   ·exact k.ins l hl z hz
   ·rcases List.mem_append.1 hz with hz|hz
    ·exact e3 z hz
    ·exact f3 z hz
  ·simp at hz
theorem free_at (k:Core c L S N h a m){th:Int}(t0:0≤th)(t1:th<c.T)(pend:List Int)(g:Option Psh)(hin:∀z∈pend,0≤z∧z<c.Sl) :
  FreeInv c L (S+65) N h a th pend.length (ZG th pend g a m):=by
 have hC:=k.ok.C2
 have h1:=k.ok.C1
 have hg:=(k.cget t0 t1).2.1
 obtain⟨f1,f2,f3⟩:=free_core th t0 t1 pend g a m S (c.Ca.toNat-(a.caches.getD th.toNat []).length) k hin (by omega)
 exact⟨f1.mono (by omega) (by omega) (by omega),f2,f3⟩
theorem scan_core (k:Core c L S N h a m)(I:ScI c s)(hN:N<1000000):ScanInv c (L+1) (S+66) N h a s.thread (Zq h a m s):=by
 have hok:=k.ok
 have hb:=bases hok
 obtain rfl:=k.hc
 obtain⟨i1,i2,i3,i4,i5,i6,i7,i8,i9⟩:=I
 unfold Zq
 by_cases s0:s.stage=0
 ·rw[if_pos s0]
  obtain⟨a0,a1,a2⟩:=i6 (by omega)
  have hN:=next_inv k i1 i2 i3 i4 (by omega) (i7 (by omega))
  unfold scanTry
  simp only[]
  split
  ·exact⟨(k.load _ _).mono (by omega) (by omega) (by omega),hN.1,rfl,fun _ _=>rfl,hN.2⟩
  ·exact⟨(k.load _ _).mono (by omega) (by omega) (by omega),fun _=>⟨i1,i2,i3,i4,.inr (.inl rfl),fun _=>⟨a0,a1,a2⟩,fun _=>i7 (by omega),fun hf=>by simp at hf,fun hf=>by simp at hf⟩,rfl,fun _ _=>rfl,rfl⟩
 rw[if_neg s0]
 by_cases s1:s.stage=1
 ·rw[if_pos s1]
  obtain⟨a0,a1,a2⟩:=i6 (by omega)
  have hN:=next_inv k i1 i2 i3 i4 (by omega) (i7 (by omega))
  have hw:=wok_active hok a0 a1 1
  unfold Qw
  simp only[]
  split
  ·exact⟨(take_list (k.swap _ _ _ _ hw) i1 i2 a0 a1 a2).mono (by omega) (by omega) (by omega),fun _=>⟨i1,i2,i3,i4,.inr (.inr (.inl rfl)),fun _=>⟨a0,a1,a2⟩,fun _=>i7 (by omega),fun hf=>by simp at hf,fun hf=>by simp at hf⟩,rfl,fun _ _=>rfl,rfl⟩
  ·exact⟨(k.swap _ _ _ _ hw).mono (by omega) (by omega) (by omega),hN.1,rfl,fun _ _=>rfl,hN.2⟩
 rw[if_neg s1]
 by_cases s2:s.stage=2
 ·rw[if_pos s2]
  obtain⟨a0,a1,a2⟩:=i6 (by omega)
  have hN:=next_inv k i1 i2 i3 i4 (by omega) (i7 (by omega))
  have hw:=wok_active hok a0 a1 0
  unfold Jg
  exact⟨(k.store _ _ _ hw).mono (by omega) (by omega) (by omega),hN.1,rfl,fun _ _=>rfl,hN.2⟩
 rw[if_neg s2]
 by_cases s3:s.stage=3
 ·rw[if_pos s3]
  obtain⟨⟨a0,a1⟩,a2,a3⟩:=i8 s3
  have hp:=i7 (by omega)
  have hnm:∀z w,0≤Qm s.named z w∧Qm s.named z w≤s.at_+1:=by
   intro z w
   have:=a3 z
   have:=a3 w
   unfold Qm
   split<;>omega
  unfold QT
  dsimp only
  split
  ·rename_i hlt
   have hlt:s.at_+1<h.c.R*h.c.Hz:=hlt
   have hSI:ScI h.c { s with named:=Qm s.named (m.word (base h.c 9+s.at_).toNat-1),at_:=s.at_+1 } :=
    ⟨i1,i2,i3,i4,.inr (.inr (.inr (.inl s3))),fun hf=>by simp only[s3]at hf;omega,fun _=>hp,fun _=>⟨⟨by simp only[];omega,hlt⟩,a2,fun z=>hnm _ z⟩,fun hf=>by simp only[s3]at hf;omega⟩
   exact⟨(k.load _ _).mono (by omega) (by omega) (by omega),fun _=>hSI,rfl,fun _ _=>rfl,rfl⟩
  ·obtain⟨e1,e2,e3⟩:=k.lget i1 i2
   have k2:∀(u:Int),Core h.c (L+1) S N { h with lists:=h.lists.set s.record.toNat ((h.lists.getD s.record.toNat []).filter (QL (Qm s.named u))) } a (m.load (base h.c 9+s.at_).toNat (m.word (base h.c 9+s.at_).toNat)):=by
    intro u
    refine(k.load _ _).list _ (by simp only[List.length_set];exact k.lists) ?_ ?_
    ·have t1:=tot_set (x:=(h.lists.getD s.record.toNat []).filter (QL (Qm s.named u))) e1
     have t2:=List.length_filter_le (QL (Qm s.named u)) (h.lists.getD s.record.toNat [])
     have t3:=k.tot
     omega
    ·intro l hl z hz
     rcases List.mem_or_eq_of_mem_set hl with hl|rfl
     ·exact k.ins l hl z hz
     ·exact e3 z (List.mem_filter.1 hz).1
   have k3:=k2 (m.word (base h.c 9+s.at_).toNat-1)
   simp only[Jf,QJ,hp,List.nil_append]
   have F:=free_at k3 i3 i4 ((h.lists.getD s.record.toNat []).filter (Qp (Qm s.named (m.word (base h.c 9+s.at_).toNat-1)))) s.give (fun z hz=>e3 z (List.mem_filter.1 hz).1)
   have hlen:=List.length_filter_le (Qp (Qm s.named (m.word (base h.c 9+s.at_).toNat-1))) (h.lists.getD s.record.toNat [])
   generalize ZG s.thread ((h.lists.getD s.record.toNat []).filter (Qp (Qm s.named (m.word (base h.c 9+s.at_).toNat-1)))) s.give a (m.load (base h.c 9+s.at_).toNat (m.word (base h.c 9+s.at_).toNat))=r at F ⊢
   refine⟨F.core.mono (by omega) (by omega) (by omega),?_,rfl,F.caches,rfl⟩
   intro hf
   obtain⟨⟨p,p1,p2⟩,p3,p4⟩:=F.fin hf
   simp only[]at hf
   rw[hf]
   exact⟨i1,i2,i3,i4,.inr (.inr (.inr (.inr rfl))),fun h2=>by simp[QN]at h2,fun h2=>by simp[QN]at h2,fun h2=>by simp[QN]at h2,fun _=>⟨p,p1,p2,p3,by show r.2.1.length<_;omega⟩⟩
 rw[if_neg s3]
 obtain⟨p,p1,p2,p3,p4⟩:=i9 (by omega)
 have s5:s.stage=5:=by omega
 rw[p1]
 simp only[]
 obtain⟨q1,q2,q3,q4⟩:=push_core k p2
 unfold Qx
 simp only[]
 split
 ·have F:=free_at q1 i3 i4 s.pending (some (Zi a m p).2.2.2) p3
  generalize ZG s.thread s.pending (some (Zi a m p).2.2.2) (Zi a m p).2.1 (Zi a m p).2.2.1=r at F ⊢
  refine⟨F.core.mono (by omega) (by omega) (by omega),?_,rfl,fun j hj=>(F.caches j hj).trans (by rw[q3]),rfl⟩
  intro hf
  obtain⟨⟨p',p1',p2'⟩,p3',p4'⟩:=F.fin hf
  simp only[]at hf
  rw[hf]
  exact⟨i1,i2,i3,i4,.inr (.inr (.inr (.inr rfl))),fun h2=>by simp[QN]at h2,fun h2=>by simp[QN]at h2,fun h2=>by simp[QN]at h2,fun _=>⟨p',p1',p2',p3',by show r.2.1.length<_;omega⟩⟩
 ·rename_i hne
  have hf:(Zi a m p).1=false:=by simpa using hne
  exact⟨q1.mono (by omega) (by omega) (by omega),fun _=>⟨i1,i2,i3,i4,.inr (.inr (.inr (.inr s5))),fun h2=>by simp only[s5]at h2;omega,fun h2=>by simp only[s5]at h2;omega,fun h2=>by simp only[s5]at h2;omega,fun _=>⟨_,rfl,q2 hf,p3,p4⟩⟩,rfl,fun j _=>by simp only[q3],rfl⟩
structure RetInv (c:Cfg)(L S N:Nat)(h:Haz)(a:Are)(th:Int)(r:Bool×Haz×Are×Mch×Ret):Prop where
 core:Core c L S N r.2.1 r.2.2.1 r.2.2.2.1
 fin:r.1=false→∃sc,r.2.2.2.2.scan=some sc∧ScI c sc∧sc.thread=th
 held:r.2.1.held=h.held
 caches:r.2.2.1.caches=a.caches
theorem retire_core {r:Ret}(k:Core c L S N h a m)(t0:0≤r.thread)(t1:r.thread<c.T)(s0:0≤r.slot)(s1:r.slot<c.Sl)(hh:0≤h.held.getD r.thread.toNat 0) :
  RetInv c L (S+1) (N+1) h a r.thread (Zv h a m r):=by
 obtain rfl:=k.hc
 have hl:r.thread.toNat<h.held.length:=by rw[k.held];omega
 have hr1:h.held.getD r.thread.toNat 0<h.c.R:=by
  have e:h.held[r.thread.toNat]? = some (h.held.getD r.thread.toNat 0):=by rw[Yb,Yd hl];rfl
  exact(k.hin _ (Yc e)).2
 generalize hrec:h.held.getD r.thread.toNat 0=rc at hh hr1
 obtain⟨e1,e2,e3⟩:=k.lget hh hr1
 have k1:Core h.c L (S+1) (N+1) { h with lists:=h.lists.set rc.toNat (h.lists.getD rc.toNat []++[r.slot]) } (a.shift r.slot.toNat m.thread 5) (m.shift r.slot (a.slots.getD r.slot.toNat ⟨0,0⟩).state 5):=by
  refine((k.mshift _ _ _).ashift _ _ _).list _ (by simp only[List.length_set];exact k.lists) ?_ ?_
  ·have t1:=tot_set (x:=h.lists.getD rc.toNat []++[r.slot]) e1
   have t3:=k.tot
   simp only[List.length_append,List.length_cons,List.length_nil]at t1
   omega
  ·intro l hl z hz
   rcases List.mem_or_eq_of_mem_set hl with hl|rfl
   ·exact k.ins l hl z hz
   ·rcases List.mem_append.1 hz with hz|hz
    ·exact e3 z hz
    ·simp at hz;subst hz;exact⟨s0,s1⟩
 unfold Zv
 rw[hrec]
 simp only[]
 split
 ·exact⟨k1,fun hf=>(by cases hf),rfl,rfl⟩
 ·have hR:=ready_inv (s:=⟨r.thread,rc,6,0,false,fun _=>0,[],none⟩) k1 hh hr1 t0 t1 rfl
  exact⟨k1,fun hf=>⟨_,rfl,hR.1 hf,hR.2⟩,rfl,rfl⟩
end
end
section
section
variable {c:Cfg}{L S N:Nat}{h:Haz}{a:Are}{m:Mch}
theorem Core.point (k:Core c L S N h a m)(i:Nat)(x:Cll)(z:Int):Core c L S N h a (m.point i x z):=k.of rfl rfl rfl rfl
theorem Core.answer (k:Core c L S N h a m)(i:Nat)(x:Sea)(y z:Int):Core c L S N h a (m.answer i x y z):=k.of rfl rfl rfl rfl
/-! ## taking -/
structure TkI (c:Cfg)(k:Tak):Prop where
 at0:k.at_=1∨k.at_=2∨k.at_=3
 taken:k.taken=false
 head:k.at_≠1→(0≤k.head∧k.head<18446744073709551616)∧1≤k.head%4294967296∧k.head%4294967296≤c.Sl
 next:k.at_=3→0≤k.next∧k.next≤c.Sl
theorem took_no {k:Tak}(h:k.taken=false):Zg k = -1:=by unfold Zg;simp[h]
theorem takeReady_core {k:Tak}(C:Core c L S N h a m)(t0:0≤k.thread)(t1:k.thread<c.T) :
  (Zj a m k=(false,a,m,k))∨((Zj a m k).1=true∧Core c L (S+1) N h (Zj a m k).2.1 (Zj a m k).2.2.1∧(0≤Zg (Zj a m k).2.2.2∧Zg (Zj a m k).2.2.2<c.Sl)∧∀j,j≠k.thread.toNat→(Zj a m k).2.1.caches[j]? = a.caches[j]?):=by
 obtain rfl:=C.ac
 obtain⟨g1,g2,g3⟩:=C.cget t0 t1
 unfold Zj
 simp only[]
 by_cases h0:(a.caches.getD k.thread.toNat []).length=0
 ·rw[if_pos h0];exact .inl rfl
 ·rw[if_neg h0]
  generalize a.caches.getD k.thread.toNat []=x at g1 g2 g3 h0 ⊢
  have hlt:x.length-1<x.length:=by omega
  have hm:x.getD (x.length-1) 0∈x:=by
   rw[Yb,Yd hlt];simp
  refine .inr ⟨rfl,((C.cache _ _ (by simp only[List.length_take];omega) (fun z hz=>g3 z (List.mem_of_mem_take hz))).ashift _ _ _).mshift _ _ _,?_,fun j hj=>set_ne hj⟩
  exact g3 _ hm
theorem take_core {k:Tak}(C:Core c L S N h a m)(T:TkI c k) :
  Core c (L+1) (S+1) N h (Zp a m k).2.1 (Zp a m k).2.2.1∧((Zp a m k).1=false→TkI c (Zp a m k).2.2.2)∧(Zg (Zp a m k).2.2.2 = -1∨(0≤Zg (Zp a m k).2.2.2∧Zg (Zp a m k).2.2.2<c.Sl))∧(Zp a m k).2.1.caches=a.caches:=by
 have hok:=C.ok
 have hac:=C.ac
 obtain⟨t1,t2,t3,t4⟩:=T
 have hw:=(C.word (adr_lt14 hok).1).head (by rw[Jc hok 1 (Int.le_refl 0)];simp)
 have hS2:=hok.S2
 unfold Zp
 rw[hac]
 split
 ·refine⟨(C.load _ _).mono (by omega) (by omega) (by omega),fun hf => ?_,.inl (took_no t2),rfl⟩
  have hne:¬m.word (adr c 1 0)%4294967296=0:=by simpa using hf
  simp only[if_neg hne]
  exact⟨.inr (.inl rfl),t2,fun _=>⟨⟨hw.1,hw.2.1⟩,by show 1≤m.word (adr c 1 0)%4294967296;omega,hw.2.2⟩,fun hf=>by simp at hf⟩
 ·rename_i h1
  obtain⟨h3,h4,h5⟩:=t3 h1
  split
  ·refine⟨(C.load _ _).mono (by omega) (by omega) (by omega),fun _=>⟨.inr (.inr rfl),t2,fun _=>⟨h3,h4,h5⟩,fun _ => ?_⟩,.inl (took_no t2),rfl⟩
   have e:=Jc hok 10 (i:=k.head%4294967296-1) (by omega)
   have hb:=bases hok
   have:=hok.R1
   have hlt:((adr c 10 (k.head%4294967296-1):Nat):Int)<base c 14:=by
    obtain⟨b1,b2,b8,b9,b10,b11,b12,b13,b14,rh,rh2⟩:=hb;omega
   exact(C.word hlt).next (by omega) (by have:=hb.b11;omega)
  ·have h6:=t4 (by omega)
   have hz:WOk c (adr c 1 0) ((k.head / 4294967296+1)%4294967296*4294967296+k.next):=wok_head hok ⟨by omega,by omega,by omega⟩
   simp only[]
   split
   ·refine⟨((C.swap _ _ _ _ hz).ashift _ _ _).mshift _ _ _,fun hf=>(by cases hf),.inr ?_,rfl⟩
    simp only[takeGot,Zg,if_true]
    omega
   ·exact⟨(C.swap _ _ _ _ hz).mono (by omega) (by omega) (by omega),fun _=>⟨.inl rfl,t2,fun hf=>absurd rfl hf,fun hf=>by simp at hf⟩,.inl (took_no t2),rfl⟩
theorem TkI.ok {k:Tak}(T:TkI c k)(C:Core c L S N h a m)(hu:m.used=false)(hL:L<4294967296)(hS:S<1000000000)(hN:N<1000000):TakeOk a m k:=by
 have hac:=C.ac
 have hS2:=C.ok.S2
 have hw:=(C.word (adr_lt14 C.ok).1).head (by rw[Jc C.ok 1 (Int.le_refl 0)];simp)
 obtain⟨t1,t2,t3,t4⟩:=T
 refine⟨(C.haz hu hL hS hN).ok,t1,fun _=>⟨by rw[hac];exact hw.1,by rw[hac];exact hw.2.1,by rw[hac];have:=hw.2.2;omega⟩,fun h1=>⟨(t3 h1).1.1,(t3 h1).1.2,by have:=(t3 h1).2.2;omega⟩,fun h1=>(t3 h1).2.1,fun h1=>by rw[hac];exact(t3 h1).2.2,fun h3=>(t4 h3).1,fun h3=>by have:=(t4 h3).2;omega⟩
/-! ## the calls -/
structure PoI (c:Cfg)(p:Pst):Prop where
 take:∃k,p.take=some k∧(p.stage=0→TkI c k)∧(p.stage=1∨p.stage=2∨p.stage=3→0≤Zg k∧Zg k<c.Sl∧p.link=Zg k+1)
 stage:p.stage=0∨p.stage=1∨p.stage=2∨p.stage=3∨p.stage=4
 saw:p.stage=3→0≤p.saw∧p.saw≤c.Sl
 ret:p.stage=4→∃r sc,p.retire=some r∧r.scan=some sc∧ScI c sc∧sc.thread=p.thread
structure UnI (c:Cfg)(ca:List Int)(u:Unr):Prop where
 stage:u.stage=0∨u.stage=1∨u.stage=2∨u.stage=3
 k:u.stage=0→0≤u.k∧u.k<c.Hz
 scan:u.stage=1→∃s,u.scan=some s∧ScI c s∧s.thread=u.thread
 flush:u.stage=2→∃p,u.flush=some p∧PInv c p∧p.thread=u.thread∧0<ca.length
structure RdI (c:Cfg)(r:Rdg):Prop where
 a0:base c 9≤r.addr
 a1:r.addr<base c 10
 stage:r.stage=0∨r.stage=1∨r.stage=2∨r.stage=3
 w:r.stage≠0→1≤r.w∧r.w≤c.Sl
def TI (c:Cfg)(t:Nat)(rdy:Bool)(hd:Int)(ca:List Int):Q3→Prop
 | .reg r=>r.thread=t∧0≤r.i∧r.i<c.R
 | .unr u=>u.thread=t∧0≤hd∧UnI c ca u
 | .pst p=>p.thread=t∧0≤hd∧(rdy=true→PoI c p)∧(rdy=false→p.take=none∧p.stage=0∧p.retire=none)
 | .rdg r=>RdI c r
 | .clr ad=>base c 9≤ad∧ad<base c 10
 | .scn s=>s.thread=t∧(rdy=false→0≤s.record∧s.record<c.R∧s.pending=[])∧(rdy=true→ScI c s)
theorem hz_adr {c:Cfg}(hc:c.Ok){r k:Int}(r0:0≤r)(r1:r<c.R)(k0:0≤k)(k1:k<c.Hz):base c 9≤base c 9+r*c.Hz+k∧base c 9+r*c.Hz+k<base c 10:=by
 have h1:=(bases hc).b10
 have h2:0≤r*c.Hz:=Int.mul_nonneg r0 (by omega)
 have h3:(r+1)*c.Hz≤c.R*c.Hz:=Int.mul_le_mul_of_nonneg_right (by omega) (by omega)
 have h4:(r+1)*c.Hz=r*c.Hz+c.Hz:=by rw[Int.add_mul,Int.one_mul]
 omega
theorem Core.hget (k:Core c L S N h a m){t:Nat}(ht:(t:Int)<c.T):h.held.getD t 0<c.R ∧ -1≤h.held.getD t 0:=by
 have hl:t<h.held.length:=by rw[k.held];omega
 have e:h.held[t]? = some (h.held.getD t 0):=by rw[Yb,Yd hl];rfl
 exact⟨(k.hin _ (Yc e)).2,(k.hin _ (Yc e)).1⟩
theorem made_inv {mv:Mv}{k:Q3}{t:Nat}(C:Core c L S N h a m)(ht:(t:Int)<c.T)(hk:Z6 (h,a) t mv=some k)(ca:List Int):TI c t false (h.held.getD t 0) ca k:=by
 have hc:=C.hc
 have hok:=C.ok
 have hR:=hok.R1
 have hH:=hok.H1
 obtain⟨r1,r0⟩:=C.hget ht
 unfold Z6 at hk
 simp only[hc]at hk
 generalize h.held.getD t 0=hd at hk r0 r1 ⊢
 split at hk
 ·split at hk
  ·cases hk;exact⟨rfl,by simp,by show(0:Int)<c.R;omega⟩
  ·cases hk
 ·split at hk
  ·cases hk
  ·rename_i hnn
   split at hk
   ·cases hk;exact⟨rfl,by omega,.inl rfl,fun _=>⟨by simp,by show(0:Int)<c.Hz;omega⟩,fun hf=>by simp at hf,fun hf=>by simp at hf⟩
   ·split at hk
    ·cases hk;exact⟨rfl,by omega,fun hf=>(by cases hf),fun _=>⟨rfl,rfl,rfl⟩⟩
    ·split at hk
     ·split at hk
      ·rename_i hb
       obtain⟨a1,a2⟩:=hz_adr hok (by omega) r1 hb.1 hb.2
       cases hk;exact⟨a1,a2,.inl rfl,fun hf=>absurd rfl hf⟩
      ·cases hk
     ·split at hk
      ·split at hk
       ·rename_i hb
        obtain⟨a1,a2⟩:=hz_adr hok (by omega) r1 hb.1 hb.2
        have:=(ZB hok 9).1
        cases hk;exact⟨by omega,by omega⟩
       ·cases hk
      ·cases hk;exact⟨rfl,fun _=>⟨by simp only[];omega,r1,rfl⟩,fun hf=>(by cases hf)⟩
structure Fr (t:Nat)(h h':Haz)(a a':Are):Prop where
 held:∀j,j≠t→h'.held[j]? = h.held[j]?
 caches:∀j,j≠t→a'.caches[j]? = a.caches[j]?
theorem Fr.refl (t:Nat)(h:Haz)(a:Are):Fr t h h a a:=⟨fun _ _=>rfl,fun _ _=>rfl⟩
structure StI (c:Cfg)(L S N:Nat)(t:Nat)(h:Haz)(a:Are)(r:Bool×(Haz×Are)×Mch×Q3):Prop where
 core:Core c L S N r.2.1.1 r.2.1.2 r.2.2.1
 fr:Fr t h r.2.1.1 a r.2.1.2
 fin:r.1=false→TI c t true (r.2.1.1.held.getD t 0) (r.2.1.2.caches.getD t []) r.2.2.2
theorem ready_core {i t:Nat}{cl:Cll}{se:Sea}{k:Q3}(C:Core c L S N h a m)(ht:(t:Int)<c.T)(I:TI c t false (h.held.getD t 0) (a.caches.getD t []) k) :
  StI c L (S+1) N t h a (Qz (h,a) m i t cl se k)∧(Qz (h,a) m i t cl se k).2.2.1.used=m.used:=by
 cases k with
 | reg r=>exact⟨⟨C.mono (by omega) (by omega) (by omega),.refl ..,fun _=>I⟩,rfl⟩
 | unr u=>exact⟨⟨C.mono (by omega) (by omega) (by omega),.refl ..,fun _=>I⟩,rfl⟩
 | rdg r=>exact⟨⟨C.mono (by omega) (by omega) (by omega),.refl ..,fun _=>I⟩,rfl⟩
 | clr ad=>exact⟨⟨C.mono (by omega) (by omega) (by omega),.refl ..,fun _=>I⟩,rfl⟩
 | scn s=>
  obtain⟨rfl',hr,_⟩:=I
  obtain⟨r0,r1,hp⟩:=hr rfl
  have hR:=ready_inv C r0 r1 (by omega) (by omega) hp
  exact⟨⟨C.mono (by omega) (by omega) (by omega),.refl ..,fun hf=>⟨by simp only[Qz];rw[hR.2];exact rfl',fun hf=>(by cases hf),fun _=>hR.1 hf⟩⟩,rfl⟩
 | pst p=>
  obtain⟨rfl',hd,_,hno⟩:=I
  obtain⟨n1,n2,n3⟩:=hno rfl
  have hu:∀(x:Tak),(Zj a m x).2.2.1.used=m.used:=by
   intro x;unfold Zj;simp only[];split<;>rfl
  have hR:=takeReady_core (k:=⟨p.thread,1,0,0,0,false⟩) C (by simp only[];omega) (by simp only[];omega)
  have hu:=hu ⟨p.thread,1,0,0,0,false⟩
  simp only[Qz]
  unfold ZL
  simp only[]
  generalize Zj a m ⟨p.thread,1,0,0,0,false⟩=r at hR hu ⊢
  obtain⟨r1,r2,r3,r4⟩:=r
  rcases hR with e|⟨e1,e2,e3,e4⟩
  ·cases e
   simp only[Yn,if_false]
   refine⟨⟨C.mono (by omega) (by omega) (by omega),.refl ..,fun _=>⟨rfl',hd,fun _=>⟨⟨_,rfl,fun _=>⟨.inl rfl,rfl,fun hf=>absurd rfl hf,fun hf=>by simp at hf⟩,fun hf => ?_⟩,.inl n2,fun hf => ?_,fun hf => ?_⟩,fun hf=>(by cases hf)⟩⟩,by first|trivial|rfl⟩<;>simp[n2]at hf
  ·simp only[]at e1 e2 e3 e4 hu
   subst e1
   simp only[if_true]
   unfold ZS
   rw[if_neg (by omega)]
   refine⟨⟨e2,⟨fun _ _=>rfl,fun j hj=>e4 j (by rw[rfl'];simpa using hj)⟩,fun _=>⟨rfl',hd,fun _=>⟨⟨_,rfl,fun hf=>by simp at hf,fun _=>⟨e3.1,e3.2,rfl⟩⟩,.inr (.inl rfl),fun hf=>by simp at hf,fun hf=>by simp at hf⟩,fun hf=>(by cases hf)⟩⟩,hu⟩
end
end
section
abbrev GW (τ:Type):=Wst (Haz×Are) τ
abbrev GI (τ:Type):=Nat→Bool→Int→List Int→τ→Prop
abbrev GR (τ:Type):=Bool×(Haz×Are)×Mch×τ
structure StG {τ:Type}(I:GI τ)(c:Cfg)(L S N:Nat)(t:Nat)(h:Haz)(a:Are)(r:GR τ):Prop where
 core:Core c L S N r.2.1.1 r.2.1.2 r.2.2.1
 fr:Fr t h r.2.1.1 a r.2.1.2
 fin:r.1=false→I t true (r.2.1.1.held.getD t 0) (r.2.1.2.caches.getD t []) r.2.2.2
structure GHalf {τ:Type}(I:GI τ)(c:Cfg)(L S N:Nat)(i t:Nat)(cl:Cll)(se:Sea)(h:Haz)(a:Are)(m:Mch)(r:GR τ):Prop extends StG I c L S N t h a r where
 frame:Z9 i t cl se m r.2.2.1
def QD {τ:Type}(y:GW τ)(t i:Nat)(se:Sea):Mch:=y.tick.m.prep t i y.m.moves se
def Q1 {τ:Type}(y:GW τ)(t i:Nat)(r:GR τ):GW τ:=⟨r.2.1,Qv r.2.2.1 t i y.m.moves (getC r.2.2.1 i) (getS r.2.2.1 t) r.1,y.tasks.set t (if r.1=true then none else some r.2.2.2)⟩
section
variable {τ:Type}{T:Tasks (Haz×Are) τ}{mkr:Haz×Are→Nat→Mv→Option τ}{I:GI τ}{c:Cfg}{n:Nat}{y y':GW τ}{K:Int→Option Value}
theorem Z9.trans' {i t:Nat}{cl:Cll}{s:Sea}{m0 m1 m2:Mch}{z k v:Int}(f:Z9 i t cl s m0 m1)(g:Z9 i t { cl with point:=z } { s with kind:=k,value:=v } m1 m2):Z9 i t cl s m0 m2:=by
 obtain⟨z1,hz1⟩:=f.calls
 obtain⟨k1,v1,hk1⟩:=f.seats
 obtain⟨z2,hz2⟩:=g.calls
 obtain⟨k2,v2,hk2⟩:=g.seats
 exact⟨g.cur.trans f.cur,g.vs.trans f.vs,g.vc.trans f.vc,g.kit.trans f.kit,g.moves.trans f.moves,g.now.trans f.now,g.thread.trans f.thread,
  ⟨z2,by rw[hz2,hz1,Yl]⟩,⟨k2,v2,by rw[hk2,hk1,Yl]⟩⟩
end
end
end Go.Proofs.YtefjbdajgakgpaaGreat
