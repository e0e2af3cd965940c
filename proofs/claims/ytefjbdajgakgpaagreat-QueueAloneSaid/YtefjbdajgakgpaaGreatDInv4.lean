import Derived.Test.YtefjbdajgakgpaaGreatDInv
set_option linter.all false
namespace Go.Proofs.YtefjbdajgakgpaaGreat
open Go.RowKit Hp
set_option maxRecDepth 100000
set_option maxHeartbeats 1000000
attribute [local irreducible] Go.Calls
section
structure ScI (c:Cfg)(s:Scn):Prop where
 rec0:0≤s.record
 rec1:s.record<c.R
 thr0:0≤s.thread
 thr1:s.thread<c.T
 stage:s.stage=0∨s.stage=1∨s.stage=2∨s.stage=3∨s.stage=5
 try_:s.stage≤2→0≤s.at_∧s.at_<c.R∧s.at_≠s.record
 pend:s.stage≤3→s.pending=[]
 look:s.stage=3→(0≤s.at_∧s.at_<c.R*c.Hz)∧s.hasMap=true∧∀k,0≤s.named k∧s.named k≤s.at_
 give:s.stage=5→∃p,s.give=some p∧PInv c p∧(∀z∈s.pending,0≤z∧z<c.Sl)∧s.pending.length<1000000
section
variable {c:Cfg}{L S N:Nat}{h:Haz}{a:Are}{m:Mch}{s:Scn}
theorem ScI.ok (I:ScI c s)(k:Core c L S N h a m)(hu:m.used=false)(hL:L<4294967296)(hS:S<1000000000)(hN:N<1000000):ScanOk h a m s:=by
 obtain⟨i1,i2,i3,i4,i5,i6,i7,i8,i9⟩:=I
 have hz:=k.haz hu hL hS hN
 have hok:=k.ok
 have hac:=k.ac
 have hb:=Qg hok
 obtain rfl:=k.hc
 refine⟨hz,i1,i2,i3,i4,i5,i6,?_,?_⟩
 ·intro h3
  obtain⟨⟨l1,l2⟩,l3,l4⟩:=i8 h3
  have hb9:=(ZD hok 9).1
  have h14:((base h.c 9+s.at_).toNat:Int)<base h.c 14:=by
   obtain⟨b1,b2,b8,b9,b10,b11,b12,b13,b14,rh,rh2⟩:=hb
   have:=hok.S1
   omega
  have hw:=(k.word h14).hz (by omega) (by have:=hb.b10;omega)
  have hS2:=hok.S2
  exact⟨⟨l1,l2⟩,l3,i7 (by omega),⟨hw.1,by omega⟩,fun z=>⟨(l4 z).1,by have:=(l4 z).2;have:=hb.rh2;omega⟩⟩
 ·intro h5
  obtain⟨p,p1,p2,p3,p4⟩:=i9 h5
  exact⟨p,p1,p2.pok k hu hL hS,by rw[hac];exact p3,p4⟩
theorem next_inv (k:Core c L S N h a m)(r0:0≤s.record)(r1:s.record<c.R)(t0:0≤s.thread)(t1:s.thread<c.T)(ha : -1≤s.at_)(hp:s.pending=[]) :
  ((Zy h s).1=false→ScI c (Zy h s).2)∧(Zy h s).2.thread=s.thread:=by
 have hb:=Qg k.ok
 obtain rfl:=k.hc
 unfold Zy
 simp only[]
 by_cases h1:(if s.at_+1=s.record then s.at_+2 else s.at_+1)<h.c.R
 ·rw[if_pos h1]
  refine⟨fun _=>⟨r0,r1,t0,t1,.inl rfl,fun _ => ?_,fun _=>hp,fun hf=>by simp at hf,fun hf=>by simp at hf⟩,rfl⟩
  simp only[]
  split at h1<;>rename_i h2
  ·rw[if_pos h2];omega
  ·rw[if_neg h2];omega
 ·rw[if_neg h1]
  split
  ·exact⟨fun hf=>(by cases hf),rfl⟩
  ·refine⟨fun _=>⟨r0,r1,t0,t1,.inr (.inr (.inr (.inl rfl))),fun hf=>by simp at hf,fun _=>hp,fun _=>⟨⟨by simp,?_⟩,rfl,fun z=>by simp⟩,fun hf=>by simp at hf⟩,rfl⟩
   have:=hb.rh
   show(0:Int)<h.c.R*h.c.Hz
   omega
theorem ready_inv (k:Core c L S N h a m)(r0:0≤s.record)(r1:s.record<c.R)(t0:0≤s.thread)(t1:s.thread<c.T)(hp:s.pending=[]) :
  ((ZF h s).1=false→ScI c (ZF h s).2)∧(ZF h s).2.thread=s.thread:=by
 unfold ZF
 exact next_inv (s:={ s with at_ := -1 }) k r0 r1 t0 t1 (by simp) hp
structure ScanInv (c:Cfg)(L S N:Nat)(h:Haz)(a:Are)(th:Int)(r:Bool×Haz×Are×Mch×Scn):Prop where
 core:Core c L S N r.2.1 r.2.2.1 r.2.2.2.1
 fin:r.1=false→ScI c r.2.2.2.2
 held:r.2.1.held=h.held
 caches:∀j,j≠th.toNat→r.2.2.1.caches[j]? = a.caches[j]?
 thr:r.2.2.2.2.thread=th
theorem take_list (k:Core c L S N h a m){r q:Int}(r0:0≤r)(r1:r<c.R)(q0:0≤q)(q1:q<c.R)(hne:q≠r) :
  Core c L S N { h with lists:=(h.lists.set r.toNat (h.lists.getD r.toNat []++h.lists.getD q.toNat [])).set q.toNat [] } a m:=by
 obtain⟨e1,_,e3⟩:=k.lget r0 r1
 obtain⟨f1,_,f3⟩:=k.lget q0 q1
 generalize h.lists.getD r.toNat []=x at e1 e3 ⊢
 generalize h.lists.getD q.toNat []=y at f1 f3 ⊢
 refine k.list _ (by simp only[List.length_set];exact k.lists) ?_ ?_
 ·have t1:=tot_set (x:=x++y) e1
  have t2:=tot_set (ls:=h.lists.set r.toNat (x++y)) (i:=q.toNat) (l:=y) (x:=[]) (by rw[ZT (by omega)];exact f1)
  have t3:=k.tot
  simp only[List.length_append,List.length_nil]at t1 t2
  omega
 ·intro l hl z hz
  rcases List.mem_or_eq_of_mem_set hl with hl|rfl
  ·rcases List.mem_or_eq_of_mem_set hl with hl|rfl
   ·exact k.ins l hl z hz
   ·rcases List.mem_append.1 hz with hz|hz
    ·exact e3 z hz
    ·exact f3 z hz
  ·simp at hz
theorem free_at (k:Core c L S N h a m){th:Int}(t0:0≤th)(t1:th<c.T)(pend:List Int)(g:Option Psh)(hin:∀z∈pend,0≤z∧z<c.Sl) :
  FreeInv c L (S+65) N h a th pend.length (Zu th pend g a m):=by
 have hC:=k.ok.C2
 have h1:=k.ok.C1
 have hg:=(k.cget t0 t1).2.1
 obtain⟨f1,f2,f3⟩:=free_core th t0 t1 pend g a m S (c.Ca.toNat-(a.caches.getD th.toNat []).length) k hin (by omega)
 exact⟨f1.mono (by omega) (by omega) (by omega),f2,f3⟩
theorem scan_core (k:Core c L S N h a m)(I:ScI c s)(hN:N<1000000):ScanInv c (L+1) (S+66) N h a s.thread (Zl h a m s):=by
 have hok:=k.ok
 have hb:=Qg hok
 obtain rfl:=k.hc
 obtain⟨i1,i2,i3,i4,i5,i6,i7,i8,i9⟩:=I
 unfold Zl
 by_cases s0:s.stage=0
 ·rw[if_pos s0]
  obtain⟨a0,a1,a2⟩:=i6 (by omega)
  have hN:=next_inv k i1 i2 i3 i4 (by omega) (i7 (by omega))
  unfold Jp
  simp only[]
  split
  ·exact⟨(k.load _ _).mono (by omega) (by omega) (by omega),hN.1,rfl,fun _ _=>rfl,hN.2⟩
  ·exact⟨(k.load _ _).mono (by omega) (by omega) (by omega),fun _=>⟨i1,i2,i3,i4,.inr (.inl rfl),fun _=>⟨a0,a1,a2⟩,fun _=>i7 (by omega),fun hf=>by simp at hf,fun hf=>by simp at hf⟩,rfl,fun _ _=>rfl,rfl⟩
 rw[if_neg s0]
 by_cases s1:s.stage=1
 ·rw[if_pos s1]
  obtain⟨a0,a1,a2⟩:=i6 (by omega)
  have hN:=next_inv k i1 i2 i3 i4 (by omega) (i7 (by omega))
  have hw:=wok_active hok a0 a1 1
  unfold QJ
  simp only[]
  split
  ·exact⟨(take_list (k.swap _ _ _ _ hw) i1 i2 a0 a1 a2).mono (by omega) (by omega) (by omega),fun _=>⟨i1,i2,i3,i4,.inr (.inr (.inl rfl)),fun _=>⟨a0,a1,a2⟩,fun _=>i7 (by omega),fun hf=>by simp at hf,fun hf=>by simp at hf⟩,rfl,fun _ _=>rfl,rfl⟩
  ·exact⟨(k.swap _ _ _ _ hw).mono (by omega) (by omega) (by omega),hN.1,rfl,fun _ _=>rfl,hN.2⟩
 rw[if_neg s1]
 by_cases s2:s.stage=2
 ·rw[if_pos s2]
  obtain⟨a0,a1,a2⟩:=i6 (by omega)
  have hN:=next_inv k i1 i2 i3 i4 (by omega) (i7 (by omega))
  have hw:=wok_active hok a0 a1 0
  unfold Jj
  exact⟨(k.store _ _ _ hw).mono (by omega) (by omega) (by omega),hN.1,rfl,fun _ _=>rfl,hN.2⟩
 rw[if_neg s2]
 by_cases s3:s.stage=3
 ·rw[if_pos s3]
  obtain⟨⟨a0,a1⟩,a2,a3⟩:=i8 s3
  have hp:=i7 (by omega)
  have hnm:∀z w,0≤Qi s.named z w∧Qi s.named z w≤s.at_+1:=by
   intro z w
   have:=a3 z
   have:=a3 w
   unfold Qi
   split<;>omega
  unfold QU
  dsimp only
  split
  ·rename_i hlt
   have hlt:s.at_+1<h.c.R*h.c.Hz:=hlt
   have hSI:ScI h.c { s with named:=Qi s.named (m.word (base h.c 9+s.at_).toNat-1),at_:=s.at_+1 } :=
    ⟨i1,i2,i3,i4,.inr (.inr (.inr (.inl s3))),fun hf=>by simp only[s3]at hf;omega,fun _=>hp,fun _=>⟨⟨by simp only[];omega,hlt⟩,a2,fun z=>hnm _ z⟩,fun hf=>by simp only[s3]at hf;omega⟩
   exact⟨(k.load _ _).mono (by omega) (by omega) (by omega),fun _=>hSI,rfl,fun _ _=>rfl,rfl⟩
  ·obtain⟨e1,e2,e3⟩:=k.lget i1 i2
   have k2:∀(u:Int),Core h.c (L+1) S N { h with lists:=h.lists.set s.record.toNat ((h.lists.getD s.record.toNat []).filter (QQ (Qi s.named u))) } a (m.load (base h.c 9+s.at_).toNat (m.word (base h.c 9+s.at_).toNat)):=by
    intro u
    refine(k.load _ _).list _ (by simp only[List.length_set];exact k.lists) ?_ ?_
    ·have t1:=tot_set (x:=(h.lists.getD s.record.toNat []).filter (QQ (Qi s.named u))) e1
     have t2:=List.length_filter_le (QQ (Qi s.named u)) (h.lists.getD s.record.toNat [])
     have t3:=k.tot
     omega
    ·intro l hl z hz
     rcases List.mem_or_eq_of_mem_set hl with hl|rfl
     ·exact k.ins l hl z hz
     ·exact e3 z (List.mem_filter.1 hz).1
   have k3:=k2 (m.word (base h.c 9+s.at_).toNat-1)
   simp only[Qq,QC,hp,List.nil_append]
   have F:=free_at k3 i3 i4 ((h.lists.getD s.record.toNat []).filter (Z5 (Qi s.named (m.word (base h.c 9+s.at_).toNat-1)))) s.give (fun z hz=>e3 z (List.mem_filter.1 hz).1)
   have hlen:=List.length_filter_le (Z5 (Qi s.named (m.word (base h.c 9+s.at_).toNat-1))) (h.lists.getD s.record.toNat [])
   generalize Zu s.thread ((h.lists.getD s.record.toNat []).filter (Z5 (Qi s.named (m.word (base h.c 9+s.at_).toNat-1)))) s.give a (m.load (base h.c 9+s.at_).toNat (m.word (base h.c 9+s.at_).toNat))=r at F ⊢
   refine⟨F.core.mono (by omega) (by omega) (by omega),?_,rfl,F.caches,rfl⟩
   intro hf
   obtain⟨⟨p,p1,p2⟩,p3,p4⟩:=F.fin hf
   simp only[]at hf
   rw[hf]
   exact⟨i1,i2,i3,i4,.inr (.inr (.inr (.inr rfl))),fun h2=>by simp[ZK]at h2,fun h2=>by simp[ZK]at h2,fun h2=>by simp[ZK]at h2,fun _=>⟨p,p1,p2,p3,by show r.2.1.length<_;omega⟩⟩
 rw[if_neg s3]
 obtain⟨p,p1,p2,p3,p4⟩:=i9 (by omega)
 have s5:s.stage=5:=by omega
 rw[p1]
 simp only[]
 obtain⟨q1,q2,q3,q4⟩:=push_core k p2
 unfold QK
 simp only[]
 split
 ·have F:=free_at q1 i3 i4 s.pending (some (Za a m p).2.2.2) p3
  generalize Zu s.thread s.pending (some (Za a m p).2.2.2) (Za a m p).2.1 (Za a m p).2.2.1=r at F ⊢
  refine⟨F.core.mono (by omega) (by omega) (by omega),?_,rfl,fun j hj=>(F.caches j hj).trans (by rw[q3]),rfl⟩
  intro hf
  obtain⟨⟨p',p1',p2'⟩,p3',p4'⟩:=F.fin hf
  simp only[]at hf
  rw[hf]
  exact⟨i1,i2,i3,i4,.inr (.inr (.inr (.inr rfl))),fun h2=>by simp[ZK]at h2,fun h2=>by simp[ZK]at h2,fun h2=>by simp[ZK]at h2,fun _=>⟨p',p1',p2',p3',by show r.2.1.length<_;omega⟩⟩
 ·rename_i hne
  have hf:(Za a m p).1=false:=by simpa using hne
  exact⟨q1.mono (by omega) (by omega) (by omega),fun _=>⟨i1,i2,i3,i4,.inr (.inr (.inr (.inr s5))),fun h2=>by simp only[s5]at h2;omega,fun h2=>by simp only[s5]at h2;omega,fun h2=>by simp only[s5]at h2;omega,fun _=>⟨_,rfl,q2 hf,p3,p4⟩⟩,rfl,fun j _=>by simp only[q3],rfl⟩
structure RetInv (c:Cfg)(L S N:Nat)(h:Haz)(a:Are)(th:Int)(r:Bool×Haz×Are×Mch×Ret):Prop where
 core:Core c L S N r.2.1 r.2.2.1 r.2.2.2.1
 fin:r.1=false→∃sc,r.2.2.2.2.scan=some sc∧ScI c sc∧sc.thread=th
 held:r.2.1.held=h.held
 caches:r.2.2.1.caches=a.caches
theorem retire_core {r:Ret}(k:Core c L S N h a m)(t0:0≤r.thread)(t1:r.thread<c.T)(s0:0≤r.slot)(s1:r.slot<c.Sl)(hh:0≤h.held.getD r.thread.toNat 0) :
  RetInv c L (S+1) (N+1) h a r.thread (Zr h a m r):=by
 obtain rfl:=k.hc
 have hl:r.thread.toNat<h.held.length:=by rw[k.held];omega
 have hr1:h.held.getD r.thread.toNat 0<h.c.R:=by
  have e:h.held[r.thread.toNat]? = some (h.held.getD r.thread.toNat 0):=by rw[Yb,Yd hl];rfl
  exact(k.hin _ (Yc e)).2
 generalize hrec:h.held.getD r.thread.toNat 0=rc at hh hr1
 obtain⟨e1,e2,e3⟩:=k.lget hh hr1
 have k1:Core h.c L (S+1) (N+1) { h with lists:=h.lists.set rc.toNat (h.lists.getD rc.toNat []++[r.slot]) } (a.shift r.slot.toNat m.thread 5) (m.shift r.slot (a.slots.getD r.slot.toNat ⟨0,0⟩).state 5):=by
  refine((k.mshift _ _ _).ashift _ _ _).list _ (by simp only[List.length_set];exact k.lists) ?_ ?_
  ·have t1:=tot_set (x:=h.lists.getD rc.toNat []++[r.slot]) e1
   have t3:=k.tot
   simp only[List.length_append,List.length_cons,List.length_nil]at t1
   omega
  ·intro l hl z hz
   rcases List.mem_or_eq_of_mem_set hl with hl|rfl
   ·exact k.ins l hl z hz
   ·rcases List.mem_append.1 hz with hz|hz
    ·exact e3 z hz
    ·simp at hz;subst hz;exact⟨s0,s1⟩
 unfold Zr
 rw[hrec]
 simp only[]
 split
 ·exact⟨k1,fun hf=>(by cases hf),rfl,rfl⟩
 ·have hR:=ready_inv (s:=⟨r.thread,rc,6,0,false,fun _=>0,[],none⟩) k1 hh hr1 t0 t1 rfl
  exact⟨k1,fun hf=>⟨_,rfl,hR.1 hf,hR.2⟩,rfl,rfl⟩
end
end
section
section
variable {c:Cfg}{L S N:Nat}{h:Haz}{a:Are}{m:Mch}
theorem Core.point (k:Core c L S N h a m)(i:Nat)(x:Cll)(z:Int):Core c L S N h a (m.point i x z):=k.of rfl rfl rfl rfl
theorem Core.answer (k:Core c L S N h a m)(i:Nat)(x:Sea)(y z:Int):Core c L S N h a (m.answer i x y z):=k.of rfl rfl rfl rfl
/-! ## taking -/
structure TkI (c:Cfg)(k:Tak):Prop where
 at0:k.at_=1∨k.at_=2∨k.at_=3
 taken:k.taken=false
 head:k.at_≠1→(0≤k.head∧k.head<18446744073709551616)∧1≤k.head%4294967296∧k.head%4294967296≤c.Sl
 next:k.at_=3→0≤k.next∧k.next≤c.Sl
theorem took_no {k:Tak}(h:k.taken=false):Zd k = -1:=by unfold Zd;simp[h]
theorem takeReady_core {k:Tak}(C:Core c L S N h a m)(t0:0≤k.thread)(t1:k.thread<c.T) :
  (Zf a m k=(false,a,m,k))∨((Zf a m k).1=true∧Core c L (S+1) N h (Zf a m k).2.1 (Zf a m k).2.2.1∧(0≤Zd (Zf a m k).2.2.2∧Zd (Zf a m k).2.2.2<c.Sl)∧∀j,j≠k.thread.toNat→(Zf a m k).2.1.caches[j]? = a.caches[j]?):=by
 obtain rfl:=C.ac
 obtain⟨g1,g2,g3⟩:=C.cget t0 t1
 unfold Zf
 simp only[]
 by_cases h0:(a.caches.getD k.thread.toNat []).length=0
 ·rw[if_pos h0];exact .inl rfl
 ·rw[if_neg h0]
  generalize a.caches.getD k.thread.toNat []=x at g1 g2 g3 h0 ⊢
  have hlt:x.length-1<x.length:=by omega
  have hm:x.getD (x.length-1) 0∈x:=by
   rw[Yb,Yd hlt];simp
  refine .inr ⟨rfl,((C.cache _ _ (by simp only[List.length_take];omega) (fun z hz=>g3 z (List.mem_of_mem_take hz))).ashift _ _ _).mshift _ _ _,?_,fun j hj=>ZT hj⟩
  exact g3 _ hm
theorem take_core {k:Tak}(C:Core c L S N h a m)(T:TkI c k) :
  Core c (L+1) (S+1) N h (Zh a m k).2.1 (Zh a m k).2.2.1∧((Zh a m k).1=false→TkI c (Zh a m k).2.2.2)∧(Zd (Zh a m k).2.2.2 = -1∨(0≤Zd (Zh a m k).2.2.2∧Zd (Zh a m k).2.2.2<c.Sl))∧(Zh a m k).2.1.caches=a.caches:=by
 have hok:=C.ok
 have hac:=C.ac
 obtain⟨t1,t2,t3,t4⟩:=T
 have hw:=(C.word (adr_lt14 hok).1).head (by rw[ZY hok 1 (Int.le_refl 0)];simp)
 have hS2:=hok.S2
 unfold Zh
 rw[hac]
 split
 ·refine⟨(C.load _ _).mono (by omega) (by omega) (by omega),fun hf => ?_,.inl (took_no t2),rfl⟩
  have hne:¬m.word (adr c 1 0)%4294967296=0:=by simpa using hf
  simp only[if_neg hne]
  exact⟨.inr (.inl rfl),t2,fun _=>⟨⟨hw.1,hw.2.1⟩,by show 1≤m.word (adr c 1 0)%4294967296;omega,hw.2.2⟩,fun hf=>by simp at hf⟩
 ·rename_i h1
  obtain⟨h3,h4,h5⟩:=t3 h1
  split
  ·refine⟨(C.load _ _).mono (by omega) (by omega) (by omega),fun _=>⟨.inr (.inr rfl),t2,fun _=>⟨h3,h4,h5⟩,fun _ => ?_⟩,.inl (took_no t2),rfl⟩
   have e:=ZY hok 10 (i:=k.head%4294967296-1) (by omega)
   have hb:=Qg hok
   have:=hok.R1
   have hlt:((adr c 10 (k.head%4294967296-1):Nat):Int)<base c 14:=by
    obtain⟨b1,b2,b8,b9,b10,b11,b12,b13,b14,rh,rh2⟩:=hb;omega
   exact(C.word hlt).next (by omega) (by have:=hb.b11;omega)
  ·have h6:=t4 (by omega)
   have hz:WOk c (adr c 1 0) ((k.head / 4294967296+1)%4294967296*4294967296+k.next):=wok_head hok ⟨by omega,by omega,by omega⟩
   simp only[]
   split
   ·refine⟨((C.swap _ _ _ _ hz).ashift _ _ _).mshift _ _ _,fun hf=>(by cases hf),.inr ?_,rfl⟩
    simp only[Jo,Zd,if_true]
    omega
   ·exact⟨(C.swap _ _ _ _ hz).mono (by omega) (by omega) (by omega),fun _=>⟨.inl rfl,t2,fun hf=>absurd rfl hf,fun hf=>by simp at hf⟩,.inl (took_no t2),rfl⟩
theorem TkI.ok {k:Tak}(T:TkI c k)(C:Core c L S N h a m)(hu:m.used=false)(hL:L<4294967296)(hS:S<1000000000)(hN:N<1000000):TakeOk a m k:=by
 have hac:=C.ac
 have hS2:=C.ok.S2
 have hw:=(C.word (adr_lt14 C.ok).1).head (by rw[ZY C.ok 1 (Int.le_refl 0)];simp)
 obtain⟨t1,t2,t3,t4⟩:=T
 refine⟨(C.haz hu hL hS hN).ok,t1,fun _=>⟨by rw[hac];exact hw.1,by rw[hac];exact hw.2.1,by rw[hac];have:=hw.2.2;omega⟩,fun h1=>⟨(t3 h1).1.1,(t3 h1).1.2,by have:=(t3 h1).2.2;omega⟩,fun h1=>(t3 h1).2.1,fun h1=>by rw[hac];exact(t3 h1).2.2,fun h3=>(t4 h3).1,fun h3=>by have:=(t4 h3).2;omega⟩
/-! ## the calls -/
structure PoI (c:Cfg)(p:Pst):Prop where
 take:∃k,p.take=some k∧(p.stage=0→TkI c k)∧(p.stage=1∨p.stage=2∨p.stage=3→0≤Zd k∧Zd k<c.Sl∧p.link=Zd k+1)
 stage:p.stage=0∨p.stage=1∨p.stage=2∨p.stage=3∨p.stage=4
 saw:p.stage=3→0≤p.saw∧p.saw≤c.Sl
 ret:p.stage=4→∃r sc,p.retire=some r∧r.scan=some sc∧ScI c sc∧sc.thread=p.thread
structure UnI (c:Cfg)(ca:List Int)(u:Unr):Prop where
 stage:u.stage=0∨u.stage=1∨u.stage=2∨u.stage=3
 k:u.stage=0→0≤u.k∧u.k<c.Hz
 scan:u.stage=1→∃s,u.scan=some s∧ScI c s∧s.thread=u.thread
 flush:u.stage=2→∃p,u.flush=some p∧PInv c p∧p.thread=u.thread∧0<ca.length
structure RdI (c:Cfg)(r:Rdg):Prop where
 a0:base c 9≤r.addr
 a1:r.addr<base c 10
 stage:r.stage=0∨r.stage=1∨r.stage=2∨r.stage=3
 w:r.stage≠0→1≤r.w∧r.w≤c.Sl
def TI (c:Cfg)(t:Nat)(rdy:Bool)(hd:Int)(ca:List Int):Z8→Prop
 | .reg r=>r.thread=t∧0≤r.i∧r.i<c.R
 | .unr u=>u.thread=t∧0≤hd∧UnI c ca u
 | .pst p=>p.thread=t∧0≤hd∧(rdy=true→PoI c p)∧(rdy=false→p.take=none∧p.stage=0∧p.retire=none)
 | .rdg r=>RdI c r
 | .clr ad=>base c 9≤ad∧ad<base c 10
 | .scn s=>s.thread=t∧(rdy=false→0≤s.record∧s.record<c.R∧s.pending=[])∧(rdy=true→ScI c s)
theorem hz_adr {c:Cfg}(hc:c.Ok){r k:Int}(r0:0≤r)(r1:r<c.R)(k0:0≤k)(k1:k<c.Hz):base c 9≤base c 9+r*c.Hz+k∧base c 9+r*c.Hz+k<base c 10:=by
 have h1:=(Qg hc).b10
 have h2:0≤r*c.Hz:=Int.mul_nonneg r0 (by omega)
 have h3:(r+1)*c.Hz≤c.R*c.Hz:=Int.mul_le_mul_of_nonneg_right (by omega) (by omega)
 have h4:(r+1)*c.Hz=r*c.Hz+c.Hz:=by rw[Int.add_mul,Int.one_mul]
 omega
theorem Core.hget (k:Core c L S N h a m){t:Nat}(ht:(t:Int)<c.T):h.held.getD t 0<c.R ∧ -1≤h.held.getD t 0:=by
 have hl:t<h.held.length:=by rw[k.held];omega
 have e:h.held[t]? = some (h.held.getD t 0):=by rw[Yb,Yd hl];rfl
 exact⟨(k.hin _ (Yc e)).2,(k.hin _ (Yc e)).1⟩
theorem made_inv {mv:Mv}{k:Z8}{t:Nat}(C:Core c L S N h a m)(ht:(t:Int)<c.T)(hk:Qr (h,a) t mv=some k)(ca:List Int):TI c t false (h.held.getD t 0) ca k:=by
 have hc:=C.hc
 have hok:=C.ok
 have hR:=hok.R1
 have hH:=hok.H1
 obtain⟨r1,r0⟩:=C.hget ht
 unfold Qr at hk
 simp only[hc]at hk
 generalize h.held.getD t 0=hd at hk r0 r1 ⊢
 split at hk
 ·split at hk
  ·cases hk;exact⟨rfl,by simp,by show(0:Int)<c.R;omega⟩
  ·cases hk
 ·split at hk
  ·cases hk
  ·rename_i hnn
   split at hk
   ·cases hk;exact⟨rfl,by omega,.inl rfl,fun _=>⟨by simp,by show(0:Int)<c.Hz;omega⟩,fun hf=>by simp at hf,fun hf=>by simp at hf⟩
   ·split at hk
    ·cases hk;exact⟨rfl,by omega,fun hf=>(by cases hf),fun _=>⟨rfl,rfl,rfl⟩⟩
    ·split at hk
     ·split at hk
      ·rename_i hb
       obtain⟨a1,a2⟩:=hz_adr hok (by omega) r1 hb.1 hb.2
       cases hk;exact⟨a1,a2,.inl rfl,fun hf=>absurd rfl hf⟩
      ·cases hk
     ·split at hk
      ·split at hk
       ·rename_i hb
        obtain⟨a1,a2⟩:=hz_adr hok (by omega) r1 hb.1 hb.2
        have:=(ZD hok 9).1
        cases hk;exact⟨by omega,by omega⟩
       ·cases hk
      ·cases hk;exact⟨rfl,fun _=>⟨by simp only[];omega,r1,rfl⟩,fun hf=>(by cases hf)⟩
structure Fr (t:Nat)(h h':Haz)(a a':Are):Prop where
 held:∀j,j≠t→h'.held[j]? = h.held[j]?
 caches:∀j,j≠t→a'.caches[j]? = a.caches[j]?
theorem Fr.refl (t:Nat)(h:Haz)(a:Are):Fr t h h a a:=⟨fun _ _=>rfl,fun _ _=>rfl⟩
structure StI (c:Cfg)(L S N:Nat)(t:Nat)(h:Haz)(a:Are)(r:Bool×(Haz×Are)×Mch×Z8):Prop where
 core:Core c L S N r.2.1.1 r.2.1.2 r.2.2.1
 fr:Fr t h r.2.1.1 a r.2.1.2
 fin:r.1=false→TI c t true (r.2.1.1.held.getD t 0) (r.2.1.2.caches.getD t []) r.2.2.2
theorem ready_core {i t:Nat}{cl:Cll}{se:Sea}{k:Z8}(C:Core c L S N h a m)(ht:(t:Int)<c.T)(I:TI c t false (h.held.getD t 0) (a.caches.getD t []) k) :
  StI c L (S+1) N t h a (Qw (h,a) m i t cl se k)∧(Qw (h,a) m i t cl se k).2.2.1.used=m.used:=by
 cases k with
 | reg r=>exact⟨⟨C.mono (by omega) (by omega) (by omega),.refl ..,fun _=>I⟩,rfl⟩
 | unr u=>exact⟨⟨C.mono (by omega) (by omega) (by omega),.refl ..,fun _=>I⟩,rfl⟩
 | rdg r=>exact⟨⟨C.mono (by omega) (by omega) (by omega),.refl ..,fun _=>I⟩,rfl⟩
 | clr ad=>exact⟨⟨C.mono (by omega) (by omega) (by omega),.refl ..,fun _=>I⟩,rfl⟩
 | scn s=>
  obtain⟨rfl',hr,_⟩:=I
  obtain⟨r0,r1,hp⟩:=hr rfl
  have hR:=ready_inv C r0 r1 (by omega) (by omega) hp
  exact⟨⟨C.mono (by omega) (by omega) (by omega),.refl ..,fun hf=>⟨by simp only[Qw];rw[hR.2];exact rfl',fun hf=>(by cases hf),fun _=>hR.1 hf⟩⟩,rfl⟩
 | pst p=>
  obtain⟨rfl',hd,_,hno⟩:=I
  obtain⟨n1,n2,n3⟩:=hno rfl
  have hu:∀(x:Tak),(Zf a m x).2.2.1.used=m.used:=by
   intro x;unfold Zf;simp only[];split<;>rfl
  have hR:=takeReady_core (k:=⟨p.thread,1,0,0,0,false⟩) C (by simp only[];omega) (by simp only[];omega)
  have hu:=hu ⟨p.thread,1,0,0,0,false⟩
  simp only[Qw]
  unfold ZM
  simp only[]
  generalize Zf a m ⟨p.thread,1,0,0,0,false⟩=r at hR hu ⊢
  obtain⟨r1,r2,r3,r4⟩:=r
  rcases hR with e|⟨e1,e2,e3,e4⟩
  ·cases e
   simp only[Yn,if_false]
   refine⟨⟨C.mono (by omega) (by omega) (by omega),.refl ..,fun _=>⟨rfl',hd,fun _=>⟨⟨_,rfl,fun _=>⟨.inl rfl,rfl,fun hf=>absurd rfl hf,fun hf=>by simp at hf⟩,fun hf => ?_⟩,.inl n2,fun hf => ?_,fun hf => ?_⟩,fun hf=>(by cases hf)⟩⟩,by first|trivial|rfl⟩<;>simp[n2]at hf
  ·simp only[]at e1 e2 e3 e4 hu
   subst e1
   simp only[if_true]
   unfold ZH
   rw[if_neg (by omega)]
   refine⟨⟨e2,⟨fun _ _=>rfl,fun j hj=>e4 j (by rw[rfl'];simpa using hj)⟩,fun _=>⟨rfl',hd,fun _=>⟨⟨_,rfl,fun hf=>by simp at hf,fun _=>⟨e3.1,e3.2,rfl⟩⟩,.inr (.inl rfl),fun hf=>by simp at hf,fun hf=>by simp at hf⟩,fun hf=>(by cases hf)⟩⟩,hu⟩
end
end
section
section
variable {c:Cfg}{L S N:Nat}{h:Haz}{a:Are}{m:Mch}
theorem reg_core {t:Nat}{se:Sea}{r:Reg}(C:Core c L S N h a m)(ht:r.thread=(t:Int))(i0:0≤r.i)(i1:r.i<c.R) :
  Core c (L+1) S N (Z4 h m t se r).2.1 a (Z4 h m t se r).2.2.1∧(∀j,j≠t→(Z4 h m t se r).2.1.held[j]? = h.held[j]?)∧((Z4 h m t se r).1=false→(Z4 h m t se r).2.2.2.thread=(t:Int)∧0≤(Z4 h m t se r).2.2.2.i∧(Z4 h m t se r).2.2.2.i<c.R):=by
 have hok:=C.ok
 obtain rfl:=C.hc
 have hw:=wok_active hok i0 i1 1
 unfold Z4
 simp only[]
 have hN:∀m',Core h.c (L+1) S N h a m'→Core h.c (L+1) S N (Qv h m' t se r).2.1 a (Qv h m' t se r).2.2.1∧(∀j,j≠t→(Qv h m' t se r).2.1.held[j]? = h.held[j]?)∧((Qv h m' t se r).1=false→(Qv h m' t se r).2.2.2.thread=(t:Int)∧0≤(Qv h m' t se r).2.2.2.i∧(Qv h m' t se r).2.2.2.i<h.c.R):=by
  intro m' k
  unfold Qv
  split
  ·exact⟨k,fun _ _=>rfl,fun _=>⟨ht,by simp only[];omega,by simp only[];omega⟩⟩
  ·exact⟨k.answer ..,fun _ _=>rfl,fun hf=>(by cases hf)⟩
 split
 ·split
  ·exact hN _ (C.load ..)
  ·exact⟨C.load ..,fun _ _=>rfl,fun _=>⟨ht,i0,i1⟩⟩
 ·split
  ·refine⟨((C.swap _ _ _ _ hw).answer ..).hold _ _ ⟨by omega,i1⟩,fun j hj=>ZT (by rw[ht];simpa using hj),fun hf=>(by cases hf)⟩
  ·exact hN _ (C.swap _ _ _ _ hw)
theorem empty_inv {u:Unr}(C:Core c L S N h a m){t:Nat}(hu:u.thread=(t:Int))(ht:(t:Int)<c.T):UnI c (a.caches.getD t []) (QA a u):=by
 obtain⟨g1,g2,g3⟩:=C.cget (t:=(t:Int)) (by omega) ht
 rw[Yo]at g1 g2 g3
 have e:u.thread.toNat=t:=by omega
 unfold QA QH
 simp only[e]
 generalize a.caches.getD t []=x at g1 g2 g3 ⊢
 by_cases h0:x.length=0
 ·rw[if_pos h0]
  simp only[if_true]
  exact⟨.inr (.inr (.inr rfl)),fun hf=>by simp at hf,fun hf=>by simp at hf,fun hf=>by simp at hf⟩
 ·rw[if_neg h0]
  simp only[Yn,if_false]
  have hlt:x.length-1<x.length:=by omega
  have hm:x.getD (x.length-1) 0∈x:=by
   rw[Yb,Yd hlt];exact List.getElem_mem hlt
  exact⟨.inr (.inr (.inl rfl)),fun hf=>by simp at hf,fun hf=>by simp at hf,fun _=>⟨_,rfl,⟨(g3 _ hm).1,(g3 _ hm).2,.inl rfl,fun hf=>absurd rfl hf⟩,rfl,by omega⟩⟩
theorem flush_core {p:Psh}(C:Core c L S N h a m)(P:PInv c p){t:Nat}(hu:p.thread=(t:Int))(ht:(t:Int)<c.T)(hl:0<(a.caches.getD t []).length) :
  Core c (L+1) (S+1) N h (ZC a m p).2.1 (ZC a m p).2.2.1∧(∀j,j≠t→(ZC a m p).2.1.caches[j]? = a.caches[j]?) ∧
  ((ZC a m p).1=false→PInv c (ZC a m p).2.2.2∧(ZC a m p).2.2.2.thread=(t:Int)∧0<((ZC a m p).2.1.caches.getD t []).length):=by
 obtain⟨q1,q2,q3,q4⟩:=push_core C P
 obtain⟨g1,g2,g3⟩:=C.cget (t:=(t:Int)) (by omega) ht
 rw[Yo]at g1 g2 g3
 have hlt:=(List.getElem?_eq_some_iff.1 g1).1
 unfold ZC
 split
 ·rename_i hf
  refine⟨q1,fun j _=>by rw[q3],fun _=>⟨q2 hf,by rw[q4,hu],by rw[q3];exact hl⟩⟩
 ·have hx3:(Za a m p).2.2.2.thread=p.thread:=q4
  have e:p.thread.toNat=t:=by omega
  simp only[e]
  generalize a.caches.getD t []=x at g1 g2 g3 hl ⊢
  have k2:Core c (L+1) (S+1) N h { (Za a m p).2.1 with caches:=a.caches.set t (x.take (x.length-1)) } (Za a m p).2.2.1:=by
   have:=q1.cache t (x.take (x.length-1)) (by simp only[List.length_take];omega) (fun z hz=>g3 z (List.mem_of_mem_take hz))
   rw[q3]at this
   exact this
  split
  ·exact⟨k2,fun j hj=>ZT hj,fun hf=>(by cases hf)⟩
  ·refine⟨k2,fun j hj=>ZT hj,fun _ => ?_⟩
   have hy:(x.take (x.length-1)).length=x.length-1:=by simp
   have hlt2:(x.take (x.length-1)).length-1<(x.take (x.length-1)).length:=by omega
   have hm:(x.take (x.length-1)).getD ((x.take (x.length-1)).length-1) 0∈x.take (x.length-1):=by
    rw[Yb,Yd hlt2];exact List.getElem_mem hlt2
   have hr:=g3 _ (List.mem_of_mem_take hm)
   refine⟨⟨hr.1,hr.2,.inl rfl,fun hf=>absurd rfl hf⟩,by rw[q4,hu],?_⟩
   simp only[Yb,Ye hlt]
   simp;omega
theorem unr_core {t:Nat}{u:Unr}(C:Core c L S N h a m)(hN:N<1000000)(ht:(t:Int)<c.T)(hu:u.thread=(t:Int))(hd:0≤h.held.getD t 0)(I:UnI c (a.caches.getD t []) u) :
  Core c (L+1) (S+66) N (Zs h a m u).2.1 (Zs h a m u).2.2.1 (Zs h a m u).2.2.2.1∧Fr t h (Zs h a m u).2.1 a (Zs h a m u).2.2.1 ∧
  ((Zs h a m u).1=false→(Zs h a m u).2.2.2.2.thread=(t:Int)∧0≤(Zs h a m u).2.1.held.getD t 0∧UnI c ((Zs h a m u).2.2.1.caches.getD t []) (Zs h a m u).2.2.2.2):=by
 have hok:=C.ok
 obtain rfl:=C.hc
 obtain⟨r1,_⟩:=C.hget ht
 obtain⟨i1,i2,i3,i4⟩:=I
 unfold Zs
 have e:u.thread.toNat=t:=by omega
 simp only[e]
 generalize hrc:h.held.getD t 0=rc at hd r1 ⊢
 by_cases s0:u.stage=0
 ·rw[if_pos s0]
  obtain⟨k0,k1⟩:=i2 s0
  have hz:=hz_adr hok hd r1 k0 k1
  have hb:=(ZD hok 9).1
  have hw:WOk h.c ((base h.c 9+rc*h.c.Hz+u.k).toNat:Int) 0:=wok_hz hok (by omega) (by omega) ⟨by omega,by have:=hok.S1;omega⟩
  have C1:=C.store _ (m.word (base h.c 9+rc*h.c.Hz+u.k).toNat) _ hw
  split
  ·rename_i hlt
   exact⟨C1.mono (by omega) (by omega) (by omega),.refl ..,fun _=>⟨hu,by rw[hrc];exact hd,⟨.inl s0,fun _=>⟨by simp only[];omega,hlt⟩,fun hf=>by simp only[s0]at hf;omega,fun hf=>by simp only[s0]at hf;omega⟩⟩⟩
  ·have hR:=ready_inv (s:=⟨u.thread,rc,6,0,false,fun _=>0,[],none⟩) C1 hd r1 (by simp only[];omega) (by simp only[];omega) rfl
   split
   ·exact⟨C1.mono (by omega) (by omega) (by omega),.refl ..,fun _=>⟨hu,by rw[hrc];exact hd,empty_inv C1 hu ht⟩⟩
   ·rename_i hf
    exact⟨C1.mono (by omega) (by omega) (by omega),.refl ..,fun _=>⟨hu,by rw[hrc];exact hd,⟨.inr (.inl rfl),fun hf=>by simp at hf,fun _=>⟨_,rfl,hR.1 (by simpa using hf),hR.2⟩,fun hf=>by simp at hf⟩⟩⟩
 rw[if_neg s0]
 by_cases s1:u.stage=1
 ·rw[if_pos s1]
  obtain⟨s,e1,e2,e3⟩:=i3 s1
  rw[e1]
  simp only[]
  have F:=scan_core C e2 hN
  generalize Zl h a m s=r at F ⊢
  obtain⟨f1,f2,f3,f4,f5⟩:=F
  have hfr:Fr t h r.2.1 a r.2.2.1:=⟨fun j _=>by rw[f3],fun j hj=>f4 j (by rw[e3,hu];simpa using hj)⟩
  split
  ·exact⟨f1,hfr,fun _=>⟨hu,by rw[f3,hrc];exact hd,empty_inv f1 hu ht⟩⟩
  ·rename_i hf
   exact⟨f1,hfr,fun _=>⟨hu,by rw[f3,hrc];exact hd,⟨.inr (.inl s1),fun hf=>by simp only[s1]at hf;omega,fun _=>⟨_,rfl,f2 (by simpa using hf),by rw[f5,e3]⟩,fun hf=>by simp only[s1]at hf;omega⟩⟩⟩
 rw[if_neg s1]
 by_cases s2:u.stage=2
 ·rw[if_pos s2]
  obtain⟨p,e1,e2,e3,e4⟩:=i4 s2
  rw[e1]
  simp only[]
  obtain⟨f1,f2,f3⟩:=flush_core C e2 (e3.trans hu) ht e4
  generalize ZC a m p=r at f1 f2 f3 ⊢
  refine⟨f1.mono (by omega) (by omega) (by omega),⟨fun _ _=>rfl,f2⟩,fun _=>⟨hu,by rw[hrc];exact hd,?_⟩⟩
  by_cases hf:r.1=true
  ·simp only[if_pos hf]
   exact⟨.inr (.inr (.inr rfl)),fun hf=>by simp at hf,fun hf=>by simp at hf,fun hf=>by simp at hf⟩
  ·simp only[if_neg hf]
   obtain⟨g1,g2,g3⟩:=f3 (by simpa using hf)
   exact⟨.inr (.inr (.inl rfl)),fun hf=>by simp at hf,fun hf=>by simp at hf,fun _=>⟨_,rfl,g1,g2.trans hu.symm,g3⟩⟩
 rw[if_neg s2]
 exact⟨((C.store _ _ _ (wok_active hok hd r1 0)).hold t (-1) ⟨by omega,by have:=hok.R1;omega⟩).mono (by omega) (by omega) (by omega),⟨fun j hj=>ZT hj,fun _ _=>rfl⟩,fun hf=>(by cases hf)⟩
theorem read_core {i t:Nat}{x:Cll}{se:Sea}{r:Rdg}(C:Core c L S N h a m)(I:RdI c r) :
  Core c (L+1) S N h a (ZZ h m i t x se r).2.1∧((ZZ h m i t x se r).1=false→RdI c (ZZ h m i t x se r).2.2):=by
 have hok:=C.ok
 have hc:=C.hc
 obtain⟨i1,i2,i3,i4⟩:=I
 have hw:=(C.word (adr_lt14 hok).2).cell (by rw[ZY hok 2 (Int.le_refl 0)];simp)
 have hb:=(ZD hok 9).1
 have hS:∀m',Core c (L+1) S N h a m'→Core c (L+1) S N h a (Qf m' i t x se r (m.word (adr c 2 0))).2.1∧((Qf m' i t x se r (m.word (adr c 2 0))).1=false→RdI c (Qf m' i t x se r (m.word (adr c 2 0))).2.2):=by
  intro m' k
  unfold Qf
  split
  ·exact⟨(k.point ..).answer ..,fun hf=>(by cases hf)⟩
  ·exact⟨k,fun _=>⟨i1,i2,.inr (.inl rfl),fun _=>⟨by simp only[];omega,hw.2⟩⟩⟩
 unfold ZZ
 rw[hc]
 simp only[]
 split
 ·exact hS _ (C.load ..)
 ·rename_i s0
  have hw2:=i4 s0
  split
  ·refine⟨C.store _ _ _ (wok_hz hok (by omega) (by omega) ⟨by omega,hw2.2⟩),fun _=>⟨i1,i2,.inr (.inr (.inl rfl)),fun _=>hw2⟩⟩
  ·split
   ·split
    ·exact⟨C.load ..,fun _=>⟨i1,i2,.inr (.inr (.inr rfl)),fun _=>hw2⟩⟩
    ·exact hS _ (C.load ..)
   ·exact⟨((C.load ..).point ..).answer ..,fun hf=>(by cases hf)⟩
theorem took_core {i t:Nat}{x:Cll}{se:Sea}{p:Pst}{k:Tak}(C:Core c L S N h a m)(hp:p.take=some k)(hk:Zd k = -1∨(0≤Zd k∧Zd k<c.Sl)) :
  Core c L S N h a (ZH m i t x se p k).2.1∧(ZH m i t x se p k).2.2.thread=p.thread∧((ZH m i t x se p k).1=false→PoI c (ZH m i t x se p k).2.2):=by
 unfold ZH
 split
 ·exact⟨(C.point ..).answer ..,rfl,fun hf=>(by cases hf)⟩
 ·exact⟨C,rfl,fun _=>⟨⟨k,hp,fun hf=>by simp at hf,fun _=>⟨by omega,by omega,rfl⟩⟩,.inr (.inl rfl),fun hf=>by simp at hf,fun hf=>by simp at hf⟩⟩
structure PostI (c:Cfg)(L S N:Nat)(t:Nat)(h:Haz)(a:Are)(r:Bool×Haz×Are×Mch×Pst):Prop where
 core:Core c L S N r.2.1 r.2.2.1 r.2.2.2.1
 held:r.2.1.held=h.held
 caches:∀j,j≠t→r.2.2.1.caches[j]? = a.caches[j]?
 fin:r.1=false→r.2.2.2.2.thread=(t:Int)∧PoI c r.2.2.2.2
theorem done_core {i t:Nat}{x:Cll}{se:Sea}{p:Pst}{k:Tak}{sl0:Int}(C:Core c L S N h a m)(ht:(t:Int)<c.T)(hp:p.take=some k)(hu:p.thread=(t:Int))(hd:0≤h.held.getD t 0)(hs:p.saw≤c.Sl) :
  PostI c L (S+3) (N+1) t h a (Je h a m i t x se p sl0):=by
 unfold Je
 simp only[]
 have C1:=(((C.point i x m.now).answer t se 1 0).ashift sl0.toNat m.thread 3).mshift sl0 (a.slots.getD sl0.toNat ⟨0,0⟩).state 3
 split
 ·exact⟨C1.mono (by omega) (by omega) (by omega),rfl,fun _ _=>rfl,fun hf=>(by cases hf)⟩
 ·rename_i hn
  have C2:=(C1.ashift (p.saw-1).toNat m.thread 4).mshift (p.saw-1) ((a.shift sl0.toNat m.thread 3).slots.getD (p.saw-1).toNat ⟨0,0⟩).state 4
  have R:=retire_core (r:=⟨p.thread,p.saw-1,none⟩) C2 (by simp only[];omega) (by simp only[];omega) (by simp only[];omega) (by simp only[];omega) (by simp only[hu,Yo];exact hd)
  generalize Zr h _ _ ⟨p.thread,p.saw-1,none⟩=r at R ⊢
  obtain⟨q1,q2,q3,q4⟩:=R
  refine⟨q1,q3,fun j _=>by rw[q4];rfl,fun hf => ?_⟩
  obtain⟨sc,e1,e2,e3⟩:=q2 hf
  exact⟨hu,⟨⟨k,hp,fun hf=>by simp at hf,fun hf=>by simp at hf⟩,.inr (.inr (.inr (.inr rfl))),fun hf=>by simp at hf,fun _=>⟨_,sc,rfl,e1,e2,e3⟩⟩⟩
theorem post_core {i t:Nat}{x:Cll}{se:Sea}{p:Pst}(C:Core c L S N h a m)(hN:N<1000000)(ht:(t:Int)<c.T)(hu:p.thread=(t:Int))(hd:0≤h.held.getD t 0)(I:PoI c p) :
  PostI c (L+1) (S+66) (N+1) t h a (ZP h a m i t x se p):=by
 have hok:=C.ok
 have hc:=C.hc
 obtain⟨⟨k,hk,k0,k1⟩,i2,i3,i4⟩:=I
 have hw:=(C.word (adr_lt14 hok).2).cell (by rw[ZY hok 2 (Int.le_refl 0)];simp)
 unfold ZP
 rw[hk,hc]
 simp only[]
 by_cases s0:p.stage=0
 ·rw[if_pos s0]
  obtain⟨e1,e2,e3,e4⟩:=take_core C (k0 s0)
  generalize Zh a m k=r at e1 e2 e3 e4 ⊢
  obtain⟨f1,f2,f3⟩:=took_core (i:=i) (t:=t) (x:=x) (se:=se) (p:={ p with take:=some r.2.2.2 }) e1 rfl e3
  split
  ·exact⟨f1.mono (by omega) (by omega) (by omega),rfl,fun j _=>by rw[e4],fun hf=>⟨f2.trans hu,f3 hf⟩⟩
  ·rename_i hf
   exact⟨e1.mono (by omega) (by omega) (by omega),rfl,fun j _=>by rw[e4],fun _=>⟨hu,⟨⟨_,rfl,fun _=>e2 (by simpa using hf),fun hf=>by simp only[s0]at hf;omega⟩,.inl s0,fun hf=>by simp only[s0]at hf;omega,fun hf=>by simp only[s0]at hf;omega⟩⟩⟩
 rw[if_neg s0]
 by_cases s1:p.stage=1
 ·rw[if_pos s1]
  obtain⟨g1,g2,g3⟩:=k1 (.inl s1)
  exact⟨(C.store _ _ _ (wok_value hok g1 g2 _)).mono (by omega) (by omega) (by omega),rfl,fun _ _=>rfl,fun _=>⟨hu,⟨⟨k,rfl,fun hf=>by simp at hf,fun _=>⟨g1,g2,g3⟩⟩,.inr (.inr (.inl rfl)),fun hf=>by simp at hf,fun hf=>by simp at hf⟩⟩⟩
 rw[if_neg s1]
 by_cases s2:p.stage=2
 ·rw[if_pos s2]
  obtain⟨g1,g2,g3⟩:=k1 (.inr (.inl s2))
  exact⟨(C.load _ _).mono (by omega) (by omega) (by omega),rfl,fun _ _=>rfl,fun _=>⟨hu,⟨⟨k,rfl,fun hf=>by simp at hf,fun _=>⟨g1,g2,g3⟩⟩,.inr (.inr (.inr (.inl rfl))),fun _=>hw,fun hf=>by simp at hf⟩⟩⟩
 rw[if_neg s2]
 by_cases s3:p.stage=3
 ·rw[if_pos s3]
  obtain⟨g1,g2,g3⟩:=k1 (.inr (.inr s3))
  have hz:WOk c (adr c 2 0) p.link:=wok_cell hok (by omega)
  have hsw:=i3 s3
  split
  ·have D:=done_core (i:=i) (t:=t) (x:=x) (se:=se) (p:=p) (sl0:=Zd k) (C.swap (adr c 2 0) (m.word (adr c 2 0)) p.saw p.link hz) ht hk hu hd hsw.2
   exact⟨D.core.mono (by omega) (by omega) (by omega),D.held,D.caches,D.fin⟩
  ·exact⟨(C.swap _ _ _ _ hz).mono (by omega) (by omega) (by omega),rfl,fun _ _=>rfl,fun _=>⟨hu,⟨⟨k,rfl,fun hf=>by simp at hf,fun _=>⟨g1,g2,g3⟩⟩,.inr (.inr (.inl rfl)),fun hf=>by simp at hf,fun hf=>by simp at hf⟩⟩⟩
 rw[if_neg s3]
 have s4:p.stage=4:=by rcases i2 with h|h|h|h|h<;>first|exact absurd h s0|exact absurd h s1|exact absurd h s2|exact absurd h s3|exact h
 obtain⟨r,sc,e1,e2,e3,e4⟩:=i4 s4
 rw[e1]
 simp only[e2]
 have F:=scan_core C e3 hN
 generalize Zl h a m sc=q at F ⊢
 obtain⟨f1,f2,f3,f4,f5⟩:=F
 refine⟨f1.mono (by omega) (by omega) (by omega),f3,fun j hj=>f4 j (by rw[e4,hu];simpa using hj),fun hf=>⟨hu,⟨⟨k,rfl,fun hf=>by simp only[s4]at hf;omega,fun hf=>by simp only[s4]at hf;omega⟩,.inr (.inr (.inr (.inr s4))),fun hf=>by simp only[s4]at hf;omega,fun _=>⟨_,_,rfl,rfl,f2 hf,by rw[f5,e4]⟩⟩⟩⟩
theorem step_core {i t:Nat}{x:Cll}{se:Sea}{k:Z8}(C:Core c L S N h a m)(hN:N<1000000)(ht:(t:Int)<c.T)(I:TI c t true (h.held.getD t 0) (a.caches.getD t []) k) :
  StI c (L+1) (S+66) (N+1) t h a (ZQ (h,a) m i t x se k):=by
 have hok:=C.ok
 cases k with
 | reg r=>
  obtain⟨i1,i2,i3⟩:=I
  obtain⟨f1,f2,f3⟩:=reg_core (se:=se) C i1 i2 i3
  exact⟨f1.mono (by omega) (by omega) (by omega),⟨f2,fun _ _=>rfl⟩,f3⟩
 | unr u=>
  obtain⟨i1,i2,i3⟩:=I
  obtain⟨f1,f2,f3⟩:=unr_core C hN ht i1 i2 i3
  exact⟨f1.mono (by omega) (by omega) (by omega),f2,f3⟩
 | rdg r=>
  obtain⟨f1,f2⟩:=read_core (i:=i) (t:=t) (x:=x) (se:=se) C I
  exact⟨f1.mono (by omega) (by omega) (by omega),.refl ..,f2⟩
 | clr ad=>
  obtain⟨i1,i2⟩:=I
  exact⟨(C.store _ _ _ (wok_hz hok i1 i2 ⟨by omega,by have:=hok.S1;omega⟩)).mono (by omega) (by omega) (by omega),.refl ..,fun hf=>(by cases hf)⟩
 | scn s=>
  obtain⟨i1,i2,i3⟩:=I
  have F:=scan_core C (i3 rfl) hN
  obtain⟨f1,f2,f3,f4,f5⟩:=F
  exact⟨f1.mono (by omega) (by omega) (by omega),⟨fun j _=>by simp only[ZQ];rw[f3],fun j hj=>f4 j (by rw[i1];simpa using hj)⟩,fun hf=>⟨by simp only[ZQ];rw[f5,i1],fun hf=>(by cases hf),fun _=>f2 hf⟩⟩
 | pst p=>
  obtain⟨i1,i2,i3,_⟩:=I
  obtain⟨f1,f2,f3,f4⟩:=post_core (i:=i) (x:=x) (se:=se) C hN ht i1 i2 (i3 rfl)
  exact⟨f1,⟨fun j _=>by simp only[ZQ];rw[f2],f3⟩,fun hf=>⟨(f4 hf).1,by simp only[ZQ];rw[f2];exact i2,fun _=>(f4 hf).2,fun hf=>(by cases hf)⟩⟩
end
end
end Go.Proofs.YtefjbdajgakgpaaGreat
