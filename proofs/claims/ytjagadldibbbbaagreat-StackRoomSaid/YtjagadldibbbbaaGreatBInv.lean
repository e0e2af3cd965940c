/-
  What is true of hazards, arena and memory behind any moves.
-/
import Derived.Test.YtjagadldibbbbaaGreatBMove
set_option linter.all false
namespace Go.Proofs.YtjagadldibbbbaaGreat
open Go.RowKit Hp
set_option maxRecDepth 100000
set_option maxHeartbeats 1000000
attribute [local irreducible] Go.Calls
def tot:List (List Int)→Nat
 | []=>0
 | l::r=>l.length+tot r
theorem tot_get:∀ {ls:List (List Int)} {i:Nat} {l:List Int},ls[i]? = some l→l.length≤tot ls
 | [],_,_,h=>by simp at h
 | a::r,0,l,h=>by simp at h;subst h;simp only[tot];omega
 | a::r,i+1,l,h=>by
  simp only[Ue]at h
  have:=tot_get h
  simp only[tot];omega
theorem tot_mem {ls:List (List Int)}{l:List Int}(h:l∈ls):l.length≤tot ls:=by
 obtain⟨i,hi⟩:=List.getElem?_of_mem h
 exact tot_get hi
theorem tot_set:∀ {ls:List (List Int)} {i:Nat} {l x:List Int},ls[i]? = some l→tot (ls.set i x)+l.length=tot ls+x.length
 | [],_,_,_,h=>by simp at h
 | a::r,0,l,x,h=>by simp at h;subst h;simp only[Uz,tot];omega
 | a::r,i+1,l,x,h=>by
  simp only[Ue]at h
  have:=tot_set (x:=x) h
  simp only[Uc,tot];omega
structure Bases (c:Cfg):Prop where
 b1:base c 1=0
 b2:base c 2=1
 b8:7≤base c 8
 b9:base c 9=base c 8+c.R
 b10:base c 10=base c 9+c.R*c.Hz
 b11:base c 11=base c 10+c.Sl
 b12:base c 12=base c 11+c.Sl
 b13:base c 13=base c 12+c.Sl
 b14:base c 14=base c 13+c.Sl
 rh:3≤c.R*c.Hz
 rh2:c.R*c.Hz≤128
 b3:base c 3=2
theorem bases {c:Cfg}(h:c.Ok):Bases c:=by
 have e7:base c 8=base c 7+c.Bu:=rfl
 have e8:base c 7=6:=by simp[base,many]
 have:=h.B1
 refine⟨rfl,by simp[base,many],by omega,rfl,rfl,rfl,rfl,rfl,rfl,?_,h.rh.2,by simp[base,many]⟩
 have h1:=h.R1
 have h2:=h.H1
 calc (3:Int)=1*3:=rfl
  _≤c.R*c.Hz:=Int.mul_le_mul h1 h2 (by omega) (by omega)
structure WOk (c:Cfg)(k:Int)(u:Int):Prop where
 head:k=base c 1→0≤u∧u<18446744073709551616∧u%4294967296≤c.Sl
 cell:k=base c 2→0≤u∧u≤c.Sl
 hz:base c 9≤k→k<base c 10→0≤u∧u≤c.Sl
 next:base c 10≤k→k<base c 11→0≤u∧u≤c.Sl
 top:k=base c 3→0≤u∧u≤c.Sl
 link:base c 13≤k→k<base c 14→0≤u∧u≤c.Sl
structure Core (c:Cfg)(L S N:Nat)(h:Haz)(a:Are)(m:Mch):Prop where
 ok:c.Ok
 hc:h.c=c
 ac:a.c=c
 words:m.mem.words.length=(base c 14).toNat
 wok:∀(k:Nat) (u:Int),m.mem.words[k]? = some u→WOk c k u
 log:m.mem.log.length≤L
 ahead:m.mem.ahead.length≤L
 shifts:m.shifts.length≤S
 slots:a.slots.length=c.Sl.toNat
 held:h.held.length=c.T.toNat
 hin:∀r∈h.held,-1≤r∧r<c.R
 lists:h.lists.length=c.R.toNat
 tot:tot h.lists≤N
 ins:∀l∈h.lists,∀z∈l,0≤z∧z<c.Sl
 caches:a.caches.length=c.T.toNat
 clens:∀x∈a.caches,(x.length:Int)≤c.Ca
 cins:∀x∈a.caches,∀z∈x,0≤z∧z<c.Sl
section
variable {c:Cfg}{L S N:Nat}{h:Haz}{a:Are}{m:Mch}
theorem Core.haz (k:Core c L S N h a m)(hu:m.used=false)(hL:L<4294967296)(hS:S<1000000000)(hN:N<1000000):HazOk h a m:=by
 obtain⟨k1,rfl,k3,k4,k5,k6,k7,k8,k9,k10,k11,k12,k13,k14,k15,k16,k17⟩:=k
 have hC:=k1.C2
 exact⟨⟨by rw[k3];exact k1,hu,by rw[k3];exact k4,by omega,by omega,by omega,by rw[k3];exact k9⟩,k3.symm,k10,k11,k12,
  fun l hl=>by have:=tot_mem hl;omega,by rw[k3];exact k14,by rw[k3];exact k15,fun x hx=>by have:=k16 x hx;omega,by rw[k3];exact k17,by omega⟩
theorem Core.mono (k:Core c L S N h a m){L' S' N':Nat}(hL:L≤L')(hS:S≤S')(hN:N≤N'):Core c L' S' N' h a m:=
 ⟨k.ok,k.hc,k.ac,k.words,k.wok,by have:=k.log;omega,by have:=k.ahead;omega,by have:=k.shifts;omega,k.slots,k.held,k.hin,k.lists,by have:=k.tot;omega,k.ins,k.caches,k.clens,k.cins⟩
theorem Core.of {m':Mch}(k:Core c L S N h a m)(h1:m'.mem.words=m.mem.words)(h2:m'.mem.log.length=m.mem.log.length)(h3:m'.mem.ahead.length=m.mem.ahead.length)(h4:m'.shifts.length=m.shifts.length):Core c L S N h a m' :=
 ⟨k.ok,k.hc,k.ac,by rw[h1];exact k.words,by rw[h1];exact k.wok,by rw[h2];exact k.log,by rw[h3];exact k.ahead,by rw[h4];exact k.shifts,k.slots,k.held,k.hin,k.lists,k.tot,k.ins,k.caches,k.clens,k.cins⟩
theorem Core.word (k:Core c L S N h a m){i:Nat}(hi:(i:Int)<base c 14):WOk c i (m.word i):=by
 have hl:i<m.mem.words.length:=by rw[k.words];omega
 refine k.wok i _ ?_
 simp[Mch.word,Yb,Yd hl]
theorem Core.load (k:Core c L S N h a m)(i:Nat)(u:Int):Core c (L+1) S N h a (m.load i u):=
 ⟨k.ok,k.hc,k.ac,k.words,k.wok,by have:=k.log;simp[Mch.load];omega,by have:=k.ahead;simp[Mch.load];omega,k.shifts,k.slots,k.held,k.hin,k.lists,k.tot,k.ins,k.caches,k.clens,k.cins⟩
theorem Core.store (k:Core c L S N h a m)(i:Nat)(u z:Int)(hz:WOk c i z):Core c (L+1) S N h a (m.store i u z):=by
 refine⟨k.ok,k.hc,k.ac,by simp[Mch.store];exact k.words,?_,by have:=k.log;simp[Mch.store];omega,by have:=k.ahead;simp[Mch.store];omega,k.shifts,k.slots,k.held,k.hin,k.lists,k.tot,k.ins,k.caches,k.clens,k.cins⟩
 intro j v hj
 simp only[Mch.store]at hj
 by_cases hij:i=j
 ·subst hij
  rw[List.getElem?_set_self' ]at hj
  cases hg:m.mem.words[i]? with
  | none=>rw[hg]at hj;simp at hj
  | some w=>rw[hg]at hj;simp at hj;subst hj;exact hz
 ·rw[Yf hij]at hj
  exact k.wok j v hj
theorem Core.swap (k:Core c L S N h a m)(i:Nat)(u o z:Int)(hz:WOk c i z):Core c (L+1) S N h a (m.swap i u o z):=by
 by_cases hu:u=o
 ·exact(k.store i u z hz).of (by simp[Mch.swap,Mch.store,hu]) (by simp[Mch.swap,Mch.store]) (by simp[Mch.swap,Mch.store]) rfl
 ·exact(k.load i u).of (by simp[Mch.swap,Mch.load,hu]) (by simp[Mch.swap,Mch.load]) (by simp[Mch.swap,Mch.load]) rfl
theorem Core.mshift (k:Core c L S N h a m)(s f t:Int):Core c L (S+1) N h a (m.shift s f t):=
 ⟨k.ok,k.hc,k.ac,k.words,k.wok,k.log,k.ahead,by have:=k.shifts;simp[Mch.shift];omega,k.slots,k.held,k.hin,k.lists,k.tot,k.ins,k.caches,k.clens,k.cins⟩
theorem Core.ashift (k:Core c L S N h a m)(i:Nat)(t to:Int):Core c L S N h (a.shift i t to) m:=
 ⟨k.ok,k.hc,k.ac,k.words,k.wok,k.log,k.ahead,k.shifts,by simp only[Are.shift,List.length_set];exact k.slots,k.held,k.hin,k.lists,k.tot,k.ins,k.caches,k.clens,k.cins⟩
theorem Core.cache (k:Core c L S N h a m)(i:Nat)(x:List Int)(hx:(x.length:Int)≤c.Ca)(hin:∀z∈x,0≤z∧z<c.Sl):Core c L S N h { a with caches:=a.caches.set i x } m:=
 ⟨k.ok,k.hc,k.ac,k.words,k.wok,k.log,k.ahead,k.shifts,k.slots,k.held,k.hin,k.lists,k.tot,k.ins,by simp only[List.length_set];exact k.caches,
  fun y hy=>by rcases List.mem_or_eq_of_mem_set hy with h|rfl;exact k.clens y h;exact hx,
  fun y hy=>by rcases List.mem_or_eq_of_mem_set hy with h|rfl;exact k.cins y h;exact hin⟩
theorem Core.list (k:Core c L S N h a m)(ls:List (List Int)){N':Nat}(hl:ls.length=c.R.toNat)(ht:Go.Proofs.YtjagadldibbbbaaGreat.tot ls≤N')(hin:∀l∈ls,∀z∈l,0≤z∧z<c.Sl):Core c L S N' { h with lists:=ls } a m:=
 ⟨k.ok,k.hc,k.ac,k.words,k.wok,k.log,k.ahead,k.shifts,k.slots,k.held,k.hin,hl,ht,hin,k.caches,k.clens,k.cins⟩
theorem Core.hold (k:Core c L S N h a m)(i:Nat)(r:Int)(hr : -1≤r∧r<c.R):Core c L S N { h with held:=h.held.set i r } a m:=
 ⟨k.ok,k.hc,k.ac,k.words,k.wok,k.log,k.ahead,k.shifts,k.slots,by simp only[List.length_set];exact k.held,
  fun y hy=>by rcases List.mem_or_eq_of_mem_set hy with h|rfl;exact k.hin y h;exact hr,k.lists,k.tot,k.ins,k.caches,k.clens,k.cins⟩
theorem Core.lget (k:Core c L S N h a m){r:Int}(h0:0≤r)(h1:r<c.R):h.lists[r.toNat]? = some (h.lists.getD r.toNat [])∧(h.lists.getD r.toNat []).length≤N∧∀z∈h.lists.getD r.toNat [],0≤z∧z<c.Sl:=by
 have hl:r.toNat<h.lists.length:=by rw[k.lists];omega
 have e:h.lists[r.toNat]? = some (h.lists.getD r.toNat []):=by rw[Yb,Yd hl];rfl
 refine⟨e,?_,fun z hz=>k.ins _ (Yc e) z hz⟩
 have:=tot_get e
 have:=k.tot
 omega
theorem Core.cget (k:Core c L S N h a m){t:Int}(h0:0≤t)(h1:t<c.T):a.caches[t.toNat]? = some (a.caches.getD t.toNat [])∧((a.caches.getD t.toNat []).length:Int)≤c.Ca∧∀z∈a.caches.getD t.toNat [],0≤z∧z<c.Sl:=by
 have hl:t.toNat<a.caches.length:=by rw[k.caches];omega
 have e:a.caches[t.toNat]? = some (a.caches.getD t.toNat []):=by rw[Yb,Yd hl];rfl
 exact⟨e,k.clens _ (Yc e),k.cins _ (Yc e)⟩
theorem adr_i {c:Cfg}(hc:c.Ok)(r:Nat){i:Int}(hi:0≤i):((adr c r i:Nat):Int)=base c r+i:=by
 have:=(ZE hc r).1
 unfold adr;omega
theorem wok_active {c:Cfg}(hc:c.Ok){i:Int}(h0:0≤i)(h1:i<c.R)(u:Int):WOk c (adr c 8 i) u:=by
 have e:=adr_i hc 8 h0
 have:=hc.S1
 obtain⟨b1,b2,b8,b9,b10,b11,b12,b13,b14,rh,rh2,b3⟩:=bases hc
 constructor<;>(intros;exfalso;omega)
theorem wok_value {c:Cfg}(hc:c.Ok){i:Int}(h0:0≤i)(h1:i<c.Sl)(u:Int):WOk c (adr c 11 i) u:=by
 have e:=adr_i hc 11 h0
 have:=hc.R1
 have:=hc.S1
 obtain⟨b1,b2,b8,b9,b10,b11,b12,b13,b14,rh,rh2,b3⟩:=bases hc
 constructor<;>(intros;exfalso;omega)
theorem wok_next {c:Cfg}(hc:c.Ok){i:Int}(h0:0≤i)(h1:i<c.Sl){u:Int}(hu:0≤u∧u≤c.Sl):WOk c (adr c 10 i) u:=by
 have e:=adr_i hc 10 h0
 have:=hc.R1
 have:=hc.S1
 obtain⟨b1,b2,b8,b9,b10,b11,b12,b13,b14,rh,rh2,b3⟩:=bases hc
 constructor<;>(intros;first|exact hu|(exfalso;omega))
theorem wok_hz {c:Cfg}(hc:c.Ok){k:Int}(h0:base c 9≤k)(h1:k<base c 10){u:Int}(hu:0≤u∧u≤c.Sl):WOk c k u:=by
 have:=hc.R1
 have:=hc.S1
 obtain⟨b1,b2,b8,b9,b10,b11,b12,b13,b14,rh,rh2,b3⟩:=bases hc
 constructor<;>(intros;first|exact hu|(exfalso;omega))
theorem wok_head {c:Cfg}(hc:c.Ok){u:Int}(hu:0≤u∧u<18446744073709551616∧u%4294967296≤c.Sl):WOk c (adr c 1 0) u:=by
 have e:=adr_i hc 1 (Int.le_refl 0)
 have:=hc.R1
 have:=hc.S1
 obtain⟨b1,b2,b8,b9,b10,b11,b12,b13,b14,rh,rh2,b3⟩:=bases hc
 constructor<;>(intros;first|exact hu|(exfalso;omega))
theorem wok_cell {c:Cfg}(hc:c.Ok){u:Int}(hu:0≤u∧u≤c.Sl):WOk c (adr c 2 0) u:=by
 have e:=adr_i hc 2 (Int.le_refl 0)
 have:=hc.R1
 have:=hc.S1
 obtain⟨b1,b2,b8,b9,b10,b11,b12,b13,b14,rh,rh2,b3⟩:=bases hc
 constructor<;>(intros;first|exact hu|(exfalso;omega))
theorem wok_top {c:Cfg}(hc:c.Ok){u:Int}(hu:0≤u∧u≤c.Sl):WOk c (adr c 3 0) u:=by
 have e:=adr_i hc 3 (Int.le_refl 0)
 have:=hc.R1
 have:=hc.S1
 obtain⟨b1,b2,b8,b9,b10,b11,b12,b13,b14,rh,rh2,b3⟩:=bases hc
 constructor<;>(intros;first|exact hu|(exfalso;omega))
theorem wok_link {c:Cfg}(hc:c.Ok){i:Int}(h0:0≤i)(h1:i<c.Sl){u:Int}(hu:0≤u∧u≤c.Sl):WOk c (adr c 13 i) u:=by
 have e:=adr_i hc 13 h0
 have:=hc.R1
 have:=hc.S1
 obtain⟨b1,b2,b8,b9,b10,b11,b12,b13,b14,rh,rh2,b3⟩:=bases hc
 constructor<;>(intros;first|exact hu|(exfalso;omega))
theorem adr_lt14 {c:Cfg}(hc:c.Ok):((adr c 1 0:Nat):Int)<base c 14∧((adr c 2 0:Nat):Int)<base c 14:=by
 have e:=adr_i hc 1 (Int.le_refl 0)
 have e:=adr_i hc 2 (Int.le_refl 0)
 have:=hc.R1
 have:=hc.S1
 obtain⟨b1,b2,b8,b9,b10,b11,b12,b13,b14,rh,rh2,b3⟩:=bases hc
 omega
/-! ## giving back -/
structure PInv (c:Cfg)(p:Psh):Prop where
 s0:0≤p.slot
 s1:p.slot<c.Sl
 at0:p.at_=1∨p.at_=2∨p.at_=3
 head:p.at_≠1→0≤p.head∧p.head<18446744073709551616∧p.head%4294967296≤c.Sl
theorem PInv.pok {p:Psh}(P:PInv c p)(k:Core c L S N h a m)(hu:m.used=false)(hL:L<4294967296)(hS:S<1000000000):PushOk a m p:=by
 obtain⟨p1,p2,p3,p4⟩:=P
 have hl:=k.log
 have ha:=k.ahead
 have hs:=k.shifts
 have hS2:=k.ok.S2
 have hac:=k.ac
 exact⟨by rw[hac];exact k.ok,hu,by rw[hac];exact k.words,by omega,by omega,by omega,by rw[hac];exact k.slots,p1,by rw[hac];exact p2,p3,fun h1=>⟨(p4 h1).1,(p4 h1).2.1,by have:=(p4 h1).2.2;omega⟩⟩
theorem push_core {p:Psh}(k:Core c L S N h a m)(P:PInv c p) :
  Core c (L+1) (S+1) N h (Ze a m p).2.1 (Ze a m p).2.2.1∧((Ze a m p).1=false→PInv c (Ze a m p).2.2.2)∧(Ze a m p).2.1.caches=a.caches∧(Ze a m p).2.2.2.thread=p.thread:=by
 obtain⟨p1,p2,p3,p4⟩:=P
 have hac:=k.ac
 have hok:=k.ok
 have hw:=(k.word (adr_lt14 hok).1).head (by rw[adr_i hok 1 (Int.le_refl 0)];simp)
 have hS2:=hok.S2
 unfold Ze
 rw[hac]
 split
 ·exact⟨(k.load _ _).mono (by omega) (by omega) (by omega),fun _=>⟨p1,p2,.inr (.inl rfl),fun _=>hw⟩,rfl,rfl⟩
 ·rename_i h1
  have p4:=p4 h1
  split
  ·exact⟨(k.store _ _ _ (wok_next hok p1 p2 ⟨by omega,p4.2.2⟩)).mono (by omega) (by omega) (by omega),fun _=>⟨p1,p2,.inr (.inr rfl),fun _=>p4⟩,rfl,rfl⟩
  ·have hz:WOk c (adr c 1 0) ((p.head / 4294967296+1)%4294967296*4294967296+(p.slot+1)):=wok_head hok ⟨by omega,by omega,by omega⟩
   simp only[]
   split
   ·exact⟨(((k.swap _ _ _ _ hz).mshift _ _ _).ashift _ _ _),fun hf=>(by cases hf),rfl,rfl⟩
   ·exact⟨(k.swap _ _ _ _ hz).mono (by omega) (by omega) (by omega),fun _=>⟨p1,p2,.inl rfl,fun hf=>absurd rfl hf⟩,rfl,rfl⟩
theorem set_ne {α:Type}{l:List α}{i j:Nat}{x:α}(h:j≠i):(l.set i x)[j]? = l[j]? := Yf (Ne.symm h)
theorem give_core {p:Psh}(k:Core c L S N h a m)(s0:0≤p.slot)(s1:p.slot<c.Sl)(t0:0≤p.thread)(t1:p.thread<c.T) :
  ((Zn a m p).1=true∧((a.caches.getD p.thread.toNat []).length:Int)<c.Ca∧Core c L (S+1) N h (Zn a m p).2.1 (Zn a m p).2.2.1∧((Zn a m p).2.1.caches.getD p.thread.toNat []).length=(a.caches.getD p.thread.toNat []).length+1∧∀j,j≠p.thread.toNat→(Zn a m p).2.1.caches[j]? = a.caches[j]?) ∨
  (Zn a m p)=(false,a,m,p):=by
 obtain rfl:=k.ac
 obtain⟨g1,g2,g3⟩:=k.cget t0 t1
 unfold Zn
 by_cases hf:a.c.Ca≤((a.caches.getD p.thread.toNat []).length:Int)
 ·rw[if_pos hf]
  exact .inr rfl
 ·rw[if_neg hf]
  have hlt:=(List.getElem?_eq_some_iff.1 g1).1
  refine .inl ⟨rfl,by omega,((k.cache _ _ (by simp only[List.length_append,List.length_cons,List.length_nil];omega) ?_).ashift _ _ _).mshift _ _ _,?_,?_⟩
  ·intro z hz
   rcases List.mem_append.1 hz with h|h
   ·exact g3 z h
   ·simp at h;subst h;exact⟨s0,s1⟩
  ·simp only[Are.shift,Yb,Ye hlt]
   simp
  ·intro j hj
   exact set_ne hj
structure FreeInv (c:Cfg)(L S N:Nat)(h:Haz)(a:Are)(th:Int)(n:Nat)(r:Bool×List Int×Option Psh×Are×Mch):Prop where
 core:Core c L S N h r.2.2.2.1 r.2.2.2.2
 fin:r.1=false→(∃p,r.2.2.1=some p∧PInv c p)∧(∀z∈r.2.1,0≤z∧z<c.Sl)∧r.2.1.length≤n
 caches:∀j,j≠th.toNat→r.2.2.2.1.caches[j]? = a.caches[j]?
theorem free_core (th:Int)(t0:0≤th)(t1:th<c.T):∀(pend:List Int) (g:Option Psh) (a:Are) (m:Mch) (S q:Nat),Core c L S N h a m→(∀z∈pend,0≤z∧z<c.Sl)→(a.caches.getD th.toNat []).length+q=c.Ca.toNat →
  FreeInv c L (S+q) N h a th pend.length (ZG th pend g a m)
 | [],g,a,m,S,q,k,_,_=>⟨k.mono (by omega) (by omega) (by omega),fun hf=>(by cases hf),fun _ _=>rfl⟩
 | s::r,g,a,m,S,q,k,hin,hq=>by
  have hs:=hin s (List.mem_cons_self ..)
  unfold ZG
  rcases give_core (p:=⟨s,1,0,th⟩) k hs.1 hs.2 t0 t1 with⟨e1,e2,e3,e4,e5⟩|e
  ·rw[if_pos e1]
   simp only[]at e2 e4
   obtain⟨q',rfl⟩:∃q',q=q'+1:=⟨q-1,by omega⟩
   obtain⟨f1,f2,f3⟩:=free_core th t0 t1 r (some (Zn a m ⟨s,1,0,th⟩).2.2.2) _ _ (S+1) q' e3 (fun z hz=>hin z (List.mem_cons_of_mem _ hz)) (by omega)
   exact⟨f1.mono (by omega) (by omega) (by omega),fun hf=>⟨(f2 hf).1,(f2 hf).2.1,by have:=(f2 hf).2.2;simp only[List.length_cons];omega⟩,fun j hj=>(f3 j hj).trans (e5 j hj)⟩
  ·rw[e]
   exact⟨k.mono (by omega) (by omega) (by omega),fun _=>⟨⟨_,rfl,hs.1,hs.2,.inl rfl,fun hf=>absurd rfl hf⟩,fun z hz=>hin z (List.mem_cons_of_mem _ hz),by simp⟩,fun _ _=>rfl⟩
end
end Go.Proofs.YtjagadldibbbbaaGreat
