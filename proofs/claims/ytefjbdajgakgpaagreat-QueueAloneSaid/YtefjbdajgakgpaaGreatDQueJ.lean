import Derived.Test.YtefjbdajgakgpaaGreatDRd
set_option linter.all false
namespace Go.Proofs.YtefjbdajgakgpaaGreat
open Go.RowKit Hp
set_option maxRecDepth 100000
set_option maxHeartbeats 1000000
attribute [local irreducible] Go.Calls
section
theorem base14_le {c:Cfg}(h:c.Ok):base c 14≤8192:=by
 have e1:base c 14=base c 13+c.Sl:=rfl
 have e2:base c 13=base c 12+c.Sl:=rfl
 have e3:base c 12=base c 11+c.Sl:=rfl
 have e4:base c 11=base c 10+c.Sl:=rfl
 have e5:base c 10=base c 9+c.R*c.Hz:=rfl
 have e6:base c 9=base c 8+c.R:=rfl
 have e7:base c 8=base c 7+c.Bu:=rfl
 have e8:base c 7=6:=by simp[base,many]
 have:=h.rh.2
 have:=h.R2;have:=h.B2;have:=h.S2
 omega
abbrev HW:=Wst (Haz×Are) Z8
def wst0 (c:Cfg)(km:Nat)(vs:Value):HW:=⟨(haz0 c,are0 c),mch0 c.T.toNat (Q9 c 0) (.map (some km)) vs,List.replicate c.T.toNat none⟩
theorem tsk_nones {τ:Type}{R:τ→Value→Zc}{O w:World}{F:Zc}(hs:Sat O w F):∀n,Sat O w (tskR R (List.replicate n none) (List.replicate n sea0)*F)
 | 0=>by simp only[List.replicate_zero,tskR,Em];exact hs
 | n+1=>by
  simp only[List.replicate_succ,tskR,Ma,Zz]
  exact⟨trivial,tsk_nones hs n⟩
theorem does_sl {P:Program}{f:FuncId}{args:Array Value}{E:TypeId}{sz:Nat}{css:List (List Value)}{v:Value}{B:Value→Zc}(h:∀A,Rd A sz css v→Does P f args A (fun u=>B u*A)) :
  Does P f args (sl E sz css v) (fun u=>B u*sl E sz css v):=by
 intro O w F hs
 obtain⟨hw,⟨rfl,rfl,hs1⟩|⟨b,off,cap,pre,post,rfl,h1,h2,h3,hs1⟩⟩:=QL.1 hs
 ·have hR:Rd emp sz [] (.slice none 0 0):=⟨.inl ⟨rfl,rfl⟩,by simp,by simp⟩
  refine(h emp hR O w F (hs1.cast (Em _).symm)).mono ?_
  rintro e w' ⟨u,he,hs'⟩
  refine⟨u,he,?_⟩
  have hs2:Sat O w' (B u*F):=hs'.cast (by simp only[mul_emp])
  exact(sl_nil (E:=E) hs2 hw.pos).cast (by ac_rfl)
 ·have hR:Rd (pt b (.cells (pre++css.flatten++post).toArray E)) sz css (.slice (some ⟨b,off,none⟩) css.length cap):=rd_pt rfl h1 (fun c hc=>(hw.wf c hc).1) hw.pos h2
  refine(h _ hR O w F hs1).mono ?_
  rintro e w' ⟨u,he,hs'⟩
  refine⟨u,he,?_⟩
  have hs2:Sat O w' (pt b (.cells (pre++css.flatten++post).toArray E)*(B u*F)):=hs'.cast (by ac_rfl)
  exact(QL.2 ⟨hw,.inr ⟨b,off,cap,pre,post,rfl,h1,h2,h3,hs2⟩⟩).cast (by ac_rfl)
end
section
section
variable {c:Cfg}{L S N:Nat}{h:Haz}{a:Are}{m:Mch}
theorem okr_of {t:Nat}{k:Z8}(C:Core c L S N h a m)(hu:m.used=false)(hL:L<4294967296)(hS:S<1000000000)(hN:N<1000000)(ht:(t:Int)<c.T)(I:TI c t false (h.held.getD t 0) (a.caches.getD t []) k):htOkr (h,a) m t k:=by
 have hz:=C.haz hu hL hS hN
 have hc:=C.hc
 cases k with
 | pst p=>obtain⟨i1,_⟩:=I;exact⟨hz,by omega,by rw[hc];omega⟩
 | scn s=>obtain⟨i1,i2,_⟩:=I;obtain⟨r0,r1,_⟩:=i2 rfl;exact⟨hz,r0,by rw[hc];exact r1⟩
 | reg r=>trivial
 | unr r=>trivial
 | rdg r=>trivial
 | clr r=>trivial
theorem oks_of {t:Nat}{k:Z8}(C:Core c L S N h a m)(hu:m.used=false)(hL:L<4294967296)(hS:S<1000000000)(hN:N<1000000)(ht:(t:Int)<c.T)(I:TI c t true (h.held.getD t 0) (a.caches.getD t []) k):htOks (h,a) m t k:=by
 have hz:=C.haz hu hL hS hN
 have hc:=C.hc
 have hok:=C.ok
 have hS2:=hok.S2
 have hC2:=hok.C2
 cases k with
 | reg r=>obtain⟨i1,i2,i3⟩:=I;exact⟨hz,by omega,by rw[hc];omega,i2,by rw[hc];exact i3⟩
 | unr u=>
  obtain⟨i1,i2,i3,i4,i5,i6⟩:=I
  refine⟨hz,by omega,by rw[hc];omega,by rw[i1];simpa using i2,i3,by rw[hc];exact i4,fun h1 => ?_,fun h2 => ?_⟩
  ·obtain⟨s,e1,e2,e3⟩:=i5 h1
   have F:=scan_core C e2 hN
   have g:=F.core.cget (t:=u.thread) (by omega) (by omega)
   exact⟨s,e1,e2.ok C hu hL hS hN,_,g.1,by have:=g.2.1;omega⟩
  ·obtain⟨p,e1,e2,e3,e4⟩:=i6 h2
   have g:=C.cget (t:=u.thread) (by omega) (by omega)
   exact⟨p,e1,e2.pok C hu hL hS,e3,_,g.1,by have:=g.2.1;omega,by rw[i1];simpa using e4⟩
 | pst p=>
  obtain⟨i1,i2,i3,_⟩:=I
  obtain⟨⟨k,hk,k0,k1⟩,j2,j3,j4⟩:=i3 rfl
  refine⟨k,hz,by omega,by rw[hc];omega,by rw[i1];simpa using i2,hk,j2,fun h0 => ?_,fun h1 => ?_,fun h3=>by rw[hc];exact j3 h3,fun h3 => ?_,fun h4 => ?_⟩
  ·have e:=(take_core C (k0 h0)).2.2.1
   show TakeOk a m k∧Zd (Zh a m k).2.2.2≤2147483646 ∧ -1≤Zd (Zh a m k).2.2.2
   exact⟨(k0 h0).ok C hu hL hS hN,by omega,by omega⟩
  ·have:=k1 (by omega)
   rw[hc];exact⟨this.1,this.2.1⟩
  ·have:=k1 (by omega)
   rw[hc];omega
  ·obtain⟨r,sc,e1,e2,e3,e4⟩:=j4 h4
   exact⟨r,sc,e1,e2,e3.ok C hu hL hS hN⟩
 | rdg r=>
  obtain⟨i1,i2,i3,i4⟩:=I
  have hb:=Qg hok
  have hb9:=(ZD hok 9).1
  refine⟨hz,i3,by omega,?_,fun h3=>(i4 (by omega)).1,fun h3=>by rw[hc];exact(i4 (by omega)).2⟩
  rw[C.words]
  obtain⟨b1,b2,b8,b9,b10,b11,b12,b13,b14,rh,rh2⟩:=hb
  have:=hok.S1
  omega
 | clr ad=>
  obtain⟨i1,i2⟩:=I
  have hb:=Qg hok
  have hl:=C.log
  have ha:=C.ahead
  refine⟨hu,?_,by omega,by omega⟩
  rw[C.words]
  obtain⟨b1,b2,b8,b9,b10,b11,b12,b13,b14,rh,rh2⟩:=hb
  have:=hok.S1
  omega
 | scn s=>exact(I.2.2 rfl).ok C hu hL hS hN
end
structure PI (c:Cfg)(n:Nat)(y:HW):Prop where
 cur:y.m.cur=none
 moves:y.m.moves=(n:Int)
 core:Core c n (100*n) n y.s.1 y.s.2 y.m
 tasks:y.tasks.length=c.T.toNat
 seats:y.m.seats.length=c.T.toNat
 calls:y.m.calls.length≤n
 task:∀(t:Nat) (k:Z8) (se:Sea),y.tasks[t]? = some (some k)→y.m.seats[t]? = some se→(∃i:Nat,se.last=(i:Int)∧i<y.m.calls.length)∧TI c t se.ready (y.s.1.held.getD t 0) (y.s.2.caches.getD t []) k
/-! ## the beginning -/
theorem fill_wok {c:Cfg}(hok:c.Ok){ws:List Int}(hw:∀(k:Nat) (u:Int),ws[k]? = some u→WOk c k u):∀n:Nat,(n:Int)+1≤c.Sl→∀(k:Nat) (u:Int),(QR ws (base c 10) 0 n)[k]? = some u→WOk c k u
 | 0,_,k,u,h=>hw k u h
 | n+1,hn,k,u,h=>by
  simp only[QR]at h
  have hb:=(ZD hok 10).1
  by_cases hk:(base c 10+((0+n:Nat):Int)).toNat=k
  ·subst hk
   rw[List.getElem?_set_self']at h
   cases hg:(QR ws (base c 10) 0 n)[(base c 10+((0+n:Nat):Int)).toNat]? with
   | none=>rw[hg]at h;simp at h
   | some w=>
    rw[hg]at h;simp at h;subst h
    have:=wok_next hok (i:=((0+n:Nat):Int)) (by omega) (by omega) (u:=((n:Int)+2)) ⟨by omega,by omega⟩
    simpa[adr] using this
  ·rw[Yf hk]at h
   exact fill_wok hok hw n (by omega) k u h
theorem first_wok {c:Cfg}(hok:c.Ok)(k:Nat)(u:Int)(h:(Q9 c 0)[k]? = some u):WOk c k u:=by
 have hS1:=hok.S1
 simp only[Q9]at h
 rw[if_neg (by omega),if_pos (by show((0:Nat):Int)<c.Sl;omega)]at h
 refine fill_wok hok ?_ (c.Sl.toNat-1-0) (by omega) k u h
 intro k u h
 by_cases hk:k=0
 ·subst hk
  have h0:u=1:=by
   rw[List.getElem?_set_self']at h
   cases hg:(List.replicate (base c 14).toNat (0:Int))[0]? with
   | none=>rw[hg]at h;simp at h
   | some w=>rw[hg]at h;simp at h;exact h.symm
  subst h0
  have:=wok_head hok (u:=1) ⟨by omega,by omega,by omega⟩
  simpa[adr,base] using this
 ·rw[Yf (by omega)]at h
  have h0:u=0:=by
   have:=Yc h
   exact(List.mem_replicate.1 this).2
  subst h0
  exact⟨fun _=>⟨by omega,by omega,by omega⟩,fun _=>⟨by omega,by omega⟩,fun _ _=>⟨by omega,by omega⟩,fun _ _=>⟨by omega,by omega⟩,fun _=>⟨by omega,by omega⟩,fun _ _=>⟨by omega,by omega⟩⟩
theorem tot_nils:∀n,tot (List.replicate n [])=0
 | 0=>rfl
 | n+1=>by simp only[List.replicate_succ,tot,tot_nils n,List.length_nil]
theorem PI.start {c:Cfg}(hok:c.Ok)(km:Nat)(vs:Value):PI c 0 (wst0 c km vs):=by
 have h1:=hok.R1
 have h2:=hok.C1
 refine⟨rfl,rfl,⟨hok,rfl,rfl,firstW_len c 0,first_wok hok,by simp[wst0,mch0],by simp[wst0,mch0],by simp[wst0,mch0],by simp[wst0,are0],by simp[wst0,haz0],?_,by simp[wst0,haz0],by simp[wst0,haz0,tot_nils],?_,by simp[wst0,are0],?_,?_⟩,by simp[wst0],by simp[wst0,mch0],by simp[wst0,mch0],?_⟩
 ·intro r hr
  have:=(List.mem_replicate.1 hr).2
  subst this
  omega
 ·intro l hl z hz
  have:=(List.mem_replicate.1 hl).2
  subst this
  simp at hz
 ·intro x hx
  have:=(List.mem_replicate.1 hx).2
  subst this
  simpa using h2
 ·intro x hx z hz
  have:=(List.mem_replicate.1 hx).2
  subst this
  simp at hz
 ·intro t k se hk
  simp only[wst0,List.getElem?_replicate]at hk
  split at hk<;>simp at hk
end
section
def qTask (s:Haz×Are)(t:Nat)(mv:Mv):Option Zx:=
 if mv.op=40 then (if s.1.held.getD t 0<0 then none else some (.put ⟨t,mv.arg,⟨t,1,0,0,0,false⟩,0,0,0,0,0⟩))
 else if mv.op=41 then (if s.1.held.getD t 0<0 then none else some (.get ⟨t,0,0,0,0,false,0,none,0,0,0⟩))
 else (Qr s t mv).map .hz
def QM (c:Cfg)(ws:List Int):Prop:=(1≤ws.getD (adr c 4 0) 0∧ws.getD (adr c 4 0) 0≤c.Sl)∧(1≤ws.getD (adr c 5 0) 0∧ws.getD (adr c 5 0) 0≤c.Sl)
structure PtI (c:Cfg)(p:Pt):Prop where
 stage:1≤p.stage∧p.stage≤11
 tk:p.stage=1→TkI c p.take
 slot:p.stage≠1→0≤p.slot∧p.slot<c.Sl
 t:5≤p.stage→1≤p.t∧p.t≤c.Sl
 n:p.stage=11→1≤p.n∧p.n≤c.Sl
structure GtI (c:Cfg)(g:Gt):Prop where
 stage:1≤g.stage∧g.stage≤12
 h0:2≤g.stage→1≤g.h0∧g.h0≤c.Sl
 t:5≤g.stage→g.stage≤8→1≤g.t∧g.t≤c.Sl
 n:6≤g.stage→g.stage≤10→1≤g.n∧g.n≤c.Sl
 cl:g.stage≤10→g.cleared=0
 cl1:g.stage=11→0≤g.cleared∧g.cleared≤1
 ret:g.stage=12→∃r sc,g.retire=some r∧r.scan=some sc∧ScI c sc∧sc.thread=g.thread
def qZ (c:Cfg)(hd k:Int):Int:=((base c 9+hd*c.Hz+k).toNat:Int)
def QI (c:Cfg):GI Zx:=fun t rdy hd ca k=>match k with
 | .hz k=>TI c t rdy hd ca k
 | .put p=>p.thread=(t:Int)∧0≤hd∧(rdy=false→p.take=⟨t,1,0,0,0,false⟩∧p.stage=0)∧(rdy=true→PtI c p∧p.hz=qZ c hd 0)
 | .get g=>g.thread=(t:Int)∧0≤hd∧(rdy=false→g.cleared=0∧g.stage=0)∧(rdy=true→GtI c g∧g.hz0=qZ c hd 0∧g.hz1=qZ c hd 1)
section
variable {c:Cfg}{L S N:Nat}{h:Haz}{a:Are}{m:Mch}
theorem base45 (c:Cfg):base c 4=3∧base c 5=4:=by constructor<;>simp[base,many]
theorem wok_q {c:Cfg}(hc:c.Ok){k:Int}(hk:k=base c 4∨k=base c 5)(u:Int):WOk c k u:=by
 have hb:=Qg hc
 obtain⟨b1,b2,b8,b9,b10,b11,b12,b13,b14,rh,rh2,b3⟩:=hb
 obtain⟨q1,q2⟩:=base45 c
 have:=hc.S1
 have:=hc.R1
 refine⟨fun h => ?_,fun h => ?_,fun h h2 => ?_,fun h h2 => ?_,fun h => ?_,fun h h2 => ?_⟩<;>omega
theorem wok_q4 {c:Cfg}(hc:c.Ok)(u:Int):WOk c (adr c 4 0:Nat) u:=wok_q hc (.inl (by have:=ZY hc 4 (Int.le_refl 0);omega)) u
theorem wok_q5 {c:Cfg}(hc:c.Ok)(u:Int):WOk c (adr c 5 0:Nat) u:=wok_q hc (.inr (by have:=ZY hc 5 (Int.le_refl 0);omega)) u
theorem QM.head (q:QM c m.mem.words):1≤m.word (adr c 4 0)∧m.word (adr c 4 0)≤c.Sl:=q.1
theorem QM.tail (q:QM c m.mem.words):1≤m.word (adr c 5 0)∧m.word (adr c 5 0)≤c.Sl:=q.2
theorem Core.linkW (k:Core c L S N h a m){s:Int}(h0:0≤s)(h1:s<c.Sl):0≤m.word (adr c 13 s)∧m.word (adr c 13 s)≤c.Sl:=by
 have hok:=k.ok
 have e:=ZY hok 13 h0
 have hb:=Qg hok
 have:=hb.b14
 have:=hok.R1
 exact(k.word (i:=adr c 13 s) (by omega)).link (by omega) (by omega)
theorem qHz_eq {c:Cfg}{h:Haz}(hc:h.c=c){t:Nat}{th k:Int}(e:th=(t:Int)):(qHz h th k:Int)=qZ c (h.held.getD t 0) k:=by
 unfold qHz qZ
 rw[e,hc,Yo]
theorem ptTaken_core {i t:Nat}{x:Cll}{se:Sea}{p:Pt}(C:Core c L S N h a m)(hk:Zd p.take = -1∨(0≤Zd p.take∧Zd p.take<c.Sl)) :
  Core c L S N h a (ZV m i t x se p).2.1∧(ZV m i t x se p).2.2.thread=p.thread∧(ZV m i t x se p).2.1.used=m.used∧(ZV m i t x se p).2.1.mem.words=m.mem.words∧((ZV m i t x se p).1=false→PtI c (ZV m i t x se p).2.2):=by
 unfold ZV
 split
 ·exact⟨(C.point ..).answer ..,rfl,rfl,rfl,fun hf=>(by cases hf)⟩
 ·exact⟨C,rfl,rfl,rfl,fun _=>⟨by simp,fun hf=>by simp at hf,fun _=>⟨by simp only[];omega,by simp only[];omega⟩,fun hf=>by simp at hf,fun hf=>by simp at hf⟩⟩
structure PtS (c:Cfg)(L S N:Nat)(t:Nat)(h:Haz)(a:Are)(r:Bool×Are×Mch×Pt):Prop where
 core:Core c L S N h r.2.1 r.2.2.1
 caches:∀j,j≠t→r.2.1.caches[j]? = a.caches[j]?
 thr:r.2.2.2.thread=(t:Int)
 fin:r.1=false→PtI c r.2.2.2
theorem ptReady_core {i t:Nat}{x:Cll}{se:Sea}{p:Pt}(C:Core c L S N h a m)(ht:(t:Int)<c.T)(hu:p.thread=(t:Int))(hp:p.take=⟨t,1,0,0,0,false⟩) :
  PtS c L (S+1) N t h a (ZW h a m i t x se p)∧(ZW h a m i t x se p).2.2.1.used=m.used∧(ZW h a m i t x se p).2.2.1.mem.words=m.mem.words:=by
 have hu2:∀(x:Tak),(Zf a m x).2.2.1.used=m.used∧(Zf a m x).2.2.1.mem.words=m.mem.words:=by
  intro x;unfold Zf;simp only[];split<;>exact⟨rfl,rfl⟩
 have hR:=takeReady_core (k:=⟨(t:Int),1,0,0,0,false⟩) C (by simp only[];omega) (by simp only[];omega)
 have hu2:=hu2 ⟨(t:Int),1,0,0,0,false⟩
 unfold ZW
 rw[hp]
 simp only[]
 generalize Zf a m ⟨(t:Int),1,0,0,0,false⟩=r at hR hu2 ⊢
 obtain⟨r1,r2,r3,r4⟩:=r
 rcases hR with e|⟨e1,e2,e3,e4⟩
 ·cases e
  simp only[Yn,if_false]
  refine⟨⟨C.mono (by omega) (by omega) (by omega),fun _ _=>rfl,hu,fun _=>⟨by simp,fun _=>⟨.inl rfl,rfl,fun hf=>absurd rfl hf,fun hf=>by simp at hf⟩,fun hf=>absurd rfl hf,fun hf=>by simp at hf,fun hf=>by simp at hf⟩⟩,by first|trivial|exact⟨rfl,rfl⟩⟩
 ·simp only[]at e1 e2 e3 e4 hu2
  subst e1
  simp only[if_true]
  obtain⟨f1,f2,f3,f5,f4⟩:=ptTaken_core (i:=i) (t:=t) (x:=x) (se:=se) (p:={ p with take:=r4,stage:=1,hz:=(qHz h p.thread 0:Int) }) e2 (.inr e3)
  exact⟨⟨f1,fun j hj=>e4 j (by simpa using hj),f2.trans hu,f4⟩,f3.trans hu2.1,f5.trans hu2.2⟩
theorem ptStep_core {i t:Nat}{x:Cll}{se:Sea}{p:Pt}(C:Core c L S N h a m)(Q:QM c m.mem.words)(ht:(t:Int)<c.T)(hu:p.thread=(t:Int))(hd:0≤h.held.getD t 0)(I:PtI c p):PtS c (L+1) (S+1) N t h a (Qc h a m i t x se p):=by
 have hok:=C.ok
 have hc:=C.hc
 have hq:=Q.tail
 have hS1:=hok.S1
 obtain⟨hr1,_⟩:=C.hget ht
 have hza:=hz_adr hok hd hr1 (Int.le_refl 0) (by have:=hok.H1;omega)
 have hb9:=(ZD hok 9).1
 have hwh:∀u:Int,0≤u∧u≤c.Sl→WOk c (qHz h p.thread 0:Nat) u:=fun u hu2=>by
  unfold qHz
  rw[hu,hc,Yo]
  exact wok_hz hok (by omega) (by omega) hu2
 obtain⟨i1,i2,i3,i4,i5⟩:=I
 unfold Qc
 rw[hc]
 simp only[]
 by_cases s1:p.stage=1
 ·rw[if_pos s1]
  obtain⟨e1,e2,e3,e4⟩:=take_core C (i2 s1)
  unfold ptTake
  simp only[]
  generalize Zh a m p.take=r at e1 e2 e3 e4 ⊢
  split
  ·obtain⟨f1,f2,f3,f5,f4⟩:=ptTaken_core (i:=i) (t:=t) (x:=x) (se:=se) (p:={ p with take:=r.2.2.2 }) e1 e3
   exact⟨f1,fun j _=>by rw[e4],f2.trans hu,f4⟩
  ·rename_i hf
   exact⟨e1,fun j _=>by rw[e4],hu,fun _=>⟨by simp[s1],fun _=>e2 (by simpa using hf),fun hf=>absurd s1 hf,fun hf=>by simp only[s1]at hf;omega,fun hf=>by simp only[s1]at hf;omega⟩⟩
 rw[if_neg s1]
 obtain⟨g1,g2⟩:=i3 s1
 have hsl:∀st:Int,st≠1→0≤p.slot∧p.slot<c.Sl:=fun _ _=>⟨g1,g2⟩
 by_cases s2:p.stage=2
 ·rw[if_pos s2]
  exact⟨(C.store _ _ _ (wok_value hok g1 g2 _)).mono (by omega) (by omega) (by omega),fun _ _=>rfl,hu,fun _=>⟨by simp,fun hf=>by simp at hf,fun _=>⟨g1,g2⟩,fun hf=>by simp at hf,fun hf=>by simp at hf⟩⟩
 rw[if_neg s2]
 by_cases s3:p.stage=3
 ·rw[if_pos s3]
  exact⟨(C.store _ _ _ (wok_link hok g1 g2 (by omega))).mono (by omega) (by omega) (by omega),fun _ _=>rfl,hu,fun _=>⟨by simp,fun hf=>by simp at hf,fun _=>⟨g1,g2⟩,fun hf=>by simp at hf,fun hf=>by simp at hf⟩⟩
 rw[if_neg s3]
 by_cases s4:p.stage=4
 ·rw[if_pos s4]
  exact⟨(C.load _ _).mono (by omega) (by omega) (by omega),fun _ _=>rfl,hu,fun _=>⟨by simp,fun hf=>by simp at hf,fun _=>⟨g1,g2⟩,fun _=>hq,fun hf=>by simp at hf⟩⟩
 rw[if_neg s4]
 have hT:=i4 (by omega)
 by_cases s5:p.stage=5
 ·rw[if_pos s5]
  exact⟨(C.store _ _ _ (hwh _ ⟨by omega,hT.2⟩)).mono (by omega) (by omega) (by omega),fun _ _=>rfl,hu,fun _=>⟨by simp,fun hf=>by simp at hf,fun _=>⟨g1,g2⟩,fun _=>hT,fun hf=>by simp at hf⟩⟩
 rw[if_neg s5]
 by_cases s6:p.stage=6
 ·rw[if_pos s6]
  refine⟨(C.load _ _).mono (by omega) (by omega) (by omega),fun _ _=>rfl,?_,fun _ => ?_⟩
  ·simp only[];split<;>exact hu
  ·simp only[]
   split
   ·exact⟨by simp,fun hf=>by simp at hf,fun _=>⟨g1,g2⟩,fun _=>hT,fun hf=>by simp at hf⟩
   ·exact⟨by simp,fun hf=>by simp at hf,fun _=>⟨g1,g2⟩,fun _=>hq,fun hf=>by simp at hf⟩
 rw[if_neg s6]
 have hl:=C.linkW (s:=p.t-1) (by omega) (by omega)
 by_cases s7:p.stage=7
 ·rw[if_pos s7]
  refine⟨(C.load _ _).mono (by omega) (by omega) (by omega),fun _ _=>rfl,?_,fun _ => ?_⟩
  ·simp only[];split<;>exact hu
  ·simp only[]
   split
   ·exact⟨by simp,fun hf=>by simp at hf,fun _=>⟨g1,g2⟩,fun _=>hT,fun _=>⟨by simp only[];omega,by simp only[];omega⟩⟩
   ·exact⟨by simp,fun hf=>by simp at hf,fun _=>⟨g1,g2⟩,fun _=>hT,fun hf=>by simp at hf⟩
 rw[if_neg s7]
 by_cases s8:p.stage=8
 ·rw[if_pos s8]
  have K:=C.swap (adr c 13 (p.t-1)) (m.word (adr c 13 (p.t-1))) 0 (p.slot+1) (wok_link hok (by omega) (by omega) (by omega))
  split
  ·exact⟨(((K.point i x _).mshift _ _ _).ashift _ _ _).mono (by omega) (by omega) (by omega),fun _ _=>rfl,hu,fun _=>⟨by simp,fun hf=>by simp at hf,fun _=>⟨g1,g2⟩,fun _=>hT,fun hf=>by simp at hf⟩⟩
  ·exact⟨K.mono (by omega) (by omega) (by omega),fun _ _=>rfl,hu,fun _=>⟨by simp,fun hf=>by simp at hf,fun _=>⟨g1,g2⟩,fun hf=>by simp at hf,fun hf=>by simp at hf⟩⟩
 rw[if_neg s8]
 by_cases s9:p.stage=9
 ·rw[if_pos s9]
  exact⟨(C.swap (adr c 5 0) (m.word (adr c 5 0)) p.t (p.slot+1) (wok_q5 hok _)).mono (by omega) (by omega) (by omega),fun _ _=>rfl,hu,fun _=>⟨by simp,fun hf=>by simp at hf,fun _=>⟨g1,g2⟩,fun _=>hT,fun hf=>by simp at hf⟩⟩
 rw[if_neg s9]
 by_cases s10:p.stage=10
 ·rw[if_pos s10]
  exact⟨((C.store _ _ _ (hwh 0 (by omega))).answer _ _ _ _).mono (by omega) (by omega) (by omega),fun _ _=>rfl,hu,fun hf=>(by cases hf)⟩
 rw[if_neg s10]
 exact⟨(C.swap (adr c 5 0) (m.word (adr c 5 0)) p.t p.n (wok_q5 hok _)).mono (by omega) (by omega) (by omega),fun _ _=>rfl,hu,fun _=>⟨by simp,fun hf=>by simp at hf,fun _=>⟨g1,g2⟩,fun hf=>by simp at hf,fun hf=>by simp at hf⟩⟩
end
end
section
section
variable {c:Cfg}{L S N:Nat}{h:Haz}{a:Are}{m:Mch}
structure GtS (c:Cfg)(L S N:Nat)(t:Nat)(h:Haz)(a:Are)(r:Bool×Haz×Are×Mch×Gt):Prop where
 core:Core c L S N r.2.1 r.2.2.1 r.2.2.2.1
 held:r.2.1.held=h.held
 caches:∀j,j≠t→r.2.2.1.caches[j]? = a.caches[j]?
 thr:r.2.2.2.2.thread=(t:Int)
 fin:r.1=false→GtI c r.2.2.2.2
theorem gtStep_core {i t:Nat}{x:Cll}{se:Sea}{g:Gt}(C:Core c L S N h a m)(Q:QM c m.mem.words)(hN:N<1000000)(ht:(t:Int)<c.T)(hu:g.thread=(t:Int))(hd:0≤h.held.getD t 0)(I:GtI c g) :
  GtS c (L+1) (S+66) (N+1) t h a (Z6 h a m i t x se g):=by
 have hok:=C.ok
 have hc:=C.hc
 have hh:=Q.head
 have hq:=Q.tail
 obtain⟨hr1,_⟩:=C.hget ht
 have hH3:=hok.H1
 have hb9:=(ZD hok 9).1
 have hwh:∀k u:Int,0≤k→k≤1→0≤u∧u≤c.Sl→WOk c (qHz h g.thread k:Nat) u:=fun k u k0 k1 hu2=>by
  have hza:=hz_adr hok hd hr1 (k:=k) k0 (by omega)
  unfold qHz
  rw[hu,hc,Yo]
  exact wok_hz hok (by omega) (by omega) hu2
 have hS1:=hok.S1
 obtain⟨i1,i2,i3,i4,i5,i6,i7⟩:=I
 have i7:=Lh i7
 unfold Z6
 rw[hc]
 simp only[]
 by_cases s1:g.stage=1
 ·rw[if_pos s1]
  exact⟨(C.load _ _).mono (by omega) (by omega) (by omega),rfl,fun _ _=>rfl,hu,fun _=>⟨by simp,fun _=>hh,fun hf=>by simp at hf,fun hf=>by simp at hf,fun _=>i5 (by omega),fun hf=>by simp at hf,fun hf=>by simp at hf⟩⟩
 rw[if_neg s1]
 have h0:=i2 (by omega)
 by_cases s2:g.stage=2
 ·rw[if_pos s2]
  exact⟨(C.store _ _ _ (hwh 0 _ (by omega) (by omega) ⟨by omega,h0.2⟩)).mono (by omega) (by omega) (by omega),rfl,fun _ _=>rfl,hu,fun _=>⟨by simp,fun _=>h0,fun hf=>by simp at hf,fun hf=>by simp at hf,fun _=>i5 (by omega),fun hf=>by simp at hf,fun hf=>by simp at hf⟩⟩
 rw[if_neg s2]
 by_cases s3:g.stage=3
 ·rw[if_pos s3]
  refine⟨(C.load _ _).mono (by omega) (by omega) (by omega),rfl,fun _ _=>rfl,?_,fun _ => ?_⟩
  ·simp only[];split<;>exact hu
  ·simp only[]
   split
   ·exact⟨by simp,fun _=>h0,fun hf=>by simp at hf,fun hf=>by simp at hf,fun _=>i5 (by omega),fun hf=>by simp at hf,fun hf=>by simp at hf⟩
   ·exact⟨by simp,fun _=>hh,fun hf=>by simp at hf,fun hf=>by simp at hf,fun _=>i5 (by omega),fun hf=>by simp at hf,fun hf=>by simp at hf⟩
 rw[if_neg s3]
 by_cases s4:g.stage=4
 ·rw[if_pos s4]
  exact⟨(C.load _ _).mono (by omega) (by omega) (by omega),rfl,fun _ _=>rfl,hu,fun _=>⟨by simp,fun _=>h0,fun _ _=>hq,fun hf=>by simp at hf,fun _=>i5 (by omega),fun hf=>by simp at hf,fun hf=>by simp at hf⟩⟩
 rw[if_neg s4]
 have hl:=C.linkW (s:=g.h0-1) (by omega) (by omega)
 by_cases s5:g.stage=5
 ·rw[if_pos s5]
  have hc0:=i5 (by omega)
  split
  ·rename_i hn
   exact⟨(C.load _ _).mono (by omega) (by omega) (by omega),rfl,fun _ _=>rfl,hu,fun _=>⟨by simp,fun _=>h0,fun _ _=>i3 (by omega) (by omega),fun _ _=>⟨by simp only[];omega,hl.2⟩,fun _=>hc0,fun hf=>by simp at hf,fun hf=>by simp at hf⟩⟩
  ·exact⟨(((C.load _ _).point ..).answer ..).mono (by omega) (by omega) (by omega),rfl,fun _ _=>rfl,hu,fun _=>⟨by simp,fun _=>h0,fun _ hf=>by simp at hf,fun _ hf=>by simp at hf,fun hf=>by simp at hf,fun _=>by simp only[hc0];omega,fun hf=>by simp at hf⟩⟩
 rw[if_neg s5]
 by_cases s6:g.stage=6
 ·rw[if_pos s6]
  have hn:=i4 (by omega) (by omega)
  exact⟨(C.store _ _ _ (hwh 1 _ (by omega) (by omega) ⟨by omega,hn.2⟩)).mono (by omega) (by omega) (by omega),rfl,fun _ _=>rfl,hu,fun _=>⟨by simp,fun _=>h0,fun _ _=>i3 (by omega) (by omega),fun _ _=>hn,fun _=>i5 (by omega),fun hf=>by simp at hf,fun hf=>by simp at hf⟩⟩
 rw[if_neg s6]
 by_cases s7:g.stage=7
 ·rw[if_pos s7]
  have hn:=i4 (by omega) (by omega)
  have hT:=i3 (by omega) (by omega)
  have hc0:=i5 (by omega)
  refine⟨(C.load _ _).mono (by omega) (by omega) (by omega),rfl,fun _ _=>rfl,?_,fun _ => ?_⟩
  ·simp only[];split
   ·split<;>exact hu
   ·exact hu
  ·simp only[]
   split
   ·split
    ·exact⟨by simp,fun _=>h0,fun _ _=>hT,fun _ _=>hn,fun _=>hc0,fun hf=>by simp at hf,fun hf=>by simp at hf⟩
    ·exact⟨by simp,fun _=>h0,fun _ hf=>by simp at hf,fun _ _=>hn,fun _=>hc0,fun hf=>by simp at hf,fun hf=>by simp at hf⟩
   ·exact⟨by simp,fun _=>hh,fun hf=>by simp at hf,fun hf=>by simp at hf,fun _=>hc0,fun hf=>by simp at hf,fun hf=>by simp at hf⟩
 rw[if_neg s7]
 by_cases s8:g.stage=8
 ·rw[if_pos s8]
  exact⟨(C.swap (adr c 5 0) (m.word (adr c 5 0)) g.t g.n (wok_q5 hok _)).mono (by omega) (by omega) (by omega),rfl,fun _ _=>rfl,hu,fun _=>⟨by simp,fun hf=>by simp at hf,fun hf=>by simp at hf,fun hf=>by simp at hf,fun _=>i5 (by omega),fun hf=>by simp at hf,fun hf=>by simp at hf⟩⟩
 rw[if_neg s8]
 by_cases s9:g.stage=9
 ·rw[if_pos s9]
  have hn:=i4 (by omega) (by omega)
  exact⟨(C.load _ _).mono (by omega) (by omega) (by omega),rfl,fun _ _=>rfl,hu,fun _=>⟨by simp,fun _=>h0,fun _ hf=>by simp at hf,fun _ _=>hn,fun _=>i5 (by omega),fun hf=>by simp at hf,fun hf=>by simp at hf⟩⟩
 rw[if_neg s9]
 by_cases s10:g.stage=10
 ·rw[if_pos s10]
  have hc0:=i5 (by omega)
  have K:=C.swap (adr c 4 0) (m.word (adr c 4 0)) g.h0 g.n (wok_q4 hok _)
  split
  ·exact⟨(((K.point i x _).mshift _ _ _).ashift _ _ _).mono (by omega) (by omega) (by omega),rfl,fun _ _=>rfl,hu,fun _=>⟨by simp,fun _=>h0,fun _ hf=>by simp at hf,fun _ hf=>by simp at hf,fun hf=>by simp at hf,fun _=>by simp only[hc0];omega,fun hf=>by simp at hf⟩⟩
  ·exact⟨K.mono (by omega) (by omega) (by omega),rfl,fun _ _=>rfl,hu,fun _=>⟨by simp,fun hf=>by simp at hf,fun hf=>by simp at hf,fun hf=>by simp at hf,fun _=>hc0,fun hf=>by simp at hf,fun hf=>by simp at hf⟩⟩
 rw[if_neg s10]
 by_cases s11:g.stage=11
 ·rw[if_pos s11]
  have hcl:=i6 s11
  unfold gtEnd
  simp only[]
  have K0:=C.store (qHz h g.thread g.cleared) (m.word (qHz h g.thread g.cleared)) 0 (hwh _ 0 (by omega) (by omega) (by omega))
  split
  ·rename_i h1
   exact⟨K0.mono (by omega) (by omega) (by omega),rfl,fun _ _=>rfl,hu,fun _=>⟨by simp[s11],fun _=>h0,fun _ (hf:g.stage≤8)=>by omega,fun _ (hf:g.stage≤10)=>by omega,fun(hf:g.stage≤10)=>by omega,fun _=>⟨by simp only[];omega,by simp only[];omega⟩,fun(hf:g.stage=12)=>by omega⟩⟩
  ·split
   ·exact⟨K0.mono (by omega) (by omega) (by omega),rfl,fun _ _=>rfl,hu,fun hf=>(by cases hf)⟩
   ·have K:=K0.answer t se 2 g.value
    have R:=retire_core (r:=⟨g.thread,g.h0-1,none⟩) K (by simp only[];omega) (by simp only[];omega) (by simp only[];omega) (by simp only[];omega) (by simp only[hu,Yo];exact hd)
    generalize Zr h a _ ⟨g.thread,g.h0-1,none⟩=r at R ⊢
    obtain⟨q1,q2,q3,q4⟩:=R
    refine⟨q1.mono (by omega) (by omega) (by omega),q3,fun j _=>by rw[q4],hu,fun hf => ?_⟩
    obtain⟨sc,e1,e2,e3⟩:=q2 hf
    exact⟨by simp,fun _=>h0,fun _ hf=>by simp at hf,fun _ hf=>by simp at hf,fun hf=>by simp at hf,fun hf=>by simp at hf,fun _=>⟨_,sc,rfl,e1,e2,e3⟩⟩
 rw[if_neg s11]
 have s12:g.stage=12:=by omega
 obtain⟨r,sc,e1,e2,e3,e4⟩:=i7.out s12
 rw[e1]
 simp only[e2]
 have F:=scan_core C e3 hN
 generalize Zl h a m sc=q at F ⊢
 obtain⟨f1,f2,f3,f4,f5⟩:=F
 exact⟨f1.mono (by omega) (by omega) (by omega),f3,fun j hj=>f4 j (by rw[e4,hu];simpa using hj),hu,fun hf=>⟨by simp[s12],fun _=>h0,fun _ (h7:g.stage≤8)=>absurd h7 (by rw[s12];decide),fun _ (h7:g.stage≤10)=>absurd h7 (by rw[s12];decide),fun(h7:g.stage≤10)=>absurd h7 (by rw[s12];decide),fun(h5:g.stage=11)=>absurd h5 (by rw[s12];decide),fun _=>⟨_,_,rfl,rfl,f2 hf,by rw[f5,e4]⟩⟩⟩
end
end
section
def qkOkr (s:Haz×Are)(m:Mch)(t:Nat):Zx→Prop
 | .hz k=>htOkr s m t k
 | .put p=>(HazOk s.1 s.2 m∧0≤p.thread∧p.thread<s.1.c.T∧0≤s.1.held.getD p.thread.toNat 0)∧p.take=⟨p.thread,1,0,0,0,false⟩∧p.stage=0
 | .get g=>(HazOk s.1 s.2 m∧0≤g.thread∧g.thread<s.1.c.T∧0≤s.1.held.getD g.thread.toNat 0)∧g.stage=0∧g.cleared=0
def qkOks (s:Haz×Are)(m:Mch)(t:Nat):Zx→Prop
 | .hz k=>htOks s m t k
 | .put p=>PtOk s.1 s.2 m p
 | .get g=>GtOk s.1 s.2 m g
section
variable {c:Cfg}{L S N:Nat}{h:Haz}{a:Are}{m:Mch}
theorem ht_rdy_words {i t:Nat}{cl:Cll}{se:Sea}{k:Z8}:(Qw (h,a) m i t cl se k).2.2.1.mem.words=m.mem.words:=by
 cases k with
 | pst p=>
  simp only[Qw]
  unfold ZM
  simp only[]
  have e:(Zf a m ⟨p.thread,1,0,0,0,false⟩).2.2.1.mem.words=m.mem.words:=by unfold Zf;simp only[];split<;>rfl
  split
  ·unfold ZH
   split<;>exact e
  ·exact e
 | reg r=>rfl
 | unr u=>rfl
 | rdg r=>rfl
 | clr ad=>rfl
 | scn s=>rfl
theorem qk_rdy {i t:Nat}{cl:Cll}{se:Sea}{k:Zx}(C:Jz (QM c) c L S N h a m)(ht:(t:Int)<c.T)(I:QI c t false (h.held.getD t 0) (a.caches.getD t []) k) :
  StM (QM c) (QI c) c L (S+1) N t h a (Q6 (h,a) m i t cl se k)∧(Q6 (h,a) m i t cl se k).2.2.1.used=m.used:=by
 cases k with
 | hz k=>
  obtain⟨⟨e1,e2,e3⟩,e4⟩:=ready_core (i:=i) (cl:=cl) (se:=se) C.toCore ht I
  refine⟨⟨⟨e1,?_⟩,e2,e3⟩,e4⟩
  show QM c (Qw (h,a) m i t cl se k).2.2.1.mem.words
  rw[ht_rdy_words];exact C.mw
 | put p=>
  obtain⟨i1,i2,i3,i4⟩:=I
  obtain⟨⟨e1,e2,e3,e4⟩,e5,e6⟩:=ptReady_core (i:=i) (x:=cl) (se:=se) C.toCore ht i1 (i3 rfl).1
  refine⟨⟨⟨e1,?_⟩,⟨fun _ _=>rfl,e2⟩,fun hf=>⟨e3,i2,fun hf=>(by cases hf),fun _=>⟨e4 hf,ptReady_hz.trans (qHz_eq C.hc i1)⟩⟩⟩,e5⟩
  show QM c (ZW h a m i t cl se p).2.2.1.mem.words
  rw[e6];exact C.mw
 | get g=>
  obtain⟨i1,i2,i3,i4⟩:=I
  have hc:=(i3 rfl).1
  exact⟨⟨C.mono (by omega) (by omega) (by omega),.refl ..,fun _=>⟨i1,i2,fun hf=>(by cases hf),fun _=>⟨⟨by simp,fun hf=>by simp at hf,fun hf=>by simp at hf,fun hf=>by simp at hf,fun _=>hc,fun hf=>by simp at hf,fun hf=>by simp at hf⟩,qHz_eq C.hc i1,qHz_eq C.hc i1⟩⟩⟩,rfl⟩
theorem qk_stp {i t:Nat}{cl:Cll}{se:Sea}{k:Zx}(C:Jz (QM c) c L S N h a m)(hN:N<1000000)(ht:(t:Int)<c.T)(I:QI c t true (h.held.getD t 0) (a.caches.getD t []) k) :
  StG (QI c) c (L+1) (S+66) (N+1) t h a (Q5 (h,a) m i t cl se k):=by
 cases k with
 | hz k=>
  obtain⟨e1,e2,e3⟩:=step_core (i:=i) (x:=cl) (se:=se) C.toCore hN ht I
  exact⟨e1,e2,e3⟩
 | put p=>
  obtain⟨i1,i2,i3,i4⟩:=I
  obtain⟨e1,e2,e3,e4⟩:=ptStep_core (i:=i) (x:=cl) (se:=se) C.toCore C.mw ht i1 i2 (i4 rfl).1
  exact⟨e1.mono (by omega) (by omega) (by omega),⟨fun _ _=>rfl,e2⟩,fun hf=>⟨e3,i2,fun hf=>(by cases hf),fun _=>⟨e4 hf,ptStep_hz.trans (i4 rfl).2⟩⟩⟩
 | get g=>
  obtain⟨i1,i2,i3,i4⟩:=I
  obtain⟨e1,e2,e3,e4,e5⟩:=gtStep_core (i:=i) (x:=cl) (se:=se) C.toCore C.mw hN ht i1 i2 (i4 rfl).1
  exact⟨e1,⟨fun j _=>by show(Z6 h a m i t cl se g).2.1.held[j]? = _;rw[e2],e3⟩,fun hf=>⟨e4,by show 0≤(Z6 h a m i t cl se g).2.1.held.getD t 0;rw[e2];exact i2,fun hf=>(by cases hf),fun _=>⟨e5 hf,by rw[gtStep_hz.1];show g.hz0=qZ c ((Z6 h a m i t cl se g).2.1.held.getD t 0) 0;rw[e2];exact(i4 rfl).2.1,by rw[gtStep_hz.2];show g.hz1=qZ c ((Z6 h a m i t cl se g).2.1.held.getD t 0) 1;rw[e2];exact(i4 rfl).2.2⟩⟩⟩
theorem pt_oks {t:Nat}{p:Pt}(C:Jz (QM c) c L S N h a m)(hu:m.used=false)(hL:L<4294967296)(hS:S<1000000000)(hN:N<1000000)(ht:(t:Int)<c.T)(ht2:p.thread=(t:Int))(hd:0≤h.held.getD t 0)(I:PtI c p)(hZ:p.hz=qZ c (h.held.getD t 0) 0):PtOk h a m p:=by
 have hc:=C.hc
 have hS2:=C.ok.S2
 obtain⟨i1,i2,i3,i4,i5⟩:=I
 have hq:=QM.tail C.mw
 refine⟨C.toCore.haz hu hL hS hN,by omega,by rw[hc];omega,by rw[ht2];simpa using hd,i1,fun h1 => ?_,fun h1=>by rw[hc];exact i3 h1,by rw[hc];exact⟨by omega,hq.2⟩,fun h5=>by rw[hc];exact i4 h5,fun h5 => ?_,hZ.trans (qHz_eq hc ht2).symm⟩
 ·have e:=(take_core C.toCore (i2 h1)).2.2.1
  exact⟨(i2 h1).ok C.toCore hu hL hS hN,by omega,by omega⟩
 ·have:=i4 h5
  rw[hc]
  exact C.toCore.linkW (by omega) (by omega)
theorem gt_oks {t:Nat}{g:Gt}(C:Jz (QM c) c L S N h a m)(hu:m.used=false)(hL:L<4294967296)(hS:S<1000000000)(hN:N<1000000)(ht:(t:Int)<c.T)(ht2:g.thread=(t:Int))(hd:0≤h.held.getD t 0)(I:GtI c g)(hZ0:g.hz0=qZ c (h.held.getD t 0) 0)(hZ1:g.hz1=qZ c (h.held.getD t 0) 1):GtOk h a m g:=by
 have hc:=C.hc
 obtain⟨i1,i2,i3,i4,i5,i6,i7⟩:=I
 have hq:=QM.head C.mw
 refine⟨C.toCore.haz hu hL hS hN,by omega,by rw[hc];omega,by rw[ht2];simpa using hd,i1,by rw[hc];exact⟨by omega,hq.2⟩,fun h1=>by rw[hc];exact i2 h1,fun h1 => ?_,fun h1 h2=>by rw[hc];exact i4 h1 h2,fun h1 => ?_,fun h9 => ?_,hZ0.trans (qHz_eq hc ht2).symm,hZ1.trans (qHz_eq hc ht2).symm⟩
 ·have:=i2 h1
  rw[hc]
  exact C.toCore.linkW (by omega) (by omega)
 ·by_cases h10:g.stage≤10
  ·have:=i5 h10;omega
  ·have:=i6 (by clear i7;omega);omega
 ·obtain⟨r,sc,e1,e2,e3,e4⟩:=i7 h9
  exact⟨r,sc,e1,e2,e3.ok C.toCore hu hL hS hN⟩
theorem qk_okr {t:Nat}{k:Zx}(C:Jz (QM c) c L S N h a m)(hu:m.used=false)(hL:L<4294967296)(hS:S<1000000000)(hN:N<1000000)(ht:(t:Int)<c.T)(I:QI c t false (h.held.getD t 0) (a.caches.getD t []) k):qkOkr (h,a) m t k:=by
 have hc:=C.hc
 cases k with
 | hz k=>exact okr_of C.toCore hu hL hS hN ht I
 | put p=>
  obtain⟨i1,i2,i3,i4⟩:=I
  exact⟨⟨C.toCore.haz hu hL hS hN,by rw[i1];omega,by rw[i1,hc];exact ht,by rw[i1];simpa using i2⟩,by rw[(i3 rfl).1,i1],(i3 rfl).2⟩
 | get g=>
  obtain⟨i1,i2,i3,i4⟩:=I
  exact⟨⟨C.toCore.haz hu hL hS hN,by rw[i1];omega,by rw[i1,hc];exact ht,by rw[i1];simpa using i2⟩,(i3 rfl).2,(i3 rfl).1⟩
theorem qk_oks {t:Nat}{k:Zx}(C:Jz (QM c) c L S N h a m)(hu:m.used=false)(hL:L<4294967296)(hS:S<1000000000)(hN:N<1000000)(ht:(t:Int)<c.T)(I:QI c t true (h.held.getD t 0) (a.caches.getD t []) k):qkOks (h,a) m t k:=by
 cases k with
 | hz k=>exact oks_of C.toCore hu hL hS hN ht I
 | put p=>exact pt_oks C hu hL hS hN ht I.1 I.2.1 (I.2.2.2 rfl).1 (I.2.2.2 rfl).2
 | get g=>exact gt_oks C hu hL hS hN ht I.1 I.2.1 (I.2.2.2 rfl).1 (I.2.2.2 rfl).2.1 (I.2.2.2 rfl).2.2
theorem qk_made {t:Nat}{mv:Mv}{k:Zx}(C:Jz (QM c) c L S N h a m)(ht:(t:Int)<c.T)(hm:qTask (h,a) t mv=some k)(ca:List Int):QI c t false (h.held.getD t 0) ca k:=by
 unfold qTask at hm
 split at hm
 ·split at hm
  ·cases hm
  ·rename_i hn
   cases hm
   exact⟨rfl,by simpa using hn,fun _=>⟨rfl,rfl⟩,fun hf=>(by cases hf)⟩
 ·split at hm
  ·split at hm
   ·cases hm
   ·rename_i hn
    cases hm
    exact⟨rfl,by simpa using hn,fun _=>⟨rfl,rfl⟩,fun hf=>(by cases hf)⟩
  ·cases hq:Qr (h,a) t mv with
   | none=>rw[hq]at hm;cases hm
   | some q=>
    rw[hq]at hm
    cases hm
    exact made_inv C.toCore ht hq ca
end
theorem qk_inv (c:Cfg)(X:Haz×Are→Zc)(R:Zx→Value→Zc):TInM (QM c) c ⟨X,R,Q6,Q5,fun s m t k=>s.1.c=c∧qkOkr s m t k,fun s m t k=>s.1.c=c∧qkOks s m t k⟩ qTask (QI c):=
 ⟨fun C ht I=>qk_rdy C ht I,fun C hN ht I=>qk_stp C hN ht I,fun C hu hL hS hN ht I=>⟨C.hc,qk_okr C hu hL hS hN ht I⟩,fun C hu hL hS hN ht I=>⟨C.hc,qk_oks C hu hL hS hN ht I⟩,fun C ht hm ca=>qk_made C ht hm ca⟩
end
end Go.Proofs.YtefjbdajgakgpaaGreat
