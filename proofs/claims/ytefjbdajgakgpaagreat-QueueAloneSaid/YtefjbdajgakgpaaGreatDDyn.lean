import Derived.Test.YtefjbdajgakgpaaGreatDHaz7
set_option linter.all false
namespace Go.Proofs.YtefjbdajgakgpaaGreat
section
open Go.RowKit Hp
set_option maxRecDepth 100000
set_option maxHeartbeats 1000000
attribute [local irreducible] Go.Calls
def Zl (h:Haz)(a:Are)(m:Mch)(s:Scn):Bool×Haz×Are×Mch×Scn:=
 if s.stage=0 then ((Jp h m s).1,h,a,(Jp h m s).2.1,(Jp h m s).2.2)
 else if s.stage=1 then ((QJ h m s).1,(QJ h m s).2.1,a,(QJ h m s).2.2.1,(QJ h m s).2.2.2)
 else if s.stage=2 then ((Jj h m s).1,h,a,(Jj h m s).2.1,(Jj h m s).2.2)
 else if s.stage=3 then QU h a m s
 else match s.give with
  | some p=>((QK h a m s p).1,h,(QK h a m s p).2.1,(QK h a m s p).2.2.1,(QK h a m s p).2.2.2)
  | none=>(true,h,a,m,s)
structure HazOk (h:Haz)(a:Are)(m:Mch):Prop where
 ok:AOk a m
 c:h.c=a.c
 held:h.held.length=h.c.T.toNat
 hin:∀r∈h.held,-1≤r∧r<h.c.R
 lists:h.lists.length=h.c.R.toNat
 lens:∀l∈h.lists,l.length<1000000
 ins:∀l∈h.lists,∀z∈l,0≤z∧z<a.c.Sl
 caches:a.caches.length=a.c.T.toNat
 clens:∀x∈a.caches,x.length<1000000
 cins:∀x∈a.caches,∀z∈x,0≤z∧z<a.c.Sl
 sh:m.shifts.length<1000000000
structure ScanOk (h:Haz)(a:Are)(m:Mch)(s:Scn):Prop where
 hz:HazOk h a m
 rec0:0≤s.record
 rec1:s.record<h.c.R
 thr0:0≤s.thread
 thr1:s.thread<h.c.T
 stage:s.stage=0∨s.stage=1∨s.stage=2∨s.stage=3∨s.stage=5
 try_:s.stage≤2→0≤s.at_∧s.at_<h.c.R∧s.at_≠s.record
 look:s.stage=3→(0≤s.at_∧s.at_<h.c.R*h.c.Hz)∧s.hasMap=true∧s.pending=[]∧(0≤m.word (base h.c 9+s.at_).toNat∧m.word (base h.c 9+s.at_).toNat≤2147483647)∧∀k,0≤s.named k∧s.named k≤1000
 give:s.stage=5→∃p,s.give=some p∧PushOk a m p∧(∀z∈s.pending,0≤z∧z<a.c.Sl)∧s.pending.length<1000000
theorem HazOk.list {h:Haz}{a:Are}{m:Mch}(k:HazOk h a m){r:Int}(h0:0≤r)(h1:r<h.c.R):∃x,h.lists[r.toNat]? = some x∧x.length<1000000∧∀z∈x,0≤z∧z<a.slots.length:=by
 have hl:r.toNat<h.lists.length:=by rw[k.lists];omega
 refine⟨_,Yd hl,k.lens _ (List.getElem_mem hl),fun z hz => ?_⟩
 obtain⟨z0,z1⟩:=k.ins _ (List.getElem_mem hl) z hz
 rw[k.ok.slots]
 omega
theorem HazOk.cache {h:Haz}{a:Are}{m:Mch}(k:HazOk h a m){t:Int}(h0:0≤t)(h1:t<h.c.T):∃x,a.caches[t.toNat]? = some x∧x.length<1000000∧∀z∈x,0≤z∧z<a.slots.length:=by
 have hl:t.toNat<a.caches.length:=by rw[k.caches,←k.c];omega
 refine⟨_,Yd hl,k.clens _ (List.getElem_mem hl),fun z hz => ?_⟩
 obtain⟨z0,z1⟩:=k.cins _ (List.getElem_mem hl) z hz
 rw[k.ok.slots]
 omega
theorem HazOk.hold {h:Haz}{a:Are}{m:Mch}(k:HazOk h a m){t:Int}(h0:0≤t)(h1:t<h.c.T):∃r,h.held[t.toNat]? = some r ∧ -1≤r∧r<h.c.R:=by
 have hl:t.toNat<h.held.length:=by rw[k.held];omega
 exact⟨_,Yd hl,k.hin _ (List.getElem_mem hl)⟩
theorem pushStep_shifts (a:Are)(m:Mch)(p:Psh):(Za a m p).2.2.1.shifts.length≤m.shifts.length+1:=by
 unfold Za;split
 ·simp[Mch.load]
 ·split
  ·simp[Mch.store]
  ·simp only[];split<;>simp[Mch.shift,Mch.swap]
theorem pushStep_slots (a:Are)(m:Mch)(p:Psh):(Za a m p).2.1.slots.length=a.slots.length:=by
 unfold Za;split
 ·rfl
 ·split
  ·rfl
  ·simp only[];split<;>simp[Are.shift]
theorem Hp.Zk.frame {P:Program}{f:FuncId}{args:Array Value}{A:Zc}{v:Value}{B:Zc}(h:Zk P f args A v B)(R:Zc):Zk P f args (A*R) v (B*R):=by
 intro O w F hs
 rw[Ma]at hs
 refine(h O w (R*F) hs).mono fun e w' he=>⟨he.1,?_⟩
 rw[Ma];exact he.2
theorem scan_step (gs bh ba d bx bm:Nat)(h:Haz)(a:Are)(m:Mch)(s:Scn)(ok:ScanOk h a m s) :
  Zk Tryz.prog 176 #[.pointer (some ⟨gs,0,none⟩),.pointer (some ⟨d,0,none⟩)] (ScnR gs bh ba s*(HazR bh ba h*(AreR ba a*DkR d bx bm m))) (.bool (Zl h a m s).1)
   (ScnR gs bh ba (Zl h a m s).2.2.2.2*(HazR bh ba (Zl h a m s).2.1*(AreR ba (Zl h a m s).2.2.1*DkR d bx bm (Zl h a m s).2.2.2.1))):=by
 obtain⟨hz,r0,r1,t0,t1,hst,htry,hlook,hgive⟩:=ok
 obtain⟨x,hx,hxl,hxin⟩:=hz.list r0 r1
 have hn:s.record=(s.record.toNat:Int):=by omega
 have ht:s.thread=(s.thread.toNat:Int):=by omega
 have comm:∀(A B C D:Zc),A*(B*(C*D))=A*(B*D)*C:=fun A B C D=>by ac_rfl
 rcases hst with e|e|e|e|e
 ·obtain⟨a0,a1,_⟩:=htry (by omega)
  have:=(scan_try gs bh ba d bx bm h m a s s.record.toNat x e hn hx hz.ok hz.c a0 a1).frame (AreR ba a)
  unfold Zl
  simp only[e,if_true]
  rw[comm,comm];exact this
 ·obtain⟨a0,a1,hne⟩:=htry (by omega)
  obtain⟨y,hy,hyl,_⟩:=hz.list a0 a1
  have:=(scan_take gs bh ba d bx bm h m a s s.record.toNat s.at_.toNat x y e hn (by omega) (by omega) hx hy hz.ok hz.c a1 (by omega)).frame (AreR ba a)
  unfold Zl
  simp only[e,if_neg (show ¬(1:Int)=0 by omega),if_true]
  rw[comm,comm];exact this
 ·obtain⟨a0,a1,_⟩:=htry (by omega)
  have:=(scan_leave gs bh ba d bx bm h m a s s.record.toNat x e hn hx hz.ok hz.c a0 a1).frame (AreR ba a)
  unfold Zl
  simp only[e,if_neg (show ¬(2:Int)=0 by omega),if_neg (show ¬(2:Int)=1 by omega),if_true]
  rw[comm,comm];exact this
 ·obtain⟨⟨a0,a1⟩,hm,hp,⟨w0,w1⟩,hnm⟩:=hlook e
  obtain⟨y,hy,hyl,_⟩:=hz.cache t0 t1
  have:=scan_look gs bh ba d bx bm h a m s s.record.toNat s.thread.toNat x ⟨e,hn,ht,hx,hz.ok,hz.c,a0,a1,hm,hp,hxl,hxin,⟨y,hy,hyl⟩,hz.sh,w0,w1,hnm⟩
  unfold Zl
  simp only[e,if_neg (show ¬(3:Int)=0 by omega),if_neg (show ¬(3:Int)=1 by omega),if_neg (show ¬(3:Int)=2 by omega),if_true]
  exact this
 ·obtain⟨p,hg,hp,hpin,hpl⟩:=hgive e
  obtain⟨y,hy,hyl,_⟩:=hz.cache t0 t1
  have:=scan_give gs bh ba d bx bm h a m s p s.record.toNat s.thread.toNat e hn ht hg hp ⟨⟨y,by rw[pushStep_caches];exact hy,by omega⟩,fun z hzz=>by
   obtain⟨z0,z1⟩:=hpin z hzz
   rw[pushStep_slots,hz.ok.slots]
   omega,by have:=pushStep_shifts a m p;have:=hz.sh;omega⟩
  unfold Zl
  simp only[e,if_neg (show ¬(5:Int)=0 by omega),if_neg (show ¬(5:Int)=1 by omega),if_neg (show ¬(5:Int)=2 by omega),if_neg (show ¬(5:Int)=3 by omega),hg]
  exact this
/-! ### Retiring -/
structure Ret where
 thread:Int
 slot:Int
 scan:Option Scn
def scanR (bh ba:Nat)(o:Option Scn)(v:Value):Zc:=match o with
 | none=>pu (v=.pointer none)
 | some s=>ex fun g=>pu (v=.pointer (some ⟨g,0,none⟩))*ScnR g bh ba s
theorem scan_none {O w:World}{bh ba:Nat}{R:Zc}(hs:Sat O w R):Sat O w (scanR bh ba none (.pointer none)*R):=by
 unfold scanR
 simp only[Zz]
 exact⟨trivial,hs⟩
theorem scan_get {O w:World}{bh ba:Nat}{s:Scn}{v:Value}{R:Zc}:Sat O w (scanR bh ba (some s) v*R)↔∃g,v=.pointer (some ⟨g,0,none⟩)∧Sat O w (ScnR g bh ba s*R):=by
 unfold scanR
 simp only[ZG,Ma,Zz]
def RetR (g bh ba:Nat)(r:Ret):Zc:=ex fun v=>pt g (.cells #[.pointer (some ⟨bh,0,none⟩),.int .i64 r.thread,.int .i64 r.slot,v] 287)*scanR bh ba r.scan v
theorem retR {O w:World}{g bh ba:Nat}{r:Ret}{R:Zc}:Sat O w (RetR g bh ba r*R)↔∃v,Sat O w (pt g (.cells #[.pointer (some ⟨bh,0,none⟩),.int .i64 r.thread,.int .i64 r.slot,v] 287)*(scanR bh ba r.scan v*R)):=by
 unfold RetR
 simp only[ZG,Ma]
theorem retR_mk {O w:World}{g bh ba:Nat}{r:Ret}{R:Zc}{v:Value}(hs:Sat O w (pt g (.cells #[.pointer (some ⟨bh,0,none⟩),.int .i64 r.thread,.int .i64 r.slot,v] 287)*(scanR bh ba r.scan v*R))):Sat O w (RetR g bh ba r*R):=retR.2 ⟨_,hs⟩
attribute [irreducible] scanR RetR
theorem haz_retire (bh ba:Nat)(t s:Int):Makes Tryz.prog 172 #[.pointer (some ⟨bh,0,none⟩),.int .i64 t,.int .i64 s] emp (fun g=>RetR g bh ba ⟨t,s,none⟩):=by
 intro O w F hs
 go_enter Tryz.func172,Tryz.ntmps172
 go_wp2_with ((with_reducible apply Zt hs);rfl;rfl;rfl;clear hs;intro w b hs;simp only[Uc,Uz])
 go_ret
 refine⟨_,rfl,?_⟩
 apply retR_mk (v:=.pointer none)
 have hs:=scan_none (bh:=bh) (ba:=ba) hs
 (with_reducible apply Sat.fin hs;repeat first|exact Ql|exact Qh|apply Qb|apply Qk)
def Zr (h:Haz)(a:Are)(m:Mch)(r:Ret):Bool×Haz×Are×Mch×Ret:=
 let rec_:=h.held.getD r.thread.toNat 0
 let h1:={ h with lists:=h.lists.set rec_.toNat (h.lists.getD rec_.toNat []++[r.slot]) }
 let a1:=a.shift r.slot.toNat m.thread 5
 let m1:=m.shift r.slot (a.slots.getD r.slot.toNat ⟨0,0⟩).state 5
 if ((h.lists.getD rec_.toNat []).length:Int)+1<h.c.Rt then (true,h1,a1,m1,r)
 else ((ZF h1 ⟨r.thread,rec_,6,0,false,fun _=>0,[],none⟩).1,h1,a1,m1,{ r with scan:=some (ZF h1 ⟨r.thread,rec_,6,0,false,fun _=>0,[],none⟩).2 })
theorem HazOk.shift {h:Haz}{a:Are}{m:Mch}(k:HazOk h a m)(i:Nat)(t to:Int):HazOk h (a.shift i t to) m:=
 ⟨⟨k.ok.c,k.ok.used,k.ok.words,k.ok.log,k.ok.ahead,k.ok.shifts,by simp only[Are.shift,List.length_set];exact k.ok.slots⟩,k.c,k.held,k.hin,k.lists,k.lens,k.ins,k.caches,k.clens,k.cins,k.sh⟩
theorem retire_ready (gr bh ba d bx bm:Nat)(h:Haz)(a:Are)(m m0:Mch)(r:Ret)(ok:HazOk h a m0)(hsh:m.shifts.length<4294967296)(t0:0≤r.thread)(t1:r.thread<h.c.T)(s0:0≤r.slot)(s1:r.slot<h.c.Sl)(hr:0≤h.held.getD r.thread.toNat 0)(hn:r.scan=none) :
  Zk Tryz.prog 173 #[.pointer (some ⟨gr,0,none⟩),.pointer (some ⟨d,0,none⟩)] (RetR gr bh ba r*(HazR bh ba h*(AreR ba a*DkR d bx bm m))) (.bool (Zr h a m r).1)
   (RetR gr bh ba (Zr h a m r).2.2.2.2*(HazR bh ba (Zr h a m r).2.1*(AreR ba (Zr h a m r).2.2.1*DkR d bx bm (Zr h a m r).2.2.2.1))):=by
 intro O w F hs
 simp only[Ma]at hs
 obtain⟨rt,rs,rc⟩:=r
 simp only[]at t0 t1 s0 s1 hr hn
 subst hn
 obtain⟨t,rfl⟩:=Int.eq_ofNat_of_zero_le t0
 obtain⟨i,rfl⟩:=Int.eq_ofNat_of_zero_le s0
 obtain⟨rc,hrc,rc0,rc1⟩:=ok.hold t0 t1
 rw[Yo]at hrc
 have hrd:h.held.getD t 0=rc:=by simp[Yb,hrc]
 rw[Yo,hrd]at hr
 obtain⟨n,rfl⟩:=Int.eq_ofNat_of_zero_le hr
 obtain⟨x,hx,hxl,hxin⟩:=ok.list hr rc1
 rw[Yo]at hx
 have hxd:h.lists.getD n []=x:=by simp[Yb,hx]
 have hil:i<a.slots.length:=by rw[ok.ok.slots];have:=ok.c;rw[this]at s1;omega
 have hR:=Lh (Q3 bh ba h t n hrc)
 have hSh:=Lh (Jb ba d bx bm a m i (a.slots.getD i ⟨0,0⟩) 5 (by simp[hil]) (by omega) (by omega) hsh)
 have hlt:=(List.getElem?_eq_some_iff.1 hx).1
 have hOk:h.c.Ok:=ok.c▸ok.ok.c
 have hR16:=hOk.R2
 have hRt:=hOk.Rt2
 have hx1:({ h with lists:=h.lists.set n (x++[(i:Int)]) }:Haz).lists[n]? = some (x++[(i:Int)]):=by simp[hlt]
 have hSc:=Lh (haz_scan bh ba { h with lists:=h.lists.set n (x++[(i:Int)]) } t n hrc)
 have hSR:=fun g=>scan_ready g bh ba (.pointer (some ⟨d,0,none⟩)) { h with lists:=h.lists.set n (x++[(i:Int)]) } ⟨t,n,6,0,false,fun _=>0,[],none⟩ n (x++[(i:Int)]) rfl hx1 hR16
 unfold Zr
 simp only[Yo,hrd,hxd]
 generalize ZF { h with lists:=h.lists.set n (x++[(i:Int)]) } ⟨t,n,6,0,false,fun _=>0,[],none⟩=q at hSR ⊢
 obtain⟨q1,q2⟩:=q
 have HSR:=Lh hSR;clear hSR
 have n1:decide ((n:Int)<0)=false:=by simp
 have n2:decide ((i:Int)<0)=false:=by simp
 have n3:decide ((i:Int)≥h.c.Sl)=false:=by simp;omega
 obtain⟨vsc,hs⟩:=retR.1 hs
 simp only[]at hs
 replace hs:=hs.pull (A:=HazR bh ba h) (by (with_reducible repeat first|exact Qh|apply Qk))
 generalize a.slots.getD i ⟨0,0⟩=st at hSh ⊢
 clear hx1 hrd hxd hxin ok
 by_cases hq:(x.length:Int)+1<h.c.Rt
 ·have hq':decide ((x.length:Int)+1<h.c.Rt)=true:=by simpa using hq
  have HQ:=Lh hq;clear hq
  simp only[if_pos HQ.out]
  (replace hs:=hs.pull (A:=HazR bh _ _) (by (with_reducible exact Qh));obtain⟨vhh,vhl,hus_,hu_,husl,husg,hs⟩:=hazT hs hx)
  have hltu:n<hus_.length:=by omega
  go_enter Tryz.func173,Tryz.ntmps173
  go_wp2_with (first|(with_reducible first|apply NQ.mk|apply EQ.mk|exact Zg|apply Zj)|((with_reducible apply Zi);rfl;rfl)|((with_reducible apply Zo);rfl)|((with_reducible refine Zn ?_ ?_);focus((with_reducible apply ZI);rfl;rfl))|(show Qd _ _ _;rfl)|((with_reducible apply Zb hs);exact Ii;rfl;(with_reducible repeat first|exact Qh|apply Qk);rfl;rfl;simp only[Uc,Uz])|((with_reducible apply ZE hs);exact Ii;rfl;assumption;(with_reducible repeat first|exact Qh|apply Qk);rfl;(first|exact Ze (by assumption)|exact Qp (by exact Ze (by assumption)));rfl;rfl;simp only[Uc,Uz])|((with_reducible apply QO hs);exact Ii;rfl;rfl;assumption;(with_reducible repeat first|exact Qh|apply Qk);rfl;(exact Ze (by assumption));exact Vb rfl;(apply QS;apply hs.pull;(with_reducible exact Qh));rfl;clear hs;intro w hs)|((with_reducible apply Jv hs);exact Ii;exact Ii;rfl;assumption;rfl;(with_reducible repeat first|exact Qh|apply Qk);rfl;(simp only[Wm,Ws,Wa,Wc,Wn,Wr]at *;omega);rfl;simp only[Uc,Uz])|((with_reducible apply Qe hs);exact Ii;exact Ii;rfl;rfl;(with_reducible repeat first|exact Qh|apply Qk);rfl;(simp only[Wm,Ws,Wa,Wc,Wn,Wr]at *;omega);rfl;intro b off hat;simp only[Uc,Uz])|((with_reducible apply ZS hs);exact Ii;rfl;(with_reducible repeat first|exact Qh|apply Qk);rfl;simp only[Uc,Uz])|((with_reducible apply wl_bs hs);exact Ii;exact Ii;rfl;rfl;rfl;rfl;exact Vb rfl;rfl;clear hs;intro w v hs;simp only[Uc,Uz])|((with_reducible apply JA hs);exact Ii;exact Ii;rfl;rfl;(focus with_reducible (repeat first|exact Qh|apply Qk);done);(with_reducible exact Qh);(simp only[Wm,Ws,Wa,Wc,Wn,Wr]at *;omega);exact Vb rfl;rfl;clear hs;intro w v hs;simp only[Uc,Uz])|(go_at_call 69;(replace hs:=hazT_back husl husg hx (hs.fin (by (with_reducible exact Ql))));((refine(hR.out).at hs (by (with_reducible exact Qh)) ?_);clear hs;intro w hs;(try simp only[Em,Ma]at hs));(replace hs:=hs.pull (A:=HazR bh _ _) (by (with_reducible exact Qh));obtain⟨vhh,vhl,hus_,hu_,husl,husg,hs⟩:=hazT hs hx);(have hltu:n<hus_.length:=by omega))|(go_at_call 149;(refine(hSh.out).at hs (by with_reducible repeat first|exact Qh|apply Qb|apply Qk) ?_;clear hs;intro w hs;(try simp only[Em,Ma]at hs)))|((with_reducible refine Wp (id:=5) (Paz (Pbz (Pcz (Pdz [.neu 20])))) hs rfl ?_ ?_);kernel_rfl;clear hs;intro w hs)|((with_reducible refine Wp (id:=7) (Paz [.neu 5,.neu 6,.neu 7,.neu 8,.eff 9 []]) hs rfl ?_ ?_);kernel_rfl;clear hs;intro w hs)|((with_reducible refine Wp (id:=8) (Paz (Pbz (Pcz [.neu 15,.eff 16 [0,1,2,3,4,5,6,7,8,9,10,11],.eff 17 [0,1,2,3,4],.neu 18,.eff 19 []]))) hs rfl ?_ ?_);kernel_rfl;clear hs;intro w hs)|((with_reducible refine Wp (id:=9) (Paz (Pbz [.neu 10,.neu 11,.neu 12,.neu 13])) hs rfl ?_ ?_);kernel_rfl;clear hs;intro w hs))
  go_ret
  refine⟨rfl,?_⟩
  simp only[Ma]
  (replace hs:=hazT_mk (x:=((x++[(i:Int)]))) husl hlt (hs.fin (by (focus((repeat(first|with_reducible exact Ql|with_reducible exact Qh|with_reducible apply Qb|exact Qh|with_reducible apply Qk));done)))) (by simp))
  apply retR_mk (v:=vsc)
  (with_reducible apply Sat.fin hs;repeat first|exact Ql|exact Qh|apply Qb|apply Qk)
 ·have hq':decide ((x.length:Int)+1<h.c.Rt)=false:=by simpa using hq
  have HQ:=Lh hq;clear hq
  simp only[if_neg HQ.out]
  (replace hs:=hs.pull (A:=HazR bh _ _) (by (with_reducible exact Qh));obtain⟨vhh,vhl,hus_,hu_,husl,husg,hs⟩:=hazT hs hx)
  have hltu:n<hus_.length:=by omega
  go_enter Tryz.func173,Tryz.ntmps173
  go_wp2_with (first|(with_reducible first|apply NQ.mk|apply EQ.mk|exact Zg|apply Zj)|((with_reducible apply Zi);rfl;rfl)|((with_reducible apply Zo);rfl)|((with_reducible refine Zn ?_ ?_);focus((with_reducible apply ZI);rfl;rfl))|(show Qd _ _ _;rfl)|((with_reducible apply Zb hs);exact Ii;rfl;(with_reducible repeat first|exact Qh|apply Qk);rfl;rfl;simp only[Uc,Uz])|((with_reducible apply Zv hs);exact Ii;rfl;rfl;(with_reducible repeat first|exact Qh|apply Qk);rfl;exact Vb rfl;rfl;clear hs;intro w hs;simp only[Yg,Uc,Uz]at hs)|((with_reducible apply ZE hs);exact Ii;rfl;assumption;(with_reducible repeat first|exact Qh|apply Qk);rfl;(first|exact Ze (by assumption)|exact Qp (by exact Ze (by assumption)));rfl;rfl;simp only[Uc,Uz])|((with_reducible apply QO hs);exact Ii;rfl;rfl;assumption;(with_reducible repeat first|exact Qh|apply Qk);rfl;(exact Ze (by assumption));exact Vb rfl;(apply QS;apply hs.pull;(with_reducible exact Qh));rfl;clear hs;intro w hs)|((with_reducible apply Jv hs);exact Ii;exact Ii;rfl;assumption;rfl;(with_reducible repeat first|exact Qh|apply Qk);rfl;(simp only[Wm,Ws,Wa,Wc,Wn,Wr]at *;omega);rfl;simp only[Uc,Uz])|((with_reducible apply Qe hs);exact Ii;exact Ii;rfl;rfl;(with_reducible repeat first|exact Qh|apply Qk);rfl;(simp only[Wm,Ws,Wa,Wc,Wn,Wr]at *;omega);rfl;intro b off hat;simp only[Uc,Uz])|((with_reducible apply ZS hs);exact Ii;rfl;(with_reducible repeat first|exact Qh|apply Qk);rfl;simp only[Uc,Uz])|((with_reducible apply wl_bs hs);exact Ii;exact Ii;rfl;rfl;rfl;rfl;exact Vb rfl;rfl;clear hs;intro w v hs;simp only[Uc,Uz])|((with_reducible apply JA hs);exact Ii;exact Ii;rfl;rfl;(focus with_reducible (repeat first|exact Qh|apply Qk);done);(with_reducible exact Qh);(simp only[Wm,Ws,Wa,Wc,Wn,Wr]at *;omega);exact Vb rfl;rfl;clear hs;intro w v hs;simp only[Uc,Uz])|(go_at_call 69;(replace hs:=hazT_back husl husg hx (hs.fin (by (with_reducible exact Ql))));((refine(hR.out).at hs (by (with_reducible exact Qh)) ?_);clear hs;intro w hs;(try simp only[Em,Ma]at hs));(replace hs:=hs.pull (A:=HazR bh _ _) (by (with_reducible exact Qh));obtain⟨vhh,vhl,hus_,hu_,husl,husg,hs⟩:=hazT hs hx);(have hltu:n<hus_.length:=by omega))|(go_at_call 149;(refine(hSh.out).at hs (by with_reducible repeat first|exact Qh|apply Qb|apply Qk) ?_;clear hs;intro w hs;(try simp only[Em,Ma]at hs)))|(go_at_call 94;(replace hs:=hazT_mk (x:=((x++[(i:Int)]))) husl hlt (hs.fin (by (focus((repeat(first|with_reducible exact Ql|with_reducible exact Qh|with_reducible apply Qb|exact Qh|with_reducible apply Qk));done)))) (by simp));((refine(hSc.out).at hs (by (with_reducible exact Qh)) ?_);clear hs;intro g w hs;(try simp only[Em,Ma]at hs)))|(go_at_call 175;((refine((HSR.out g)).at hs (by (with_reducible repeat first|exact Qh|apply Qb|apply Qk)) ?_);clear hs;intro w hs;(try simp only[Em,Ma]at hs)))|((with_reducible refine Wp (id:=5) (Paz (Pbz (Pcz (Pdz [.neu 20])))) hs rfl ?_ ?_);kernel_rfl;clear hs;intro w hs)|((with_reducible refine Wp (id:=7) (Paz [.neu 5,.neu 6,.neu 7,.neu 8,.eff 9 []]) hs rfl ?_ ?_);kernel_rfl;clear hs;intro w hs)|((with_reducible refine Wp (id:=8) (Paz (Pbz (Pcz [.neu 15,.eff 16 [0,1,2,3,4,5,6,7,8,9,10,11],.eff 17 [0,1,2,3,4],.neu 18,.eff 19 []]))) hs rfl ?_ ?_);kernel_rfl;clear hs;intro w hs)|((with_reducible refine Wp (id:=9) (Paz (Pbz [.neu 10,.neu 11,.neu 12,.neu 13])) hs rfl ?_ ?_);kernel_rfl;clear hs;intro w hs))
  go_ret
  refine⟨rfl,?_⟩
  simp only[Ma]
  replace hs:=scan_get.2 ⟨g,rfl,hs.pull (A:=ScnR g bh ba q2) (by (with_reducible exact Qh))⟩
  apply retR_mk (v:=.pointer (some ⟨g,0,none⟩))
  (with_reducible apply Sat.fin hs;repeat first|exact Ql|exact Qh|apply Qb|apply Qk)
theorem retire_step (gr bh ba d bx bm:Nat)(h:Haz)(a:Are)(m:Mch)(r:Ret)(s:Scn)(hr:r.scan=some s)(ok:ScanOk h a m s) :
  Zk Tryz.prog 174 #[.pointer (some ⟨gr,0,none⟩),.pointer (some ⟨d,0,none⟩)] (RetR gr bh ba r*(HazR bh ba h*(AreR ba a*DkR d bx bm m))) (.bool (Zl h a m s).1)
   (RetR gr bh ba { r with scan:=some (Zl h a m s).2.2.2.2 }*(HazR bh ba (Zl h a m s).2.1*(AreR ba (Zl h a m s).2.2.1*DkR d bx bm (Zl h a m s).2.2.2.1))):=by
 intro O w F hs
 simp only[Ma]at hs
 obtain⟨rt,rs,rc⟩:=r
 simp only[]at hr
 subst hr
 have hS:=fun g=>scan_step g bh ba d bx bm h a m s ok
 clear ok
 generalize Zl h a m s=q at hS ⊢
 obtain⟨q1,q2,q3,q4,q5⟩:=q
 have HS:=Lh hS;clear hS
 obtain⟨v,hs⟩:=retR.1 hs
 simp only[]at hs
 obtain⟨g,rfl,hs⟩:=scan_get.1 (hs.pull (A:=scanR bh ba (some s) v) (by (with_reducible repeat first|exact Qh|apply Qk)))
 go_enter Tryz.func174,Tryz.ntmps174
 go_wp2_with (first|((with_reducible apply Zb hs);exact Ii;rfl;(with_reducible repeat first|exact Qh|apply Qk);rfl;rfl;simp only[Uc,Uz])|(go_at_call 176;((refine((HS.out g)).at hs (by (with_reducible repeat first|exact Qh|apply Qb|apply Qk)) ?_);clear hs;intro w hs;(try simp only[Em,Ma]at hs))))
 go_ret
 refine⟨rfl,?_⟩
 simp only[Ma]
 replace hs:=scan_get.2 ⟨g,rfl,hs.pull (A:=ScnR g bh ba q5) (by (with_reducible exact Qh))⟩
 apply retR_mk (v:=.pointer (some ⟨g,0,none⟩))
 (with_reducible apply Sat.fin hs;repeat first|exact Ql|exact Qh|apply Qb|apply Qk)
end
section
open Go.RowKit
namespace Hp
def Dyn (P:Program)(s:Sem Next)(A:Zc)(B:Value→Zc):Prop:=
 ∀O w F,Sat O w (A*F)→∃f args,s.run P w=.ok (.enter f args) w∧Calls P f args w fun e w'=>∃v,e=.returned v∧Sat O w' (B v*F)
def Ja (u:Value)(args:Array Value):Sem Next:=do
 let d ← Deferred.ofValue u args
 invoke d.target d.args
section
variable {P:Program}{ops:Array Oper}{Q:Exit→Act→World→Prop}{w:World}{rest:List Oper}{O:World}{S A R:Zc}{B:Value→Zc}
variable {l:List Value}{ds:List Deferred}{ty:TypeId}{pos:String}{after:Array Edge}{gd:Option (Nat×Bool)}{d:Nat}{x y z:Operand}{u v zv:Value}{ts:Array TypeId}{name:String}
theorem wl_enter {o:Oper}{f:FuncId}{args:Array Value}(hg:Region.wanted o (yielded ops l.toArray)=true)(hd:o.dst=some d)(hr:(execOp (Act.mk l.toArray ds).eval o).run P w=.ok (.enter f args) w)
  (k:Calls P f args w fun e w'=>∃v,e=.returned v∧wpList P ops Q rest ⟨(l.set d v).toArray,ds⟩ w'):wpList P ops Q (o::rest) ⟨l.toArray,ds⟩ w:=by
 unfold wpList;rw[if_pos hg];left
 unfold Oper.wp;rw[hr]
 simp only[Oper.upon]
 refine k.mono ?_
 rintro e w' ⟨v,rfl,h⟩
 show wpList P ops Q rest _ _
 rw[hd,ZU]
 exact h
theorem wl_inv1 (hs:Sat O w S)(hx:ev l x=some u)(hy:ev l y=some v)(H:Dyn P (callMethod u name #[v]) A B)(hp:Pull S A R)
  (hg:Region.wanted { dst:=some d,op:=.call { callee:=.invoke x name,args := #[y],argTypes:=ts },type:=ty,pos,after,guard:=gd } (yielded ops l.toArray)=true)
  (k:∀v w',Sat O w' (B v*R)→wpList P ops Q rest ⟨(l.set d v).toArray,ds⟩ w') :
  wpList P ops Q ({ dst:=some d,op:=.call { callee:=.invoke x name,args := #[y],argTypes:=ts },type:=ty,pos,after,guard:=gd }::rest) ⟨l.toArray,ds⟩ w:=by
 obtain⟨f,args,hr,hC⟩:=H O w R (hs.pull hp)
 refine wl_enter hg rfl ?_ (hC.mono fun e w' ⟨v,he,h⟩=>⟨v,he,k v w' h⟩)
 simp only[execOp,resolve,invoke,Zm hx,Zm hy,Sem.run_bind,Sem.run_pure,Result.andThen_ok,List.map_toArray,Yi,Yj]
 exact hr
theorem wl_val2 (hs:Sat O w S)(hf:ev l x=some u)(hy:ev l y=some v)(hz:ev l z=some zv)(H:Dyn P (Ja u #[v,zv]) A B)(hp:Pull S A R)
  (hg:Region.wanted { dst:=some d,op:=.call { callee:=.value x,args := #[y,z],argTypes:=ts },type:=ty,pos,after,guard:=gd } (yielded ops l.toArray)=true)
  (k:∀v w',Sat O w' (B v*R)→wpList P ops Q rest ⟨(l.set d v).toArray,ds⟩ w') :
  wpList P ops Q ({ dst:=some d,op:=.call { callee:=.value x,args := #[y,z],argTypes:=ts },type:=ty,pos,after,guard:=gd }::rest) ⟨l.toArray,ds⟩ w:=by
 obtain⟨f,args,hr,hC⟩:=H O w R (hs.pull hp)
 refine wl_enter hg rfl ?_ (hC.mono fun e w' ⟨v,he,h⟩=>⟨v,he,k v w' h⟩)
 have e:(execOp (Act.mk l.toArray ds).eval { dst:=some d,op:=.call { callee:=.value x,args := #[y,z],argTypes:=ts },type:=ty,pos,after,guard:=gd })=Ja u #[v,zv]:=by
  simp[execOp,resolve,Ja,Zm hf,Zm hy,Zm hz]
 rw[e];exact hr
theorem wl_val1 (hs:Sat O w S)(hf:ev l x=some u)(hy:ev l y=some v)(H:Dyn P (Ja u #[v]) A B)(hp:Pull S A R)
  (hg:Region.wanted { dst:=some d,op:=.call { callee:=.value x,args := #[y],argTypes:=ts },type:=ty,pos,after,guard:=gd } (yielded ops l.toArray)=true)
  (k:∀v w',Sat O w' (B v*R)→wpList P ops Q rest ⟨(l.set d v).toArray,ds⟩ w') :
  wpList P ops Q ({ dst:=some d,op:=.call { callee:=.value x,args := #[y],argTypes:=ts },type:=ty,pos,after,guard:=gd }::rest) ⟨l.toArray,ds⟩ w:=by
 obtain⟨f,args,hr,hC⟩:=H O w R (hs.pull hp)
 refine wl_enter hg rfl ?_ (hC.mono fun e w' ⟨v,he,h⟩=>⟨v,he,k v w' h⟩)
 have e:(execOp (Act.mk l.toArray ds).eval { dst:=some d,op:=.call { callee:=.value x,args := #[y],argTypes:=ts },type:=ty,pos,after,guard:=gd })=Ja u #[v]:=by
  simp[execOp,resolve,Ja,Zm hf,Zm hy]
 rw[e];exact hr
theorem Does.dyn {f:FuncId}{args:Array Value}{s:Sem Next}(h:Does P f args A B)(hr:∀w,s.run P w=.ok (.enter f args) w):Dyn P s A B:=by
 intro O w F hs
 exact⟨f,args,hr w,h O w F hs⟩
end
end Hp
end
end Go.Proofs.YtefjbdajgakgpaaGreat
