import Derived.Test.YtefjbdajgakgpaaGreatDTask2
set_option linter.all false
namespace Go.Proofs.YtefjbdajgakgpaaGreat
open Go.RowKit Hp
set_option maxRecDepth 100000
set_option maxHeartbeats 1000000
attribute [local irreducible] Go.Calls
structure Unr where
 thread:Int
 k:Int
 stage:Int
 scan:Option Scn
 flush:Option Psh
def fluR (ba:Nat)(o:Option Psh)(v:Value):Zc:=match o with
 | none=>pu (v=.pointer none)
 | some p=>ex fun g=>pu (v=.pointer (some ⟨g,0,none⟩))*PshR g ba 296 p
theorem flu_none {O w:World}{ba:Nat}{R:Zc}(hs:Sat O w R):Sat O w (fluR ba none (.pointer none)*R):=by
 unfold fluR
 simp only[Zz]
 exact⟨trivial,hs⟩
theorem flu_get {O w:World}{ba:Nat}{p:Psh}{v:Value}{R:Zc}:Sat O w (fluR ba (some p) v*R)↔∃g,v=.pointer (some ⟨g,0,none⟩)∧Sat O w (PshR g ba 296 p*R):=by
 unfold fluR
 simp only[ZG,Ma,Zz]
def UnrR (g bh ba:Nat)(u:Unr):Zc:=ex fun vs=>ex fun vf=>pt g (.cells #[.pointer (some ⟨bh,0,none⟩),.int .i64 u.thread,.int .i64 u.k,.int .i64 u.stage,vs,vf] 186)*(scanR bh ba u.scan vs*fluR ba u.flush vf)
theorem unrR {O w:World}{g bh ba:Nat}{u:Unr}{R:Zc}:Sat O w (UnrR g bh ba u*R)↔∃vs vf,Sat O w (pt g (.cells #[.pointer (some ⟨bh,0,none⟩),.int .i64 u.thread,.int .i64 u.k,.int .i64 u.stage,vs,vf] 186)*(scanR bh ba u.scan vs*(fluR ba u.flush vf*R))):=by
 unfold UnrR
 simp only[ZG,Ma]
theorem unrR_mk {O w:World}{g bh ba:Nat}{u:Unr}{R:Zc}{vs vf:Value}(hs:Sat O w (pt g (.cells #[.pointer (some ⟨bh,0,none⟩),.int .i64 u.thread,.int .i64 u.k,.int .i64 u.stage,vs,vf] 186)*(scanR bh ba u.scan vs*(fluR ba u.flush vf*R)))):Sat O w (UnrR g bh ba u*R):=unrR.2 ⟨_,_,hs⟩
attribute [irreducible] fluR UnrR
def QA (a:Are)(u:Unr):Unr:=
 { u with flush:=some (QH a ⟨0,0,0,u.thread⟩).2,stage:=if (QH a ⟨0,0,0,u.thread⟩).1=true then 3 else 2 }
theorem unreg_empty (gr bh ba:Nat)(dv:Value)(h:Haz)(a:Are)(u:Unr)(n:Nat)(x:List Int)(hn:u.thread=(n:Int))(hx:a.caches[n]? = some x)(hxl:x.length<4294967296) :
  Zk Tryz.prog 189 #[.pointer (some ⟨gr,0,none⟩),dv] (UnrR gr bh ba u*(HazR bh ba h*AreR ba a)) (.tuple #[]) (UnrR gr bh ba (QA a u)*(HazR bh ba h*AreR ba a)):=by
 intro O w F hs
 simp only[Ma]at hs
 obtain⟨u1,u2,u3,u4,u5⟩:=u
 simp only[]at hn
 subst hn
 have hFl:=Lh (arena_flush ba (n:Int))
 have hFR:=fun g=>flush_ready g ba dv a ⟨0,0,0,n⟩ n x rfl hx hxl
 unfold QA
 simp only[]
 generalize QH a ⟨0,0,0,n⟩=q at hFR ⊢
 obtain⟨q1,q2⟩:=q
 simp only[]at hFR
 obtain⟨vs,vf,hs⟩:=unrR.1 hs
 simp only[]at hs
 replace hs:=hs.pull (A:=HazR bh ba h) (by (with_reducible repeat first|exact Qh|apply Qk))
 (obtain⟨vhh,vhl,hs⟩:=hazR.1 hs)
 clear hx
 have HFR:=Lh hFR;clear hFR
 cases q1 with
 | true=>
  simp only[if_true]
  go_enter Tryz.func189,Tryz.ntmps189
  go_wp2_with (first|(with_reducible first|apply NQ.mk|apply EQ.mk|exact Zg|apply Zj)|((with_reducible apply Zi);rfl;rfl)|((with_reducible apply Zo);rfl)|((with_reducible refine Zn ?_ ?_);focus((with_reducible apply ZI);rfl;rfl))|(show Qd _ _ _;rfl)|((with_reducible apply Zb hs);exact Ii;rfl;(with_reducible repeat first|exact Qh|apply Qk);rfl;rfl;simp only[Uc,Uz])|((with_reducible apply Zv hs);exact Ii;rfl;rfl;(with_reducible repeat first|exact Qh|apply Qk);rfl;exact Vb rfl;rfl;clear hs;intro w hs;simp only[Yg,Uc,Uz]at hs)|(go_at_call 191;((refine(hFl.out).at hs (by (focus((repeat(with_reducible exact Qn));done))) ?_);clear hs;intro g w hs;(try simp only[Em,Ma]at hs)))|(go_at_call 192;((refine((HFR.out g)).at hs (by (with_reducible repeat first|exact Qh|apply Qb|apply Qk)) ?_);clear hs;intro w hs;(try simp only[Em,Ma]at hs)))|((with_reducible refine Wp (id:=0) (Paz (Pbz [.neu 10,.neu 11,.eff 12 [0],.neu 13,.neu 14,.eff 15 []])) hs rfl ?_ ?_);kernel_rfl;clear hs;intro w hs))
  (go_end0)
  refine⟨rfl,?_⟩
  simp only[Ma]
  (replace hs:=ZA (hs.fin (by (with_reducible repeat first|exact Ql|exact Qh|apply Qb|apply Qk))))
  replace hs:=flu_get.2 ⟨g,rfl,hs.pull (A:=PshR g ba 296 q2) (by (with_reducible repeat first|exact Qh|apply Qk))⟩
  apply unrR_mk (vs:=vs) (vf:=.pointer (some ⟨g,0,none⟩))
  (with_reducible apply Sat.fin hs;repeat first|exact Ql|exact Qh|apply Qb|apply Qk)
 | false=>
  simp only[Yn,if_false]
  go_enter Tryz.func189,Tryz.ntmps189
  go_wp2_with (first|(with_reducible first|apply NQ.mk|apply EQ.mk|exact Zg|apply Zj)|((with_reducible apply Zi);rfl;rfl)|((with_reducible apply Zo);rfl)|((with_reducible refine Zn ?_ ?_);focus((with_reducible apply ZI);rfl;rfl))|(show Qd _ _ _;rfl)|((with_reducible apply Zb hs);exact Ii;rfl;(with_reducible repeat first|exact Qh|apply Qk);rfl;rfl;simp only[Uc,Uz])|((with_reducible apply Zv hs);exact Ii;rfl;rfl;(with_reducible repeat first|exact Qh|apply Qk);rfl;exact Vb rfl;rfl;clear hs;intro w hs;simp only[Yg,Uc,Uz]at hs)|(go_at_call 191;((refine(hFl.out).at hs (by (focus((repeat(with_reducible exact Qn));done))) ?_);clear hs;intro g w hs;(try simp only[Em,Ma]at hs)))|(go_at_call 192;((refine((HFR.out g)).at hs (by (with_reducible repeat first|exact Qh|apply Qb|apply Qk)) ?_);clear hs;intro w hs;(try simp only[Em,Ma]at hs)))|((with_reducible refine Wp (id:=0) (Paz (Pbz [.neu 10,.neu 11,.eff 12 [0],.neu 13,.neu 14,.eff 15 []])) hs rfl ?_ ?_);kernel_rfl;clear hs;intro w hs))
  (go_end0)
  refine⟨rfl,?_⟩
  simp only[Ma]
  (replace hs:=ZA (hs.fin (by (with_reducible repeat first|exact Ql|exact Qh|apply Qb|apply Qk))))
  replace hs:=flu_get.2 ⟨g,rfl,hs.pull (A:=PshR g ba 296 q2) (by (with_reducible repeat first|exact Qh|apply Qk))⟩
  apply unrR_mk (vs:=vs) (vf:=.pointer (some ⟨g,0,none⟩))
  (with_reducible apply Sat.fin hs;repeat first|exact Ql|exact Qh|apply Qb|apply Qk)
def Zs (h:Haz)(a:Are)(m:Mch)(u:Unr):Bool×Haz×Are×Mch×Unr:=
 let rec_:=h.held.getD u.thread.toNat 0
 if u.stage=0 then
  let A:=(base h.c 9+rec_*h.c.Hz+u.k).toNat
  let m1:=m.store A (m.word A) 0
  if u.k+1<h.c.Hz then (false,h,a,m1,{ u with k:=u.k+1 })
  else
   let sc:=ZF h ⟨u.thread,rec_,6,0,false,fun _=>0,[],none⟩
   let u1:Unr:={ u with k:=u.k+1,scan:=some sc.2,stage:=1 }
   if sc.1=true then (false,h,a,m1,QA a u1) else (false,h,a,m1,u1)
 else if u.stage=1 then
  match u.scan with
  | none=>(false,h,a,m,u)
  | some s=>
   let r:=Zl h a m s
   let u1:Unr:={ u with scan:=some r.2.2.2.2 }
   if r.1=true then (false,r.2.1,r.2.2.1,r.2.2.2.1,QA r.2.2.1 u1) else (false,r.2.1,r.2.2.1,r.2.2.2.1,u1)
 else if u.stage=2 then
  match u.flush with
  | none=>(false,h,a,m,u)
  | some p=>
   let r:=ZC a m p
   (false,h,r.2.1,r.2.2.1,{ u with flush:=some r.2.2.2,stage:=if r.1=true then 3 else 2 })
 else
  let A:=adr h.c 8 rec_
  (true,{ h with held:=h.held.set u.thread.toNat (-1) },a,m.store A (m.word A) 0,u)
structure UnrOk (h:Haz)(a:Are)(m:Mch)(u:Unr):Prop where
 hz:HazOk h a m
 t0:0≤u.thread
 t1:u.thread<h.c.T
 held:0≤h.held.getD u.thread.toNat 0
 stage:u.stage=0∨u.stage=1∨u.stage=2∨u.stage=3
 k:u.stage=0→0≤u.k∧u.k<h.c.Hz
 scan:u.stage=1→∃s,u.scan=some s∧ScanOk h a m s∧∃y,(Zl h a m s).2.2.1.caches[u.thread.toNat]? = some y∧y.length<4294967296
 flush:u.stage=2→∃p,u.flush=some p∧PushOk a m p∧p.thread=u.thread∧∃y,a.caches[u.thread.toNat]? = some y∧y.length<4294967296∧0<y.length
set_option maxHeartbeats 4000000 in
theorem unreg_step (gr bh ba d bx bm:Nat)(h:Haz)(a:Are)(m:Mch)(u:Unr)(ok:UnrOk h a m u) :
  Zk Tryz.prog 188 #[.pointer (some ⟨gr,0,none⟩),.pointer (some ⟨d,0,none⟩)] (UnrR gr bh ba u*(HazR bh ba h*(AreR ba a*DkR d bx bm m))) (.bool (Zs h a m u).1)
   (UnrR gr bh ba (Zs h a m u).2.2.2.2*(HazR bh ba (Zs h a m u).2.1*(AreR ba (Zs h a m u).2.2.1*DkR d bx bm (Zs h a m u).2.2.2.1))):=by
 intro O w F hs
 simp only[Ma]at hs
 obtain⟨u1,u2,u3,u4,u5⟩:=u
 obtain⟨hz,t0,t1,hh,hst,hk,hsc,hfl⟩:=ok
 simp only[]at t0 t1 hh hst hk hsc hfl
 obtain⟨n,rfl⟩:=Int.eq_ofNat_of_zero_le t0
 rw[Yo]at hh hsc hfl
 obtain⟨rc,hrc,rc0,rc1⟩:=hz.hold t0 t1
 rw[Yo]at hrc
 have hrd:h.held.getD n 0=rc:=by simp[Yb,hrc]
 rw[hrd]at hh
 have hOk:h.c.Ok:=hz.c▸hz.ok.c
 have hR2:=hOk.R2
 have hH2:=hOk.H2
 have hH1:=hOk.H1
 obtain⟨y,hy,hyl,hyin⟩:=hz.cache t0 t1
 rw[Yo]at hy
 obtain⟨x,hx,hxl,hxin⟩:=hz.list hh rc1
 unfold Zs
 simp only[Yo,hrd]
 obtain⟨vs,vf,hs⟩:=unrR.1 hs
 simp only[]at hs
 rcases hst with e|e|e|e
 ·subst e
  obtain⟨k0,k1⟩:=hk rfl
  have hA:=Lh (haz_addr bh ba h hOk n rc u2 hrc hh rc1 k0 k1)
  have hin:0≤rc*h.c.Hz+u2∧rc*h.c.Hz+u2<h.c.R*h.c.Hz:=by
   constructor
   ·exact Int.add_nonneg (Int.mul_nonneg hh (by omega)) k0
   ·have:(rc+1)*h.c.Hz≤h.c.R*h.c.Hz:=Int.mul_le_mul_of_nonneg_right (by omega) (by omega)
    rw[Int.add_mul,Int.one_mul]at this
    omega
  obtain⟨hlt9,he⟩:=base9 hOk hin.1 hin.2
  rw[←Int.add_assoc]at hlt9 he
  rw[he]at hA
  generalize (base h.c 9+rc*h.c.Hz+u2).toNat=ad at hA hlt9 ⊢
  clear he hin
  have hm:m.May ad:=⟨hz.ok.used,by rw[hz.ok.words,←hz.c];exact hlt9,hz.ok.log,hz.ok.ahead⟩
  have hL:=Lh (Z7 d bx bm m _ _ 0 hm.acs)
  have hSc:=Lh (haz_scan bh ba h n rc hrc)
  obtain⟨rn,rfl⟩:=Int.eq_ofNat_of_zero_le hh
  rw[Yo]at hx
  have hSR:=fun g=>scan_ready g bh ba (.pointer (some ⟨d,0,none⟩)) h ⟨n,rn,6,0,false,fun _=>0,[],none⟩ rn x rfl hx hR2
  generalize m.store ad (m.word ad) 0=m1 at hL ⊢
  generalize ZF h ⟨n,rn,6,0,false,fun _=>0,[],none⟩=q at hSR ⊢
  obtain⟨q1,q2⟩:=q
  simp only[]at hSR ⊢
  have HSR:=Lh hSR;clear hSR
  have hE:=unreg_empty gr bh ba (.pointer (some ⟨d,0,none⟩)) h a ⟨n,u2+1,1,some q2,u5⟩ n y rfl hy (by omega)
  generalize QA a ⟨n,u2+1,1,some q2,u5⟩=ue at hE ⊢
  have HE:=Lh hE;clear hE
  clear hz hm hsc hfl hrc hrd hx hy hyin hxin hk hlt9
  replace hs:=hs.pull (A:=HazR bh ba h) (by (with_reducible repeat first|exact Qh|apply Qk))
  by_cases hn:u2+1<h.c.Hz
  ·have hn':decide (u2+1<h.c.Hz)=true:=by simpa using hn
   have HN:=Lh hn;clear hn
   simp only[if_pos HN.out,if_true]
   go_enter Tryz.func188,Tryz.ntmps188
   go_wp2_with (first|(with_reducible first|apply NQ.mk|apply EQ.mk|exact Zg|apply Zj)|((with_reducible apply Zi);rfl;rfl)|((with_reducible apply Zo);rfl)|((with_reducible refine Zn ?_ ?_);focus((with_reducible apply ZI);rfl;rfl))|(show Qd _ _ _;rfl)|((with_reducible apply Zb hs);exact Ii;rfl;(with_reducible repeat first|exact Qh|apply Qk);rfl;rfl;simp only[Uc,Uz])|((with_reducible apply Zv hs);exact Ii;rfl;rfl;(with_reducible repeat first|exact Qh|apply Qk);rfl;exact Vb rfl;rfl;clear hs;intro w hs;simp only[Yg,Uc,Uz]at hs)|(go_at_call 91;((refine(hA.out).at hs (by (with_reducible exact Qh)) ?_);clear hs;intro w hs;(try simp only[Em,Ma]at hs)))|(go_at_call 141;(refine(hL.out).at hs (by with_reducible repeat first|exact Qh|apply Qk) ?_;clear hs;intro w hs;(try simp only[Em,Ma]at hs));(replace hs:=hs.pull (A:=HazR bh ba h) (by (with_reducible repeat first|exact Qh|apply Qk)));(obtain⟨vhh,vhl,hs⟩:=hazR.1 hs))|((with_reducible refine Wp (id:=7) (Paz (Pbz [.eff 10 [0],.eff 11 []])) hs rfl ?_ ?_);kernel_rfl;clear hs;intro w hs)|((with_reducible refine Wp (id:=9) (Paz [.neu 5,.neu 6,.neu 7,.neu 8,.neu 9]) hs rfl ?_ ?_);kernel_rfl;clear hs;intro w hs))
   go_ret
   refine⟨rfl,?_⟩
   simp only[Ma]
   (replace hs:=ZA (hs.fin (by (with_reducible repeat first|exact Ql|exact Qh|apply Qb|apply Qk))))
   apply unrR_mk (vs:=vs) (vf:=vf)
   (with_reducible apply Sat.fin hs;repeat first|exact Ql|exact Qh|apply Qb|apply Qk)
  ·have hn':decide (u2+1<h.c.Hz)=false:=by simpa using hn
   have HN:=Lh hn;clear hn
   cases q1 with
   | true=>
    simp only[if_neg HN.out,if_true]
    go_enter Tryz.func188,Tryz.ntmps188
    go_wp2_with (first|(with_reducible first|apply NQ.mk|apply EQ.mk|exact Zg|apply Zj)|((with_reducible apply Zi);rfl;rfl)|((with_reducible apply Zo);rfl)|((with_reducible refine Zn ?_ ?_);focus((with_reducible apply ZI);rfl;rfl))|(show Qd _ _ _;rfl)|((with_reducible apply Zb hs);exact Ii;rfl;(with_reducible repeat first|exact Qh|apply Qk);rfl;rfl;simp only[Uc,Uz])|((with_reducible apply Zv hs);exact Ii;rfl;rfl;(with_reducible repeat first|exact Qh|apply Qk);rfl;exact Vb rfl;rfl;clear hs;intro w hs;simp only[Yg,Uc,Uz]at hs)|(go_at_call 91;((refine(hA.out).at hs (by (with_reducible exact Qh)) ?_);clear hs;intro w hs;(try simp only[Em,Ma]at hs)))|(go_at_call 141;(refine(hL.out).at hs (by with_reducible repeat first|exact Qh|apply Qk) ?_;clear hs;intro w hs;(try simp only[Em,Ma]at hs));(replace hs:=hs.pull (A:=HazR bh ba h) (by (with_reducible repeat first|exact Qh|apply Qk)));(obtain⟨vhh,vhl,hs⟩:=hazR.1 hs))|(go_at_call 94;(replace hs:=ZA (hs.fin (by (with_reducible repeat first|exact Ql|exact Qh|apply Qb|apply Qk))));((refine(hSc.out).at hs (by (with_reducible exact Qh)) ?_);clear hs;intro g w hs;(try simp only[Em,Ma]at hs)))|(go_at_call 175;((refine((HSR.out g)).at hs (by (with_reducible repeat first|exact Qh|apply Qb|apply Qk)) ?_);clear hs;intro w hs;(try simp only[Em,Ma]at hs)))|(go_at_call 189;(replace hs:=scan_get.2 ⟨g,rfl,hs.pull (A:=ScnR g bh ba q2) (by (with_reducible exact Qh))⟩);(replace hs:=unrR_mk (u:=⟨n,u2+1,1,some q2,u5⟩) (hs.fin (by (with_reducible repeat first|exact Ql|exact Qh|apply Qb|apply Qk))));(refine(HE.out).at hs (by with_reducible repeat first|exact Qh|apply Qb|apply Qk) ?_;clear hs;intro w hs;(try simp only[Em,Ma]at hs)))|((with_reducible refine Wp (id:=7) (Paz (Pbz [.eff 10 [0],.eff 11 []])) hs rfl ?_ ?_);kernel_rfl;clear hs;intro w hs)|((with_reducible refine Wp (id:=9) (Paz [.neu 5,.neu 6,.neu 7,.neu 8,.neu 9]) hs rfl ?_ ?_);kernel_rfl;clear hs;intro w hs))
    go_ret
    refine⟨rfl,?_⟩
    simp only[Ma]
    (with_reducible apply Sat.fin hs;repeat first|exact Ql|exact Qh|apply Qb|apply Qk)
   | false=>
    simp only[if_neg HN.out,Yn,if_true,if_false]
    go_enter Tryz.func188,Tryz.ntmps188
    go_wp2_with (first|(with_reducible first|apply NQ.mk|apply EQ.mk|exact Zg|apply Zj)|((with_reducible apply Zi);rfl;rfl)|((with_reducible apply Zo);rfl)|((with_reducible refine Zn ?_ ?_);focus((with_reducible apply ZI);rfl;rfl))|(show Qd _ _ _;rfl)|((with_reducible apply Zb hs);exact Ii;rfl;(with_reducible repeat first|exact Qh|apply Qk);rfl;rfl;simp only[Uc,Uz])|((with_reducible apply Zv hs);exact Ii;rfl;rfl;(with_reducible repeat first|exact Qh|apply Qk);rfl;exact Vb rfl;rfl;clear hs;intro w hs;simp only[Yg,Uc,Uz]at hs)|(go_at_call 91;((refine(hA.out).at hs (by (with_reducible exact Qh)) ?_);clear hs;intro w hs;(try simp only[Em,Ma]at hs)))|(go_at_call 141;(refine(hL.out).at hs (by with_reducible repeat first|exact Qh|apply Qk) ?_;clear hs;intro w hs;(try simp only[Em,Ma]at hs));(replace hs:=hs.pull (A:=HazR bh ba h) (by (with_reducible repeat first|exact Qh|apply Qk)));(obtain⟨vhh,vhl,hs⟩:=hazR.1 hs))|(go_at_call 94;(replace hs:=ZA (hs.fin (by (with_reducible repeat first|exact Ql|exact Qh|apply Qb|apply Qk))));((refine(hSc.out).at hs (by (with_reducible exact Qh)) ?_);clear hs;intro g w hs;(try simp only[Em,Ma]at hs)))|(go_at_call 175;((refine((HSR.out g)).at hs (by (with_reducible repeat first|exact Qh|apply Qb|apply Qk)) ?_);clear hs;intro w hs;(try simp only[Em,Ma]at hs)))|((with_reducible refine Wp (id:=7) (Paz (Pbz [.eff 10 [0],.eff 11 []])) hs rfl ?_ ?_);kernel_rfl;clear hs;intro w hs)|((with_reducible refine Wp (id:=9) (Paz [.neu 5,.neu 6,.neu 7,.neu 8,.neu 9]) hs rfl ?_ ?_);kernel_rfl;clear hs;intro w hs))
    go_ret
    refine⟨rfl,?_⟩
    simp only[Ma]
    replace hs:=scan_get.2 ⟨g,rfl,hs.pull (A:=ScnR g bh ba q2) (by (with_reducible exact Qh))⟩
    apply unrR_mk (vs:=.pointer (some ⟨g,0,none⟩)) (vf:=vf)
    (with_reducible apply Sat.fin hs;repeat first|exact Ql|exact Qh|apply Qb|apply Qk)
 ·subst e
  obtain⟨s,rfl,sok,yy,hyy,hyyl⟩:=hsc rfl
  simp only[if_neg (show ¬(1:Int)=0 by omega),if_true]
  have hS:=fun g=>scan_step g bh ba d bx bm h a m s sok
  generalize Zl h a m s=q at hS hyy ⊢
  obtain⟨q1,q2,q3,q4,q5⟩:=q
  simp only[]at hS hyy ⊢
  have HS:=Lh hS;clear hS
  have hE:=unreg_empty gr bh ba (.pointer (some ⟨d,0,none⟩)) q2 q3 ⟨n,u2,1,some q5,u5⟩ n yy rfl hyy hyyl
  generalize QA q3 ⟨n,u2,1,some q5,u5⟩=ue at hE ⊢
  have HE:=Lh hE;clear hE
  obtain⟨g,rfl,hs⟩:=scan_get.1 (hs.pull (A:=scanR bh ba (some s) vs) (by (with_reducible repeat first|exact Qh|apply Qk)))
  clear hz hsc hfl hrc hrd hx hy hyin hxin hk sok hyy
  replace hs:=hs.pull (A:=HazR bh ba h) (by (with_reducible repeat first|exact Qh|apply Qk))
  cases q1 with
  | true=>
   simp only[if_true]
   go_enter Tryz.func188,Tryz.ntmps188
   go_wp2_with (first|((with_reducible apply Zb hs);exact Ii;rfl;(with_reducible repeat first|exact Qh|apply Qk);rfl;rfl;simp only[Uc,Uz])|(go_at_call 176;((refine((HS.out g)).at hs (by (with_reducible repeat first|exact Qh|apply Qb|apply Qk)) ?_);clear hs;intro w hs;(try simp only[Em,Ma]at hs)))|(go_at_call 189;(replace hs:=scan_get.2 ⟨g,rfl,hs.pull (A:=ScnR g bh ba q5) (by (with_reducible exact Qh))⟩);(replace hs:=unrR_mk (u:=⟨n,u2,1,some q5,u5⟩) (hs.fin (by (with_reducible repeat first|exact Ql|exact Qh|apply Qb|apply Qk))));((refine(HE.out).at hs (by (focus with_reducible (repeat first|exact Qh|apply Qb);done)) ?_);clear hs;intro w hs;(try simp only[Em,Ma]at hs))))
   go_ret
   refine⟨rfl,?_⟩
   simp only[Ma]
   ((with_reducible apply Sat.fin hs);(with_reducible exact Ql))
  | false=>
   simp only[Yn,if_false]
   go_enter Tryz.func188,Tryz.ntmps188
   go_wp2_with (first|((with_reducible apply Zb hs);exact Ii;rfl;(with_reducible repeat first|exact Qh|apply Qk);rfl;rfl;simp only[Uc,Uz])|(go_at_call 176;((refine((HS.out g)).at hs (by (with_reducible repeat first|exact Qh|apply Qb|apply Qk)) ?_);clear hs;intro w hs;(try simp only[Em,Ma]at hs))))
   go_ret
   refine⟨rfl,?_⟩
   simp only[Ma]
   replace hs:=scan_get.2 ⟨g,rfl,hs.pull (A:=ScnR g bh ba q5) (by (with_reducible exact Qh))⟩
   apply unrR_mk (vs:=.pointer (some ⟨g,0,none⟩)) (vf:=vf)
   (with_reducible apply Sat.fin hs;repeat first|exact Ql|exact Qh|apply Qb|apply Qk)
 ·subst e
  obtain⟨p,rfl,pok,hpt,yy,hyy,hyyl,hyy0⟩:=hfl rfl
  simp only[if_neg (show ¬(2:Int)=0 by omega),if_neg (show ¬(2:Int)=1 by omega),if_true]
  have hS:=fun g=>flush_step g ba d bx bm a m p pok n yy hpt hyy hyyl hyy0
  generalize ZC a m p=q at hS ⊢
  obtain⟨q1,q2,q3,q4⟩:=q
  simp only[]at hS ⊢
  have HS:=Lh hS;clear hS
  obtain⟨g,rfl,hs⟩:=flu_get.1 (hs.pull (A:=fluR ba (some p) vf) (by (with_reducible repeat first|exact Qh|apply Qk)))
  clear hz hsc hfl hrc hrd hx hy hyin hxin hk pok hyy
  cases q1 with
  | true=>
   simp only[if_true]
   go_enter Tryz.func188,Tryz.ntmps188
   go_wp2_with (first|((with_reducible apply Zb hs);exact Ii;rfl;(with_reducible repeat first|exact Qh|apply Qk);rfl;rfl;simp only[Uc,Uz])|((with_reducible apply Zv hs);exact Ii;rfl;rfl;(with_reducible repeat first|exact Qh|apply Qk);rfl;exact Vb rfl;rfl;clear hs;intro w hs;simp only[Yg,Uc,Uz]at hs)|(go_at_call 190;((refine((HS.out g)).at hs (by (with_reducible repeat first|exact Qh|apply Qb|apply Qk)) ?_);clear hs;intro w hs;(try simp only[Em,Ma]at hs))))
   go_ret
   refine⟨rfl,?_⟩
   simp only[Ma]
   replace hs:=flu_get.2 ⟨g,rfl,hs.pull (A:=PshR g ba 296 q4) (by (with_reducible repeat first|exact Qh|apply Qk))⟩
   apply unrR_mk (vs:=vs) (vf:=.pointer (some ⟨g,0,none⟩))
   (with_reducible apply Sat.fin hs;repeat first|exact Ql|exact Qh|apply Qb|apply Qk)
  | false=>
   simp only[Yn,if_false]
   go_enter Tryz.func188,Tryz.ntmps188
   go_wp2_with (first|((with_reducible apply Zb hs);exact Ii;rfl;(with_reducible repeat first|exact Qh|apply Qk);rfl;rfl;simp only[Uc,Uz])|(go_at_call 190;((refine((HS.out g)).at hs (by (with_reducible repeat first|exact Qh|apply Qb|apply Qk)) ?_);clear hs;intro w hs;(try simp only[Em,Ma]at hs))))
   go_ret
   refine⟨rfl,?_⟩
   simp only[Ma]
   replace hs:=flu_get.2 ⟨g,rfl,hs.pull (A:=PshR g ba 296 q4) (by (with_reducible exact Qh))⟩
   apply unrR_mk (vs:=vs) (vf:=.pointer (some ⟨g,0,none⟩))
   (with_reducible apply Sat.fin hs;repeat first|exact Ql|exact Qh|apply Qb|apply Qk)
 ·subst e
  simp only[if_neg (show ¬(3:Int)=0 by omega),if_neg (show ¬(3:Int)=1 by omega),if_neg (show ¬(3:Int)=2 by omega)]
  have hm:m.May (adr h.c 8 rc):=by rw[hz.c];exact hz.ok.may (by omega) (by omega) (in_active hh (hz.c▸rc1))
  have he:=adr_eq hOk 8 hh
  obtain⟨b0,b1⟩:=ZD hOk 8
  have hlt:n<h.held.length:=(List.getElem?_eq_some_iff.1 hrc).1
  have hL:=Lh (Z7 d bx bm m _ _ 0 hm.acs)
  generalize m.word (adr h.c 8 rc)=uu at hL ⊢
  replace hs:=hs.pull (A:=HazR bh ba h) (by (with_reducible repeat first|exact Qh|apply Qk))
  (obtain⟨vhh,vhl,hs⟩:=hazR.1 hs)
  clear hz hm hsc hfl hrd hx hy hyin hxin hk
  go_enter Tryz.func188,Tryz.ntmps188
  go_wp2_with (first|(with_reducible refine NQ.mk ?_)|((with_reducible apply Zi);rfl;rfl)|((with_reducible apply Zo);rfl)|(with_reducible refine EQ.mk ?_ ?_)|(with_reducible exact Zg)|(with_reducible refine Zj ?_)|((with_reducible apply Zb hs);exact Ii;rfl;(with_reducible repeat first|exact Qh|apply Qk);rfl;rfl;simp only[Uc,Uz])|((with_reducible apply ZE hs);exact Ii;rfl;assumption;(with_reducible repeat first|exact Qh|apply Qk);rfl;(exact Ze (by assumption));rfl;rfl;simp only[Uc,Uz])|((with_reducible apply QO hs);exact Ii;rfl;rfl;assumption;(with_reducible repeat first|exact Qh|apply Qk);rfl;(exact Ze (by assumption));exact Vb rfl;rfl;rfl;clear hs;intro w hs)|((with_reducible apply Jv hs);exact Ii;exact Ii;rfl;assumption;rfl;(with_reducible repeat first|exact Qh|apply Qk);rfl;(simp only[Wm,Ws,Wa,Wc,Wn,Wr]at *;omega);rfl;simp only[Uc,Uz])|((with_reducible apply Qe hs);exact Ii;exact Ii;rfl;rfl;(with_reducible repeat first|exact Qh|apply Qk);rfl;(simp only[Wm,Ws,Wa,Wc,Wn,Wr]at *;omega);rfl;intro b off hat;simp only[Uc,Uz])|(go_at_call 141;(refine(hL.out).at hs (by with_reducible repeat first|exact Qh|apply Qk) ?_;clear hs;intro w hs;(try simp only[Em,Ma]at hs)))|((with_reducible refine Wp (id:=3) (Paz (Pbz (Pcz [.neu 15,.eff 16 []]))) hs rfl ?_ ?_);kernel_rfl;clear hs;intro w hs)|((with_reducible refine Wp (id:=4) (Paz [.neu 5,.neu 6,.neu 7,.neu 8,.eff 9 []]) hs rfl ?_ ?_);kernel_rfl;clear hs;intro w hs))
  go_ret
  refine⟨rfl,?_⟩
  simp only[Ma]
  rw[show(h.held.map eI).set n ([Value.int .i64 rc].set 0 (Value.int .i64 (-1)))=(h.held.set n (-1)).map eI by simp]at hs
  replace hs:=ZA (h:={ h with held:=h.held.set n (-1) }) (hs.fin (by (with_reducible repeat first|exact Ql|exact Qh|apply Qb|apply Qk)))
  apply unrR_mk (vs:=vs) (vf:=vf)
  (with_reducible apply Sat.fin hs;repeat first|exact Ql|exact Qh|apply Qb|apply Qk)
end Go.Proofs.YtefjbdajgakgpaaGreat
