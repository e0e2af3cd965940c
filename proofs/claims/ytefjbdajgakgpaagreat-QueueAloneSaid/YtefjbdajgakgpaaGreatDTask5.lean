import Derived.Test.YtefjbdajgakgpaaGreatDTask3
set_option linter.all false
namespace Go.Proofs.YtefjbdajgakgpaaGreat
open Go.RowKit Hp
set_option maxRecDepth 100000
set_option maxHeartbeats 1000000
attribute [local irreducible] Go.Calls
section
theorem haz_done:Zk Tryz.prog 197 #[] emp (.agg #[.int .i64 1,.int .i64 0]) emp:=by
 intro O w F hs
 go_enter Tryz.func197,Tryz.ntmps197
 go_wp2_with (first|((with_reducible apply ZN hs);exact Ii;rfl;rfl;(with_reducible exact Qh);rfl;rfl;rfl;rfl;clear hs;intro w hs)|((with_reducible apply Zw hs);exact Ii;rfl;clear hs;intro w b hs;simp only[Uc,Uz]))
 ((try simp only[Exit.inBlock,Exit.then]);(with_reducible apply bodyPost_ret);((with_reducible apply results_c);rfl;rfl;(with_reducible apply loadF hs);exact Ii;(with_reducible exact Qh);rfl;rfl))
 exact⟨rfl,by ((with_reducible apply Sat.fin hs);(focus with_reducible (repeat first|exact Ql|exact Qn|apply Qb|apply Qk);done))⟩
structure Pst where
 thread:Int
 value:Int
 stage:Int
 take:Option Tak
 link:Int
 saw:Int
 retire:Option Ret
def takR (ba:Nat)(o:Option Tak)(v:Value):Zc:=match o with
 | none=>pu (v=.pointer none)
 | some p=>ex fun g=>pu (v=.pointer (some ⟨g,0,none⟩))*TakR g ba p
theorem tak_none {O w:World}{ba:Nat}{R:Zc}(hs:Sat O w R):Sat O w (takR ba none (.pointer none)*R):=by
 unfold takR
 simp only[Zz]
 exact⟨trivial,hs⟩
theorem JB {O w:World}{ba:Nat}{p:Tak}{v:Value}{R:Zc}:Sat O w (takR ba (some p) v*R)↔∃g,v=.pointer (some ⟨g,0,none⟩)∧Sat O w (TakR g ba p*R):=by
 unfold takR
 simp only[ZG,Ma,Zz]
def rtrR (bh ba:Nat)(o:Option Ret)(v:Value):Zc:=match o with
 | none=>pu (v=.pointer none)
 | some p=>ex fun g=>pu (v=.pointer (some ⟨g,0,none⟩))*RetR g bh ba p
theorem rtr_none {O w:World}{bh ba:Nat}{R:Zc}(hs:Sat O w R):Sat O w (rtrR bh ba none (.pointer none)*R):=by
 unfold rtrR
 simp only[Zz]
 exact⟨trivial,hs⟩
theorem rtr_get {O w:World}{bh ba:Nat}{p:Ret}{v:Value}{R:Zc}:Sat O w (rtrR bh ba (some p) v*R)↔∃g,v=.pointer (some ⟨g,0,none⟩)∧Sat O w (RetR g bh ba p*R):=by
 unfold rtrR
 simp only[ZG,Ma,Zz]
def PstR (g bh ba:Nat)(p:Pst):Zc:=ex fun vt=>ex fun vr=>pt g (.cells #[.pointer (some ⟨bh,0,none⟩),.int .i64 p.thread,.int .i64 p.value,.int .i64 p.stage,vt,.int .u64 p.link,.int .u64 p.saw,vr] 189)*(takR ba p.take vt*rtrR bh ba p.retire vr)
theorem pstR {O w:World}{g bh ba:Nat}{p:Pst}{R:Zc}:Sat O w (PstR g bh ba p*R)↔∃vt vr,Sat O w (pt g (.cells #[.pointer (some ⟨bh,0,none⟩),.int .i64 p.thread,.int .i64 p.value,.int .i64 p.stage,vt,.int .u64 p.link,.int .u64 p.saw,vr] 189)*(takR ba p.take vt*(rtrR bh ba p.retire vr*R))):=by
 unfold PstR
 simp only[ZG,Ma]
theorem pstR_mk {O w:World}{g bh ba:Nat}{p:Pst}{R:Zc}{vt vr:Value}(hs:Sat O w (pt g (.cells #[.pointer (some ⟨bh,0,none⟩),.int .i64 p.thread,.int .i64 p.value,.int .i64 p.stage,vt,.int .u64 p.link,.int .u64 p.saw,vr] 189)*(takR ba p.take vt*(rtrR bh ba p.retire vr*R)))):Sat O w (PstR g bh ba p*R):=pstR.2 ⟨_,_,hs⟩
attribute [irreducible] takR rtrR PstR
def Zd (t:Tak):Int:=if t.taken=true then t.slot else -1
def ZH (m:Mch)(i t:Nat)(c:Cll)(s:Sea)(p:Pst)(k:Tak):Bool×Mch×Pst:=
 if Zd k<0 then (true,(m.point i c m.now).answer t s 4 0,p) else (false,m,{ p with link:=Zd k+1,stage:=1 })
theorem post_took (gr bh ba d bx bm:Nat)(m:Mch)(i t:Nat)(c:Cll)(s:Sea)(p:Pst)(k:Tak)(hk:p.take=some k)(hb:Zd k≤2147483646)(hb0 : -1≤Zd k)(hcur:ZX m i t c s) :
  Zk Tryz.prog 196 #[.pointer (some ⟨gr,0,none⟩),.pointer (some ⟨d,0,none⟩)] (PstR gr bh ba p*DkR d bx bm m) (.bool (ZH m i t c s p k).1)
   (PstR gr bh ba (ZH m i t c s p k).2.2*DkR d bx bm (ZH m i t c s p k).2.1):=by
 intro O w F hs
 simp only[Ma]at hs
 obtain⟨p1,p2,p3,p4,p5,p6,p7⟩:=p
 simp only[]at hk
 subst hk
 obtain⟨vt,vr,hs⟩:=pstR.1 hs
 simp only[]at hs
 obtain⟨g,rfl,hs⟩:=JB.1 (hs.pull (A:=takR ba (some k) vt) (by (with_reducible repeat first|exact Qh|apply Qk)))
 have hN:=Lh (desk_now d bx bm m)
 have hP:=Lh (Jx d bx bm m i t c m.now hcur.cur hcur.call)
 have hA:=Lh (QD d bx bm (m.point i c m.now) i t s 4 0 hcur.cur hcur.seat)
 have hS:=take_slot g ba k
 have hL:=word_link (Zd k) hb0 hb
 unfold ZH
 change Zk _ _ _ _ (.int .i64 (Zd k)) _ at hS
 generalize Zd k=sl0 at hS hL hb hb0 ⊢
 have HS:=Lh hS;clear hS
 have HL:=Lh hL;clear hL
 by_cases hu:sl0<0
 ·have hd:decide (sl0<0)=true:=by simpa using hu
  simp only[if_pos hu]
  have HU:=Lh hu
  clear hcur hu
  go_enter Tryz.func196,Tryz.ntmps196
  go_wp2_with (first|((with_reducible apply Zb hs);exact Ii;rfl;(with_reducible repeat first|exact Qh|apply Qk);rfl;rfl;simp only[Uc,Uz])|(go_at_call 142;((refine(HS.out).at hs (by (with_reducible exact Qh)) ?_);clear hs;intro w hs;(try simp only[Em,Ma]at hs)))|(go_at_call 148;(refine(hN.out).at hs (by with_reducible repeat first|exact Qh|apply Qk) ?_;clear hs;intro w hs;(try simp only[Em,Ma]at hs)))|(go_at_call 147;((refine(hP.out).at hs (by (with_reducible exact Qh)) ?_);clear hs;intro w hs;(try simp only[Em,Ma]at hs)))|(go_at_call 150;((refine(hA.out).at hs (by (with_reducible exact Qh)) ?_);clear hs;intro w hs;(try simp only[Em,Ma]at hs))))
  go_ret
  refine⟨rfl,?_⟩
  simp only[Ma]
  replace hs:=JB.2 ⟨g,rfl,hs.pull (A:=TakR g ba k) (by (with_reducible repeat first|exact Qh|apply Qk))⟩
  apply pstR_mk (vt:=.pointer (some ⟨g,0,none⟩)) (vr:=vr)
  (with_reducible apply Sat.fin hs;repeat first|exact Ql|exact Qh|apply Qb|apply Qk)
 ·have hd:decide (sl0<0)=false:=by simpa using hu
  simp only[if_neg hu]
  have HU:=Lh hu
  clear hcur hu
  go_enter Tryz.func196,Tryz.ntmps196
  go_wp2_with (first|((with_reducible apply Zb hs);exact Ii;rfl;(with_reducible repeat first|exact Qh|apply Qk);rfl;rfl;simp only[Uc,Uz])|((with_reducible apply Zv hs);exact Ii;rfl;rfl;(with_reducible repeat first|exact Qh|apply Qk);rfl;exact Vb rfl;rfl;clear hs;intro w hs;simp only[Yg,Uc,Uz]at hs)|(go_at_call 142;((refine(HS.out).at hs (by (with_reducible exact Qh)) ?_);clear hs;intro w hs;(try simp only[Em,Ma]at hs)))|(go_at_call 153;((refine(HL.out).at hs (by (focus((repeat(with_reducible exact Qn));done))) ?_);clear hs;intro w hs;(try simp only[Em,Ma]at hs))))
  go_ret
  refine⟨rfl,?_⟩
  simp only[Ma]
  replace hs:=JB.2 ⟨g,rfl,hs.pull (A:=TakR g ba k) (by (with_reducible repeat first|exact Qh|apply Qk))⟩
  apply pstR_mk (vt:=.pointer (some ⟨g,0,none⟩)) (vr:=vr)
  (with_reducible apply Sat.fin hs;repeat first|exact Ql|exact Qh|apply Qb|apply Qk)
def ZM (a:Are)(m:Mch)(i t:Nat)(c:Cll)(s:Sea)(p:Pst):Bool×Are×Mch×Pst:=
 let r:=Zf a m ⟨p.thread,1,0,0,0,false⟩
 let p1:={ p with take:=some r.2.2.2 }
 if r.1=true then
  let q:=ZH r.2.2.1 i t c s p1 r.2.2.2
  (q.1,r.2.1,q.2.1,q.2.2)
 else (false,r.2.1,r.2.2.1,p1)
theorem post_ready (gr bh ba d bx bm:Nat)(h:Haz)(a:Are)(m:Mch)(i t:Nat)(c:Cll)(s:Sea)(p:Pst)(n:Nat)(x:List Int)(hn:p.thread=(n:Int))(hx:a.caches[n]? = some x)(hins:∀s∈x,0≤s∧s<a.slots.length)(hsl:0<a.slots.length)(hl:m.shifts.length<4294967296)(hxl:x.length<4294967296)
  (hcur:ZX (Zf a m ⟨p.thread,1,0,0,0,false⟩).2.2.1 i t c s) (hb:Zd (Zf a m ⟨p.thread,1,0,0,0,false⟩).2.2.2≤2147483646) (hb0 : -1≤Zd (Zf a m ⟨p.thread,1,0,0,0,false⟩).2.2.2) :
  Zk Tryz.prog 194 #[.pointer (some ⟨gr,0,none⟩),.pointer (some ⟨d,0,none⟩)] (PstR gr bh ba p*(HazR bh ba h*(AreR ba a*DkR d bx bm m))) (.bool (ZM a m i t c s p).1)
   (PstR gr bh ba (ZM a m i t c s p).2.2.2*(HazR bh ba h*(AreR ba (ZM a m i t c s p).2.1*DkR d bx bm (ZM a m i t c s p).2.2.1))):=by
 intro O w F hs
 simp only[Ma]at hs
 obtain⟨p1,p2,p3,p4,p5,p6,p7⟩:=p
 simp only[]at hn hcur hb hb0
 subst hn
 have hT:=Lh (arena_take ba a (n:Int) hsl)
 have hR:=fun g=>take_ready g ba d bx bm a m ⟨n,1,0,0,0,false⟩ n x rfl hx rfl hins hl hxl
 unfold ZM
 simp only[]
 clear hx hins hl hxl hsl
 generalize Zf a m ⟨n,1,0,0,0,false⟩=q at hR hcur hb hb0 ⊢
 obtain⟨q1,q2,q3,q4⟩:=q
 simp only[]at hR hcur hb hb0 ⊢
 have hK:=post_took gr bh ba d bx bm q3 i t c s ⟨n,p2,p3,some q4,p5,p6,p7⟩ q4 rfl hb hb0 hcur
 generalize ZH q3 i t c s ⟨n,p2,p3,some q4,p5,p6,p7⟩ q4=qq at hK ⊢
 obtain⟨k1,k2,k3⟩:=qq
 have HR:=Lh hR;have HK:=Lh hK;clear hR hK hcur hb hb0
 obtain⟨vt,vr,hs⟩:=pstR.1 hs
 simp only[]at hs
 replace hs:=hs.pull (A:=HazR bh ba h) (by (with_reducible repeat first|exact Qh|apply Qk))
 (obtain⟨vhh,vhl,hs⟩:=hazR.1 hs)
 cases q1 with
 | true=>
  simp only[if_true]
  go_enter Tryz.func194,Tryz.ntmps194
  go_wp2_with (first|(with_reducible first|apply NQ.mk|apply EQ.mk|exact Zg|apply Zj)|((with_reducible apply Zi);rfl;rfl)|((with_reducible apply Zo);rfl)|((with_reducible refine Zn ?_ ?_);focus((with_reducible apply ZI);rfl;rfl))|(show Qd _ _ _;rfl)|((with_reducible apply Zb hs);exact Ii;rfl;(with_reducible repeat first|exact Qh|apply Qk);rfl;rfl;simp only[Uc,Uz])|((with_reducible apply Zv hs);exact Ii;rfl;rfl;(with_reducible repeat first|exact Qh|apply Qk);rfl;exact Vb rfl;rfl;clear hs;intro w hs;simp only[Yg,Uc,Uz]at hs)|(go_at_call 137;(refine(hT.out).at hs (by with_reducible repeat first|exact Qh|apply Qk) ?_;clear hs;intro g w hs;(try simp only[Em,Ma]at hs)))|(go_at_call 138;((refine((HR.out g)).at hs (by (with_reducible repeat first|exact Qh|apply Qb|apply Qk)) ?_);clear hs;intro w hs;(try simp only[Em,Ma]at hs)))|(go_at_call 196;(replace hs:=JB.2 ⟨g,rfl,hs.pull (A:=TakR g ba q4) (by (with_reducible exact Qh))⟩);(replace hs:=pstR_mk (p:=⟨n,p2,p3,some q4,p5,p6,p7⟩) (hs.fin (by (with_reducible repeat first|exact Ql|exact Qh|apply Qb|apply Qk))));(refine(HK.out).at hs (by with_reducible repeat first|exact Qh|apply Qb|apply Qk) ?_;clear hs;intro w hs;(try simp only[Em,Ma]at hs)))|((with_reducible refine Wp (id:=1) (Paz (Pbz [.neu 10,.neu 11,.eff 12 [0],.neu 13,.neu 14,.eff 15 []])) hs rfl ?_ ?_);kernel_rfl;clear hs;intro w hs))
  go_ret
  refine⟨by simp,?_⟩
  simp only[Ma]
  (replace hs:=ZA (hs.fin (by (with_reducible repeat first|exact Ql|exact Qh|apply Qb|apply Qk))))
  (with_reducible apply Sat.fin hs;repeat first|exact Ql|exact Qh|apply Qb|apply Qk)
 | false=>
  simp only[Yn,if_false]
  go_enter Tryz.func194,Tryz.ntmps194
  go_wp2_with (first|(with_reducible first|apply NQ.mk|apply EQ.mk|exact Zg|apply Zj)|((with_reducible apply Zi);rfl;rfl)|((with_reducible apply Zo);rfl)|((with_reducible refine Zn ?_ ?_);focus((with_reducible apply ZI);rfl;rfl))|(show Qd _ _ _;rfl)|((with_reducible apply Zb hs);exact Ii;rfl;(with_reducible repeat first|exact Qh|apply Qk);rfl;rfl;simp only[Uc,Uz])|((with_reducible apply Zv hs);exact Ii;rfl;rfl;(with_reducible repeat first|exact Qh|apply Qk);rfl;exact Vb rfl;rfl;clear hs;intro w hs;simp only[Yg,Uc,Uz]at hs)|(go_at_call 137;(refine(hT.out).at hs (by with_reducible repeat first|exact Qh|apply Qk) ?_;clear hs;intro g w hs;(try simp only[Em,Ma]at hs)))|(go_at_call 138;((refine((HR.out g)).at hs (by (with_reducible repeat first|exact Qh|apply Qb|apply Qk)) ?_);clear hs;intro w hs;(try simp only[Em,Ma]at hs)))|((with_reducible refine Wp (id:=1) (Paz (Pbz [.neu 10,.neu 11,.eff 12 [0],.neu 13,.neu 14,.eff 15 []])) hs rfl ?_ ?_);kernel_rfl;clear hs;intro w hs))
  go_ret
  refine⟨by simp,?_⟩
  simp only[Ma]
  (replace hs:=ZA (hs.fin (by (with_reducible repeat first|exact Ql|exact Qh|apply Qb|apply Qk))))
  replace hs:=JB.2 ⟨g,rfl,hs.pull (A:=TakR g ba q4) (by (with_reducible repeat first|exact Qh|apply Qk))⟩
  apply pstR_mk (vt:=.pointer (some ⟨g,0,none⟩)) (vr:=vr)
  (with_reducible apply Sat.fin hs;repeat first|exact Ql|exact Qh|apply Qb|apply Qk)
end
section
def Je (h:Haz)(a:Are)(m:Mch)(i t:Nat)(c:Cll)(s:Sea)(p:Pst)(sl0:Int):Bool×Haz×Are×Mch×Pst:=
 let m3:=(m.point i c m.now).answer t s 1 0
 let a1:=a.shift sl0.toNat m.thread 3
 let m4:=m3.shift sl0 (a.slots.getD sl0.toNat ⟨0,0⟩).state 3
 if p.saw-1<0 then (true,h,a1,m4,p)
 else
  let a2:=a1.shift (p.saw-1).toNat m.thread 4
  let m5:=m4.shift (p.saw-1) (a1.slots.getD (p.saw-1).toNat ⟨0,0⟩).state 4
  let q:=Zr h a2 m5 ⟨p.thread,p.saw-1,none⟩
  (q.1,q.2.1,q.2.2.1,q.2.2.2.1,{ p with retire:=some q.2.2.2.2,stage:=4 })
def ZP (h:Haz)(a:Are)(m:Mch)(i t:Nat)(c:Cll)(s:Sea)(p:Pst):Bool×Haz×Are×Mch×Pst:=
 match p.take with
 | none=>(true,h,a,m,p)
 | some k=>
  let C:=adr h.c 2 0
  if p.stage=0 then
   let r:=Zh a m k
   let p1:Pst:={ p with take:=some r.2.2.2 }
   if r.1=true then
    let q:=ZH r.2.2.1 i t c s p1 r.2.2.2
    (q.1,h,r.2.1,q.2.1,q.2.2)
   else (false,h,r.2.1,r.2.2.1,p1)
  else if p.stage=1 then
   let A:=adr h.c 11 (Zd k)
   (false,h,a,m.store A (m.word A) (p.value%18446744073709551616),{ p with stage:=2 })
  else if p.stage=2 then (false,h,a,m.load C (m.word C),{ p with saw:=m.word C,stage:=3 })
  else if p.stage=3 then
   if m.word C=p.saw then Je h a (m.swap C (m.word C) p.saw p.link) i t c s p (Zd k)
   else (false,h,a,m.swap C (m.word C) p.saw p.link,{ p with stage:=2 })
  else match p.retire with
   | none=>(true,h,a,m,p)
   | some r=>match r.scan with
    | none=>(true,h,a,m,p)
    | some sc=>
     let q:=Zl h a m sc
     (q.1,q.2.1,q.2.2.1,q.2.2.2.1,{ p with retire:=some { r with scan:=some q.2.2.2.2 } })
structure PstOk (h:Haz)(a:Are)(m:Mch)(p:Pst)(k:Tak):Prop where
 hz:HazOk h a m
 t0:0≤p.thread
 t1:p.thread<h.c.T
 held:0≤h.held.getD p.thread.toNat 0
 take:p.take=some k
 stage:p.stage=0∨p.stage=1∨p.stage=2∨p.stage=3∨p.stage=4
 tk:p.stage=0→TakeOk a m k∧Zd (Zh a m k).2.2.2≤2147483646 ∧ -1≤Zd (Zh a m k).2.2.2
 slot:p.stage=1∨p.stage=3→0≤Zd k∧Zd k<h.c.Sl
 saw:p.stage=3→0≤p.saw∧p.saw≤h.c.Sl
 link:p.stage=3→0≤p.link∧p.link≤h.c.Sl
 ret:p.stage=4→∃r sc,p.retire=some r∧r.scan=some sc∧ScanOk h a m sc
theorem takeStep_cur (a:Are)(m:Mch)(k:Tak):(Zh a m k).2.2.1.cur=m.cur∧(Zh a m k).2.2.1.calls=m.calls∧(Zh a m k).2.2.1.seats=m.seats:=by
 unfold Zh;split
 ·exact⟨rfl,rfl,rfl⟩
 ·split
  ·exact⟨rfl,rfl,rfl⟩
  ·simp only[];split<;>exact⟨rfl,rfl,rfl⟩
set_option maxHeartbeats 4000000 in
theorem post_step (gr bh ba d bx bm:Nat)(h:Haz)(a:Are)(m:Mch)(i t:Nat)(c:Cll)(s:Sea)(p:Pst)(k:Tak)(ok:PstOk h a m p k)(hcur:ZX m i t c s) :
  Zk Tryz.prog 195 #[.pointer (some ⟨gr,0,none⟩),.pointer (some ⟨d,0,none⟩)] (PstR gr bh ba p*(HazR bh ba h*(AreR ba a*DkR d bx bm m))) (.bool (ZP h a m i t c s p).1)
   (PstR gr bh ba (ZP h a m i t c s p).2.2.2.2*(HazR bh ba (ZP h a m i t c s p).2.1*(AreR ba (ZP h a m i t c s p).2.2.1*DkR d bx bm (ZP h a m i t c s p).2.2.2.1))):=by
 intro O w F hs
 simp only[Ma]at hs
 obtain⟨p1,p2,p3,p4,p5,p6,p7⟩:=p
 obtain⟨hz,t0,t1,hh,htk,hst,htake,hslot,hsaw,hlink,hret⟩:=ok
 simp only[]at t0 t1 hh htk hst htake hslot hsaw hlink hret
 subst htk
 obtain⟨n,rfl⟩:=Int.eq_ofNat_of_zero_le t0
 have hOk:h.c.Ok:=hz.c▸hz.ok.c
 have hS2:=hOk.S2
 have hmC:m.May (adr h.c 2 0):=by rw[hz.c];exact hz.ok.may (by omega) (by omega) in_cell
 have heC:base h.c 2=(adr h.c 2 0:Int):=by have:=adr_eq hOk 2 (i:=0) (by omega);omega
 have hTS:=fun g=>take_slot g ba k
 change ∀g,Zk _ _ _ _ (.int .i64 (Zd k)) _ at hTS
 have HTS:=Lh hTS;clear hTS
 unfold ZP
 simp only[Yo]at hh ⊢
 obtain⟨vt,vr,hs⟩:=pstR.1 hs
 simp only[]at hs
 obtain⟨gt,rfl,hs⟩:=JB.1 (hs.pull (A:=takR ba (some k) vt) (by (with_reducible repeat first|exact Qh|apply Qk)))
 replace hs:=hs.pull (A:=HazR bh ba h) (by (with_reducible repeat first|exact Qh|apply Qk))
 (obtain⟨vhh,vhl,hs⟩:=hazR.1 hs)
 rcases hst with e|e|e|e|e
 ·subst e
  obtain⟨tok,tb1,tb0⟩:=htake rfl
  have hTk:=fun g=>take_step g ba d bx bm a m k tok
  obtain⟨c1,c2,c3⟩:=takeStep_cur a m k
  simp only[if_true]
  generalize Zh a m k=q at hTk tb1 tb0 c1 c2 c3 ⊢
  obtain⟨q1,q2,q3,q4⟩:=q
  simp only[]at hTk tb1 tb0 c1 c2 c3 ⊢
  have hK:=post_took gr bh ba d bx bm q3 i t c s ⟨n,p2,0,some q4,p5,p6,p7⟩ q4 rfl tb1 tb0 ⟨by rw[c1];exact hcur.cur,by rw[c2];exact hcur.call,by rw[c3];exact hcur.seat⟩
  generalize ZH q3 i t c s ⟨n,p2,0,some q4,p5,p6,p7⟩ q4=qq at hK ⊢
  obtain⟨k1,k2,k3⟩:=qq
  have HK:=Lh hK;have HT:=Lh hTk;clear hK hTk
  clear hz hslot hsaw hlink hret htake tok tb1 tb0 c1 c2 c3 hcur hmC
  cases q1 with
  | true=>
   simp only[if_true]
   go_enter Tryz.func195,Tryz.ntmps195
   go_wp2_with (first|((with_reducible apply Zb hs);exact Ii;rfl;(with_reducible repeat first|exact Qh|apply Qk);rfl;rfl;simp only[Uc,Uz])|(go_at_call 140;((refine((HT.out gt)).at hs (by (with_reducible repeat first|exact Qh|apply Qb|apply Qk)) ?_);clear hs;intro w hs;(try simp only[Em,Ma]at hs)))|(go_at_call 196;(replace hs:=JB.2 ⟨gt,rfl,hs.pull (A:=TakR gt ba q4) (by (with_reducible exact Qh))⟩);(replace hs:=pstR_mk (p:=⟨n,p2,0,some q4,p5,p6,p7⟩) (hs.fin (by (with_reducible repeat first|exact Ql|exact Qh|apply Qb|apply Qk))));(refine(HK.out).at hs (by with_reducible repeat first|exact Qh|apply Qb|apply Qk) ?_;clear hs;intro w hs;(try simp only[Em,Ma]at hs))))
   go_ret
   refine⟨by simp,?_⟩
   simp only[Ma]
   (replace hs:=ZA (hs.fin (by (with_reducible repeat first|exact Ql|exact Qh|apply Qb|apply Qk))))
   (with_reducible apply Sat.fin hs;repeat first|exact Ql|exact Qh|apply Qb|apply Qk)
  | false=>
   simp only[Yn,if_false]
   go_enter Tryz.func195,Tryz.ntmps195
   go_wp2_with (first|((with_reducible apply Zb hs);exact Ii;rfl;(with_reducible repeat first|exact Qh|apply Qk);rfl;rfl;simp only[Uc,Uz])|(go_at_call 140;((refine((HT.out gt)).at hs (by (with_reducible repeat first|exact Qh|apply Qb|apply Qk)) ?_);clear hs;intro w hs;(try simp only[Em,Ma]at hs))))
   go_ret
   refine⟨by simp,?_⟩
   simp only[Ma]
   (replace hs:=ZA (hs.fin (by (with_reducible repeat first|exact Ql|exact Qh|apply Qb|apply Qk))))
   replace hs:=JB.2 ⟨gt,rfl,hs.pull (A:=TakR gt ba q4) (by (with_reducible repeat first|exact Qh|apply Qk))⟩
   apply pstR_mk (vt:=.pointer (some ⟨gt,0,none⟩)) (vr:=vr)
   (with_reducible apply Sat.fin hs;repeat first|exact Ql|exact Qh|apply Qb|apply Qk)
 ·subst e
  obtain⟨s0,s1⟩:=hslot (.inl rfl)
  simp only[if_neg (show ¬(1:Int)=0 by omega),if_true]
  have hm:m.May (adr h.c 11 (Zd k)):=by rw[hz.c];exact hz.ok.may (by omega) (by omega) (in_value s0 (hz.c▸s1))
  have he:=adr_eq hOk 11 s0
  obtain⟨b0,b1⟩:=ZD hOk 11
  have hL:=Lh (Z7 d bx bm m _ _ (p2%18446744073709551616) hm.acs)
  have hN:=Lh (word_number p2)
  generalize m.word (adr h.c 11 (Zd k))=u at hL ⊢
  generalize Zd k=sl0 at *
  clear hz hslot hsaw hlink hret htake hcur hmC hm
  go_enter Tryz.func195,Tryz.ntmps195
  go_wp2_with (first|(with_reducible first|apply NQ.mk|apply EQ.mk|exact Zg|apply Zj)|((with_reducible apply Zi);rfl;rfl)|((with_reducible apply Zo);rfl)|((with_reducible refine Zn ?_ ?_);focus((with_reducible apply ZI);rfl;rfl))|(show Qd _ _ _;rfl)|((with_reducible apply Zb hs);exact Ii;rfl;(with_reducible repeat first|exact Qh|apply Qk);rfl;rfl;simp only[Uc,Uz])|((with_reducible apply Zv hs);exact Ii;rfl;rfl;(with_reducible repeat first|exact Qh|apply Qk);rfl;exact Vb rfl;rfl;clear hs;intro w hs;simp only[Yg,Uc,Uz]at hs)|(go_at_call 142;((refine((HTS.out gt)).at hs (by (with_reducible repeat first|exact Qh|apply Qk)) ?_);clear hs;intro w hs;(try simp only[Em,Ma]at hs)))|(go_at_call 143;((refine(hN.out).at hs (by (focus((repeat(with_reducible exact Qn));done))) ?_);clear hs;intro w hs;(try simp only[Em,Ma]at hs)))|(go_at_call 141;(refine(hL.out).at hs (by with_reducible repeat first|exact Qh|apply Qk) ?_;clear hs;intro w hs;(try simp only[Em,Ma]at hs)))|((with_reducible refine Wp (id:=7) (Paz [.neu 5,.neu 6,.neu 7,.neu 8,.neu 11,.neu 12,.neu 13,.neu 14,.eff 9 [0,1,2,3,4,11,12,13,14],.neu 10,.eff 15 [0,1,2,3,4,10],.eff 16 []]) hs rfl ?_ ?_);kernel_rfl;clear hs;intro w hs))
  go_ret
  refine⟨rfl,?_⟩
  simp only[Ma]
  (replace hs:=ZA (hs.fin (by (with_reducible repeat first|exact Ql|exact Qh|apply Qb|apply Qk))))
  replace hs:=JB.2 ⟨gt,rfl,hs.pull (A:=TakR gt ba k) (by (with_reducible repeat first|exact Qh|apply Qk))⟩
  apply pstR_mk (vt:=.pointer (some ⟨gt,0,none⟩)) (vr:=vr)
  (with_reducible apply Sat.fin hs;repeat first|exact Ql|exact Qh|apply Qb|apply Qk)
 ·subst e
  simp only[if_neg (show ¬(2:Int)=0 by omega),if_neg (show ¬(2:Int)=1 by omega),if_true]
  have hL:=Lh (Qt d bx bm m _ _ hmC.acs)
  generalize m.word (adr h.c 2 0)=u at hL ⊢
  clear hz hslot hsaw hlink hret htake hcur hmC
  go_enter Tryz.func195,Tryz.ntmps195
  go_wp2_with (first|((with_reducible apply Zb hs);exact Ii;rfl;(with_reducible repeat first|exact Qh|apply Qk);rfl;rfl;simp only[Uc,Uz])|((with_reducible apply Zv hs);exact Ii;rfl;rfl;(with_reducible repeat first|exact Qh|apply Qk);rfl;exact Vb rfl;rfl;clear hs;intro w hs;simp only[Yg,Uc,Uz]at hs)|(go_at_call 144;(refine(hL.out).at hs (by with_reducible repeat first|exact Qh|apply Qk) ?_;clear hs;intro w hs;(try simp only[Em,Ma]at hs))))
  go_ret
  refine⟨rfl,?_⟩
  simp only[Ma]
  (replace hs:=ZA (hs.fin (by (with_reducible repeat first|exact Ql|exact Qh|apply Qb|apply Qk))))
  replace hs:=JB.2 ⟨gt,rfl,hs.pull (A:=TakR gt ba k) (by (with_reducible repeat first|exact Qh|apply Qk))⟩
  apply pstR_mk (vt:=.pointer (some ⟨gt,0,none⟩)) (vr:=vr)
  (with_reducible apply Sat.fin hs;repeat first|exact Ql|exact Qh|apply Qb|apply Qk)
 ·subst e
  simp only[if_neg (show ¬(3:Int)=0 by omega),if_neg (show ¬(3:Int)=1 by omega),if_neg (show ¬(3:Int)=2 by omega),if_true]
  obtain⟨w0,w1⟩:=hsaw rfl
  obtain⟨s0,s1⟩:=hslot (.inr rfl)
  have hL:=Jl d bx bm m _ _ p6 p5 hmC.acs
  by_cases hu:m.word (adr h.c 2 0)=p6
  ·simp only[if_pos hu]
   rw[show decide (m.word (adr h.c 2 0)=p6)=true by simpa using hu]at hL
   have hcur1:ZX (m.swap (adr h.c 2 0) (m.word (adr h.c 2 0)) p6 p5) i t c s:=⟨hcur.cur,hcur.call,hcur.seat⟩
   have hsh1:(m.swap (adr h.c 2 0) (m.word (adr h.c 2 0)) p6 p5).shifts.length<1000000000:=hz.sh
   generalize m.swap (adr h.c 2 0) (m.word (adr h.c 2 0)) p6 p5=m1 at hL hcur1 hsh1 ⊢
   have HL:=Lh hL;clear hL
   have hN:=Lh (desk_now d bx bm m1)
   have hP:=Lh (Jx d bx bm m1 i t c m1.now hcur1.cur hcur1.call)
   have hA:=Lh (QD d bx bm (m1.point i c m1.now) i t s 1 0 hcur1.cur hcur1.seat)
   have hD:=Lh haz_done
   obtain⟨j,hj⟩:=Int.eq_ofNat_of_zero_le s0
   have hjl:j<a.slots.length:=by rw[hz.ok.slots,←hz.c];omega
   have hSh1:=Jb ba d bx bm a ((m1.point i c m1.now).answer t s 1 0) j (a.slots.getD j ⟨0,0⟩) 3 (by simp[hjl]) (by omega) (by omega) (by show m1.shifts.length<_;omega)
   have hU:=Lh (Ju p6 w0 (by omega))
   have hthr:((m1.point i c m1.now).answer t s 1 0).thread=m1.thread:=rfl
   rw[hthr]at hSh1
   unfold Je
   simp only[]
   rw[hj,Yo]
   rw[hj]at HTS
   have hms:((m1.point i c m1.now).answer t s 1 0).shifts.length<1000000000:=hsh1
   have hmt:((m1.point i c m1.now).answer t s 1 0).thread=m1.thread:=rfl
   generalize (m1.point i c m1.now).answer t s 1 0=m3 at hA hSh1 hms hmt ⊢
   generalize a.slots.getD j ⟨0,0⟩=st1 at hSh1 ⊢
   have HSh1:=Lh hSh1;clear hSh1
   by_cases ho:p6-1<0
   ·simp only[if_pos ho]
    have hd:decide (p6-1<0)=true:=by simpa using ho
    have hd2:decide (p6<1)=true:=by simp;omega
    have HO:=Lh ho
    clear hz hslot hsaw hlink hret htake hcur hcur1 hmC hu ho hh w0 w1 s0 s1 hj hjl hthr hmt
    go_enter Tryz.func195,Tryz.ntmps195
    go_wp2_with (first|(with_reducible first|apply NQ.mk|apply EQ.mk|exact Zg|apply Zj)|((with_reducible apply Zi);rfl;rfl)|((with_reducible apply Zo);rfl)|((with_reducible refine Zn ?_ ?_);focus((with_reducible apply ZI);rfl;rfl))|(show Qd _ _ _;rfl)|((with_reducible apply Zb hs);exact Ii;rfl;(with_reducible repeat first|exact Qh|apply Qk);rfl;rfl;simp only[Uc,Uz])|(go_at_call 146;(refine(HL.out).at hs (by with_reducible repeat first|exact Qh|apply Qk) ?_;clear hs;intro w hs;(try simp only[Em,Ma]at hs)))|(go_at_call 148;((refine(hN.out).at hs (by (with_reducible exact Qh)) ?_);clear hs;intro w hs;(try simp only[Em,Ma]at hs)))|(go_at_call 147;((refine(hP.out).at hs (by (with_reducible exact Qh)) ?_);clear hs;intro w hs;(try simp only[Em,Ma]at hs)))|(go_at_call 197;((refine(hD.out).at hs (by (focus((repeat(with_reducible exact Qn));done))) ?_);clear hs;intro w hs;(try simp only[Em,Ma]at hs)))|(go_at_call 150;((refine(hA.out).at hs (by (with_reducible exact Qh)) ?_);clear hs;intro w hs;(try simp only[Em,Ma]at hs)))|(go_at_call 142;((refine((HTS.out gt)).at hs (by (with_reducible repeat first|exact Qh|apply Qk)) ?_);clear hs;intro w hs;(try simp only[Em,Ma]at hs)))|(go_at_call 149;(refine(HSh1.out).at hs (by with_reducible repeat first|exact Qh|apply Qb|apply Qk) ?_;clear hs;intro w hs;(try simp only[Em,Ma]at hs)))|(go_at_call 156;((refine(hU.out).at hs (by (focus((repeat(with_reducible exact Qn));done))) ?_);clear hs;intro w hs;(try simp only[Em,Ma]at hs)))|((with_reducible refine Wp (id:=13) (Paz (Pbz [.neu 10,.neu 11,.neu 12,.eff 13 [],.neu 14])) hs rfl ?_ ?_);kernel_rfl;clear hs;intro w hs)|((with_reducible refine Wp (id:=18) (Paz [.neu 5,.neu 6,.neu 7,.neu 8,.eff 9 [0,1,2,3,4],.eff 10 []]) hs rfl ?_ ?_);kernel_rfl;clear hs;intro w hs))
    go_ret
    refine⟨rfl,?_⟩
    simp only[Ma]
    (replace hs:=ZA (hs.fin (by (with_reducible repeat first|exact Ql|exact Qh|apply Qb|apply Qk))))
    replace hs:=JB.2 ⟨gt,rfl,hs.pull (A:=TakR gt ba k) (by (with_reducible repeat first|exact Qh|apply Qk))⟩
    apply pstR_mk (vt:=.pointer (some ⟨gt,0,none⟩)) (vr:=vr)
    (with_reducible apply Sat.fin hs;repeat first|exact Ql|exact Qh|apply Qb|apply Qk)
   ·simp only[if_neg ho]
    have hd:decide (p6-1<0)=false:=by simpa using ho
    have hd2:decide (p6<1)=false:=by simp;omega
    obtain⟨l,hl⟩:=Int.eq_ofNat_of_zero_le (show 0≤p6-1 by omega)
    have hll:l<(a.shift j m1.thread 3).slots.length:=by simp only[Are.shift,List.length_set];rw[hz.ok.slots,←hz.c];omega
    have hSh2:=Jb ba d bx bm (a.shift j m1.thread 3) (m3.shift j st1.state 3) l ((a.shift j m1.thread 3).slots.getD l ⟨0,0⟩) 4 (by simp[hll]) (by omega) (by omega) (by simp[Mch.shift];omega)
    rw[show(m3.shift j st1.state 3).thread=m1.thread from hmt]at hSh2
    rw[hl,Yo]
    have hz1:=(hz.shift j m1.thread 3).shift l m1.thread 4
    generalize (a.shift j m1.thread 3).slots.getD l ⟨0,0⟩=st2 at hSh2 ⊢
    have HSh2:=Lh hSh2;clear hSh2
    have hRt:=fun gg=>retire_ready gg bh ba d bx bm h ((a.shift j m1.thread 3).shift l m1.thread 4) ((m3.shift j st1.state 3).shift l st2.state 4) m ⟨n,l,none⟩ hz1 (by simp[Mch.shift];omega) t0 t1 (by show(0:Int)≤l;omega) (by show(l:Int)<_;omega) (by rw[Yo];exact hh) rfl
    generalize Zr h ((a.shift j m1.thread 3).shift l m1.thread 4) ((m3.shift j st1.state 3).shift l st2.state 4) ⟨n,l,none⟩=rr at hRt ⊢
    obtain⟨r1,r2,r3,r4,r5⟩:=rr
    simp only[]at hRt ⊢
    have HRt:=Lh hRt;clear hRt
    have hMk:=Lh (haz_retire bh ba n l)
    have HO:=Lh ho
    have hl2:p6-1=(l:Int):=hl
    rw[hl2]at hU
    clear hz hz1 hslot hsaw hlink hret htake hcur hcur1 hmC hu ho hh w0 w1 s0 s1 hj hjl hthr hmt hl hl2 hll hms hsh1 hd hd2 t0 t1
    have hd:decide ((l:Int)<0)=false:=by simp
    go_enter Tryz.func195,Tryz.ntmps195
    go_wp2_with (first|(with_reducible first|apply NQ.mk|apply EQ.mk|exact Zg|apply Zj)|((with_reducible apply Zi);rfl;rfl)|((with_reducible apply Zo);rfl)|((with_reducible refine Zn ?_ ?_);focus((with_reducible apply ZI);rfl;rfl))|(show Qd _ _ _;rfl)|((with_reducible apply Zb hs);exact Ii;rfl;(with_reducible repeat first|exact Qh|apply Qk);rfl;rfl;simp only[Uc,Uz])|((with_reducible apply Zv hs);exact Ii;rfl;rfl;(with_reducible repeat first|exact Qh|apply Qk);rfl;exact Vb rfl;rfl;clear hs;intro w hs;simp only[Yg,Uc,Uz]at hs)|(go_at_call 146;(refine(HL.out).at hs (by with_reducible repeat first|exact Qh|apply Qk) ?_;clear hs;intro w hs;(try simp only[Em,Ma]at hs)))|(go_at_call 148;((refine(hN.out).at hs (by (with_reducible exact Qh)) ?_);clear hs;intro w hs;(try simp only[Em,Ma]at hs)))|(go_at_call 147;((refine(hP.out).at hs (by (with_reducible exact Qh)) ?_);clear hs;intro w hs;(try simp only[Em,Ma]at hs)))|(go_at_call 197;((refine(hD.out).at hs (by (focus((repeat(with_reducible exact Qn));done))) ?_);clear hs;intro w hs;(try simp only[Em,Ma]at hs)))|(go_at_call 150;((refine(hA.out).at hs (by (with_reducible exact Qh)) ?_);clear hs;intro w hs;(try simp only[Em,Ma]at hs)))|(go_at_call 142;((refine((HTS.out gt)).at hs (by (with_reducible repeat first|exact Qh|apply Qk)) ?_);clear hs;intro w hs;(try simp only[Em,Ma]at hs)))|(go_at_call 149;first|(refine(HSh1.out).at hs (by with_reducible repeat first|exact Qh|apply Qb|apply Qk) ?_;clear hs;intro w hs;(try simp only[Em,Ma]at hs))|((refine(HSh2.out).at hs (by (focus with_reducible (repeat first|exact Qh|apply Qb);done)) ?_);clear hs;intro w hs;(try simp only[Em,Ma]at hs)))|(go_at_call 156;((refine(hU.out).at hs (by (focus((repeat(with_reducible exact Qn));done))) ?_);clear hs;intro w hs;(try simp only[Em,Ma]at hs)))|(go_at_call 172;((refine(hMk.out).at hs (by (focus((repeat(with_reducible exact Qn));done))) ?_);clear hs;intro g w hs;(try simp only[Em,Ma]at hs)))|(go_at_call 173;(replace hs:=ZA (hs.fin (by (with_reducible repeat first|exact Ql|exact Qh|apply Qb|apply Qk))));((refine((HRt.out g)).at hs (by (with_reducible repeat first|exact Qh|apply Qb|apply Qk)) ?_);clear hs;intro w hs;(try simp only[Em,Ma]at hs)))|((with_reducible refine Wp (id:=13) (Paz (Pbz [.neu 10,.neu 11,.neu 12,.eff 13 [],.neu 14])) hs rfl ?_ ?_);kernel_rfl;clear hs;intro w hs)|((with_reducible refine Wp (id:=18) (Paz [.neu 5,.neu 6,.neu 7,.neu 8,.eff 9 [0,1,2,3,4],.eff 10 []]) hs rfl ?_ ?_);kernel_rfl;clear hs;intro w hs))
    go_ret
    refine⟨rfl,?_⟩
    simp only[Ma]
    replace hs:=JB.2 ⟨gt,rfl,hs.pull (A:=TakR gt ba k) (by (with_reducible repeat first|exact Qh|apply Qk))⟩
    replace hs:=rtr_get.2 ⟨g,rfl,hs.pull (A:=RetR g bh ba r5) (by (with_reducible repeat first|exact Qh|apply Qk))⟩
    apply pstR_mk (vt:=.pointer (some ⟨gt,0,none⟩)) (vr:=.pointer (some ⟨g,0,none⟩))
    (with_reducible apply Sat.fin hs;repeat first|exact Ql|exact Qh|apply Qb|apply Qk)
  ·simp only[if_neg hu]
   rw[show decide (m.word (adr h.c 2 0)=p6)=false by simpa using hu]at hL
   generalize m.swap (adr h.c 2 0) (m.word (adr h.c 2 0)) p6 p5=m1 at hL ⊢
   have HL:=Lh hL;clear hL
   clear hz hslot hsaw hlink hret htake hcur hmC hu
   go_enter Tryz.func195,Tryz.ntmps195
   go_wp2_with (first|(with_reducible refine NQ.mk ?_)|((with_reducible apply Zi);rfl;rfl)|((with_reducible apply Zo);rfl)|(with_reducible refine EQ.mk ?_ ?_)|(with_reducible exact Zg)|(with_reducible refine Zj ?_)|((with_reducible apply Zb hs);exact Ii;rfl;(with_reducible repeat first|exact Qh|apply Qk);rfl;rfl;simp only[Uc,Uz])|((with_reducible apply Zv hs);exact Ii;rfl;rfl;(with_reducible repeat first|exact Qh|apply Qk);rfl;exact Vb rfl;rfl;clear hs;intro w hs;simp only[Yg,Uc,Uz]at hs)|(go_at_call 146;(refine(HL.out).at hs (by with_reducible repeat first|exact Qh|apply Qk) ?_;clear hs;intro w hs;(try simp only[Em,Ma]at hs)))|((with_reducible refine Wp (id:=13) (Paz (Pbz [.neu 10,.neu 11,.neu 12,.eff 13 [],.neu 14])) hs rfl ?_ ?_);kernel_rfl;clear hs;intro w hs))
   go_ret
   refine⟨rfl,?_⟩
   simp only[Ma]
   (replace hs:=ZA (hs.fin (by (with_reducible repeat first|exact Ql|exact Qh|apply Qb|apply Qk))))
   replace hs:=JB.2 ⟨gt,rfl,hs.pull (A:=TakR gt ba k) (by (with_reducible repeat first|exact Qh|apply Qk))⟩
   apply pstR_mk (vt:=.pointer (some ⟨gt,0,none⟩)) (vr:=vr)
   (with_reducible apply Sat.fin hs;repeat first|exact Ql|exact Qh|apply Qb|apply Qk)
 ·subst e
  simp only[if_neg (show ¬(4:Int)=0 by omega),if_neg (show ¬(4:Int)=1 by omega),if_neg (show ¬(4:Int)=2 by omega),if_neg (show ¬(4:Int)=3 by omega)]
  obtain⟨r,sc,rfl,hrs,sok⟩:=hret rfl
  have hS:=fun gg=>retire_step gg bh ba d bx bm h a m r sc hrs sok
  simp only[hrs]
  generalize Zl h a m sc=q at hS ⊢
  obtain⟨q1,q2,q3,q4,q5⟩:=q
  simp only[]at hS ⊢
  have HS:=Lh hS;clear hS
  obtain⟨g2,rfl,hs⟩:=rtr_get.1 (hs.pull (A:=rtrR bh ba (some r) vr) (by (with_reducible repeat first|exact Qh|apply Qk)))
  clear hz hslot hsaw hlink hret htake hcur hmC sok
  go_enter Tryz.func195,Tryz.ntmps195
  go_wp2_with (first|((with_reducible apply Zb hs);exact Ii;rfl;(with_reducible repeat first|exact Qh|apply Qk);rfl;rfl;simp only[Uc,Uz])|(go_at_call 174;(replace hs:=ZA (hs.fin (by (with_reducible repeat first|exact Ql|exact Qh|apply Qb|apply Qk))));((refine((HS.out g2)).at hs (by (with_reducible repeat first|exact Qh|apply Qb|apply Qk)) ?_);clear hs;intro w hs;(try simp only[Em,Ma]at hs))))
  go_ret
  refine⟨rfl,?_⟩
  simp only[Ma]
  replace hs:=JB.2 ⟨gt,rfl,hs.pull (A:=TakR gt ba k) (by (with_reducible repeat first|exact Qh|apply Qk))⟩
  replace hs:=rtr_get.2 ⟨g2,rfl,hs.pull (A:=RetR g2 bh ba _) (by (with_reducible repeat first|exact Qh|apply Qk))⟩
  apply pstR_mk (vt:=.pointer (some ⟨gt,0,none⟩)) (vr:=.pointer (some ⟨g2,0,none⟩))
  (with_reducible apply Sat.fin hs;repeat first|exact Ql|exact Qh|apply Qb|apply Qk)
end
end Go.Proofs.YtefjbdajgakgpaaGreat
