/-
  The calls: Post.
-/
import Derived.Test.YtefjbdajgakgpaaGreatATask3
set_option linter.all false
namespace Go.Proofs.YtefjbdajgakgpaaGreat
open Go.RowKit Hp
set_option maxRecDepth 100000
set_option maxHeartbeats 1000000
attribute [local irreducible] Go.Calls
theorem haz_done:Zh Tryz.prog 197 #[] emp (.agg #[.int .i64 1,.int .i64 0]) emp:=by
 intro O w F hs
 go_enter Tryz.func197,Tryz.ntmps197
 go_wp2_with (first|((with_reducible apply ZJ hs);exact Ii;rfl;rfl;(with_reducible exact Qh);rfl;rfl;rfl;rfl;clear hs;intro w hs)|((with_reducible apply Zu hs);exact Ii;rfl;clear hs;intro w b hs;(simp only[Uc,Uz])))
 ((try simp only[Exit.inBlock,Exit.then]);(with_reducible apply bodyPost_ret);((with_reducible apply results_c);rfl;rfl;(with_reducible apply loadF hs);exact Ii;(with_reducible exact Qh);rfl;rfl))
 exact⟨rfl,by ((with_reducible apply Sat.fin hs);(focus with_reducible (repeat first|exact Ql|exact Qn|apply Qb|apply Qk);done))⟩
structure Pst where
 thread:Int
 value:Int
 stage:Int
 take:Option Tak
 link:Int
 saw:Int
 retire:Option Ret
def takR (ba:Nat)(o:Option Tak)(v:Value):Zb:=match o with
 | none=>pu (v=.pointer none)
 | some p=>ex fun g=>pu (v=.pointer (some ⟨g,0,none⟩))*TakR g ba p
theorem tak_none {O w:World}{ba:Nat}{R:Zb}(hs:Sat O w R):Sat O w (takR ba none (.pointer none)*R):=by
 unfold takR
 simp only[Zw]
 exact⟨trivial,hs⟩
theorem Je {O w:World}{ba:Nat}{p:Tak}{v:Value}{R:Zb}:Sat O w (takR ba (some p) v*R)↔∃g,v=.pointer (some ⟨g,0,none⟩)∧Sat O w (TakR g ba p*R):=by
 unfold takR
 simp only[ZA,Ma,Zw]
def rtrR (bh ba:Nat)(o:Option Ret)(v:Value):Zb:=match o with
 | none=>pu (v=.pointer none)
 | some p=>ex fun g=>pu (v=.pointer (some ⟨g,0,none⟩))*RetR g bh ba p
theorem rtr_none {O w:World}{bh ba:Nat}{R:Zb}(hs:Sat O w R):Sat O w (rtrR bh ba none (.pointer none)*R):=by
 unfold rtrR
 simp only[Zw]
 exact⟨trivial,hs⟩
theorem rtr_get {O w:World}{bh ba:Nat}{p:Ret}{v:Value}{R:Zb}:Sat O w (rtrR bh ba (some p) v*R)↔∃g,v=.pointer (some ⟨g,0,none⟩)∧Sat O w (RetR g bh ba p*R):=by
 unfold rtrR
 simp only[ZA,Ma,Zw]
def PstR (g bh ba:Nat)(p:Pst):Zb:=ex fun vt=>ex fun vr=>pt g (.cells #[.pointer (some ⟨bh,0,none⟩),.int .i64 p.thread,.int .i64 p.value,.int .i64 p.stage,vt,.int .u64 p.link,.int .u64 p.saw,vr] 189)*(takR ba p.take vt*rtrR bh ba p.retire vr)
theorem pstR {O w:World}{g bh ba:Nat}{p:Pst}{R:Zb}:Sat O w (PstR g bh ba p*R)↔∃vt vr,Sat O w (pt g (.cells #[.pointer (some ⟨bh,0,none⟩),.int .i64 p.thread,.int .i64 p.value,.int .i64 p.stage,vt,.int .u64 p.link,.int .u64 p.saw,vr] 189)*(takR ba p.take vt*(rtrR bh ba p.retire vr*R))):=by
 unfold PstR
 simp only[ZA,Ma]
theorem pstR_mk {O w:World}{g bh ba:Nat}{p:Pst}{R:Zb}{vt vr:Value}(hs:Sat O w (pt g (.cells #[.pointer (some ⟨bh,0,none⟩),.int .i64 p.thread,.int .i64 p.value,.int .i64 p.stage,vt,.int .u64 p.link,.int .u64 p.saw,vr] 189)*(takR ba p.take vt*(rtrR bh ba p.retire vr*R)))):Sat O w (PstR g bh ba p*R):=pstR.2 ⟨_,_,hs⟩
attribute [irreducible] takR rtrR PstR
def Zg (t:Tak):Int:=if t.taken=true then t.slot else -1
def ZS (m:Mch)(i t:Nat)(c:Cll)(s:Sea)(p:Pst)(k:Tak):Bool×Mch×Pst:=
 if Zg k<0 then (true,(m.point i c m.now).answer t s 4 0,p) else (false,m,{ p with link:=Zg k+1,stage:=1 })
theorem post_took (gr bh ba d bx bm:Nat)(m:Mch)(i t:Nat)(c:Cll)(s:Sea)(p:Pst)(k:Tak)(hk:p.take=some k)(hb:Zg k≤2147483646)(hb0 : -1≤Zg k)(hcur:ZO m i t c s) :
  Zh Tryz.prog 196 #[.pointer (some ⟨gr,0,none⟩),.pointer (some ⟨d,0,none⟩)] (PstR gr bh ba p*DkR d bx bm m) (.bool (ZS m i t c s p k).1)
   (PstR gr bh ba (ZS m i t c s p k).2.2*DkR d bx bm (ZS m i t c s p k).2.1):=by
 intro O w F hs
 simp only[Ma]at hs
 obtain⟨p1,p2,p3,p4,p5,p6,p7⟩:=p
 simp only[]at hk
 subst hk
 obtain⟨vt,vr,hs⟩:=pstR.1 hs
 simp only[]at hs
 obtain⟨g,rfl,hs⟩:=Je.1 (hs.pull (A:=takR ba (some k) vt) (by (with_reducible repeat first|exact Qh|apply Qk)))
 have hN:=Lh (desk_now d bx bm m)
 have hP:=Lh (Jb d bx bm m i t c m.now hcur.cur hcur.call)
 have hA:=Lh (Qd d bx bm (m.point i c m.now) i t s 4 0 hcur.cur hcur.seat)
 have hS:=take_slot g ba k
 have hL:=word_link (Zg k) hb0 hb
 unfold ZS
 change Zh _ _ _ _ (.int .i64 (Zg k)) _ at hS
 generalize Zg k=sl0 at hS hL hb hb0 ⊢
 have HS:=Lh hS;clear hS
 have HL:=Lh hL;clear hL
 by_cases hu:sl0<0
 ·have hd:decide (sl0<0)=true:=by simpa using hu
  simp only[if_pos hu]
  have HU:=Lh hu
  clear hcur hu
  go_enter Tryz.func196,Tryz.ntmps196
  go_wp2_with (first|((with_reducible apply Za hs);exact Ii;rfl;(with_reducible repeat first|exact Qh|apply Qk);rfl;rfl;(simp only[Uc,Uz]))|(go_at_call 142;((refine(HS.out).at hs (by (with_reducible exact Qh)) ?_);clear hs;intro w hs;(try simp only[Em,Ma]at hs)))|(go_at_call 148;((refine(hN.out).at hs (by (with_reducible repeat first|exact Qh|apply Qk)) ?_);clear hs;intro w hs;(try simp only[Em,Ma]at hs)))|(go_at_call 147;((refine(hP.out).at hs (by (with_reducible exact Qh)) ?_);clear hs;intro w hs;(try simp only[Em,Ma]at hs)))|(go_at_call 150;((refine(hA.out).at hs (by (with_reducible exact Qh)) ?_);clear hs;intro w hs;(try simp only[Em,Ma]at hs))))
  (go_ret)
  refine⟨rfl,?_⟩
  simp only[Ma]
  replace hs:=Je.2 ⟨g,rfl,hs.pull (A:=TakR g ba k) (by (with_reducible repeat first|exact Qh|apply Qk))⟩
  apply pstR_mk (vt:=.pointer (some ⟨g,0,none⟩)) (vr:=vr)
  ((with_reducible apply Sat.fin hs);(with_reducible repeat first|exact Ql|exact Qh|apply Qb|apply Qk))
 ·have hd:decide (sl0<0)=false:=by simpa using hu
  simp only[if_neg hu]
  have HU:=Lh hu
  clear hcur hu
  go_enter Tryz.func196,Tryz.ntmps196
  go_wp2_with (first|(first|((with_reducible apply Za hs);exact Ii;rfl;(with_reducible repeat first|exact Qh|apply Qk);rfl;rfl;(simp only[Uc,Uz]))|((with_reducible apply Zt hs);exact Ii;rfl;rfl;(with_reducible repeat first|exact Qh|apply Qk);(rfl);(exact Vb rfl);rfl;clear hs;intro w hs;simp only[Yg,Uc,Uz]at hs))|(go_at_call 142;((refine(HS.out).at hs (by (with_reducible exact Qh)) ?_);clear hs;intro w hs;(try simp only[Em,Ma]at hs)))|(go_at_call 153;((refine(HL.out).at hs (by (focus((repeat(with_reducible exact Qn));done))) ?_);clear hs;intro w hs;(try simp only[Em,Ma]at hs))))
  (go_ret)
  refine⟨rfl,?_⟩
  simp only[Ma]
  replace hs:=Je.2 ⟨g,rfl,hs.pull (A:=TakR g ba k) (by (with_reducible repeat first|exact Qh|apply Qk))⟩
  apply pstR_mk (vt:=.pointer (some ⟨g,0,none⟩)) (vr:=vr)
  ((with_reducible apply Sat.fin hs);(with_reducible repeat first|exact Ql|exact Qh|apply Qb|apply Qk))
def ZL (a:Are)(m:Mch)(i t:Nat)(c:Cll)(s:Sea)(p:Pst):Bool×Are×Mch×Pst:=
 let r:=Zj a m ⟨p.thread,1,0,0,0,false⟩
 let p1:={ p with take:=some r.2.2.2 }
 if r.1=true then
  let q:=ZS r.2.2.1 i t c s p1 r.2.2.2
  (q.1,r.2.1,q.2.1,q.2.2)
 else (false,r.2.1,r.2.2.1,p1)
theorem post_ready (gr bh ba d bx bm:Nat)(h:Haz)(a:Are)(m:Mch)(i t:Nat)(c:Cll)(s:Sea)(p:Pst)(n:Nat)(x:List Int)(hn:p.thread=(n:Int))(hx:a.caches[n]? = some x)(hins:∀s∈x,0≤s∧s<a.slots.length)(hsl:0<a.slots.length)(hl:m.shifts.length<4294967296)(hxl:x.length<4294967296)
  (hcur:ZO (Zj a m ⟨p.thread,1,0,0,0,false⟩).2.2.1 i t c s) (hb:Zg (Zj a m ⟨p.thread,1,0,0,0,false⟩).2.2.2≤2147483646) (hb0 : -1≤Zg (Zj a m ⟨p.thread,1,0,0,0,false⟩).2.2.2) :
  Zh Tryz.prog 194 #[.pointer (some ⟨gr,0,none⟩),.pointer (some ⟨d,0,none⟩)] (PstR gr bh ba p*(HazR bh ba h*(AreR ba a*DkR d bx bm m))) (.bool (ZL a m i t c s p).1)
   (PstR gr bh ba (ZL a m i t c s p).2.2.2*(HazR bh ba h*(AreR ba (ZL a m i t c s p).2.1*DkR d bx bm (ZL a m i t c s p).2.2.1))):=by
 intro O w F hs
 simp only[Ma]at hs
 obtain⟨p1,p2,p3,p4,p5,p6,p7⟩:=p
 simp only[]at hn hcur hb hb0
 subst hn
 have hT:=Lh (arena_take ba a (n:Int) hsl)
 have hR:=fun g=>take_ready g ba d bx bm a m ⟨n,1,0,0,0,false⟩ n x rfl hx rfl hins hl hxl
 unfold ZL
 simp only[]
 clear hx hins hl hxl hsl
 generalize Zj a m ⟨n,1,0,0,0,false⟩=q at hR hcur hb hb0 ⊢
 obtain⟨q1,q2,q3,q4⟩:=q
 simp only[]at hR hcur hb hb0 ⊢
 have hK:=post_took gr bh ba d bx bm q3 i t c s ⟨n,p2,p3,some q4,p5,p6,p7⟩ q4 rfl hb hb0 hcur
 generalize ZS q3 i t c s ⟨n,p2,p3,some q4,p5,p6,p7⟩ q4=qq at hK ⊢
 obtain⟨k1,k2,k3⟩:=qq
 have HR:=Lh hR;have HK:=Lh hK;clear hR hK hcur hb hb0
 obtain⟨vt,vr,hs⟩:=pstR.1 hs
 simp only[]at hs
 replace hs:=hs.pull (A:=HazR bh ba h) (by (with_reducible repeat first|exact Qh|apply Qk))
 (obtain⟨vhh,vhl,hs⟩:=hazR.1 hs)
 cases q1 with
 | true=>
  simp only[if_true]
  go_enter Tryz.func194,Tryz.ntmps194
  go_wp2_with (first|(first|(first|(with_reducible refine NQ.mk ?_)|((with_reducible apply Zd);rfl;rfl)|((with_reducible apply Zm);rfl)|(with_reducible refine EQ.mk ?_ ?_)|(first|(with_reducible exact Zf)|((with_reducible refine Zl ?_ ?_);(focus((with_reducible apply ZC);rfl;rfl))))|(with_reducible refine Ze ?_)|(show ZW _ _ _;rfl))|((with_reducible apply Za hs);exact Ii;rfl;(with_reducible repeat first|exact Qh|apply Qk);rfl;rfl;(simp only[Uc,Uz]))|((with_reducible apply Zt hs);exact Ii;rfl;rfl;(with_reducible repeat first|exact Qh|apply Qk);(rfl);(exact Vb rfl);rfl;clear hs;intro w hs;simp only[Yg,Uc,Uz]at hs))|(go_at_call 137;((refine(hT.out).at hs (by (with_reducible repeat first|exact Qh|apply Qk)) ?_);clear hs;intro g w hs;(try simp only[Em,Ma]at hs)))|(go_at_call 138;((refine((HR.out g)).at hs (by (with_reducible repeat first|exact Qh|apply Qb|apply Qk)) ?_);clear hs;intro w hs;(try simp only[Em,Ma]at hs)))|(go_at_call 196;(replace hs:=Je.2 ⟨g,rfl,hs.pull (A:=TakR g ba q4) (by (with_reducible exact Qh))⟩);(replace hs:=pstR_mk (p:=⟨n,p2,p3,some q4,p5,p6,p7⟩) (hs.fin (by (with_reducible repeat first|exact Ql|exact Qh|apply Qb|apply Qk))));((refine(HK.out).at hs (by (with_reducible repeat first|exact Qh|apply Qb|apply Qk)) ?_);clear hs;intro w hs;(try simp only[Em,Ma]at hs)))|((with_reducible refine Wp (id:=1) (Paz (Pbz [.neu 10,.neu 11,.eff 12 [0],.neu 13,.neu 14,.eff 15 []])) hs rfl ?_ ?_);kernel_rfl;clear hs;intro w hs))
  (go_ret)
  refine⟨by simp,?_⟩
  simp only[Ma]
  (replace hs:=Zy (hs.fin (by (with_reducible repeat first|exact Ql|exact Qh|apply Qb|apply Qk))))
  ((with_reducible apply Sat.fin hs);(with_reducible repeat first|exact Ql|exact Qh|apply Qb|apply Qk))
 | false=>
  simp only[Yn,if_false]
  go_enter Tryz.func194,Tryz.ntmps194
  go_wp2_with (first|(first|(first|(with_reducible refine NQ.mk ?_)|((with_reducible apply Zd);rfl;rfl)|((with_reducible apply Zm);rfl)|(with_reducible refine EQ.mk ?_ ?_)|(first|(with_reducible exact Zf)|((with_reducible refine Zl ?_ ?_);(focus((with_reducible apply ZC);rfl;rfl))))|(with_reducible refine Ze ?_)|(show ZW _ _ _;rfl))|((with_reducible apply Za hs);exact Ii;rfl;(with_reducible repeat first|exact Qh|apply Qk);rfl;rfl;(simp only[Uc,Uz]))|((with_reducible apply Zt hs);exact Ii;rfl;rfl;(with_reducible repeat first|exact Qh|apply Qk);(rfl);(exact Vb rfl);rfl;clear hs;intro w hs;simp only[Yg,Uc,Uz]at hs))|(go_at_call 137;((refine(hT.out).at hs (by (with_reducible repeat first|exact Qh|apply Qk)) ?_);clear hs;intro g w hs;(try simp only[Em,Ma]at hs)))|(go_at_call 138;((refine((HR.out g)).at hs (by (with_reducible repeat first|exact Qh|apply Qb|apply Qk)) ?_);clear hs;intro w hs;(try simp only[Em,Ma]at hs)))|((with_reducible refine Wp (id:=1) (Paz (Pbz [.neu 10,.neu 11,.eff 12 [0],.neu 13,.neu 14,.eff 15 []])) hs rfl ?_ ?_);kernel_rfl;clear hs;intro w hs))
  (go_ret)
  refine⟨by simp,?_⟩
  simp only[Ma]
  (replace hs:=Zy (hs.fin (by (with_reducible repeat first|exact Ql|exact Qh|apply Qb|apply Qk))))
  replace hs:=Je.2 ⟨g,rfl,hs.pull (A:=TakR g ba q4) (by (with_reducible repeat first|exact Qh|apply Qk))⟩
  apply pstR_mk (vt:=.pointer (some ⟨g,0,none⟩)) (vr:=vr)
  ((with_reducible apply Sat.fin hs);(with_reducible repeat first|exact Ql|exact Qh|apply Qb|apply Qk))
end Go.Proofs.YtefjbdajgakgpaaGreat
