import Derived.Test.YtefjbdajgakgpaaGreatCMach
set_option linter.all false
namespace Go.Proofs.YtefjbdajgakgpaaGreat
open Go.RowKit Hp
set_option maxRecDepth 100000
set_option maxHeartbeats 1000000
attribute [local irreducible] Go.Calls
section
structure Reg where
 thread:Int
 i:Int
 seen:Bool
def RegR (g bh:Nat)(r:Reg):Zb:=pt g (.cells #[.pointer (some ⟨bh,0,none⟩),.int .i64 r.thread,.int .i64 r.i,.bool r.seen] 181)
def Qp (h:Haz)(m:Mch)(t:Nat)(s:Sea)(r:Reg):Bool×Haz×Mch×Reg:=
 if r.i+1<h.c.R then (false,h,m,{ r with seen:=false,i:=r.i+1 }) else (true,h,m.answer t s 4 0,{ r with seen:=false,i:=r.i+1 })
def Z5 (h:Haz)(m:Mch)(t:Nat)(s:Sea)(r:Reg):Bool×Haz×Mch×Reg:=
 let A:=adr h.c 8 r.i
 if r.seen=false then
  if m.word A=1 then Qp h (m.load A (m.word A)) t s r else (false,h,m.load A (m.word A),{ r with seen:=true })
 else if m.word A=0 then (true,{ h with held:=h.held.set r.thread.toNat r.i },(m.swap A (m.word A) 0 1).answer t s 2 r.i,r)
 else Qp h (m.swap A (m.word A) 0 1) t s r
set_option maxHeartbeats 2000000 in
theorem reg_step (gr bh ba d bx bm:Nat)(h:Haz)(a:Are)(m:Mch)(r:Reg)(i t:Nat)(c:Cll)(s:Sea)(hz:HazOk h a m)(hcur:Z6 m i t c s)(t0:0≤r.thread)(t1:r.thread<h.c.T)(i0:0≤r.i)(i1:r.i<h.c.R) :
  Zl Tryz.prog 186 #[.pointer (some ⟨gr,0,none⟩),.pointer (some ⟨d,0,none⟩)] (RegR gr bh r*(HazR bh ba h*DkR d bx bm m)) (.bool (Z5 h m t s r).1)
   (RegR gr bh (Z5 h m t s r).2.2.2*(HazR bh ba (Z5 h m t s r).2.1*DkR d bx bm (Z5 h m t s r).2.2.1)):=by
 intro O w F hs
 simp only[Ma]at hs
 obtain⟨rt,ri,rs⟩:=r
 simp only[]at t0 t1 i0 i1
 obtain⟨tn,rfl⟩:=Int.eq_ofNat_of_zero_le t0
 have hOk:h.c.Ok:=hz.c▸hz.ok.c
 have hR2:=hOk.R2
 have hm:m.May (adr h.c 8 ri):=by rw[hz.c];exact hz.ok.may (by omega) (by omega) (in_active i0 (hz.c▸i1))
 have he:=adr_eq hOk 8 i0
 obtain⟨b0,b1⟩:=ZD hOk 8
 have hlt:tn<h.held.length:=by rw[hz.held];omega
 obtain⟨hz0,hz1⟩:∃z,h.held[tn]? = some z:=⟨_,Yd hlt⟩
 have hL:=Lh (QA d bx bm m _ _ hm.acs)
 have hW:=Jw d bx bm m _ _ 0 1 hm.acs
 have hA1:=Lh (QK d bx bm (m.load (adr h.c 8 ri) (m.word (adr h.c 8 ri))) i t s 4 0 hcur.cur hcur.seat)
 have hA2:=Lh (QK d bx bm (m.swap (adr h.c 8 ri) (m.word (adr h.c 8 ri)) 0 1) i t s 4 0 hcur.cur hcur.seat)
 have hA3:=Lh (QK d bx bm (m.swap (adr h.c 8 ri) (m.word (adr h.c 8 ri)) 0 1) i t s 2 ri hcur.cur hcur.seat)
 unfold Z5 Qp
 simp only[]
 unfold RegR at hs
 replace hs:=hs.pull (A:=HazR bh ba h) (by (with_reducible repeat first|exact Qh|apply Qk))
 (obtain⟨vhh,vhl,hs⟩:=hazR.1 hs)
 clear hz hcur hm
 generalize m.word (adr h.c 8 ri)=u at *
 cases rs with
 | false=>
  by_cases hu:u=1
  ·subst hu
   simp only[if_true]
   by_cases hn:ri+1<h.c.R
   ·have hn':decide (ri+1<h.c.R)=true:=by simpa using hn
    have HN:=Lh hn;clear hn
    simp only[if_pos HN.out]
    go_enter Tryz.func186,Tryz.ntmps186
    go_wp2_with (first|(with_reducible refine NQ.mk ?_)|((with_reducible apply Zh);rfl;rfl)|((with_reducible apply Zm);rfl)|(with_reducible refine EQ.mk ?_ ?_)|(with_reducible exact Zg)|(with_reducible refine Zi ?_)|((with_reducible apply Za hs);exact Ii;rfl;(with_reducible repeat first|exact Qh|apply Qk);rfl;rfl;simp only[Uc,Uz])|((with_reducible apply ZA hs);exact Ii;rfl;rfl;(with_reducible repeat first|exact Qh|apply Qk);rfl;exact Vb rfl;rfl;clear hs;intro w hs;simp only[Yg,Uc,Uz]at hs)|(go_at_call 144;(refine(hL.out).at hs (by with_reducible repeat first|exact Qh|apply Qk) ?_;clear hs;intro w hs;(try simp only[Em,Ma]at hs)))|((with_reducible refine Wp (id:=1) (Paz (Pbz (Pcz [.neu 15,.neu 16,.neu 17,.neu 18,.eff 19 [],.neu 20,.neu 21]))) hs rfl ?_ ?_);kernel_rfl;clear hs;intro w hs)|((with_reducible refine Wp (id:=4) (Paz (Pbz (Pcz [.neu 15,.neu 16,.neu 17,.eff 18 [],.neu 19]))) hs rfl ?_ ?_);kernel_rfl;clear hs;intro w hs)|((with_reducible refine Wp (id:=10) (Paz (Pbz [.neu 10,.neu 11,.neu 12])) hs rfl ?_ ?_);kernel_rfl;clear hs;intro w hs))
    go_ret
    refine⟨rfl,?_⟩
    simp only[Ma]
    (replace hs:=ZF (hs.fin (by (with_reducible repeat first|exact Ql|exact Qh|apply Qb|apply Qk))))
    unfold RegR
    (with_reducible apply Sat.fin hs;repeat first|exact Ql|exact Qh|apply Qb|apply Qk)
   ·have hn':decide (ri+1<h.c.R)=false:=by simpa using hn
    have HN:=Lh hn;clear hn
    simp only[if_neg HN.out]
    go_enter Tryz.func186,Tryz.ntmps186
    go_wp2_with (first|(with_reducible refine NQ.mk ?_)|((with_reducible apply Zh);rfl;rfl)|((with_reducible apply Zm);rfl)|(with_reducible refine EQ.mk ?_ ?_)|(with_reducible exact Zg)|(with_reducible refine Zi ?_)|((with_reducible apply Za hs);exact Ii;rfl;(with_reducible repeat first|exact Qh|apply Qk);rfl;rfl;simp only[Uc,Uz])|((with_reducible apply ZA hs);exact Ii;rfl;rfl;(with_reducible repeat first|exact Qh|apply Qk);rfl;exact Vb rfl;rfl;clear hs;intro w hs;simp only[Yg,Uc,Uz]at hs)|(go_at_call 144;(refine(hL.out).at hs (by with_reducible repeat first|exact Qh|apply Qk) ?_;clear hs;intro w hs;(try simp only[Em,Ma]at hs)))|(go_at_call 150;(refine(hA1.out).at hs (by with_reducible repeat first|exact Qh|apply Qk) ?_;clear hs;intro w hs;(try simp only[Em,Ma]at hs)))|((with_reducible refine Wp (id:=1) (Paz (Pbz (Pcz [.neu 15,.neu 16,.neu 17,.neu 18,.eff 19 [],.neu 20,.neu 21]))) hs rfl ?_ ?_);kernel_rfl;clear hs;intro w hs)|((with_reducible refine Wp (id:=4) (Paz (Pbz (Pcz [.neu 15,.neu 16,.neu 17,.eff 18 [],.neu 19]))) hs rfl ?_ ?_);kernel_rfl;clear hs;intro w hs)|((with_reducible refine Wp (id:=10) (Paz (Pbz [.neu 10,.neu 11,.neu 12])) hs rfl ?_ ?_);kernel_rfl;clear hs;intro w hs))
    go_ret
    refine⟨rfl,?_⟩
    simp only[Ma]
    (replace hs:=ZF (hs.fin (by (with_reducible repeat first|exact Ql|exact Qh|apply Qb|apply Qk))))
    unfold RegR
    (with_reducible apply Sat.fin hs;repeat first|exact Ql|exact Qh|apply Qb|apply Qk)
  ·have hu':(u==1)=false:=by simpa using hu
   have hu2:(u != 1)=true:=by simpa using hu
   have HU:=Lh hu;clear hu
   simp only[if_neg HU.out,if_true]
   go_enter Tryz.func186,Tryz.ntmps186
   go_wp2_with (first|(with_reducible refine NQ.mk ?_)|((with_reducible apply Zh);rfl;rfl)|((with_reducible apply Zm);rfl)|(with_reducible refine EQ.mk ?_ ?_)|(with_reducible exact Zg)|(with_reducible refine Zi ?_)|((with_reducible apply Za hs);exact Ii;rfl;(with_reducible repeat first|exact Qh|apply Qk);rfl;rfl;simp only[Uc,Uz])|((with_reducible apply ZA hs);exact Ii;rfl;rfl;(with_reducible repeat first|exact Qh|apply Qk);rfl;exact Vb rfl;rfl;clear hs;intro w hs;simp only[Yg,Uc,Uz]at hs)|(go_at_call 144;(refine(hL.out).at hs (by with_reducible repeat first|exact Qh|apply Qk) ?_;clear hs;intro w hs;(try simp only[Em,Ma]at hs)))|((with_reducible refine Wp (id:=1) (Paz (Pbz (Pcz [.neu 15,.neu 16,.neu 17,.neu 18,.eff 19 [],.neu 20,.neu 21]))) hs rfl ?_ ?_);kernel_rfl;clear hs;intro w hs))
   go_ret
   refine⟨rfl,?_⟩
   simp only[Ma]
   (replace hs:=ZF (hs.fin (by (with_reducible repeat first|exact Ql|exact Qh|apply Qb|apply Qk))))
   unfold RegR
   (with_reducible apply Sat.fin hs;repeat first|exact Ql|exact Qh|apply Qb|apply Qk)
 | true=>
  simp only[Bool.true_eq_false,if_false]
  by_cases hu:u=0
  ·have hu':decide (u=0)=true:=by simpa using hu
   rw[hu']at hW
   have HW:=Lh hW;clear hW hu'
   simp only[if_pos hu]
   clear hu
   go_enter Tryz.func186,Tryz.ntmps186
   go_wp2_with (first|(with_reducible refine NQ.mk ?_)|((with_reducible apply Zh);rfl;rfl)|((with_reducible apply Zm);rfl)|(with_reducible refine EQ.mk ?_ ?_)|(with_reducible exact Zg)|(with_reducible refine Zi ?_)|((with_reducible apply Za hs);exact Ii;rfl;(with_reducible repeat first|exact Qh|apply Qk);rfl;rfl;simp only[Uc,Uz])|((with_reducible apply ZS hs);exact Ii;rfl;rfl;assumption;(with_reducible repeat first|exact Qh|apply Qk);rfl;(exact Ze (by assumption));exact Vb rfl;rfl;rfl;clear hs;intro w hs)|((with_reducible apply ZE hs);exact Ii;exact Ii;rfl;rfl;(with_reducible repeat first|exact Qh|apply Qk);rfl;(simp only[Wm,Ws,Wa,Wc,Wn,Wr]at *;omega);rfl;intro b off hat;simp only[Uc,Uz])|(go_at_call 146;(refine(HW.out).at hs (by with_reducible repeat first|exact Qh|apply Qk) ?_;clear hs;intro w hs;(try simp only[Em,Ma]at hs)))|(go_at_call 150;(refine(hA3.out).at hs (by with_reducible repeat first|exact Qh|apply Qk) ?_;clear hs;intro w hs;(try simp only[Em,Ma]at hs)))|((with_reducible refine Wp (id:=1) (Paz (Pbz (Pcz [.neu 15,.neu 16,.neu 17,.neu 18,.eff 19 [],.neu 20,.neu 21]))) hs rfl ?_ ?_);kernel_rfl;clear hs;intro w hs)|((with_reducible refine Wp (id:=4) (Paz (Pbz (Pcz [.neu 15,.neu 16,.neu 17,.eff 18 [],.neu 19]))) hs rfl ?_ ?_);kernel_rfl;clear hs;intro w hs)|((with_reducible refine Wp (id:=5) (Paz (Pbz (Pcz [.neu 15,.eff 16 []]))) hs rfl ?_ ?_);kernel_rfl;clear hs;intro w hs))
   go_ret
   refine⟨rfl,?_⟩
   simp only[Ma,Yo]
   rw[show(h.held.map eI).set tn ([Value.int .i64 hz0].set 0 (Value.int .i64 ri))=(h.held.set tn ri).map eI by simp]at hs
   replace hs:=ZF (h:={ h with held:=h.held.set tn ri }) (hs.fin (by (with_reducible repeat first|exact Ql|exact Qh|apply Qb|apply Qk)))
   unfold RegR
   (with_reducible apply Sat.fin hs;repeat first|exact Ql|exact Qh|apply Qb|apply Qk)
  ·have hu':decide (u=0)=false:=by simpa using hu
   rw[hu']at hW
   have HW:=Lh hW;clear hW hu'
   simp only[if_neg hu]
   clear hu
   by_cases hn:ri+1<h.c.R
   ·have hn':decide (ri+1<h.c.R)=true:=by simpa using hn
    have HN:=Lh hn;clear hn
    simp only[if_pos HN.out]
    go_enter Tryz.func186,Tryz.ntmps186
    go_wp2_with (first|(with_reducible refine NQ.mk ?_)|((with_reducible apply Zh);rfl;rfl)|((with_reducible apply Zm);rfl)|(with_reducible refine EQ.mk ?_ ?_)|(with_reducible exact Zg)|(with_reducible refine Zi ?_)|((with_reducible apply Za hs);exact Ii;rfl;(with_reducible repeat first|exact Qh|apply Qk);rfl;rfl;simp only[Uc,Uz])|((with_reducible apply ZA hs);exact Ii;rfl;rfl;(with_reducible repeat first|exact Qh|apply Qk);rfl;exact Vb rfl;rfl;clear hs;intro w hs;simp only[Yg,Uc,Uz]at hs)|(go_at_call 146;(refine(HW.out).at hs (by with_reducible repeat first|exact Qh|apply Qk) ?_;clear hs;intro w hs;(try simp only[Em,Ma]at hs)))|((with_reducible refine Wp (id:=1) (Paz (Pbz (Pcz [.neu 15,.neu 16,.neu 17,.neu 18,.eff 19 [],.neu 20,.neu 21]))) hs rfl ?_ ?_);kernel_rfl;clear hs;intro w hs)|((with_reducible refine Wp (id:=4) (Paz (Pbz (Pcz [.neu 15,.neu 16,.neu 17,.eff 18 [],.neu 19]))) hs rfl ?_ ?_);kernel_rfl;clear hs;intro w hs)|((with_reducible refine Wp (id:=10) (Paz (Pbz [.neu 10,.neu 11,.neu 12])) hs rfl ?_ ?_);kernel_rfl;clear hs;intro w hs))
    go_ret
    refine⟨rfl,?_⟩
    simp only[Ma]
    (replace hs:=ZF (hs.fin (by (with_reducible repeat first|exact Ql|exact Qh|apply Qb|apply Qk))))
    unfold RegR
    (with_reducible apply Sat.fin hs;repeat first|exact Ql|exact Qh|apply Qb|apply Qk)
   ·have hn':decide (ri+1<h.c.R)=false:=by simpa using hn
    have HN:=Lh hn;clear hn
    simp only[if_neg HN.out]
    go_enter Tryz.func186,Tryz.ntmps186
    go_wp2_with (first|(with_reducible refine NQ.mk ?_)|((with_reducible apply Zh);rfl;rfl)|((with_reducible apply Zm);rfl)|(with_reducible refine EQ.mk ?_ ?_)|(with_reducible exact Zg)|(with_reducible refine Zi ?_)|((with_reducible apply Za hs);exact Ii;rfl;(with_reducible repeat first|exact Qh|apply Qk);rfl;rfl;simp only[Uc,Uz])|((with_reducible apply ZA hs);exact Ii;rfl;rfl;(with_reducible repeat first|exact Qh|apply Qk);rfl;exact Vb rfl;rfl;clear hs;intro w hs;simp only[Yg,Uc,Uz]at hs)|(go_at_call 146;(refine(HW.out).at hs (by with_reducible repeat first|exact Qh|apply Qk) ?_;clear hs;intro w hs;(try simp only[Em,Ma]at hs)))|(go_at_call 150;(refine(hA2.out).at hs (by with_reducible repeat first|exact Qh|apply Qk) ?_;clear hs;intro w hs;(try simp only[Em,Ma]at hs)))|((with_reducible refine Wp (id:=1) (Paz (Pbz (Pcz [.neu 15,.neu 16,.neu 17,.neu 18,.eff 19 [],.neu 20,.neu 21]))) hs rfl ?_ ?_);kernel_rfl;clear hs;intro w hs)|((with_reducible refine Wp (id:=4) (Paz (Pbz (Pcz [.neu 15,.neu 16,.neu 17,.eff 18 [],.neu 19]))) hs rfl ?_ ?_);kernel_rfl;clear hs;intro w hs)|((with_reducible refine Wp (id:=10) (Paz (Pbz [.neu 10,.neu 11,.neu 12])) hs rfl ?_ ?_);kernel_rfl;clear hs;intro w hs))
    go_ret
    refine⟨rfl,?_⟩
    simp only[Ma]
    (replace hs:=ZF (hs.fin (by (with_reducible repeat first|exact Ql|exact Qh|apply Qb|apply Qk))))
    unfold RegR
    (with_reducible apply Sat.fin hs;repeat first|exact Ql|exact Qh|apply Qb|apply Qk)
end
section
def ClrR (g:Nat)(ad:Int):Zb:=pt g (.cells #[.int .i64 ad] 196)
theorem clr_step (gr d bx bm:Nat)(m:Mch)(ad:Nat)(hm:m.May ad) :
  Zl Tryz.prog 202 #[.pointer (some ⟨gr,0,none⟩),.pointer (some ⟨d,0,none⟩)] (ClrR gr ad*DkR d bx bm m) (.bool true) (ClrR gr ad*DkR d bx bm (m.store ad (m.word ad) 0)):=by
 intro O w F hs
 simp only[Ma]at hs
 unfold ClrR at hs
 have hL:=Lh (Qa d bx bm m _ _ 0 hm.acs)
 clear hm
 go_enter Tryz.func202,Tryz.ntmps202
 go_wp2_with (first|((with_reducible apply Za hs);exact Ii;rfl;(with_reducible exact Qh);rfl;rfl;simp only[Uc,Uz])|(go_at_call 141;(refine(hL.out).at hs (by with_reducible repeat first|exact Qh|apply Qk) ?_;clear hs;intro w hs;(try simp only[Em,Ma]at hs))))
 go_ret
 refine⟨rfl,?_⟩
 unfold ClrR
 simp only[Ma]
 (with_reducible apply Sat.fin hs;repeat first|exact Ql|exact Qh|apply Qb|apply Qk)
structure Rdg where
 addr:Int
 stage:Int
 w:Int
 point:Int
def RdgR (g bh:Nat)(r:Rdg):Zb:=pt g (.cells #[.pointer (some ⟨bh,0,none⟩),.int .i64 r.addr,.int .i64 r.stage,.int .u64 r.w,.int .i64 r.point] 193)
theorem rdgR_mk {O w:World}{g bh:Nat}{r:Rdg}{R:Zb}(hs:Sat O w (pt g (.cells #[.pointer (some ⟨bh,0,none⟩),.int .i64 r.addr,.int .i64 r.stage,.int .u64 r.w,.int .i64 r.point] 193)*R)):Sat O w (RdgR g bh r*R):=hs
def QF (m:Mch)(i t:Nat)(c:Cll)(s:Sea)(r:Rdg)(u:Int):Bool×Mch×Rdg:=
 if u=0 then (true,(m.point i c m.now).answer t s 3 0,{ r with w:=u,stage:=1 }) else (false,m,{ r with w:=u,stage:=1 })
theorem read_saw (gr bh d bx bm:Nat)(m:Mch)(i t:Nat)(c:Cll)(s:Sea)(r:Rdg)(u:Int)(hcur:Z6 m i t c s) :
  Zl Tryz.prog 200 #[.pointer (some ⟨gr,0,none⟩),.pointer (some ⟨d,0,none⟩),.int .u64 u] (RdgR gr bh r*DkR d bx bm m) (.bool (QF m i t c s r u).1)
   (RdgR gr bh (QF m i t c s r u).2.2*DkR d bx bm (QF m i t c s r u).2.1):=by
 intro O w F hs
 simp only[Ma]at hs
 unfold RdgR at hs
 obtain⟨r1,r2,r3,r4⟩:=r
 have hN:=Lh (desk_now d bx bm m)
 have hP:=Lh (JB d bx bm m i t c m.now hcur.cur hcur.call)
 have hA:=Lh (QK d bx bm (m.point i c m.now) i t s 3 0 hcur.cur hcur.seat)
 unfold QF
 by_cases hu:u=0
 ·subst hu
  simp only[if_true]
  clear hcur
  go_enter Tryz.func200,Tryz.ntmps200
  go_wp2_with (first|((with_reducible apply ZA hs);exact Ii;rfl;rfl;(with_reducible exact Qh);rfl;exact Vb rfl;rfl;clear hs;intro w hs;simp only[Yg,Uc,Uz]at hs)|(go_at_call 148;(refine(hN.out).at hs (by with_reducible repeat first|exact Qh|apply Qk) ?_;clear hs;intro w hs;(try simp only[Em,Ma]at hs)))|(go_at_call 147;((refine(hP.out).at hs (by (with_reducible exact Qh)) ?_);clear hs;intro w hs;(try simp only[Em,Ma]at hs)))|(go_at_call 150;((refine(hA.out).at hs (by (with_reducible exact Qh)) ?_);clear hs;intro w hs;(try simp only[Em,Ma]at hs))))
  go_ret
  refine⟨rfl,?_⟩
  unfold RdgR
  simp only[Ma]
  (with_reducible apply Sat.fin hs;repeat first|exact Ql|exact Qh|apply Qb|apply Qk)
 ·have hu1:(u==0)=false:=by simpa using hu
  have hu2:(u != 0)=true:=by simpa using hu
  simp only[if_neg hu]
  have HU:=Lh hu
  clear hcur hu
  go_enter Tryz.func200,Tryz.ntmps200
  go_wp2_with ((with_reducible apply ZA hs);exact Ii;rfl;rfl;(with_reducible exact Qh);rfl;exact Vb rfl;rfl;clear hs;intro w hs;simp only[Yg,Uc,Uz]at hs)
  go_ret
  refine⟨rfl,?_⟩
  unfold RdgR
  simp only[Ma]
  ((with_reducible apply Sat.fin hs);(with_reducible exact Ql))
def Qe (h:Haz)(m:Mch)(i t:Nat)(c:Cll)(s:Sea)(r:Rdg):Bool×Mch×Rdg:=
 let C:=adr h.c 2 0
 if r.stage=0 then QF (m.load C (m.word C)) i t c s r (m.word C)
 else if r.stage=1 then (false,m.store r.addr.toNat (m.word r.addr.toNat) r.w,{ r with stage:=2 })
 else if r.stage=2 then
  if m.word C=r.w then (false,m.load C (m.word C),{ r with point:=m.now,stage:=3 }) else QF (m.load C (m.word C)) i t c s r (m.word C)
 else
  let A:=adr h.c 11 (r.w-1)
  (true,((m.load A (m.word A)).point i c r.point).answer t s 2 (wrap64 (m.word A)),r)
theorem in_cell {c:Cfg}:InReg c 2 0:=⟨by omega,by omega,by show(0:Int)<1;omega⟩
theorem in_value {c:Cfg}{i:Int}(h0:0≤i)(h1:i<c.Sl):InReg c 11 i:=⟨h0,by omega,h1⟩
structure ReadOk (h:Haz)(a:Are)(m:Mch)(r:Rdg):Prop where
 hz:HazOk h a m
 stage:r.stage=0∨r.stage=1∨r.stage=2∨r.stage=3
 a0:0≤r.addr
 a1:r.addr.toNat<m.mem.words.length
 w0:r.stage=3→1≤r.w
 w1:r.stage=3→r.w≤h.c.Sl
set_option maxHeartbeats 2000000 in
theorem read_step (gr bh ba d bx bm:Nat)(h:Haz)(a:Are)(m:Mch)(i t:Nat)(c:Cll)(s:Sea)(r:Rdg)(ok:ReadOk h a m r)(hcur:Z6 m i t c s) :
  Zl Tryz.prog 199 #[.pointer (some ⟨gr,0,none⟩),.pointer (some ⟨d,0,none⟩)] (RdgR gr bh r*(HazR bh ba h*DkR d bx bm m)) (.bool (Qe h m i t c s r).1)
   (RdgR gr bh (Qe h m i t c s r).2.2*(HazR bh ba h*DkR d bx bm (Qe h m i t c s r).2.1)):=by
 intro O w F hs
 simp only[Ma]at hs
 obtain⟨r1,r2,r3,r4⟩:=r
 obtain⟨hz,hst,a0,a1,w0,w1⟩:=ok
 simp only[]at hst a0 a1 w0 w1
 obtain⟨ad,rfl⟩:=Int.eq_ofNat_of_zero_le a0
 rw[Yo]at a1
 have hOk:h.c.Ok:=hz.c▸hz.ok.c
 have hmC:m.May (adr h.c 2 0):=by rw[hz.c];exact hz.ok.may (by omega) (by omega) in_cell
 have heC:base h.c 2=(adr h.c 2 0:Int):=by have:=adr_eq hOk 2 (i:=0) (by omega);omega
 have hLC:=Lh (QA d bx bm m _ _ hmC.acs)
 have hSC:=read_saw gr bh d bx bm (m.load (adr h.c 2 0) (m.word (adr h.c 2 0))) i t c s ⟨ad,r2,r3,r4⟩ (m.word (adr h.c 2 0)) ⟨hcur.cur,hcur.call,hcur.seat⟩
 unfold Qe
 simp only[Yo]
 replace hs:=hs.pull (A:=HazR bh ba h) (by (with_reducible repeat first|exact Qh|apply Qk))
 (obtain⟨vhh,vhl,hs⟩:=hazR.1 hs)
 rcases hst with e|e|e|e
 ·subst e
  simp only[if_true]
  generalize QF (m.load (adr h.c 2 0) (m.word (adr h.c 2 0))) i t c s ⟨ad,0,r3,r4⟩ (m.word (adr h.c 2 0))=q at hSC ⊢
  obtain⟨q1,q2,q3⟩:=q
  have HSC:=Lh hSC
  clear hSC hcur hmC hz w0 w1
  unfold RdgR at hs
  go_enter Tryz.func199,Tryz.ntmps199
  go_wp2_with (first|((with_reducible apply Za hs);exact Ii;rfl;(with_reducible repeat first|exact Qh|apply Qk);rfl;rfl;simp only[Uc,Uz])|(go_at_call 144;(refine(hLC.out).at hs (by with_reducible repeat first|exact Qh|apply Qk) ?_;clear hs;intro w hs;(try simp only[Em,Ma]at hs)))|(go_at_call 200;(replace hs:=rdgR_mk (r:=⟨ad,0,r3,r4⟩) (hs.fin (by (with_reducible repeat first|exact Ql|exact Qh|apply Qb|apply Qk))));((refine(HSC.out).at hs (by (focus with_reducible (repeat first|exact Qh|apply Qb);done)) ?_);clear hs;intro w hs;(try simp only[Em,Ma]at hs))))
  go_ret
  refine⟨rfl,?_⟩
  simp only[Ma]
  (replace hs:=ZF (hs.fin (by (with_reducible repeat first|exact Ql|exact Qh|apply Qb|apply Qk))))
  (with_reducible apply Sat.fin hs;repeat first|exact Ql|exact Qh|apply Qb|apply Qk)
 ·subst e
  simp only[if_neg (show ¬(1:Int)=0 by omega),if_true]
  have hm:m.May ad:=⟨hz.ok.used,a1,hz.ok.log,hz.ok.ahead⟩
  have hS:=Lh (Qa d bx bm m _ _ r3 hm.acs)
  clear hSC hcur hmC hz w0 w1 hm
  unfold RdgR at hs
  go_enter Tryz.func199,Tryz.ntmps199
  go_wp2_with (first|(with_reducible refine NQ.mk ?_)|((with_reducible apply Zh);rfl;rfl)|((with_reducible apply Zm);rfl)|(with_reducible refine EQ.mk ?_ ?_)|(with_reducible exact Zg)|(with_reducible refine Zi ?_)|((with_reducible apply Za hs);exact Ii;rfl;(with_reducible repeat first|exact Qh|apply Qk);rfl;rfl;simp only[Uc,Uz])|((with_reducible apply ZA hs);exact Ii;rfl;rfl;(with_reducible repeat first|exact Qh|apply Qk);rfl;exact Vb rfl;rfl;clear hs;intro w hs;simp only[Yg,Uc,Uz]at hs)|(go_at_call 141;(refine(hS.out).at hs (by with_reducible repeat first|exact Qh|apply Qk) ?_;clear hs;intro w hs;(try simp only[Em,Ma]at hs)))|((with_reducible refine Wp (id:=10) (Paz [.neu 5,.neu 6,.neu 7,.neu 8,.eff 9 []]) hs rfl ?_ ?_);kernel_rfl;clear hs;intro w hs))
  go_ret
  refine⟨rfl,?_⟩
  simp only[Ma]
  (replace hs:=ZF (hs.fin (by (with_reducible repeat first|exact Ql|exact Qh|apply Qb|apply Qk))))
  refine rdgR_mk ?_
  (with_reducible apply Sat.fin hs;repeat first|exact Ql|exact Qh|apply Qb|apply Qk)
 ·subst e
  simp only[if_neg (show ¬(2:Int)=0 by omega),if_neg (show ¬(2:Int)=1 by omega),if_true]
  have hN:=Lh (desk_now d bx bm (m.load (adr h.c 2 0) (m.word (adr h.c 2 0))))
  by_cases hu:m.word (adr h.c 2 0)=r3
  ·have hu1:(m.word (adr h.c 2 0)==r3)=true:=by simpa using hu
   have hu2:(m.word (adr h.c 2 0) != r3)=false:=by simpa using hu
   simp only[if_pos hu]
   clear hSC hcur hmC hz w0 w1 hu
   unfold RdgR at hs
   go_enter Tryz.func199,Tryz.ntmps199
   go_wp2_with (first|((with_reducible apply Za hs);exact Ii;rfl;(with_reducible repeat first|exact Qh|apply Qk);rfl;rfl;simp only[Uc,Uz])|((with_reducible apply ZA hs);exact Ii;rfl;rfl;(with_reducible repeat first|exact Qh|apply Qk);rfl;exact Vb rfl;rfl;clear hs;intro w hs;simp only[Yg,Uc,Uz]at hs)|(go_at_call 144;(refine(hLC.out).at hs (by with_reducible repeat first|exact Qh|apply Qk) ?_;clear hs;intro w hs;(try simp only[Em,Ma]at hs)))|(go_at_call 148;((refine(hN.out).at hs (by (with_reducible exact Qh)) ?_);clear hs;intro w hs;(try simp only[Em,Ma]at hs))))
   go_ret
   refine⟨rfl,?_⟩
   simp only[Ma]
   (replace hs:=ZF (hs.fin (by (with_reducible repeat first|exact Ql|exact Qh|apply Qb|apply Qk))))
   refine rdgR_mk ?_
   ((with_reducible apply Sat.fin hs);(focus((repeat(first|with_reducible exact Ql|with_reducible apply Qb|exact Qh|with_reducible apply Qk));done)))
  ·have hu1:(m.word (adr h.c 2 0)==r3)=false:=by simpa using hu
   have hu2:(m.word (adr h.c 2 0) != r3)=true:=by simpa using hu
   simp only[if_neg hu]
   generalize QF (m.load (adr h.c 2 0) (m.word (adr h.c 2 0))) i t c s ⟨ad,2,r3,r4⟩ (m.word (adr h.c 2 0))=q at hSC ⊢
   obtain⟨q1,q2,q3⟩:=q
   have HSC:=Lh hSC
   clear hSC hcur hmC hz w0 w1 hu
   unfold RdgR at hs
   go_enter Tryz.func199,Tryz.ntmps199
   go_wp2_with (first|((with_reducible apply Za hs);exact Ii;rfl;(with_reducible repeat first|exact Qh|apply Qk);rfl;rfl;simp only[Uc,Uz])|(go_at_call 144;(refine(hLC.out).at hs (by with_reducible repeat first|exact Qh|apply Qk) ?_;clear hs;intro w hs;(try simp only[Em,Ma]at hs)))|(go_at_call 200;(replace hs:=rdgR_mk (r:=⟨ad,2,r3,r4⟩) (hs.fin (by (with_reducible repeat first|exact Ql|exact Qh|apply Qb|apply Qk))));((refine(HSC.out).at hs (by (focus with_reducible (repeat first|exact Qh|apply Qb);done)) ?_);clear hs;intro w hs;(try simp only[Em,Ma]at hs))))
   go_ret
   refine⟨rfl,?_⟩
   simp only[Ma]
   (replace hs:=ZF (hs.fin (by (with_reducible repeat first|exact Ql|exact Qh|apply Qb|apply Qk))))
   (with_reducible apply Sat.fin hs;repeat first|exact Ql|exact Qh|apply Qb|apply Qk)
 ·subst e
  simp only[if_neg (show ¬(3:Int)=0 by omega),if_neg (show ¬(3:Int)=1 by omega),if_neg (show ¬(3:Int)=2 by omega)]
  have w0':=w0 rfl
  have w1':=w1 rfl
  have hS2:=hOk.S2
  have v0:0≤r3-1:=by omega
  have he:=adr_eq hOk 11 v0
  obtain⟨b0,b1⟩:=ZD hOk 11
  have hm:m.May (adr h.c 11 (r3-1)):=by rw[hz.c];exact hz.ok.may (by omega) (by omega) (in_value v0 (by have:=hz.c;rw[this]at w1';omega))
  have hL:=Lh (QA d bx bm m _ _ hm.acs)
  have hU:=Lh (Jz r3 (by omega) (by omega))
  have hV:=Lh (word_value (m.word (adr h.c 11 (r3-1))))
  have hP:=Lh (JB d bx bm (m.load (adr h.c 11 (r3-1)) (m.word (adr h.c 11 (r3-1)))) i t c r4 hcur.cur hcur.call)
  have hA:=Lh (QK d bx bm ((m.load (adr h.c 11 (r3-1)) (m.word (adr h.c 11 (r3-1)))).point i c r4) i t s 2 (wrap64 (m.word (adr h.c 11 (r3-1)))) hcur.cur hcur.seat)
  generalize m.word (adr h.c 11 (r3-1))=u at hL hV hP hA ⊢
  generalize wrap64 u=uw at hV hA ⊢
  clear hSC hcur hmC hz w0 w1 hm
  unfold RdgR at hs
  go_enter Tryz.func199,Tryz.ntmps199
  go_wp2_with (first|((with_reducible apply Za hs);exact Ii;rfl;(with_reducible repeat first|exact Qh|apply Qk);rfl;rfl;simp only[Uc,Uz])|(go_at_call 144;(refine(hL.out).at hs (by with_reducible repeat first|exact Qh|apply Qk) ?_;clear hs;intro w hs;(try simp only[Em,Ma]at hs)))|(go_at_call 156;((refine(hU.out).at hs (by (focus((repeat(with_reducible exact Qn));done))) ?_);clear hs;intro w hs;(try simp only[Em,Ma]at hs)))|(go_at_call 171;((refine(hV.out).at hs (by (focus((repeat(with_reducible exact Qn));done))) ?_);clear hs;intro w hs;(try simp only[Em,Ma]at hs)))|(go_at_call 147;((refine(hP.out).at hs (by (with_reducible exact Qh)) ?_);clear hs;intro w hs;(try simp only[Em,Ma]at hs)))|(go_at_call 150;((refine(hA.out).at hs (by (with_reducible exact Qh)) ?_);clear hs;intro w hs;(try simp only[Em,Ma]at hs))))
  go_ret
  refine⟨rfl,?_⟩
  simp only[Ma]
  (replace hs:=ZF (hs.fin (by (with_reducible repeat first|exact Ql|exact Qh|apply Qb|apply Qk))))
  refine rdgR_mk ?_
  (with_reducible apply Sat.fin hs;repeat first|exact Ql|exact Qh|apply Qb|apply Qk)
end
section
structure Unr where
 thread:Int
 k:Int
 stage:Int
 scan:Option Scn
 flush:Option Psh
def fluR (ba:Nat)(o:Option Psh)(v:Value):Zb:=match o with
 | none=>pu (v=.pointer none)
 | some p=>ex fun g=>pu (v=.pointer (some ⟨g,0,none⟩))*PshR g ba 296 p
theorem flu_none {O w:World}{ba:Nat}{R:Zb}(hs:Sat O w R):Sat O w (fluR ba none (.pointer none)*R):=by
 unfold fluR
 simp only[Zy]
 exact⟨trivial,hs⟩
theorem flu_get {O w:World}{ba:Nat}{p:Psh}{v:Value}{R:Zb}:Sat O w (fluR ba (some p) v*R)↔∃g,v=.pointer (some ⟨g,0,none⟩)∧Sat O w (PshR g ba 296 p*R):=by
 unfold fluR
 simp only[ZC,Ma,Zy]
def UnrR (g bh ba:Nat)(u:Unr):Zb:=ex fun vs=>ex fun vf=>pt g (.cells #[.pointer (some ⟨bh,0,none⟩),.int .i64 u.thread,.int .i64 u.k,.int .i64 u.stage,vs,vf] 186)*(scanR bh ba u.scan vs*fluR ba u.flush vf)
theorem unrR {O w:World}{g bh ba:Nat}{u:Unr}{R:Zb}:Sat O w (UnrR g bh ba u*R)↔∃vs vf,Sat O w (pt g (.cells #[.pointer (some ⟨bh,0,none⟩),.int .i64 u.thread,.int .i64 u.k,.int .i64 u.stage,vs,vf] 186)*(scanR bh ba u.scan vs*(fluR ba u.flush vf*R))):=by
 unfold UnrR
 simp only[ZC,Ma]
theorem unrR_mk {O w:World}{g bh ba:Nat}{u:Unr}{R:Zb}{vs vf:Value}(hs:Sat O w (pt g (.cells #[.pointer (some ⟨bh,0,none⟩),.int .i64 u.thread,.int .i64 u.k,.int .i64 u.stage,vs,vf] 186)*(scanR bh ba u.scan vs*(fluR ba u.flush vf*R)))):Sat O w (UnrR g bh ba u*R):=unrR.2 ⟨_,_,hs⟩
attribute [irreducible] fluR UnrR
def QX (a:Are)(u:Unr):Unr:=
 { u with flush:=some (QZ a ⟨0,0,0,u.thread⟩).2,stage:=if (QZ a ⟨0,0,0,u.thread⟩).1=true then 3 else 2 }
theorem unreg_empty (gr bh ba:Nat)(dv:Value)(h:Haz)(a:Are)(u:Unr)(n:Nat)(x:List Int)(hn:u.thread=(n:Int))(hx:a.caches[n]? = some x)(hxl:x.length<4294967296) :
  Zl Tryz.prog 189 #[.pointer (some ⟨gr,0,none⟩),dv] (UnrR gr bh ba u*(HazR bh ba h*AreR ba a)) (.tuple #[]) (UnrR gr bh ba (QX a u)*(HazR bh ba h*AreR ba a)):=by
 intro O w F hs
 simp only[Ma]at hs
 obtain⟨u1,u2,u3,u4,u5⟩:=u
 simp only[]at hn
 subst hn
 have hFl:=Lh (arena_flush ba (n:Int))
 have hFR:=fun g=>flush_ready g ba dv a ⟨0,0,0,n⟩ n x rfl hx hxl
 unfold QX
 simp only[]
 generalize QZ a ⟨0,0,0,n⟩=q at hFR ⊢
 obtain⟨q1,q2⟩:=q
 simp only[]at hFR
 obtain⟨vs,vf,hs⟩:=unrR.1 hs
 simp only[]at hs
 replace hs:=hs.pull (A:=HazR bh ba h) (by (with_reducible repeat first|exact Qh|apply Qk))
 (obtain⟨vhh,vhl,hs⟩:=hazR.1 hs)
 clear hx
 have HFR:=Lh hFR;clear hFR
 cases q1 with
 | true=>
  simp only[if_true]
  go_enter Tryz.func189,Tryz.ntmps189
  go_wp2_with (first|(with_reducible first|apply NQ.mk|apply EQ.mk|exact Zg|apply Zi)|((with_reducible apply Zh);rfl;rfl)|((with_reducible apply Zm);rfl)|((with_reducible refine Zr ?_ ?_);focus((with_reducible apply ZK);rfl;rfl))|(show Qo _ _ _;rfl)|((with_reducible apply Za hs);exact Ii;rfl;(with_reducible repeat first|exact Qh|apply Qk);rfl;rfl;simp only[Uc,Uz])|((with_reducible apply ZA hs);exact Ii;rfl;rfl;(with_reducible repeat first|exact Qh|apply Qk);rfl;exact Vb rfl;rfl;clear hs;intro w hs;simp only[Yg,Uc,Uz]at hs)|(go_at_call 191;((refine(hFl.out).at hs (by (focus((repeat(with_reducible exact Qn));done))) ?_);clear hs;intro g w hs;(try simp only[Em,Ma]at hs)))|(go_at_call 192;((refine((HFR.out g)).at hs (by (with_reducible repeat first|exact Qh|apply Qb|apply Qk)) ?_);clear hs;intro w hs;(try simp only[Em,Ma]at hs)))|((with_reducible refine Wp (id:=0) (Paz (Pbz [.neu 10,.neu 11,.eff 12 [0],.neu 13,.neu 14,.eff 15 []])) hs rfl ?_ ?_);kernel_rfl;clear hs;intro w hs))
  (go_end0)
  refine⟨rfl,?_⟩
  simp only[Ma]
  (replace hs:=ZF (hs.fin (by (with_reducible repeat first|exact Ql|exact Qh|apply Qb|apply Qk))))
  replace hs:=flu_get.2 ⟨g,rfl,hs.pull (A:=PshR g ba 296 q2) (by (with_reducible repeat first|exact Qh|apply Qk))⟩
  apply unrR_mk (vs:=vs) (vf:=.pointer (some ⟨g,0,none⟩))
  (with_reducible apply Sat.fin hs;repeat first|exact Ql|exact Qh|apply Qb|apply Qk)
 | false=>
  simp only[Yn,if_false]
  go_enter Tryz.func189,Tryz.ntmps189
  go_wp2_with (first|(with_reducible first|apply NQ.mk|apply EQ.mk|exact Zg|apply Zi)|((with_reducible apply Zh);rfl;rfl)|((with_reducible apply Zm);rfl)|((with_reducible refine Zr ?_ ?_);focus((with_reducible apply ZK);rfl;rfl))|(show Qo _ _ _;rfl)|((with_reducible apply Za hs);exact Ii;rfl;(with_reducible repeat first|exact Qh|apply Qk);rfl;rfl;simp only[Uc,Uz])|((with_reducible apply ZA hs);exact Ii;rfl;rfl;(with_reducible repeat first|exact Qh|apply Qk);rfl;exact Vb rfl;rfl;clear hs;intro w hs;simp only[Yg,Uc,Uz]at hs)|(go_at_call 191;((refine(hFl.out).at hs (by (focus((repeat(with_reducible exact Qn));done))) ?_);clear hs;intro g w hs;(try simp only[Em,Ma]at hs)))|(go_at_call 192;((refine((HFR.out g)).at hs (by (with_reducible repeat first|exact Qh|apply Qb|apply Qk)) ?_);clear hs;intro w hs;(try simp only[Em,Ma]at hs)))|((with_reducible refine Wp (id:=0) (Paz (Pbz [.neu 10,.neu 11,.eff 12 [0],.neu 13,.neu 14,.eff 15 []])) hs rfl ?_ ?_);kernel_rfl;clear hs;intro w hs))
  (go_end0)
  refine⟨rfl,?_⟩
  simp only[Ma]
  (replace hs:=ZF (hs.fin (by (with_reducible repeat first|exact Ql|exact Qh|apply Qb|apply Qk))))
  replace hs:=flu_get.2 ⟨g,rfl,hs.pull (A:=PshR g ba 296 q2) (by (with_reducible repeat first|exact Qh|apply Qk))⟩
  apply unrR_mk (vs:=vs) (vf:=.pointer (some ⟨g,0,none⟩))
  (with_reducible apply Sat.fin hs;repeat first|exact Ql|exact Qh|apply Qb|apply Qk)
def ZB (h:Haz)(a:Are)(m:Mch)(u:Unr):Bool×Haz×Are×Mch×Unr:=
 let rec_:=h.held.getD u.thread.toNat 0
 if u.stage=0 then
  let A:=(base h.c 9+rec_*h.c.Hz+u.k).toNat
  let m1:=m.store A (m.word A) 0
  if u.k+1<h.c.Hz then (false,h,a,m1,{ u with k:=u.k+1 })
  else
   let sc:=ZM h ⟨u.thread,rec_,6,0,false,fun _=>0,[],none⟩
   let u1:Unr:={ u with k:=u.k+1,scan:=some sc.2,stage:=1 }
   if sc.1=true then (false,h,a,m1,QX a u1) else (false,h,a,m1,u1)
 else if u.stage=1 then
  match u.scan with
  | none=>(false,h,a,m,u)
  | some s=>
   let r:=Zs h a m s
   let u1:Unr:={ u with scan:=some r.2.2.2.2 }
   if r.1=true then (false,r.2.1,r.2.2.1,r.2.2.2.1,QX r.2.2.1 u1) else (false,r.2.1,r.2.2.1,r.2.2.2.1,u1)
 else if u.stage=2 then
  match u.flush with
  | none=>(false,h,a,m,u)
  | some p=>
   let r:=ZQ a m p
   (false,h,r.2.1,r.2.2.1,{ u with flush:=some r.2.2.2,stage:=if r.1=true then 3 else 2 })
 else
  let A:=adr h.c 8 rec_
  (true,{ h with held:=h.held.set u.thread.toNat (-1) },a,m.store A (m.word A) 0,u)
structure UnrOk (h:Haz)(a:Are)(m:Mch)(u:Unr):Prop where
 hz:HazOk h a m
 t0:0≤u.thread
 t1:u.thread<h.c.T
 held:0≤h.held.getD u.thread.toNat 0
 stage:u.stage=0∨u.stage=1∨u.stage=2∨u.stage=3
 k:u.stage=0→0≤u.k∧u.k<h.c.Hz
 scan:u.stage=1→∃s,u.scan=some s∧ScanOk h a m s∧∃y,(Zs h a m s).2.2.1.caches[u.thread.toNat]? = some y∧y.length<4294967296
 flush:u.stage=2→∃p,u.flush=some p∧PushOk a m p∧p.thread=u.thread∧∃y,a.caches[u.thread.toNat]? = some y∧y.length<4294967296∧0<y.length
set_option maxHeartbeats 4000000 in
theorem unreg_step (gr bh ba d bx bm:Nat)(h:Haz)(a:Are)(m:Mch)(u:Unr)(ok:UnrOk h a m u) :
  Zl Tryz.prog 188 #[.pointer (some ⟨gr,0,none⟩),.pointer (some ⟨d,0,none⟩)] (UnrR gr bh ba u*(HazR bh ba h*(AreR ba a*DkR d bx bm m))) (.bool (ZB h a m u).1)
   (UnrR gr bh ba (ZB h a m u).2.2.2.2*(HazR bh ba (ZB h a m u).2.1*(AreR ba (ZB h a m u).2.2.1*DkR d bx bm (ZB h a m u).2.2.2.1))):=by
 intro O w F hs
 simp only[Ma]at hs
 obtain⟨u1,u2,u3,u4,u5⟩:=u
 obtain⟨hz,t0,t1,hh,hst,hk,hsc,hfl⟩:=ok
 simp only[]at t0 t1 hh hst hk hsc hfl
 obtain⟨n,rfl⟩:=Int.eq_ofNat_of_zero_le t0
 rw[Yo]at hh hsc hfl
 obtain⟨rc,hrc,rc0,rc1⟩:=hz.hold t0 t1
 rw[Yo]at hrc
 have hrd:h.held.getD n 0=rc:=by simp[Yb,hrc]
 rw[hrd]at hh
 have hOk:h.c.Ok:=hz.c▸hz.ok.c
 have hR2:=hOk.R2
 have hH2:=hOk.H2
 have hH1:=hOk.H1
 obtain⟨y,hy,hyl,hyin⟩:=hz.cache t0 t1
 rw[Yo]at hy
 obtain⟨x,hx,hxl,hxin⟩:=hz.list hh rc1
 unfold ZB
 simp only[Yo,hrd]
 obtain⟨vs,vf,hs⟩:=unrR.1 hs
 simp only[]at hs
 rcases hst with e|e|e|e
 ·subst e
  obtain⟨k0,k1⟩:=hk rfl
  have hA:=Lh (haz_addr bh ba h hOk n rc u2 hrc hh rc1 k0 k1)
  have hin:0≤rc*h.c.Hz+u2∧rc*h.c.Hz+u2<h.c.R*h.c.Hz:=by
   constructor
   ·exact Int.add_nonneg (Int.mul_nonneg hh (by omega)) k0
   ·have:(rc+1)*h.c.Hz≤h.c.R*h.c.Hz:=Int.mul_le_mul_of_nonneg_right (by omega) (by omega)
    rw[Int.add_mul,Int.one_mul]at this
    omega
  obtain⟨hlt9,he⟩:=base9 hOk hin.1 hin.2
  rw[←Int.add_assoc]at hlt9 he
  rw[he]at hA
  generalize (base h.c 9+rc*h.c.Hz+u2).toNat=ad at hA hlt9 ⊢
  clear he hin
  have hm:m.May ad:=⟨hz.ok.used,by rw[hz.ok.words,←hz.c];exact hlt9,hz.ok.log,hz.ok.ahead⟩
  have hL:=Lh (Qa d bx bm m _ _ 0 hm.acs)
  have hSc:=Lh (haz_scan bh ba h n rc hrc)
  obtain⟨rn,rfl⟩:=Int.eq_ofNat_of_zero_le hh
  rw[Yo]at hx
  have hSR:=fun g=>scan_ready g bh ba (.pointer (some ⟨d,0,none⟩)) h ⟨n,rn,6,0,false,fun _=>0,[],none⟩ rn x rfl hx hR2
  generalize m.store ad (m.word ad) 0=m1 at hL ⊢
  generalize ZM h ⟨n,rn,6,0,false,fun _=>0,[],none⟩=q at hSR ⊢
  obtain⟨q1,q2⟩:=q
  simp only[]at hSR ⊢
  have HSR:=Lh hSR;clear hSR
  have hE:=unreg_empty gr bh ba (.pointer (some ⟨d,0,none⟩)) h a ⟨n,u2+1,1,some q2,u5⟩ n y rfl hy (by omega)
  generalize QX a ⟨n,u2+1,1,some q2,u5⟩=ue at hE ⊢
  have HE:=Lh hE;clear hE
  clear hz hm hsc hfl hrc hrd hx hy hyin hxin hk hlt9
  replace hs:=hs.pull (A:=HazR bh ba h) (by (with_reducible repeat first|exact Qh|apply Qk))
  by_cases hn:u2+1<h.c.Hz
  ·have hn':decide (u2+1<h.c.Hz)=true:=by simpa using hn
   have HN:=Lh hn;clear hn
   simp only[if_pos HN.out,if_true]
   go_enter Tryz.func188,Tryz.ntmps188
   go_wp2_with (first|(with_reducible first|apply NQ.mk|apply EQ.mk|exact Zg|apply Zi)|((with_reducible apply Zh);rfl;rfl)|((with_reducible apply Zm);rfl)|((with_reducible refine Zr ?_ ?_);focus((with_reducible apply ZK);rfl;rfl))|(show Qo _ _ _;rfl)|((with_reducible apply Za hs);exact Ii;rfl;(with_reducible repeat first|exact Qh|apply Qk);rfl;rfl;simp only[Uc,Uz])|((with_reducible apply ZA hs);exact Ii;rfl;rfl;(with_reducible repeat first|exact Qh|apply Qk);rfl;exact Vb rfl;rfl;clear hs;intro w hs;simp only[Yg,Uc,Uz]at hs)|(go_at_call 91;((refine(hA.out).at hs (by (with_reducible exact Qh)) ?_);clear hs;intro w hs;(try simp only[Em,Ma]at hs)))|(go_at_call 141;(refine(hL.out).at hs (by with_reducible repeat first|exact Qh|apply Qk) ?_;clear hs;intro w hs;(try simp only[Em,Ma]at hs));(replace hs:=hs.pull (A:=HazR bh ba h) (by (with_reducible repeat first|exact Qh|apply Qk)));(obtain⟨vhh,vhl,hs⟩:=hazR.1 hs))|((with_reducible refine Wp (id:=7) (Paz (Pbz [.eff 10 [0],.eff 11 []])) hs rfl ?_ ?_);kernel_rfl;clear hs;intro w hs)|((with_reducible refine Wp (id:=9) (Paz [.neu 5,.neu 6,.neu 7,.neu 8,.neu 9]) hs rfl ?_ ?_);kernel_rfl;clear hs;intro w hs))
   go_ret
   refine⟨rfl,?_⟩
   simp only[Ma]
   (replace hs:=ZF (hs.fin (by (with_reducible repeat first|exact Ql|exact Qh|apply Qb|apply Qk))))
   apply unrR_mk (vs:=vs) (vf:=vf)
   (with_reducible apply Sat.fin hs;repeat first|exact Ql|exact Qh|apply Qb|apply Qk)
  ·have hn':decide (u2+1<h.c.Hz)=false:=by simpa using hn
   have HN:=Lh hn;clear hn
   cases q1 with
   | true=>
    simp only[if_neg HN.out,if_true]
    go_enter Tryz.func188,Tryz.ntmps188
    go_wp2_with (first|(with_reducible first|apply NQ.mk|apply EQ.mk|exact Zg|apply Zi)|((with_reducible apply Zh);rfl;rfl)|((with_reducible apply Zm);rfl)|((with_reducible refine Zr ?_ ?_);focus((with_reducible apply ZK);rfl;rfl))|(show Qo _ _ _;rfl)|((with_reducible apply Za hs);exact Ii;rfl;(with_reducible repeat first|exact Qh|apply Qk);rfl;rfl;simp only[Uc,Uz])|((with_reducible apply ZA hs);exact Ii;rfl;rfl;(with_reducible repeat first|exact Qh|apply Qk);rfl;exact Vb rfl;rfl;clear hs;intro w hs;simp only[Yg,Uc,Uz]at hs)|(go_at_call 91;((refine(hA.out).at hs (by (with_reducible exact Qh)) ?_);clear hs;intro w hs;(try simp only[Em,Ma]at hs)))|(go_at_call 141;(refine(hL.out).at hs (by with_reducible repeat first|exact Qh|apply Qk) ?_;clear hs;intro w hs;(try simp only[Em,Ma]at hs));(replace hs:=hs.pull (A:=HazR bh ba h) (by (with_reducible repeat first|exact Qh|apply Qk)));(obtain⟨vhh,vhl,hs⟩:=hazR.1 hs))|(go_at_call 94;(replace hs:=ZF (hs.fin (by (with_reducible repeat first|exact Ql|exact Qh|apply Qb|apply Qk))));((refine(hSc.out).at hs (by (with_reducible exact Qh)) ?_);clear hs;intro g w hs;(try simp only[Em,Ma]at hs)))|(go_at_call 175;((refine((HSR.out g)).at hs (by (with_reducible repeat first|exact Qh|apply Qb|apply Qk)) ?_);clear hs;intro w hs;(try simp only[Em,Ma]at hs)))|(go_at_call 189;(replace hs:=scan_get.2 ⟨g,rfl,hs.pull (A:=ScnR g bh ba q2) (by (with_reducible exact Qh))⟩);(replace hs:=unrR_mk (u:=⟨n,u2+1,1,some q2,u5⟩) (hs.fin (by (with_reducible repeat first|exact Ql|exact Qh|apply Qb|apply Qk))));(refine(HE.out).at hs (by with_reducible repeat first|exact Qh|apply Qb|apply Qk) ?_;clear hs;intro w hs;(try simp only[Em,Ma]at hs)))|((with_reducible refine Wp (id:=7) (Paz (Pbz [.eff 10 [0],.eff 11 []])) hs rfl ?_ ?_);kernel_rfl;clear hs;intro w hs)|((with_reducible refine Wp (id:=9) (Paz [.neu 5,.neu 6,.neu 7,.neu 8,.neu 9]) hs rfl ?_ ?_);kernel_rfl;clear hs;intro w hs))
    go_ret
    refine⟨rfl,?_⟩
    simp only[Ma]
    (with_reducible apply Sat.fin hs;repeat first|exact Ql|exact Qh|apply Qb|apply Qk)
   | false=>
    simp only[if_neg HN.out,Yn,if_true,if_false]
    go_enter Tryz.func188,Tryz.ntmps188
    go_wp2_with (first|(with_reducible first|apply NQ.mk|apply EQ.mk|exact Zg|apply Zi)|((with_reducible apply Zh);rfl;rfl)|((with_reducible apply Zm);rfl)|((with_reducible refine Zr ?_ ?_);focus((with_reducible apply ZK);rfl;rfl))|(show Qo _ _ _;rfl)|((with_reducible apply Za hs);exact Ii;rfl;(with_reducible repeat first|exact Qh|apply Qk);rfl;rfl;simp only[Uc,Uz])|((with_reducible apply ZA hs);exact Ii;rfl;rfl;(with_reducible repeat first|exact Qh|apply Qk);rfl;exact Vb rfl;rfl;clear hs;intro w hs;simp only[Yg,Uc,Uz]at hs)|(go_at_call 91;((refine(hA.out).at hs (by (with_reducible exact Qh)) ?_);clear hs;intro w hs;(try simp only[Em,Ma]at hs)))|(go_at_call 141;(refine(hL.out).at hs (by with_reducible repeat first|exact Qh|apply Qk) ?_;clear hs;intro w hs;(try simp only[Em,Ma]at hs));(replace hs:=hs.pull (A:=HazR bh ba h) (by (with_reducible repeat first|exact Qh|apply Qk)));(obtain⟨vhh,vhl,hs⟩:=hazR.1 hs))|(go_at_call 94;(replace hs:=ZF (hs.fin (by (with_reducible repeat first|exact Ql|exact Qh|apply Qb|apply Qk))));((refine(hSc.out).at hs (by (with_reducible exact Qh)) ?_);clear hs;intro g w hs;(try simp only[Em,Ma]at hs)))|(go_at_call 175;((refine((HSR.out g)).at hs (by (with_reducible repeat first|exact Qh|apply Qb|apply Qk)) ?_);clear hs;intro w hs;(try simp only[Em,Ma]at hs)))|((with_reducible refine Wp (id:=7) (Paz (Pbz [.eff 10 [0],.eff 11 []])) hs rfl ?_ ?_);kernel_rfl;clear hs;intro w hs)|((with_reducible refine Wp (id:=9) (Paz [.neu 5,.neu 6,.neu 7,.neu 8,.neu 9]) hs rfl ?_ ?_);kernel_rfl;clear hs;intro w hs))
    go_ret
    refine⟨rfl,?_⟩
    simp only[Ma]
    replace hs:=scan_get.2 ⟨g,rfl,hs.pull (A:=ScnR g bh ba q2) (by (with_reducible exact Qh))⟩
    apply unrR_mk (vs:=.pointer (some ⟨g,0,none⟩)) (vf:=vf)
    (with_reducible apply Sat.fin hs;repeat first|exact Ql|exact Qh|apply Qb|apply Qk)
 ·subst e
  obtain⟨s,rfl,sok,yy,hyy,hyyl⟩:=hsc rfl
  simp only[if_neg (show ¬(1:Int)=0 by omega),if_true]
  have hS:=fun g=>scan_step g bh ba d bx bm h a m s sok
  generalize Zs h a m s=q at hS hyy ⊢
  obtain⟨q1,q2,q3,q4,q5⟩:=q
  simp only[]at hS hyy ⊢
  have HS:=Lh hS;clear hS
  have hE:=unreg_empty gr bh ba (.pointer (some ⟨d,0,none⟩)) q2 q3 ⟨n,u2,1,some q5,u5⟩ n yy rfl hyy hyyl
  generalize QX q3 ⟨n,u2,1,some q5,u5⟩=ue at hE ⊢
  have HE:=Lh hE;clear hE
  obtain⟨g,rfl,hs⟩:=scan_get.1 (hs.pull (A:=scanR bh ba (some s) vs) (by (with_reducible repeat first|exact Qh|apply Qk)))
  clear hz hsc hfl hrc hrd hx hy hyin hxin hk sok hyy
  replace hs:=hs.pull (A:=HazR bh ba h) (by (with_reducible repeat first|exact Qh|apply Qk))
  cases q1 with
  | true=>
   simp only[if_true]
   go_enter Tryz.func188,Tryz.ntmps188
   go_wp2_with (first|((with_reducible apply Za hs);exact Ii;rfl;(with_reducible repeat first|exact Qh|apply Qk);rfl;rfl;simp only[Uc,Uz])|(go_at_call 176;((refine((HS.out g)).at hs (by (with_reducible repeat first|exact Qh|apply Qb|apply Qk)) ?_);clear hs;intro w hs;(try simp only[Em,Ma]at hs)))|(go_at_call 189;(replace hs:=scan_get.2 ⟨g,rfl,hs.pull (A:=ScnR g bh ba q5) (by (with_reducible exact Qh))⟩);(replace hs:=unrR_mk (u:=⟨n,u2,1,some q5,u5⟩) (hs.fin (by (with_reducible repeat first|exact Ql|exact Qh|apply Qb|apply Qk))));((refine(HE.out).at hs (by (focus with_reducible (repeat first|exact Qh|apply Qb);done)) ?_);clear hs;intro w hs;(try simp only[Em,Ma]at hs))))
   go_ret
   refine⟨rfl,?_⟩
   simp only[Ma]
   ((with_reducible apply Sat.fin hs);(with_reducible exact Ql))
  | false=>
   simp only[Yn,if_false]
   go_enter Tryz.func188,Tryz.ntmps188
   go_wp2_with (first|((with_reducible apply Za hs);exact Ii;rfl;(with_reducible repeat first|exact Qh|apply Qk);rfl;rfl;simp only[Uc,Uz])|(go_at_call 176;((refine((HS.out g)).at hs (by (with_reducible repeat first|exact Qh|apply Qb|apply Qk)) ?_);clear hs;intro w hs;(try simp only[Em,Ma]at hs))))
   go_ret
   refine⟨rfl,?_⟩
   simp only[Ma]
   replace hs:=scan_get.2 ⟨g,rfl,hs.pull (A:=ScnR g bh ba q5) (by (with_reducible exact Qh))⟩
   apply unrR_mk (vs:=.pointer (some ⟨g,0,none⟩)) (vf:=vf)
   (with_reducible apply Sat.fin hs;repeat first|exact Ql|exact Qh|apply Qb|apply Qk)
 ·subst e
  obtain⟨p,rfl,pok,hpt,yy,hyy,hyyl,hyy0⟩:=hfl rfl
  simp only[if_neg (show ¬(2:Int)=0 by omega),if_neg (show ¬(2:Int)=1 by omega),if_true]
  have hS:=fun g=>flush_step g ba d bx bm a m p pok n yy hpt hyy hyyl hyy0
  generalize ZQ a m p=q at hS ⊢
  obtain⟨q1,q2,q3,q4⟩:=q
  simp only[]at hS ⊢
  have HS:=Lh hS;clear hS
  obtain⟨g,rfl,hs⟩:=flu_get.1 (hs.pull (A:=fluR ba (some p) vf) (by (with_reducible repeat first|exact Qh|apply Qk)))
  clear hz hsc hfl hrc hrd hx hy hyin hxin hk pok hyy
  cases q1 with
  | true=>
   simp only[if_true]
   go_enter Tryz.func188,Tryz.ntmps188
   go_wp2_with (first|((with_reducible apply Za hs);exact Ii;rfl;(with_reducible repeat first|exact Qh|apply Qk);rfl;rfl;simp only[Uc,Uz])|((with_reducible apply ZA hs);exact Ii;rfl;rfl;(with_reducible repeat first|exact Qh|apply Qk);rfl;exact Vb rfl;rfl;clear hs;intro w hs;simp only[Yg,Uc,Uz]at hs)|(go_at_call 190;((refine((HS.out g)).at hs (by (with_reducible repeat first|exact Qh|apply Qb|apply Qk)) ?_);clear hs;intro w hs;(try simp only[Em,Ma]at hs))))
   go_ret
   refine⟨rfl,?_⟩
   simp only[Ma]
   replace hs:=flu_get.2 ⟨g,rfl,hs.pull (A:=PshR g ba 296 q4) (by (with_reducible repeat first|exact Qh|apply Qk))⟩
   apply unrR_mk (vs:=vs) (vf:=.pointer (some ⟨g,0,none⟩))
   (with_reducible apply Sat.fin hs;repeat first|exact Ql|exact Qh|apply Qb|apply Qk)
  | false=>
   simp only[Yn,if_false]
   go_enter Tryz.func188,Tryz.ntmps188
   go_wp2_with (first|((with_reducible apply Za hs);exact Ii;rfl;(with_reducible repeat first|exact Qh|apply Qk);rfl;rfl;simp only[Uc,Uz])|(go_at_call 190;((refine((HS.out g)).at hs (by (with_reducible repeat first|exact Qh|apply Qb|apply Qk)) ?_);clear hs;intro w hs;(try simp only[Em,Ma]at hs))))
   go_ret
   refine⟨rfl,?_⟩
   simp only[Ma]
   replace hs:=flu_get.2 ⟨g,rfl,hs.pull (A:=PshR g ba 296 q4) (by (with_reducible exact Qh))⟩
   apply unrR_mk (vs:=vs) (vf:=.pointer (some ⟨g,0,none⟩))
   (with_reducible apply Sat.fin hs;repeat first|exact Ql|exact Qh|apply Qb|apply Qk)
 ·subst e
  simp only[if_neg (show ¬(3:Int)=0 by omega),if_neg (show ¬(3:Int)=1 by omega),if_neg (show ¬(3:Int)=2 by omega)]
  have hm:m.May (adr h.c 8 rc):=by rw[hz.c];exact hz.ok.may (by omega) (by omega) (in_active hh (hz.c▸rc1))
  have he:=adr_eq hOk 8 hh
  obtain⟨b0,b1⟩:=ZD hOk 8
  have hlt:n<h.held.length:=(List.getElem?_eq_some_iff.1 hrc).1
  have hL:=Lh (Qa d bx bm m _ _ 0 hm.acs)
  generalize m.word (adr h.c 8 rc)=uu at hL ⊢
  replace hs:=hs.pull (A:=HazR bh ba h) (by (with_reducible repeat first|exact Qh|apply Qk))
  (obtain⟨vhh,vhl,hs⟩:=hazR.1 hs)
  clear hz hm hsc hfl hrd hx hy hyin hxin hk
  go_enter Tryz.func188,Tryz.ntmps188
  go_wp2_with (first|(with_reducible refine NQ.mk ?_)|((with_reducible apply Zh);rfl;rfl)|((with_reducible apply Zm);rfl)|(with_reducible refine EQ.mk ?_ ?_)|(with_reducible exact Zg)|(with_reducible refine Zi ?_)|((with_reducible apply Za hs);exact Ii;rfl;(with_reducible repeat first|exact Qh|apply Qk);rfl;rfl;simp only[Uc,Uz])|((with_reducible apply Zn hs);exact Ii;rfl;assumption;(with_reducible repeat first|exact Qh|apply Qk);rfl;(exact Ze (by assumption));rfl;rfl;simp only[Uc,Uz])|((with_reducible apply ZS hs);exact Ii;rfl;rfl;assumption;(with_reducible repeat first|exact Qh|apply Qk);rfl;(exact Ze (by assumption));exact Vb rfl;rfl;rfl;clear hs;intro w hs)|((with_reducible apply ZU hs);exact Ii;exact Ii;rfl;assumption;rfl;(with_reducible repeat first|exact Qh|apply Qk);rfl;(simp only[Wm,Ws,Wa,Wc,Wn,Wr]at *;omega);rfl;simp only[Uc,Uz])|((with_reducible apply ZE hs);exact Ii;exact Ii;rfl;rfl;(with_reducible repeat first|exact Qh|apply Qk);rfl;(simp only[Wm,Ws,Wa,Wc,Wn,Wr]at *;omega);rfl;intro b off hat;simp only[Uc,Uz])|(go_at_call 141;(refine(hL.out).at hs (by with_reducible repeat first|exact Qh|apply Qk) ?_;clear hs;intro w hs;(try simp only[Em,Ma]at hs)))|((with_reducible refine Wp (id:=3) (Paz (Pbz (Pcz [.neu 15,.eff 16 []]))) hs rfl ?_ ?_);kernel_rfl;clear hs;intro w hs)|((with_reducible refine Wp (id:=4) (Paz [.neu 5,.neu 6,.neu 7,.neu 8,.eff 9 []]) hs rfl ?_ ?_);kernel_rfl;clear hs;intro w hs))
  go_ret
  refine⟨rfl,?_⟩
  simp only[Ma]
  rw[show(h.held.map eI).set n ([Value.int .i64 rc].set 0 (Value.int .i64 (-1)))=(h.held.set n (-1)).map eI by simp]at hs
  replace hs:=ZF (h:={ h with held:=h.held.set n (-1) }) (hs.fin (by (with_reducible repeat first|exact Ql|exact Qh|apply Qb|apply Qk)))
  apply unrR_mk (vs:=vs) (vf:=vf)
  (with_reducible apply Sat.fin hs;repeat first|exact Ql|exact Qh|apply Qb|apply Qk)
end
end Go.Proofs.YtefjbdajgakgpaaGreat
