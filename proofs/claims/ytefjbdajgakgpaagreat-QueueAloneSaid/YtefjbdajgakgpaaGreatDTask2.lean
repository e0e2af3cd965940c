import Derived.Test.YtefjbdajgakgpaaGreatDMach
set_option linter.all false
namespace Go.Proofs.YtefjbdajgakgpaaGreat
open Go.RowKit Hp
set_option maxRecDepth 100000
set_option maxHeartbeats 1000000
attribute [local irreducible] Go.Calls
section
structure Reg where
 thread:Int
 i:Int
 seen:Bool
def RegR (g bh:Nat)(r:Reg):Zc:=pt g (.cells #[.pointer (some ⟨bh,0,none⟩),.int .i64 r.thread,.int .i64 r.i,.bool r.seen] 181)
def Qv (h:Haz)(m:Mch)(t:Nat)(s:Sea)(r:Reg):Bool×Haz×Mch×Reg:=
 if r.i+1<h.c.R then (false,h,m,{ r with seen:=false,i:=r.i+1 }) else (true,h,m.answer t s 4 0,{ r with seen:=false,i:=r.i+1 })
def Z4 (h:Haz)(m:Mch)(t:Nat)(s:Sea)(r:Reg):Bool×Haz×Mch×Reg:=
 let A:=adr h.c 8 r.i
 if r.seen=false then
  if m.word A=1 then Qv h (m.load A (m.word A)) t s r else (false,h,m.load A (m.word A),{ r with seen:=true })
 else if m.word A=0 then (true,{ h with held:=h.held.set r.thread.toNat r.i },(m.swap A (m.word A) 0 1).answer t s 2 r.i,r)
 else Qv h (m.swap A (m.word A) 0 1) t s r
set_option maxHeartbeats 2000000 in
theorem reg_step (gr bh ba d bx bm:Nat)(h:Haz)(a:Are)(m:Mch)(r:Reg)(i t:Nat)(c:Cll)(s:Sea)(hz:HazOk h a m)(hcur:ZX m i t c s)(t0:0≤r.thread)(t1:r.thread<h.c.T)(i0:0≤r.i)(i1:r.i<h.c.R) :
  Zk Tryz.prog 186 #[.pointer (some ⟨gr,0,none⟩),.pointer (some ⟨d,0,none⟩)] (RegR gr bh r*(HazR bh ba h*DkR d bx bm m)) (.bool (Z4 h m t s r).1)
   (RegR gr bh (Z4 h m t s r).2.2.2*(HazR bh ba (Z4 h m t s r).2.1*DkR d bx bm (Z4 h m t s r).2.2.1)):=by
 intro O w F hs
 simp only[Ma]at hs
 obtain⟨rt,ri,rs⟩:=r
 simp only[]at t0 t1 i0 i1
 obtain⟨tn,rfl⟩:=Int.eq_ofNat_of_zero_le t0
 have hOk:h.c.Ok:=hz.c▸hz.ok.c
 have hR2:=hOk.R2
 have hm:m.May (adr h.c 8 ri):=by rw[hz.c];exact hz.ok.may (by omega) (by omega) (in_active i0 (hz.c▸i1))
 have he:=adr_eq hOk 8 i0
 obtain⟨b0,b1⟩:=ZD hOk 8
 have hlt:tn<h.held.length:=by rw[hz.held];omega
 obtain⟨hz0,hz1⟩:∃z,h.held[tn]? = some z:=⟨_,Yd hlt⟩
 have hL:=Lh (Qt d bx bm m _ _ hm.acs)
 have hW:=Jl d bx bm m _ _ 0 1 hm.acs
 have hA1:=Lh (QD d bx bm (m.load (adr h.c 8 ri) (m.word (adr h.c 8 ri))) i t s 4 0 hcur.cur hcur.seat)
 have hA2:=Lh (QD d bx bm (m.swap (adr h.c 8 ri) (m.word (adr h.c 8 ri)) 0 1) i t s 4 0 hcur.cur hcur.seat)
 have hA3:=Lh (QD d bx bm (m.swap (adr h.c 8 ri) (m.word (adr h.c 8 ri)) 0 1) i t s 2 ri hcur.cur hcur.seat)
 unfold Z4 Qv
 simp only[]
 unfold RegR at hs
 replace hs:=hs.pull (A:=HazR bh ba h) (by (with_reducible repeat first|exact Qh|apply Qk))
 (obtain⟨vhh,vhl,hs⟩:=hazR.1 hs)
 clear hz hcur hm
 generalize m.word (adr h.c 8 ri)=u at *
 cases rs with
 | false=>
  by_cases hu:u=1
  ·subst hu
   simp only[if_true]
   by_cases hn:ri+1<h.c.R
   ·have hn':decide (ri+1<h.c.R)=true:=by simpa using hn
    have HN:=Lh hn;clear hn
    simp only[if_pos HN.out]
    go_enter Tryz.func186,Tryz.ntmps186
    go_wp2_with (first|(with_reducible refine NQ.mk ?_)|((with_reducible apply Zi);rfl;rfl)|((with_reducible apply Zo);rfl)|(with_reducible refine EQ.mk ?_ ?_)|(with_reducible exact Zg)|(with_reducible refine Zj ?_)|((with_reducible apply Zb hs);exact Ii;rfl;(with_reducible repeat first|exact Qh|apply Qk);rfl;rfl;simp only[Uc,Uz])|((with_reducible apply Zv hs);exact Ii;rfl;rfl;(with_reducible repeat first|exact Qh|apply Qk);rfl;exact Vb rfl;rfl;clear hs;intro w hs;simp only[Yg,Uc,Uz]at hs)|(go_at_call 144;(refine(hL.out).at hs (by with_reducible repeat first|exact Qh|apply Qk) ?_;clear hs;intro w hs;(try simp only[Em,Ma]at hs)))|((with_reducible refine Wp (id:=1) (Paz (Pbz (Pcz [.neu 15,.neu 16,.neu 17,.neu 18,.eff 19 [],.neu 20,.neu 21]))) hs rfl ?_ ?_);kernel_rfl;clear hs;intro w hs)|((with_reducible refine Wp (id:=4) (Paz (Pbz (Pcz [.neu 15,.neu 16,.neu 17,.eff 18 [],.neu 19]))) hs rfl ?_ ?_);kernel_rfl;clear hs;intro w hs)|((with_reducible refine Wp (id:=10) (Paz (Pbz [.neu 10,.neu 11,.neu 12])) hs rfl ?_ ?_);kernel_rfl;clear hs;intro w hs))
    go_ret
    refine⟨rfl,?_⟩
    simp only[Ma]
    (replace hs:=ZA (hs.fin (by (with_reducible repeat first|exact Ql|exact Qh|apply Qb|apply Qk))))
    unfold RegR
    (with_reducible apply Sat.fin hs;repeat first|exact Ql|exact Qh|apply Qb|apply Qk)
   ·have hn':decide (ri+1<h.c.R)=false:=by simpa using hn
    have HN:=Lh hn;clear hn
    simp only[if_neg HN.out]
    go_enter Tryz.func186,Tryz.ntmps186
    go_wp2_with (first|(with_reducible refine NQ.mk ?_)|((with_reducible apply Zi);rfl;rfl)|((with_reducible apply Zo);rfl)|(with_reducible refine EQ.mk ?_ ?_)|(with_reducible exact Zg)|(with_reducible refine Zj ?_)|((with_reducible apply Zb hs);exact Ii;rfl;(with_reducible repeat first|exact Qh|apply Qk);rfl;rfl;simp only[Uc,Uz])|((with_reducible apply Zv hs);exact Ii;rfl;rfl;(with_reducible repeat first|exact Qh|apply Qk);rfl;exact Vb rfl;rfl;clear hs;intro w hs;simp only[Yg,Uc,Uz]at hs)|(go_at_call 144;(refine(hL.out).at hs (by with_reducible repeat first|exact Qh|apply Qk) ?_;clear hs;intro w hs;(try simp only[Em,Ma]at hs)))|(go_at_call 150;(refine(hA1.out).at hs (by with_reducible repeat first|exact Qh|apply Qk) ?_;clear hs;intro w hs;(try simp only[Em,Ma]at hs)))|((with_reducible refine Wp (id:=1) (Paz (Pbz (Pcz [.neu 15,.neu 16,.neu 17,.neu 18,.eff 19 [],.neu 20,.neu 21]))) hs rfl ?_ ?_);kernel_rfl;clear hs;intro w hs)|((with_reducible refine Wp (id:=4) (Paz (Pbz (Pcz [.neu 15,.neu 16,.neu 17,.eff 18 [],.neu 19]))) hs rfl ?_ ?_);kernel_rfl;clear hs;intro w hs)|((with_reducible refine Wp (id:=10) (Paz (Pbz [.neu 10,.neu 11,.neu 12])) hs rfl ?_ ?_);kernel_rfl;clear hs;intro w hs))
    go_ret
    refine⟨rfl,?_⟩
    simp only[Ma]
    (replace hs:=ZA (hs.fin (by (with_reducible repeat first|exact Ql|exact Qh|apply Qb|apply Qk))))
    unfold RegR
    (with_reducible apply Sat.fin hs;repeat first|exact Ql|exact Qh|apply Qb|apply Qk)
  ·have hu':(u==1)=false:=by simpa using hu
   have hu2:(u != 1)=true:=by simpa using hu
   have HU:=Lh hu;clear hu
   simp only[if_neg HU.out,if_true]
   go_enter Tryz.func186,Tryz.ntmps186
   go_wp2_with (first|(with_reducible refine NQ.mk ?_)|((with_reducible apply Zi);rfl;rfl)|((with_reducible apply Zo);rfl)|(with_reducible refine EQ.mk ?_ ?_)|(with_reducible exact Zg)|(with_reducible refine Zj ?_)|((with_reducible apply Zb hs);exact Ii;rfl;(with_reducible repeat first|exact Qh|apply Qk);rfl;rfl;simp only[Uc,Uz])|((with_reducible apply Zv hs);exact Ii;rfl;rfl;(with_reducible repeat first|exact Qh|apply Qk);rfl;exact Vb rfl;rfl;clear hs;intro w hs;simp only[Yg,Uc,Uz]at hs)|(go_at_call 144;(refine(hL.out).at hs (by with_reducible repeat first|exact Qh|apply Qk) ?_;clear hs;intro w hs;(try simp only[Em,Ma]at hs)))|((with_reducible refine Wp (id:=1) (Paz (Pbz (Pcz [.neu 15,.neu 16,.neu 17,.neu 18,.eff 19 [],.neu 20,.neu 21]))) hs rfl ?_ ?_);kernel_rfl;clear hs;intro w hs))
   go_ret
   refine⟨rfl,?_⟩
   simp only[Ma]
   (replace hs:=ZA (hs.fin (by (with_reducible repeat first|exact Ql|exact Qh|apply Qb|apply Qk))))
   unfold RegR
   (with_reducible apply Sat.fin hs;repeat first|exact Ql|exact Qh|apply Qb|apply Qk)
 | true=>
  simp only[Bool.true_eq_false,if_false]
  by_cases hu:u=0
  ·have hu':decide (u=0)=true:=by simpa using hu
   rw[hu']at hW
   have HW:=Lh hW;clear hW hu'
   simp only[if_pos hu]
   clear hu
   go_enter Tryz.func186,Tryz.ntmps186
   go_wp2_with (first|(with_reducible refine NQ.mk ?_)|((with_reducible apply Zi);rfl;rfl)|((with_reducible apply Zo);rfl)|(with_reducible refine EQ.mk ?_ ?_)|(with_reducible exact Zg)|(with_reducible refine Zj ?_)|((with_reducible apply Zb hs);exact Ii;rfl;(with_reducible repeat first|exact Qh|apply Qk);rfl;rfl;simp only[Uc,Uz])|((with_reducible apply QO hs);exact Ii;rfl;rfl;assumption;(with_reducible repeat first|exact Qh|apply Qk);rfl;(exact Ze (by assumption));exact Vb rfl;rfl;rfl;clear hs;intro w hs)|((with_reducible apply Qe hs);exact Ii;exact Ii;rfl;rfl;(with_reducible repeat first|exact Qh|apply Qk);rfl;(simp only[Wm,Ws,Wa,Wc,Wn,Wr]at *;omega);rfl;intro b off hat;simp only[Uc,Uz])|(go_at_call 146;(refine(HW.out).at hs (by with_reducible repeat first|exact Qh|apply Qk) ?_;clear hs;intro w hs;(try simp only[Em,Ma]at hs)))|(go_at_call 150;(refine(hA3.out).at hs (by with_reducible repeat first|exact Qh|apply Qk) ?_;clear hs;intro w hs;(try simp only[Em,Ma]at hs)))|((with_reducible refine Wp (id:=1) (Paz (Pbz (Pcz [.neu 15,.neu 16,.neu 17,.neu 18,.eff 19 [],.neu 20,.neu 21]))) hs rfl ?_ ?_);kernel_rfl;clear hs;intro w hs)|((with_reducible refine Wp (id:=4) (Paz (Pbz (Pcz [.neu 15,.neu 16,.neu 17,.eff 18 [],.neu 19]))) hs rfl ?_ ?_);kernel_rfl;clear hs;intro w hs)|((with_reducible refine Wp (id:=5) (Paz (Pbz (Pcz [.neu 15,.eff 16 []]))) hs rfl ?_ ?_);kernel_rfl;clear hs;intro w hs))
   go_ret
   refine⟨rfl,?_⟩
   simp only[Ma,Yo]
   rw[show(h.held.map eI).set tn ([Value.int .i64 hz0].set 0 (Value.int .i64 ri))=(h.held.set tn ri).map eI by simp]at hs
   replace hs:=ZA (h:={ h with held:=h.held.set tn ri }) (hs.fin (by (with_reducible repeat first|exact Ql|exact Qh|apply Qb|apply Qk)))
   unfold RegR
   (with_reducible apply Sat.fin hs;repeat first|exact Ql|exact Qh|apply Qb|apply Qk)
  ·have hu':decide (u=0)=false:=by simpa using hu
   rw[hu']at hW
   have HW:=Lh hW;clear hW hu'
   simp only[if_neg hu]
   clear hu
   by_cases hn:ri+1<h.c.R
   ·have hn':decide (ri+1<h.c.R)=true:=by simpa using hn
    have HN:=Lh hn;clear hn
    simp only[if_pos HN.out]
    go_enter Tryz.func186,Tryz.ntmps186
    go_wp2_with (first|(with_reducible refine NQ.mk ?_)|((with_reducible apply Zi);rfl;rfl)|((with_reducible apply Zo);rfl)|(with_reducible refine EQ.mk ?_ ?_)|(with_reducible exact Zg)|(with_reducible refine Zj ?_)|((with_reducible apply Zb hs);exact Ii;rfl;(with_reducible repeat first|exact Qh|apply Qk);rfl;rfl;simp only[Uc,Uz])|((with_reducible apply Zv hs);exact Ii;rfl;rfl;(with_reducible repeat first|exact Qh|apply Qk);rfl;exact Vb rfl;rfl;clear hs;intro w hs;simp only[Yg,Uc,Uz]at hs)|(go_at_call 146;(refine(HW.out).at hs (by with_reducible repeat first|exact Qh|apply Qk) ?_;clear hs;intro w hs;(try simp only[Em,Ma]at hs)))|((with_reducible refine Wp (id:=1) (Paz (Pbz (Pcz [.neu 15,.neu 16,.neu 17,.neu 18,.eff 19 [],.neu 20,.neu 21]))) hs rfl ?_ ?_);kernel_rfl;clear hs;intro w hs)|((with_reducible refine Wp (id:=4) (Paz (Pbz (Pcz [.neu 15,.neu 16,.neu 17,.eff 18 [],.neu 19]))) hs rfl ?_ ?_);kernel_rfl;clear hs;intro w hs)|((with_reducible refine Wp (id:=10) (Paz (Pbz [.neu 10,.neu 11,.neu 12])) hs rfl ?_ ?_);kernel_rfl;clear hs;intro w hs))
    go_ret
    refine⟨rfl,?_⟩
    simp only[Ma]
    (replace hs:=ZA (hs.fin (by (with_reducible repeat first|exact Ql|exact Qh|apply Qb|apply Qk))))
    unfold RegR
    (with_reducible apply Sat.fin hs;repeat first|exact Ql|exact Qh|apply Qb|apply Qk)
   ·have hn':decide (ri+1<h.c.R)=false:=by simpa using hn
    have HN:=Lh hn;clear hn
    simp only[if_neg HN.out]
    go_enter Tryz.func186,Tryz.ntmps186
    go_wp2_with (first|(with_reducible refine NQ.mk ?_)|((with_reducible apply Zi);rfl;rfl)|((with_reducible apply Zo);rfl)|(with_reducible refine EQ.mk ?_ ?_)|(with_reducible exact Zg)|(with_reducible refine Zj ?_)|((with_reducible apply Zb hs);exact Ii;rfl;(with_reducible repeat first|exact Qh|apply Qk);rfl;rfl;simp only[Uc,Uz])|((with_reducible apply Zv hs);exact Ii;rfl;rfl;(with_reducible repeat first|exact Qh|apply Qk);rfl;exact Vb rfl;rfl;clear hs;intro w hs;simp only[Yg,Uc,Uz]at hs)|(go_at_call 146;(refine(HW.out).at hs (by with_reducible repeat first|exact Qh|apply Qk) ?_;clear hs;intro w hs;(try simp only[Em,Ma]at hs)))|(go_at_call 150;(refine(hA2.out).at hs (by with_reducible repeat first|exact Qh|apply Qk) ?_;clear hs;intro w hs;(try simp only[Em,Ma]at hs)))|((with_reducible refine Wp (id:=1) (Paz (Pbz (Pcz [.neu 15,.neu 16,.neu 17,.neu 18,.eff 19 [],.neu 20,.neu 21]))) hs rfl ?_ ?_);kernel_rfl;clear hs;intro w hs)|((with_reducible refine Wp (id:=4) (Paz (Pbz (Pcz [.neu 15,.neu 16,.neu 17,.eff 18 [],.neu 19]))) hs rfl ?_ ?_);kernel_rfl;clear hs;intro w hs)|((with_reducible refine Wp (id:=10) (Paz (Pbz [.neu 10,.neu 11,.neu 12])) hs rfl ?_ ?_);kernel_rfl;clear hs;intro w hs))
    go_ret
    refine⟨rfl,?_⟩
    simp only[Ma]
    (replace hs:=ZA (hs.fin (by (with_reducible repeat first|exact Ql|exact Qh|apply Qb|apply Qk))))
    unfold RegR
    (with_reducible apply Sat.fin hs;repeat first|exact Ql|exact Qh|apply Qb|apply Qk)
end
section
def ClrR (g:Nat)(ad:Int):Zc:=pt g (.cells #[.int .i64 ad] 196)
theorem clr_step (gr d bx bm:Nat)(m:Mch)(ad:Nat)(hm:m.May ad) :
  Zk Tryz.prog 202 #[.pointer (some ⟨gr,0,none⟩),.pointer (some ⟨d,0,none⟩)] (ClrR gr ad*DkR d bx bm m) (.bool true) (ClrR gr ad*DkR d bx bm (m.store ad (m.word ad) 0)):=by
 intro O w F hs
 simp only[Ma]at hs
 unfold ClrR at hs
 have hL:=Lh (Z7 d bx bm m _ _ 0 hm.acs)
 clear hm
 go_enter Tryz.func202,Tryz.ntmps202
 go_wp2_with (first|((with_reducible apply Zb hs);exact Ii;rfl;(with_reducible exact Qh);rfl;rfl;simp only[Uc,Uz])|(go_at_call 141;(refine(hL.out).at hs (by with_reducible repeat first|exact Qh|apply Qk) ?_;clear hs;intro w hs;(try simp only[Em,Ma]at hs))))
 go_ret
 refine⟨rfl,?_⟩
 unfold ClrR
 simp only[Ma]
 (with_reducible apply Sat.fin hs;repeat first|exact Ql|exact Qh|apply Qb|apply Qk)
structure Rdg where
 addr:Int
 stage:Int
 w:Int
 point:Int
def RdgR (g bh:Nat)(r:Rdg):Zc:=pt g (.cells #[.pointer (some ⟨bh,0,none⟩),.int .i64 r.addr,.int .i64 r.stage,.int .u64 r.w,.int .i64 r.point] 193)
theorem rdgR_mk {O w:World}{g bh:Nat}{r:Rdg}{R:Zc}(hs:Sat O w (pt g (.cells #[.pointer (some ⟨bh,0,none⟩),.int .i64 r.addr,.int .i64 r.stage,.int .u64 r.w,.int .i64 r.point] 193)*R)):Sat O w (RdgR g bh r*R):=hs
def Qf (m:Mch)(i t:Nat)(c:Cll)(s:Sea)(r:Rdg)(u:Int):Bool×Mch×Rdg:=
 if u=0 then (true,(m.point i c m.now).answer t s 3 0,{ r with w:=u,stage:=1 }) else (false,m,{ r with w:=u,stage:=1 })
theorem read_saw (gr bh d bx bm:Nat)(m:Mch)(i t:Nat)(c:Cll)(s:Sea)(r:Rdg)(u:Int)(hcur:ZX m i t c s) :
  Zk Tryz.prog 200 #[.pointer (some ⟨gr,0,none⟩),.pointer (some ⟨d,0,none⟩),.int .u64 u] (RdgR gr bh r*DkR d bx bm m) (.bool (Qf m i t c s r u).1)
   (RdgR gr bh (Qf m i t c s r u).2.2*DkR d bx bm (Qf m i t c s r u).2.1):=by
 intro O w F hs
 simp only[Ma]at hs
 unfold RdgR at hs
 obtain⟨r1,r2,r3,r4⟩:=r
 have hN:=Lh (desk_now d bx bm m)
 have hP:=Lh (Jx d bx bm m i t c m.now hcur.cur hcur.call)
 have hA:=Lh (QD d bx bm (m.point i c m.now) i t s 3 0 hcur.cur hcur.seat)
 unfold Qf
 by_cases hu:u=0
 ·subst hu
  simp only[if_true]
  clear hcur
  go_enter Tryz.func200,Tryz.ntmps200
  go_wp2_with (first|((with_reducible apply Zv hs);exact Ii;rfl;rfl;(with_reducible exact Qh);rfl;exact Vb rfl;rfl;clear hs;intro w hs;simp only[Yg,Uc,Uz]at hs)|(go_at_call 148;(refine(hN.out).at hs (by with_reducible repeat first|exact Qh|apply Qk) ?_;clear hs;intro w hs;(try simp only[Em,Ma]at hs)))|(go_at_call 147;((refine(hP.out).at hs (by (with_reducible exact Qh)) ?_);clear hs;intro w hs;(try simp only[Em,Ma]at hs)))|(go_at_call 150;((refine(hA.out).at hs (by (with_reducible exact Qh)) ?_);clear hs;intro w hs;(try simp only[Em,Ma]at hs))))
  go_ret
  refine⟨rfl,?_⟩
  unfold RdgR
  simp only[Ma]
  (with_reducible apply Sat.fin hs;repeat first|exact Ql|exact Qh|apply Qb|apply Qk)
 ·have hu1:(u==0)=false:=by simpa using hu
  have hu2:(u != 0)=true:=by simpa using hu
  simp only[if_neg hu]
  have HU:=Lh hu
  clear hcur hu
  go_enter Tryz.func200,Tryz.ntmps200
  go_wp2_with ((with_reducible apply Zv hs);exact Ii;rfl;rfl;(with_reducible exact Qh);rfl;exact Vb rfl;rfl;clear hs;intro w hs;simp only[Yg,Uc,Uz]at hs)
  go_ret
  refine⟨rfl,?_⟩
  unfold RdgR
  simp only[Ma]
  ((with_reducible apply Sat.fin hs);(with_reducible exact Ql))
def ZZ (h:Haz)(m:Mch)(i t:Nat)(c:Cll)(s:Sea)(r:Rdg):Bool×Mch×Rdg:=
 let C:=adr h.c 2 0
 if r.stage=0 then Qf (m.load C (m.word C)) i t c s r (m.word C)
 else if r.stage=1 then (false,m.store r.addr.toNat (m.word r.addr.toNat) r.w,{ r with stage:=2 })
 else if r.stage=2 then
  if m.word C=r.w then (false,m.load C (m.word C),{ r with point:=m.now,stage:=3 }) else Qf (m.load C (m.word C)) i t c s r (m.word C)
 else
  let A:=adr h.c 11 (r.w-1)
  (true,((m.load A (m.word A)).point i c r.point).answer t s 2 (wrap64 (m.word A)),r)
theorem in_cell {c:Cfg}:InReg c 2 0:=⟨by omega,by omega,by show(0:Int)<1;omega⟩
theorem in_value {c:Cfg}{i:Int}(h0:0≤i)(h1:i<c.Sl):InReg c 11 i:=⟨h0,by omega,h1⟩
structure ReadOk (h:Haz)(a:Are)(m:Mch)(r:Rdg):Prop where
 hz:HazOk h a m
 stage:r.stage=0∨r.stage=1∨r.stage=2∨r.stage=3
 a0:0≤r.addr
 a1:r.addr.toNat<m.mem.words.length
 w0:r.stage=3→1≤r.w
 w1:r.stage=3→r.w≤h.c.Sl
set_option maxHeartbeats 2000000 in
theorem read_step (gr bh ba d bx bm:Nat)(h:Haz)(a:Are)(m:Mch)(i t:Nat)(c:Cll)(s:Sea)(r:Rdg)(ok:ReadOk h a m r)(hcur:ZX m i t c s) :
  Zk Tryz.prog 199 #[.pointer (some ⟨gr,0,none⟩),.pointer (some ⟨d,0,none⟩)] (RdgR gr bh r*(HazR bh ba h*DkR d bx bm m)) (.bool (ZZ h m i t c s r).1)
   (RdgR gr bh (ZZ h m i t c s r).2.2*(HazR bh ba h*DkR d bx bm (ZZ h m i t c s r).2.1)):=by
 intro O w F hs
 simp only[Ma]at hs
 obtain⟨r1,r2,r3,r4⟩:=r
 obtain⟨hz,hst,a0,a1,w0,w1⟩:=ok
 simp only[]at hst a0 a1 w0 w1
 obtain⟨ad,rfl⟩:=Int.eq_ofNat_of_zero_le a0
 rw[Yo]at a1
 have hOk:h.c.Ok:=hz.c▸hz.ok.c
 have hmC:m.May (adr h.c 2 0):=by rw[hz.c];exact hz.ok.may (by omega) (by omega) in_cell
 have heC:base h.c 2=(adr h.c 2 0:Int):=by have:=adr_eq hOk 2 (i:=0) (by omega);omega
 have hLC:=Lh (Qt d bx bm m _ _ hmC.acs)
 have hSC:=read_saw gr bh d bx bm (m.load (adr h.c 2 0) (m.word (adr h.c 2 0))) i t c s ⟨ad,r2,r3,r4⟩ (m.word (adr h.c 2 0)) ⟨hcur.cur,hcur.call,hcur.seat⟩
 unfold ZZ
 simp only[Yo]
 replace hs:=hs.pull (A:=HazR bh ba h) (by (with_reducible repeat first|exact Qh|apply Qk))
 (obtain⟨vhh,vhl,hs⟩:=hazR.1 hs)
 rcases hst with e|e|e|e
 ·subst e
  simp only[if_true]
  generalize Qf (m.load (adr h.c 2 0) (m.word (adr h.c 2 0))) i t c s ⟨ad,0,r3,r4⟩ (m.word (adr h.c 2 0))=q at hSC ⊢
  obtain⟨q1,q2,q3⟩:=q
  have HSC:=Lh hSC
  clear hSC hcur hmC hz w0 w1
  unfold RdgR at hs
  go_enter Tryz.func199,Tryz.ntmps199
  go_wp2_with (first|((with_reducible apply Zb hs);exact Ii;rfl;(with_reducible repeat first|exact Qh|apply Qk);rfl;rfl;simp only[Uc,Uz])|(go_at_call 144;(refine(hLC.out).at hs (by with_reducible repeat first|exact Qh|apply Qk) ?_;clear hs;intro w hs;(try simp only[Em,Ma]at hs)))|(go_at_call 200;(replace hs:=rdgR_mk (r:=⟨ad,0,r3,r4⟩) (hs.fin (by (with_reducible repeat first|exact Ql|exact Qh|apply Qb|apply Qk))));((refine(HSC.out).at hs (by (focus with_reducible (repeat first|exact Qh|apply Qb);done)) ?_);clear hs;intro w hs;(try simp only[Em,Ma]at hs))))
  go_ret
  refine⟨rfl,?_⟩
  simp only[Ma]
  (replace hs:=ZA (hs.fin (by (with_reducible repeat first|exact Ql|exact Qh|apply Qb|apply Qk))))
  (with_reducible apply Sat.fin hs;repeat first|exact Ql|exact Qh|apply Qb|apply Qk)
 ·subst e
  simp only[if_neg (show ¬(1:Int)=0 by omega),if_true]
  have hm:m.May ad:=⟨hz.ok.used,a1,hz.ok.log,hz.ok.ahead⟩
  have hS:=Lh (Z7 d bx bm m _ _ r3 hm.acs)
  clear hSC hcur hmC hz w0 w1 hm
  unfold RdgR at hs
  go_enter Tryz.func199,Tryz.ntmps199
  go_wp2_with (first|(with_reducible refine NQ.mk ?_)|((with_reducible apply Zi);rfl;rfl)|((with_reducible apply Zo);rfl)|(with_reducible refine EQ.mk ?_ ?_)|(with_reducible exact Zg)|(with_reducible refine Zj ?_)|((with_reducible apply Zb hs);exact Ii;rfl;(with_reducible repeat first|exact Qh|apply Qk);rfl;rfl;simp only[Uc,Uz])|((with_reducible apply Zv hs);exact Ii;rfl;rfl;(with_reducible repeat first|exact Qh|apply Qk);rfl;exact Vb rfl;rfl;clear hs;intro w hs;simp only[Yg,Uc,Uz]at hs)|(go_at_call 141;(refine(hS.out).at hs (by with_reducible repeat first|exact Qh|apply Qk) ?_;clear hs;intro w hs;(try simp only[Em,Ma]at hs)))|((with_reducible refine Wp (id:=10) (Paz [.neu 5,.neu 6,.neu 7,.neu 8,.eff 9 []]) hs rfl ?_ ?_);kernel_rfl;clear hs;intro w hs))
  go_ret
  refine⟨rfl,?_⟩
  simp only[Ma]
  (replace hs:=ZA (hs.fin (by (with_reducible repeat first|exact Ql|exact Qh|apply Qb|apply Qk))))
  refine rdgR_mk ?_
  (with_reducible apply Sat.fin hs;repeat first|exact Ql|exact Qh|apply Qb|apply Qk)
 ·subst e
  simp only[if_neg (show ¬(2:Int)=0 by omega),if_neg (show ¬(2:Int)=1 by omega),if_true]
  have hN:=Lh (desk_now d bx bm (m.load (adr h.c 2 0) (m.word (adr h.c 2 0))))
  by_cases hu:m.word (adr h.c 2 0)=r3
  ·have hu1:(m.word (adr h.c 2 0)==r3)=true:=by simpa using hu
   have hu2:(m.word (adr h.c 2 0) != r3)=false:=by simpa using hu
   simp only[if_pos hu]
   clear hSC hcur hmC hz w0 w1 hu
   unfold RdgR at hs
   go_enter Tryz.func199,Tryz.ntmps199
   go_wp2_with (first|((with_reducible apply Zb hs);exact Ii;rfl;(with_reducible repeat first|exact Qh|apply Qk);rfl;rfl;simp only[Uc,Uz])|((with_reducible apply Zv hs);exact Ii;rfl;rfl;(with_reducible repeat first|exact Qh|apply Qk);rfl;exact Vb rfl;rfl;clear hs;intro w hs;simp only[Yg,Uc,Uz]at hs)|(go_at_call 144;(refine(hLC.out).at hs (by with_reducible repeat first|exact Qh|apply Qk) ?_;clear hs;intro w hs;(try simp only[Em,Ma]at hs)))|(go_at_call 148;((refine(hN.out).at hs (by (with_reducible exact Qh)) ?_);clear hs;intro w hs;(try simp only[Em,Ma]at hs))))
   go_ret
   refine⟨rfl,?_⟩
   simp only[Ma]
   (replace hs:=ZA (hs.fin (by (with_reducible repeat first|exact Ql|exact Qh|apply Qb|apply Qk))))
   refine rdgR_mk ?_
   ((with_reducible apply Sat.fin hs);(focus((repeat(first|with_reducible exact Ql|with_reducible apply Qb|exact Qh|with_reducible apply Qk));done)))
  ·have hu1:(m.word (adr h.c 2 0)==r3)=false:=by simpa using hu
   have hu2:(m.word (adr h.c 2 0) != r3)=true:=by simpa using hu
   simp only[if_neg hu]
   generalize Qf (m.load (adr h.c 2 0) (m.word (adr h.c 2 0))) i t c s ⟨ad,2,r3,r4⟩ (m.word (adr h.c 2 0))=q at hSC ⊢
   obtain⟨q1,q2,q3⟩:=q
   have HSC:=Lh hSC
   clear hSC hcur hmC hz w0 w1 hu
   unfold RdgR at hs
   go_enter Tryz.func199,Tryz.ntmps199
   go_wp2_with (first|((with_reducible apply Zb hs);exact Ii;rfl;(with_reducible repeat first|exact Qh|apply Qk);rfl;rfl;simp only[Uc,Uz])|(go_at_call 144;(refine(hLC.out).at hs (by with_reducible repeat first|exact Qh|apply Qk) ?_;clear hs;intro w hs;(try simp only[Em,Ma]at hs)))|(go_at_call 200;(replace hs:=rdgR_mk (r:=⟨ad,2,r3,r4⟩) (hs.fin (by (with_reducible repeat first|exact Ql|exact Qh|apply Qb|apply Qk))));((refine(HSC.out).at hs (by (focus with_reducible (repeat first|exact Qh|apply Qb);done)) ?_);clear hs;intro w hs;(try simp only[Em,Ma]at hs))))
   go_ret
   refine⟨rfl,?_⟩
   simp only[Ma]
   (replace hs:=ZA (hs.fin (by (with_reducible repeat first|exact Ql|exact Qh|apply Qb|apply Qk))))
   (with_reducible apply Sat.fin hs;repeat first|exact Ql|exact Qh|apply Qb|apply Qk)
 ·subst e
  simp only[if_neg (show ¬(3:Int)=0 by omega),if_neg (show ¬(3:Int)=1 by omega),if_neg (show ¬(3:Int)=2 by omega)]
  have w0':=w0 rfl
  have w1':=w1 rfl
  have hS2:=hOk.S2
  have v0:0≤r3-1:=by omega
  have he:=adr_eq hOk 11 v0
  obtain⟨b0,b1⟩:=ZD hOk 11
  have hm:m.May (adr h.c 11 (r3-1)):=by rw[hz.c];exact hz.ok.may (by omega) (by omega) (in_value v0 (by have:=hz.c;rw[this]at w1';omega))
  have hL:=Lh (Qt d bx bm m _ _ hm.acs)
  have hU:=Lh (Ju r3 (by omega) (by omega))
  have hV:=Lh (word_value (m.word (adr h.c 11 (r3-1))))
  have hP:=Lh (Jx d bx bm (m.load (adr h.c 11 (r3-1)) (m.word (adr h.c 11 (r3-1)))) i t c r4 hcur.cur hcur.call)
  have hA:=Lh (QD d bx bm ((m.load (adr h.c 11 (r3-1)) (m.word (adr h.c 11 (r3-1)))).point i c r4) i t s 2 (wrap64 (m.word (adr h.c 11 (r3-1)))) hcur.cur hcur.seat)
  generalize m.word (adr h.c 11 (r3-1))=u at hL hV hP hA ⊢
  generalize wrap64 u=uw at hV hA ⊢
  clear hSC hcur hmC hz w0 w1 hm
  unfold RdgR at hs
  go_enter Tryz.func199,Tryz.ntmps199
  go_wp2_with (first|((with_reducible apply Zb hs);exact Ii;rfl;(with_reducible repeat first|exact Qh|apply Qk);rfl;rfl;simp only[Uc,Uz])|(go_at_call 144;(refine(hL.out).at hs (by with_reducible repeat first|exact Qh|apply Qk) ?_;clear hs;intro w hs;(try simp only[Em,Ma]at hs)))|(go_at_call 156;((refine(hU.out).at hs (by (focus((repeat(with_reducible exact Qn));done))) ?_);clear hs;intro w hs;(try simp only[Em,Ma]at hs)))|(go_at_call 171;((refine(hV.out).at hs (by (focus((repeat(with_reducible exact Qn));done))) ?_);clear hs;intro w hs;(try simp only[Em,Ma]at hs)))|(go_at_call 147;((refine(hP.out).at hs (by (with_reducible exact Qh)) ?_);clear hs;intro w hs;(try simp only[Em,Ma]at hs)))|(go_at_call 150;((refine(hA.out).at hs (by (with_reducible exact Qh)) ?_);clear hs;intro w hs;(try simp only[Em,Ma]at hs))))
  go_ret
  refine⟨rfl,?_⟩
  simp only[Ma]
  (replace hs:=ZA (hs.fin (by (with_reducible repeat first|exact Ql|exact Qh|apply Qb|apply Qk))))
  refine rdgR_mk ?_
  (with_reducible apply Sat.fin hs;repeat first|exact Ql|exact Qh|apply Qb|apply Qk)
end
end Go.Proofs.YtefjbdajgakgpaaGreat
