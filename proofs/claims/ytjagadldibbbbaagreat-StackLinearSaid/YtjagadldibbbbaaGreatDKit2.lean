/-
  The stack's calls: a step of a pop; the calls as tasks.
-/
import Derived.Test.YtjagadldibbbbaaGreatDStkV
import Derived.Test.YtjagadldibbbbaaGreatDMach2
import Derived.Test.YtjagadldibbbbaaGreatDLog
set_option linter.all false
namespace Go.Proofs.YtjagadldibbbbaaGreat
open Go.RowKit Hp
set_option maxRecDepth 100000
set_option maxHeartbeats 1000000
section
attribute [local irreducible] Go.Calls Go.wpList
theorem po_step (gp bh ba d bx bm:Nat)(h:Haz)(a:Are)(m:Mch)(i t:Nat)(c:Cll)(s:Sea)(p:Po)(ok:PoOk h a m p)(hcur:ZG m i t c s) :
  Zk Tryz.prog 142 #[.pointer (some ⟨gp,0,none⟩),.pointer (some ⟨d,0,none⟩)] (PoR gp bh ba p*(HazR bh ba h*(AreR ba a*DkR d bx bm m))) (.bool (QX h a m i t c s p).1)
   (PoR gp bh ba (QX h a m i t c s p).2.2.2.2*(HazR bh ba (QX h a m i t c s p).2.1*(AreR ba (QX h a m i t c s p).2.2.1*DkR d bx bm (QX h a m i t c s p).2.2.2.1))):=by
 have key:∀(f:Nat) (r:Bool×Haz×Are×Mch×Po),(∀v,poFn p.stage gp v=fnS f gp) →
   Zk Tryz.prog f #[.pointer (some ⟨gp,0,none⟩),.pointer (some ⟨d,0,none⟩)] (PoR gp bh ba p*(HazR bh ba h*(AreR ba a*DkR d bx bm m))) (.bool r.1) (PoR gp bh ba r.2.2.2.2*(HazR bh ba r.2.1*(AreR ba r.2.2.1*DkR d bx bm r.2.2.2.1))) →
   (∀w,(Qj (fnS f gp) #[.pointer (some ⟨d,0,none⟩)]).run Tryz.prog w=.ok (.enter f #[.pointer (some ⟨gp,0,none⟩),.pointer (some ⟨d,0,none⟩)]) w) →
   Zk Tryz.prog 142 #[.pointer (some ⟨gp,0,none⟩),.pointer (some ⟨d,0,none⟩)] (PoR gp bh ba p*(HazR bh ba h*(AreR ba a*DkR d bx bm m))) (.bool r.1) (PoR gp bh ba r.2.2.2.2*(HazR bh ba r.2.1*(AreR ba r.2.2.1*DkR d bx bm r.2.2.2.1))):=by
  intro f r hf hG hr O w F hs
  have HD:=Lh (hG.dyn (s:=Qj (fnS f gp) #[.pointer (some ⟨d,0,none⟩)]) hr)
  have HF:=Lh hf
  simp only[Ma]at hs
  obtain⟨vr,hs⟩:=poR.1 hs
  rw[hf]at hs
  clear hG hr hf ok hcur
  go_enter Tryz.func142,Tryz.ntmps142
  go_wp2_with (first|((with_reducible apply Zb hs);exact Ii;rfl;(with_reducible exact Qh);rfl;rfl;(simp only[Uc,Uz]))|((replace hs:=poR_mk (p:=p) (vr:=vr) (HF.out vr) (hs.fin (by (focus with_reducible (repeat first|exact Ql|apply Qb|apply Qk);done))));(with_reducible apply wl_val1 hs);rfl;rfl;exact HD.out;(focus with_reducible (repeat first|exact Qh|apply Qb);done);rfl;clear hs;intro v w hs;simp only[Ma]at hs;(have hs9:=Zx.1 hs);clear hs;(obtain⟨rfl,hs⟩:=hs9);(simp only[Uc,Uz])))
  (go_ret)
  refine⟨rfl,?_⟩
  simp only[Ma]
  ((with_reducible apply Sat.fin hs);(with_reducible exact Ql))
 have fa:∀(f:Nat) (b:Bool) (q:Po) (a':Are) (m':Mch),Zk Tryz.prog f #[.pointer (some ⟨gp,0,none⟩),.pointer (some ⟨d,0,none⟩)] (PoR gp bh ba p*(AreR ba a*DkR d bx bm m)) (.bool b) (PoR gp bh ba q*(AreR ba a'*DkR d bx bm m')) →
   Zk Tryz.prog f #[.pointer (some ⟨gp,0,none⟩),.pointer (some ⟨d,0,none⟩)] (PoR gp bh ba p*(HazR bh ba h*(AreR ba a*DkR d bx bm m))) (.bool b) (PoR gp bh ba q*(HazR bh ba h*(AreR ba a'*DkR d bx bm m'))):=by
  intro f b q a' m' H
  have:=H.frame (HazR bh ba h)
  have e1:PoR gp bh ba p*(AreR ba a*DkR d bx bm m)*HazR bh ba h=PoR gp bh ba p*(HazR bh ba h*(AreR ba a*DkR d bx bm m)):=by ac_rfl
  have e2:PoR gp bh ba q*(AreR ba a'*DkR d bx bm m')*HazR bh ba h=PoR gp bh ba q*(HazR bh ba h*(AreR ba a'*DkR d bx bm m')):=by ac_rfl
  rw[e1,e2]at this
  exact this
 have fh:∀(f:Nat) (b:Bool) (q:Po) (m':Mch),Zk Tryz.prog f #[.pointer (some ⟨gp,0,none⟩),.pointer (some ⟨d,0,none⟩)] (PoR gp bh ba p*(HazR bh ba h*DkR d bx bm m)) (.bool b) (PoR gp bh ba q*(HazR bh ba h*DkR d bx bm m')) →
   Zk Tryz.prog f #[.pointer (some ⟨gp,0,none⟩),.pointer (some ⟨d,0,none⟩)] (PoR gp bh ba p*(HazR bh ba h*(AreR ba a*DkR d bx bm m))) (.bool b) (PoR gp bh ba q*(HazR bh ba h*(AreR ba a*DkR d bx bm m'))):=by
  intro f b q m' H
  have:=H.frame (AreR ba a)
  have e1:PoR gp bh ba p*(HazR bh ba h*DkR d bx bm m)*AreR ba a=PoR gp bh ba p*(HazR bh ba h*(AreR ba a*DkR d bx bm m)):=by ac_rfl
  have e2:PoR gp bh ba q*(HazR bh ba h*DkR d bx bm m')*AreR ba a=PoR gp bh ba q*(HazR bh ba h*(AreR ba a*DkR d bx bm m')):=by ac_rfl
  rw[e1,e2]at this
  exact this
 unfold QX
 simp only[]
 rcases ok.stage with e|e|e|e|e|e|e|e|e
 ·rw[if_pos e]
  exact key _ ((Z4 (m.load (adr h.c 3 0) (m.word (adr h.c 3 0))) i t c s { p with top:=m.word (adr h.c 3 0) }).1,h,a,(Z4 (m.load (adr h.c 3 0) (m.word (adr h.c 3 0))) i t c s { p with top:=m.word (adr h.c 3 0) }).2.1,(Z4 (m.load (adr h.c 3 0) (m.word (adr h.c 3 0))) i t c s { p with top:=m.word (adr h.c 3 0) }).2.2) (fun v=>by rw[e];rfl)
   (fa _ _ _ _ _ (po_load gp bh ba d bx bm h a m i t c s p ok e hcur)) (fun w=>by kernel_rfl)
 ·rw[if_neg (by omega),if_pos e]
  exact key _ (false,h,a,m.store (poHz h p) (m.word (poHz h p)) p.top,{ p with named:=true,stage:=3 }) (fun v=>by rw[e];rfl) (fh _ _ _ _ (po_name gp bh ba d bx bm h a m p ok e)) (fun w=>by kernel_rfl)
 ·rw[if_neg (by omega),if_neg (by omega),if_pos e]
  have:=key _ ((poAgain h m i t c s p).1,h,a,(poAgain h m i t c s p).2.1,(poAgain h m i t c s p).2.2) (fun v=>by rw[e];rfl) (fa _ _ _ _ _ (po_again gp bh ba d bx bm h a m i t c s p ok e hcur)) (fun w=>by kernel_rfl)
  unfold poAgain at this
  simp only[]at this
  split
  ·rename_i hu
   simp only[if_pos hu]at this
   exact this
  ·rename_i hu
   simp only[if_neg hu]at this
   exact this
 ·rw[if_neg (by omega),if_neg (by omega),if_neg (by omega),if_pos e]
  exact key _ (false,h,a,m.load (adr h.c 13 (p.top-1)) (m.word (adr h.c 13 (p.top-1))),{ p with behind:=m.word (adr h.c 13 (p.top-1)),stage:=5 }) (fun v=>by rw[e];rfl) (fa _ _ _ _ _ (po_follow gp bh ba d bx bm h a m p ok e)) (fun w=>by kernel_rfl)
 ·rw[if_neg (by omega),if_neg (by omega),if_neg (by omega),if_neg (by omega),if_pos e]
  have:=key _ ((poSwap h a m i c p).1,h,(poSwap h a m i c p).2.1,(poSwap h a m i c p).2.2.1,(poSwap h a m i c p).2.2.2) (fun v=>by rw[e];rfl) (fa _ _ _ _ _ (po_swap gp bh ba d bx bm h a m i t c s p ok e hcur)) (fun w=>by kernel_rfl)
  unfold poSwap at this
  simp only[]at this
  split
  ·rename_i hu
   simp only[if_pos hu]at this
   exact this
  ·rename_i hu
   simp only[if_neg hu]at this
   exact this
 ·rw[if_neg (by omega),if_neg (by omega),if_neg (by omega),if_neg (by omega),if_neg (by omega),if_pos e]
  exact key _ (false,h,a,m.load (adr h.c 11 (p.top-1)) (m.word (adr h.c 11 (p.top-1))),{ p with value:=wrap64 (m.word (adr h.c 11 (p.top-1))),stage:=7 }) (fun v=>by rw[e];rfl) (fa _ _ _ _ _ (po_read gp bh ba d bx bm h a m p ok e)) (fun w=>by kernel_rfl)
 ·rw[if_neg (by omega),if_neg (by omega),if_neg (by omega),if_neg (by omega),if_neg (by omega),if_neg (by omega),if_pos e]
  exact key _ (poUnname h a m t s p) (fun v=>by rw[e];rfl) (po_unname gp bh ba d bx bm h a m i t c s p ok e hcur) (fun w=>by kernel_rfl)
 ·rw[if_neg (by omega),if_neg (by omega),if_neg (by omega),if_neg (by omega),if_neg (by omega),if_neg (by omega),if_neg (by omega),if_pos e]
  exact key _ (true,h,a,m.store (poHz h p) (m.word (poHz h p)) 0,p) (fun v=>by rw[e];rfl) (fh _ _ _ _ (po_forget gp bh ba d bx bm h a m p ok e)) (fun w=>by kernel_rfl)
 ·rw[if_neg (by omega),if_neg (by omega),if_neg (by omega),if_neg (by omega),if_neg (by omega),if_neg (by omega),if_neg (by omega),if_neg (by omega)]
  obtain⟨r,sc,e1,e2,e3⟩:=ok.ret e
  obtain⟨p1,p2,p3,p4,p5,p6,p7⟩:=p
  simp only[]at e e1
  subst e e1
  simp only[e2]
  intro O w F hs
  simp only[Ma]at hs
  have hR:=fun gr=>retire_step gr bh ba d bx bm h a m r sc e2 e3
  obtain⟨vr,hs⟩:=poR.1 hs
  simp only[poFn9]at hs
  obtain⟨gr,rfl,hs⟩:=rtr_get.1 (hs.pull (A:=rtrR bh ba (some r) vr) (by (with_reducible repeat first|exact Qh|apply Qk)))
  generalize Zt h a m sc=q at hR ⊢
  obtain⟨q1,q2,q3,q4,q5⟩:=q
  simp only[]at hR ⊢
  have HD:=Lh ((hR gr).dyn (s:=Qj (fnS 133 gr) #[.pointer (some ⟨d,0,none⟩)]) (fun w=>by kernel_rfl))
  clear ok hcur e2 e3 hR key fa fh
  go_enter Tryz.func142,Tryz.ntmps142
  go_wp2_with (first|((with_reducible apply Zb hs);exact Ii;rfl;(with_reducible repeat first|exact Qh|apply Qk);rfl;rfl;(simp only[Uc,Uz]))|((with_reducible apply wl_val1 hs);rfl;rfl;exact HD.out;(with_reducible repeat first|exact Qh|apply Qb|apply Qk);rfl;clear hs;intro v w hs;simp only[Ma]at hs;(have hs9:=Zx.1 hs);clear hs;(obtain⟨rfl,hs⟩:=hs9);(simp only[Uc,Uz])))
  (go_ret)
  refine⟨rfl,?_⟩
  simp only[Ma]
  replace hs:=rtr_get.2 ⟨gr,rfl,hs.pull (A:=RetR gr bh ba { r with scan:=some q5 }) (by (with_reducible exact Qh))⟩
  apply poR_mk (vr:=.pointer (some ⟨gr,0,none⟩)) (fv:=fnS 133 gr) rfl
  ((with_reducible apply Sat.fin hs);(with_reducible repeat first|exact Ql|exact Qh|apply Qb|apply Qk))
def stR (bh ba:Nat):Zm→Value→Zc
 | .hz k=>htR bh ba k
 | .psh p=>ifR 143 fun g=>PuR g bh ba p
 | .pop p=>ifR 147 fun g=>PoR g bh ba p
def skT (bh ba:Nat)(CX:Zc):Tasks (Haz×Are) Zm where
 X s:=HazR bh ba s.1*(AreR ba s.2*CX)
 R:=stR bh ba
 rdy:=QV
 stp:=Qm
 okr:=skOkr
 oks:=skOks
theorem frame_puTaken {i t:Nat}{c:Cll}{s:Sea}{m:Mch}(p:Pu)(hc:ZG m i t c s):Qp i t c s m (ZZ m i t c s p).2.1:=by
 unfold ZZ
 split
 ·exact frame_both ..
 ·exact(Same.refl m).frame hc
theorem frame_puReady {i t:Nat}{c:Cll}{s:Sea}{m:Mch}(a:Are)(p:Pu)(hc:ZG m i t c s):Qp i t c s m (QF a m i t c s p).2.2.1:=by
 unfold QF
 simp only[]
 split
 ·exact(ZN a m _).then (frame_puTaken _ ((ZN a m _).curIn hc))
 ·exact(ZN ..).frame hc
theorem frame_puStep {i t:Nat}{c:Cll}{s:Sea}{m:Mch}(h:Haz)(a:Are)(p:Pu)(hc:ZG m i t c s):Qp i t c s m (Jf h a m i t c s p).2.2.1:=by
 unfold Jf
 simp only[]
 split
 ·unfold puTake
  simp only[]
  split
  ·exact(same_take a m _).then (frame_puTaken _ ((same_take a m _).curIn hc))
  ·exact(same_take ..).frame hc
 ·split
  ·exact(ZS ..).frame hc
  ·split
   ·exact(ZB ..).frame hc
   ·split
    ·exact(ZS ..).frame hc
    ·split
     ·exact⟨rfl,rfl,rfl,rfl,rfl,rfl,rfl,⟨m.now,rfl⟩,⟨1,0,rfl⟩⟩
     ·exact(Z7 ..).frame hc
theorem frame_poSeen {i t:Nat}{c:Cll}{s:Sea}{m:Mch}(p:Po)(hc:ZG m i t c s):Qp i t c s m (Z4 m i t c s p).2.1:=by
 unfold Z4
 split
 ·exact(Same.refl m).frame hc
 ·exact frame_both ..
theorem frame_poStep {i t:Nat}{c:Cll}{s:Sea}{m:Mch}(h:Haz)(a:Are)(p:Po)(hc:ZG m i t c s):Qp i t c s m (QX h a m i t c s p).2.2.2.1:=by
 unfold QX
 simp only[]
 split
 ·exact(ZB m _ _).then (frame_poSeen _ ((ZB m _ _).curIn hc))
 ·split
  ·exact(ZS ..).frame hc
  ·split
   ·split
    ·exact(ZB ..).frame hc
    ·exact(ZB m _ _).then (frame_poSeen _ ((ZB m _ _).curIn hc))
   ·split
    ·exact(ZB ..).frame hc
    ·split
     ·split
      ·exact((Z7 m _ _ _ _).then (frame_point ((Z7 m _ _ _ _).curIn hc) _)).same (QO ..)
      ·exact(Z7 ..).frame hc
     ·split
      ·exact(ZB ..).frame hc
      ·split
       ·exact((ZS m _ _ _).then (frame_answer ((ZS m _ _ _).curIn hc) _ _)).same (same_retire ..)
       ·split
        ·exact(ZS ..).frame hc
        ·split
         ·exact(Same.refl m).frame hc
         ·split
          ·exact(Same.refl m).frame hc
          ·exact(same_scan ..).frame hc
theorem skT_good (bh ba:Nat)(CX:Zc):(skT bh ba CX).Good where
 iface:=by
  intro O w k v F hs
  cases k with
  | hz k=>exact(hzT_good bh ba CX).iface (k:=k) hs
  | psh p=>obtain⟨g,rfl,_⟩:=ifR_iff.1 hs;exact⟨_,_,rfl⟩
  | pop p=>obtain⟨g,rfl,_⟩:=ifR_iff.1 hs;exact⟨_,_,rfl⟩
 cr:=by
  intro d bx bm s m i t c se k v hok hc
  cases k with
  | hz k=>exact(hzT_good bh ba CX).cr d bx bm s m i t c se k v hok hc
  | psh p=>exact dyn_if (Z:=HazR bh ba s.1*CX) (fun g=>pu_ready g bh ba d bx bm s.1 s.2 m i t c se p hok.1.1 hok.1.2.1 hok.1.2.2 hok.2 hc) (fun g w=>by kernel_rfl) (by simp only[skT];ac_rfl) (by simp only[skT,QV];ac_rfl)
  | pop p=>exact dyn_if (fun g=>(by have:=po_ready g bh ba d p;rw[←mul_emp (PoR g bh ba p),←mul_emp (PoR g bh ba { p with stage:=1 })]at this;exact this)) (fun g w=>by kernel_rfl) (Y:=emp) (Y':=emp) (Em _).symm (Em _).symm
 cs:=by
  intro d bx bm s m i t c se k v hok hc
  cases k with
  | hz k=>exact(hzT_good bh ba CX).cs d bx bm s m i t c se k v hok hc
  | psh p=>exact dyn_if (Z:=HazR bh ba s.1*CX) (fun g=>pu_step g bh ba d bx bm s.1 s.2 m i t c se p hok hc) (fun g w=>by kernel_rfl) (by simp only[skT];ac_rfl) (by simp only[skT,Qm];ac_rfl)
  | pop p=>exact dyn_if (Z:=CX) (fun g=>po_step g bh ba d bx bm s.1 s.2 m i t c se p hok hc) (fun g w=>by kernel_rfl) (by simp only[skT];ac_rfl) (by simp only[skT,Qm];ac_rfl)
 fr:=by
  intro s m i t c se k hc
  cases k with
  | hz k=>exact(hzT_good bh ba CX).fr s m i t c se k hc
  | psh p=>exact frame_puReady _ _ hc
  | pop p=>exact(Same.refl m).frame hc
 fs:=by
  intro s m i t c se k hc
  cases k with
  | hz k=>exact(hzT_good bh ba CX).fs s m i t c se k hc
  | psh p=>exact frame_puStep _ _ _ hc
  | pop p=>exact frame_poStep _ _ _ hc
end
section
attribute [local irreducible] Go.Calls
def optR (bh ba:Nat):Option Qd→Value→Zc
 | none,v=>pu (v=.nilIface)
 | some k,v=>htR bh ba k v
def Z2 (bh c1:Nat):Zc:=pt c1 (.cells #[.pointer (some ⟨bh,0,none⟩)] 68)
theorem haz_addr_no (b ba:Nat)(h:Haz)(t:Nat)(r k:Int)(ht:h.held[t]? = some r)(r0:0≤r)(k0:k<0∨h.c.Hz≤k) :
  Zk Tryz.prog 45 #[.pointer (some ⟨b,0,none⟩),.int .i64 (t:Int),.int .i64 k] (HazR b ba h) (.int .i64 (-1)) (HazR b ba h):=by
 intro O w F hs
 have hR:=Lh (QT b ba h t r ht)
 have n1:decide (r<0)=false:=by simp;omega
 by_cases hk:k<0
 ·have n2:decide (k<0)=true:=by simp;omega
  clear k0
  go_enter Tryz.func45,Tryz.ntmps45
  go_wp2_with (go_at_call 40;((refine(hR.out).at hs (by (with_reducible exact Qh)) ?_);clear hs;intro w hs;(try simp only[Em,Ma]at hs)))
  (go_ret)
  exact⟨rfl,by ((with_reducible apply Sat.fin hs);(with_reducible exact Ql))⟩
 ·have n2:decide (k<0)=false:=by simp;omega
  have n3:decide (k≥h.c.Hz)=true:=by simp;omega
  clear k0
  go_enter Tryz.func45,Tryz.ntmps45
  go_wp2_with (first|((with_reducible apply Zb hs);exact Ii;rfl;(with_reducible exact Qh);rfl;rfl;(simp only[Uc,Uz]))|(go_at_call 40;((refine(hR.out).at hs (by (with_reducible exact Qh)) ?_);clear hs;intro w hs;(try simp only[Em,Ma]at hs));(obtain⟨vhh,vhl,hs⟩:=hazR.1 hs)))
  (go_ret)
  refine⟨rfl,?_⟩
  (apply Zz;((try simp only[Yh,Yi,Yj,Yk,Yl]);(try simp only[Yh,Yi,Yj,Yk,Yl]at hs);((with_reducible apply Sat.fin hs);(with_reducible exact Ql))))
section
variable (bh ba c1:Nat)(h:Haz)(t:Nat)(mv:Mv)
theorem mk_reg (r:Int)(ht:h.held[t]? = some r)(hr:r<0):Does Tryz.prog 41 #[.int .i64 (t:Int),mv.v,.pointer (some ⟨c1,0,none⟩)] (HazR bh ba h*Z2 bh c1)
  (fun v=>optR bh ba (some (.reg ⟨t,0,false⟩)) v*(HazR bh ba h*Z2 bh c1)):=by
 intro O w F hs
 have hlt:=(List.getElem?_eq_some_iff.1 ht).1
 have n1:decide ((t:Int)<0)=false:=by simp
 have n2:decide ((t:Int)≥(h.held.length:Int))=false:=by simp;omega
 have n2':decide (h.held.length≤t)=false:=by simp;omega
 have n3:decide (r≥0)=false:=by simp;omega
 unfold Z2 at hs ⊢
 simp only[Ma]at hs ⊢
 (obtain⟨vhh,vhl,hs⟩:=hazR.1 hs)
 go_enter Tryz.func41,Tryz.ntmps41
 go_wp2_with (first|((with_reducible apply Zb hs);exact Ii;rfl;(with_reducible repeat first|exact Qh|apply Qk);rfl;rfl;(simp only[Uc,Uz]))|((with_reducible apply Zr hs);rfl;rfl;rfl;clear hs;intro w b hs;(simp only[Uc,Uz]))|((with_reducible apply Zu hs);exact Ii;rfl;assumption;(with_reducible repeat first|exact Qh|apply Qk);rfl;(exact Zd (by assumption));rfl;rfl;(simp only[Uc,Uz]))|((with_reducible apply ZP hs);exact Ii;exact Ii;rfl;rfl;(with_reducible repeat first|exact Qh|apply Qk);(rfl);(simp only[Wm,Ws,Wa,Wc,Wn,Wr]at *;omega);rfl;intro b off hat;(simp only[Uc,Uz]))|((with_reducible apply Zw hs);exact Ii;rfl;(with_reducible repeat first|exact Qh|apply Qk);rfl;(simp only[Uc,Uz])))
 (go_ret)
 refine⟨_,rfl,?_⟩
 refine ifR_iff.2 ⟨_,rfl,?_⟩
 (replace hs:=Zz (hs.fin (by (with_reducible repeat first|exact Ql|exact Qh|apply Qb|apply Qk))))
 unfold RegR
 ((with_reducible apply Sat.fin hs);(with_reducible repeat first|exact Ql|exact Qh|apply Qb|apply Qk))
theorem mk_reg_no (r:Int)(ht:h.held[t]? = some r)(hr:0≤r):Does Tryz.prog 41 #[.int .i64 (t:Int),mv.v,.pointer (some ⟨c1,0,none⟩)] (HazR bh ba h*Z2 bh c1)
  (fun v=>optR bh ba none v*(HazR bh ba h*Z2 bh c1)):=by
 intro O w F hs
 have hlt:=(List.getElem?_eq_some_iff.1 ht).1
 have n1:decide ((t:Int)<0)=false:=by simp
 have n2:decide ((t:Int)≥(h.held.length:Int))=false:=by simp;omega
 have n2':decide (h.held.length≤t)=false:=by simp;omega
 have n3:decide (r≥0)=true:=by simp;omega
 unfold Z2 at hs ⊢
 simp only[Ma]at hs ⊢
 (obtain⟨vhh,vhl,hs⟩:=hazR.1 hs)
 go_enter Tryz.func41,Tryz.ntmps41
 go_wp2_with (first|((with_reducible apply Zb hs);exact Ii;rfl;(with_reducible repeat first|exact Qh|apply Qk);rfl;rfl;(simp only[Uc,Uz]))|((with_reducible apply Zr hs);rfl;rfl;rfl;clear hs;intro w b hs;(simp only[Uc,Uz]))|((with_reducible apply Zu hs);exact Ii;rfl;assumption;(with_reducible repeat first|exact Qh|apply Qk);rfl;(exact Zd (by assumption));rfl;rfl;(simp only[Uc,Uz]))|((with_reducible apply ZP hs);exact Ii;exact Ii;rfl;rfl;(with_reducible repeat first|exact Qh|apply Qk);(rfl);(simp only[Wm,Ws,Wa,Wc,Wn,Wr]at *;omega);rfl;intro b off hat;(simp only[Uc,Uz]))|((with_reducible apply Zw hs);exact Ii;rfl;(with_reducible repeat first|exact Qh|apply Qk);rfl;(simp only[Uc,Uz])))
 (go_ret)
 refine⟨_,rfl,?_⟩
 refine Zx.2 ⟨rfl,?_⟩
 (replace hs:=Zz (hs.fin (by (with_reducible repeat first|exact Ql|exact Qh|apply Qb|apply Qk))))
 ((with_reducible apply Sat.fin hs);(with_reducible repeat first|exact Ql|exact Qh|apply Qb|apply Qk))
theorem mk_unr:Does Tryz.prog 42 #[.int .i64 (t:Int),mv.v,.pointer (some ⟨c1,0,none⟩)] (HazR bh ba h*Z2 bh c1)
  (fun v=>optR bh ba (some (.unr ⟨t,0,0,none,none⟩)) v*(HazR bh ba h*Z2 bh c1)):=by
 intro O w F hs
 unfold Z2 at hs ⊢
 simp only[Ma]at hs ⊢
 go_enter Tryz.func42,Tryz.ntmps42
 go_wp2_with (first|((with_reducible apply Zb hs);exact Ii;rfl;(with_reducible repeat first|exact Qh|apply Qk);rfl;rfl;(simp only[Uc,Uz]))|((with_reducible apply Zr hs);rfl;rfl;rfl;clear hs;intro w b hs;(simp only[Uc,Uz])))
 (go_ret)
 refine⟨_,rfl,?_⟩
 refine ifR_iff.2 ⟨_,rfl,?_⟩
 apply unrR_mk
 have hs:=flu_none (ba:=ba) (scan_none (bh:=bh) (ba:=ba) hs)
 ((with_reducible apply Sat.fin hs);(with_reducible repeat first|exact Ql|exact Qh|apply Qb|apply Qk))
theorem mk_pst:Does Tryz.prog 43 #[.int .i64 (t:Int),mv.v,.pointer (some ⟨c1,0,none⟩)] (HazR bh ba h*Z2 bh c1)
  (fun v=>optR bh ba (some (.pst ⟨t,mv.arg,0,none,0,0,none⟩)) v*(HazR bh ba h*Z2 bh c1)):=by
 intro O w F hs
 unfold Z2 at hs ⊢
 simp only[Ma]at hs ⊢
 go_enter Tryz.func43,Tryz.ntmps43
 go_wp2_with (first|((with_reducible apply Zb hs);exact Ii;rfl;(with_reducible repeat first|exact Qh|apply Qk);rfl;rfl;(simp only[Uc,Uz]))|((with_reducible apply Zr hs);rfl;rfl;rfl;clear hs;intro w b hs;(simp only[Uc,Uz])))
 (go_ret)
 refine⟨_,rfl,?_⟩
 refine ifR_iff.2 ⟨_,rfl,?_⟩
 apply pstR_mk
 have hs:=tak_none (ba:=ba) (rtr_none (bh:=bh) (ba:=ba) hs)
 ((with_reducible apply Sat.fin hs);(with_reducible repeat first|exact Ql|exact Qh|apply Qb|apply Qk))
theorem mk_scn (r:Int)(ht:h.held[t]? = some r):Does Tryz.prog 47 #[.int .i64 (t:Int),mv.v,.pointer (some ⟨c1,0,none⟩)] (HazR bh ba h*Z2 bh c1)
  (fun v=>optR bh ba (some (.scn ⟨t,r,6,0,false,fun _=>0,[],none⟩)) v*(HazR bh ba h*Z2 bh c1)):=by
 intro O w F hs
 have hSc:=Lh (haz_scan bh ba h t r ht)
 unfold Z2 at hs ⊢
 simp only[Ma]at hs ⊢
 go_enter Tryz.func47,Tryz.ntmps47
 go_wp2_with (first|(first|((with_reducible apply Zb hs);exact Ii;rfl;(with_reducible repeat first|exact Qh|apply Qk);rfl;rfl;(simp only[Uc,Uz]))|((with_reducible apply Zr hs);rfl;rfl;rfl;clear hs;intro w b hs;(simp only[Uc,Uz])))|(go_at_call 48;((refine(hSc.out).at hs (by (with_reducible repeat first|exact Qh|apply Qk)) ?_);clear hs;intro g w hs;(try simp only[Em,Ma]at hs))))
 (go_ret)
 refine⟨_,rfl,?_⟩
 refine ifR_iff.2 ⟨_,rfl,?_⟩
 ((with_reducible apply Sat.fin hs);(with_reducible repeat first|exact Ql|exact Qh|apply Qb|apply Qk))
theorem mk_rdg (hc:h.c.Ok)(r:Int)(ht:h.held[t]? = some r)(r0:0≤r)(r1:r<h.c.R)(k0:0≤mv.arg)(k1:mv.arg<h.c.Hz):Does Tryz.prog 44 #[.int .i64 (t:Int),mv.v,.pointer (some ⟨c1,0,none⟩)] (HazR bh ba h*Z2 bh c1)
  (fun v=>optR bh ba (some (.rdg ⟨base h.c 9+r*h.c.Hz+mv.arg,0,0,0⟩)) v*(HazR bh ba h*Z2 bh c1)):=by
 intro O w F hs
 have hA:=Lh (haz_addr bh ba h hc t r mv.arg ht r0 r1 k0 k1)
 have hm:0≤r*h.c.Hz:=Int.mul_nonneg r0 (by omega)
 have hb:=(ZD hc 9).1
 have n1:decide (base h.c 9+r*h.c.Hz+mv.arg≥0)=true:=by simp;omega
 unfold Z2 at hs ⊢
 simp only[Ma]at hs ⊢
 go_enter Tryz.func44,Tryz.ntmps44
 go_wp2_with (first|(first|((with_reducible apply Zb hs);exact Ii;rfl;(with_reducible repeat first|exact Qh|apply Qk);rfl;rfl;(simp only[Uc,Uz]))|((with_reducible apply Zr hs);rfl;rfl;rfl;clear hs;intro w b hs;(simp only[Uc,Uz])))|(go_at_call 45;((refine(hA.out).at hs (by (with_reducible repeat first|exact Qh|apply Qk)) ?_);clear hs;intro w hs;(try simp only[Em,Ma]at hs))))
 (go_ret)
 refine⟨_,rfl,?_⟩
 refine ifR_iff.2 ⟨_,rfl,?_⟩
 unfold RdgR
 ((with_reducible apply Sat.fin hs);(with_reducible repeat first|exact Ql|exact Qh|apply Qb|apply Qk))
theorem mk_rdg_no (r:Int)(ht:h.held[t]? = some r)(r0:0≤r)(k0:mv.arg<0∨h.c.Hz≤mv.arg):Does Tryz.prog 44 #[.int .i64 (t:Int),mv.v,.pointer (some ⟨c1,0,none⟩)] (HazR bh ba h*Z2 bh c1)
  (fun v=>optR bh ba none v*(HazR bh ba h*Z2 bh c1)):=by
 intro O w F hs
 have hA:=Lh (haz_addr_no bh ba h t r mv.arg ht r0 k0)
 clear k0
 unfold Z2 at hs ⊢
 simp only[Ma]at hs ⊢
 go_enter Tryz.func44,Tryz.ntmps44
 go_wp2_with (first|(first|((with_reducible apply Zb hs);exact Ii;rfl;(with_reducible repeat first|exact Qh|apply Qk);rfl;rfl;(simp only[Uc,Uz]))|((with_reducible apply Zr hs);rfl;rfl;rfl;clear hs;intro w b hs;(simp only[Uc,Uz])))|(go_at_call 45;((refine(hA.out).at hs (by (with_reducible repeat first|exact Qh|apply Qk)) ?_);clear hs;intro w hs;(try simp only[Em,Ma]at hs))))
 (go_ret)
 refine⟨_,rfl,?_⟩
 refine Zx.2 ⟨rfl,?_⟩
 ((with_reducible apply Sat.fin hs);(with_reducible repeat first|exact Ql|exact Qh|apply Qb|apply Qk))
theorem mk_clr (hc:h.c.Ok)(r:Int)(ht:h.held[t]? = some r)(r0:0≤r)(r1:r<h.c.R)(k0:0≤mv.arg)(k1:mv.arg<h.c.Hz):Does Tryz.prog 46 #[.int .i64 (t:Int),mv.v,.pointer (some ⟨c1,0,none⟩)] (HazR bh ba h*Z2 bh c1)
  (fun v=>optR bh ba (some (.clr (base h.c 9+r*h.c.Hz+mv.arg).toNat)) v*(HazR bh ba h*Z2 bh c1)):=by
 intro O w F hs
 have hA:=Lh (haz_addr bh ba h hc t r mv.arg ht r0 r1 k0 k1)
 have hm:0≤r*h.c.Hz:=Int.mul_nonneg r0 (by omega)
 have hb:=(ZD hc 9).1
 have n1:decide (base h.c 9+r*h.c.Hz+mv.arg≥0)=true:=by simp;omega
 have hn:((base h.c 9+r*h.c.Hz+mv.arg).toNat:Int)=base h.c 9+r*h.c.Hz+mv.arg:=Int.toNat_of_nonneg (by omega)
 unfold Z2 at hs ⊢
 simp only[Ma]at hs ⊢
 go_enter Tryz.func46,Tryz.ntmps46
 go_wp2_with (first|(first|((with_reducible apply Zb hs);exact Ii;rfl;(with_reducible repeat first|exact Qh|apply Qk);rfl;rfl;(simp only[Uc,Uz]))|((with_reducible apply Zr hs);rfl;rfl;rfl;clear hs;intro w b hs;(simp only[Uc,Uz])))|(go_at_call 45;((refine(hA.out).at hs (by (with_reducible repeat first|exact Qh|apply Qk)) ?_);clear hs;intro w hs;(try simp only[Em,Ma]at hs))))
 (go_ret)
 refine⟨_,rfl,?_⟩
 refine ifR_iff.2 ⟨_,rfl,?_⟩
 unfold ClrR
 rw[hn]
 ((with_reducible apply Sat.fin hs);(with_reducible repeat first|exact Ql|exact Qh|apply Qb|apply Qk))
theorem mk_clr_no (r:Int)(ht:h.held[t]? = some r)(r0:0≤r)(k0:mv.arg<0∨h.c.Hz≤mv.arg):Does Tryz.prog 46 #[.int .i64 (t:Int),mv.v,.pointer (some ⟨c1,0,none⟩)] (HazR bh ba h*Z2 bh c1)
  (fun v=>optR bh ba none v*(HazR bh ba h*Z2 bh c1)):=by
 intro O w F hs
 have hA:=Lh (haz_addr_no bh ba h t r mv.arg ht r0 k0)
 clear k0
 unfold Z2 at hs ⊢
 simp only[Ma]at hs ⊢
 go_enter Tryz.func46,Tryz.ntmps46
 go_wp2_with (first|(first|((with_reducible apply Zb hs);exact Ii;rfl;(with_reducible repeat first|exact Qh|apply Qk);rfl;rfl;(simp only[Uc,Uz]))|((with_reducible apply Zr hs);rfl;rfl;rfl;clear hs;intro w b hs;(simp only[Uc,Uz])))|(go_at_call 45;((refine(hA.out).at hs (by (with_reducible repeat first|exact Qh|apply Qk)) ?_);clear hs;intro w hs;(try simp only[Em,Ma]at hs))))
 (go_ret)
 refine⟨_,rfl,?_⟩
 refine Zx.2 ⟨rfl,?_⟩
 ((with_reducible apply Sat.fin hs);(with_reducible repeat first|exact Ql|exact Qh|apply Qb|apply Qk))
def Qi (d:Nat)(u:Value):Zc:=pt d (.cells #[u] 113)
theorem hold_no (d:Nat)(u:Value)(r:Int)(ht:h.held[t]? = some r)(r0:r<0):Does Tryz.prog 39 #[.int .i64 (t:Int),mv.v,.pointer (some ⟨c1,0,none⟩),.pointer (some ⟨d,0,none⟩)] (HazR bh ba h*(Z2 bh c1*Qi d u))
  (fun v=>optR bh ba none v*(HazR bh ba h*(Z2 bh c1*Qi d u))):=by
 intro O w F hs
 have hR:=Lh (QT bh ba h t r ht)
 have n1:decide (r<0)=true:=by simp;omega
 unfold Z2 Qi at hs ⊢
 simp only[Ma]at hs ⊢
 go_enter Tryz.func39,Tryz.ntmps39
 go_wp2_with (first|(first|((with_reducible apply Zb hs);exact Ii;rfl;(with_reducible repeat first|exact Qh|apply Qk);rfl;rfl;(simp only[Uc,Uz]))|((with_reducible apply Zr hs);rfl;rfl;rfl;clear hs;intro w b hs;(simp only[Uc,Uz])))|(go_at_call 40;((refine(hR.out).at hs (by (with_reducible repeat first|exact Qh|apply Qk)) ?_);clear hs;intro w hs;(try simp only[Em,Ma]at hs))))
 (go_ret)
 refine⟨_,rfl,?_⟩
 refine Zx.2 ⟨rfl,?_⟩
 ((with_reducible apply Sat.fin hs);(with_reducible repeat first|exact Ql|exact Qh|apply Qb|apply Qk))
theorem hold_yes (d:Nat)(f:FuncId)(o:Option Qd)(r:Int)(ht:h.held[t]? = some r)(r0:0≤r)
  (hD:Dyn Tryz.prog (Qj (.func (.func f) #[] #[.pointer (some ⟨c1,0,none⟩)]) #[.int .i64 (t:Int),mv.v]) (HazR bh ba h*Z2 bh c1) (fun v=>optR bh ba o v*(HazR bh ba h*Z2 bh c1))) :
  Does Tryz.prog 39 #[.int .i64 (t:Int),mv.v,.pointer (some ⟨c1,0,none⟩),.pointer (some ⟨d,0,none⟩)] (HazR bh ba h*(Z2 bh c1*Qi d (.func (.func f) #[] #[.pointer (some ⟨c1,0,none⟩)])))
  (fun v=>optR bh ba o v*(HazR bh ba h*(Z2 bh c1*Qi d (.func (.func f) #[] #[.pointer (some ⟨c1,0,none⟩)])))):=by
 intro O w F hs
 have hR:=Lh (QT bh ba h t r ht)
 have n1:decide (r<0)=false:=by simp;omega
 unfold Z2 at hD
 have hD:=Lh hD
 unfold Z2 Qi at hs ⊢
 simp only[Ma]at hs ⊢
 go_enter Tryz.func39,Tryz.ntmps39
 go_wp2_with (first|(first|((with_reducible apply Zb hs);exact Ii;rfl;(with_reducible repeat first|exact Qh|apply Qk);rfl;rfl;(simp only[Uc,Uz]))|((with_reducible apply Z3 hs);exact Ii;rfl;(with_reducible repeat first|exact Qh|apply Qk);rfl;rfl;(simp only[Uc,Uz]))|((with_reducible apply Zr hs);rfl;rfl;rfl;clear hs;intro w b hs;(simp only[Uc,Uz])))|(go_at_call 40;((refine(hR.out).at hs (by (with_reducible repeat first|exact Qh|apply Qk)) ?_);clear hs;intro w hs;(try simp only[Em,Ma]at hs)))|((with_reducible apply wl_val2 hs);rfl;rfl;rfl;exact hD.out;(with_reducible repeat first|exact Qh|apply Qb|apply Qk);rfl;clear hs;intro v w hs;(simp only[Ma]at hs);(simp only[Uc,Uz])))
 (go_ret)
 refine⟨_,rfl,?_⟩
 ((with_reducible apply Sat.fin hs);(focus((repeat(first|with_reducible exact Ql|with_reducible exact Qh|with_reducible apply Qb|exact Qh|with_reducible apply Qk));done)))
end
end
end Go.Proofs.YtjagadldibbbbaaGreat
