import Derived.Test.YtefjbdajgakgpaaGreatDQueV
set_option linter.all false
namespace Go.Proofs.YtefjbdajgakgpaaGreat
open Go.RowKit Hp
set_option maxRecDepth 100000
set_option maxHeartbeats 1000000
attribute [local irreducible] Go.Calls Go.wpList
section
variable (gp bh ba d bx bm:Nat)(h:Haz)(a:Are)(m:Mch)(i t:Nat)(c:Cll)(s:Sea)(p:Gt)
theorem gt_e9 (ok:GtOk h a m p)(h1:p.stage=9) :
  Zk Tryz.prog 170 #[.pointer (some ⟨gp,0,none⟩),.pointer (some ⟨d,0,none⟩)] (GtR gp bh ba h.c p*(HazR bh ba h*(AreR ba a*DkR d bx bm m))) (.bool false)
   (GtR gp bh ba h.c { p with value:=wrap64 (m.word (adr h.c 11 (p.n-1))),stage:=10 }*(HazR bh ba h*(AreR ba a*DkR d bx bm (m.load (adr h.c 11 (p.n-1)) (m.word (adr h.c 11 (p.n-1))))))):=by
 intro O w F hs
 simp only[Ma]at hs
 have hz:=ok.hz
 have hOk:h.c.Ok:=hz.c▸hz.ok.c
 have hS2:=hOk.S2
 obtain⟨p1,p2,p3,p4,p5,p6,p7,p8,p9,p10,p11⟩:=p
 simp only[]at h1
 subst h1
 obtain⟨k0,k1⟩:=ok.n (by simp) (by simp)
 simp only[]at k0 k1
 obtain⟨v,hv⟩:∃v,p4-1=v:=⟨_,rfl⟩
 have hS:=Lh (que_slot p4 v (by omega) (by omega) hv)
 simp only[hv]
 have hm:m.May (adr h.c 11 v):=by rw[hz.c];exact hz.ok.may (by omega) (by omega) (in_value (by omega) (by rw[←hz.c];omega))
 have he:=adr_eq hOk 11 (i:=v) (by omega)
 obtain⟨b0,b1⟩:=ZD hOk 11
 have v0:0≤v:=by omega
 have v1:v<h.c.Sl:=by omega
 have hL:=Lh (Qt d bx bm m _ _ hm.acs)
 have hV:=Lh (word_value (m.word (adr h.c 11 v)))
 generalize m.word (adr h.c 11 v)=u at hL hV ⊢
 generalize wrap64 u=u9 at hV ⊢
 obtain⟨vr,hs⟩:=gtR.1 hs
 simp only[]at hs ⊢
 clear ok hz hm hOk hv k0 k1
 go_enter Tryz.func170,Tryz.ntmps170
 (repeat'(first|(go_big_may;(first|(with_reducible first|apply NQ.mk|apply EQ.mk|exact Zg|apply Zj)|((with_reducible apply Zi);rfl;rfl)|((with_reducible apply Zo);rfl)|((with_reducible refine Zn ?_ ?_);focus((with_reducible apply ZI);rfl;rfl))|(show Qd _ _ _;rfl)|((with_reducible apply Zb hs);exact Ii;rfl;(with_reducible exact Qh);rfl;rfl;simp only[Uc,Uz])|((with_reducible apply Zv hs);exact Ii;rfl;rfl;(with_reducible repeat first|exact Qh|apply Qk);rfl;exact Vb rfl;rfl;clear hs;intro w hs;simp only[Yg,Uc,Uz]at hs)|(go_at_call 145;((refine(hS.out).at hs (by (focus((repeat(with_reducible exact Qn));done))) ?_);clear hs;intro w hs;(try simp only[Em,Ma]at hs)))|(go_at_call 144;(refine(hL.out).at hs (by with_reducible repeat first|exact Qh|apply Qk) ?_;clear hs;intro w hs;(try simp only[Em,Ma]at hs)))|(go_at_call 171;((refine(hV.out).at hs (by (focus((repeat(with_reducible exact Qn));done))) ?_);clear hs;intro w hs;(try simp only[Em,Ma]at hs)))|((with_reducible refine Wp (id:=3) (Paz (Pbz [.neu 10,.eff 11 [0,1,2,3,4,5,6],.neu 12,.eff 13 [0],.eff 14 [0],.neu 15,.neu 16,.eff 17 []])) hs rfl ?_ ?_);kernel_rfl;clear hs;intro w hs)))|go_step|(dsimp only)))
 go_ret
 refine⟨rfl,?_⟩
 simp only[Ma]
 apply QZ (vr:=vr)
 (with_reducible apply Sat.fin hs;repeat first|exact Ql|exact Qh|apply Qb|apply Qk)
def gtSwap (h:Haz)(a:Are)(m:Mch)(i:Nat)(c:Cll)(g:Gt):Are×Mch×Gt:=
 let H:=adr h.c 4 0
 if m.word H=g.h0 then
  (a.shift (g.h0-1).toNat m.thread 4,((m.swap H (m.word H) g.h0 g.n).point i c m.now).shift (g.h0-1) (a.slots.getD (g.h0-1).toNat ⟨0,0⟩).state 4,{ g with got:=true,stage:=11 })
 else (a,m.swap H (m.word H) g.h0 g.n,{ g with stage:=1 })
theorem gt_e10 (ok:GtOk h a m p)(h1:p.stage=10)(hcur:ZX m i t c s) :
  Zk Tryz.prog 170 #[.pointer (some ⟨gp,0,none⟩),.pointer (some ⟨d,0,none⟩)] (GtR gp bh ba h.c p*(HazR bh ba h*(AreR ba a*DkR d bx bm m))) (.bool false)
   (GtR gp bh ba h.c (gtSwap h a m i c p).2.2*(HazR bh ba h*(AreR ba (gtSwap h a m i c p).1*DkR d bx bm (gtSwap h a m i c p).2.1))):=by
 intro O w F hs
 simp only[Ma]at hs
 have hz:=ok.hz
 have hOk:h.c.Ok:=hz.c▸hz.ok.c
 have hS2:=hOk.S2
 obtain⟨p1,p2,p3,p4,p5,p6,p7,p8,p9,p10,p11⟩:=p
 simp only[]at h1
 subst h1
 unfold gtSwap
 simp only[]
 have hm:m.May (adr h.c 4 0):=by rw[hz.c];exact hz.ok.may (by omega) (by omega) in_head'
 obtain⟨k0,k1⟩:=ok.h0 (by simp)
 simp only[]at k0 k1
 obtain⟨j,hj⟩:=Int.eq_ofNat_of_zero_le (show 0≤p2-1 by omega)
 have hS:=Lh (que_slot p2 j (by omega) (by omega) hj)
 have hil:j<a.slots.length:=by rw[hz.ok.slots,←hz.c];omega
 have hG:=Lh (que_arena bh ba h)
 simp only[hj,Yo]
 have hW:=Jl d bx bm m _ _ p2 p4 hm.acs
 generalize m.word (adr h.c 4 0)=u at hW ⊢
 obtain⟨vr,hs⟩:=gtR.1 hs
 simp only[]at hs ⊢
 by_cases hu:u=p2
 ·have hN:=Lh (desk_now d bx bm (m.swap (adr h.c 4 0) u p2 p4))
  have hP:=Lh (Jx d bx bm (m.swap (adr h.c 4 0) u p2 p4) i t c m.now hcur.cur hcur.call)
  have hSh:=Lh (Jb ba d bx bm a ((m.swap (adr h.c 4 0) u p2 p4).point i c m.now) j (a.slots.getD j ⟨0,0⟩) 4 (by simp[hil]) (by omega) (by omega) (by show m.shifts.length<_;have:=hz.sh;omega))
  simp only[if_pos hu]
  have hu':decide (u=p2)=true:=by simpa using hu
  rw[hu']at hW
  have HW:=Lh hW
  clear ok hz hm hOk hu hu' hj k0 k1 hW hil hcur
  generalize a.slots.getD j ⟨0,0⟩=st at hSh ⊢
  go_enter Tryz.func170,Tryz.ntmps170
  (repeat'(first|(go_big_may;(first|(with_reducible first|apply NQ.mk|apply EQ.mk|exact Zg|apply Zj)|((with_reducible apply Zi);rfl;rfl)|((with_reducible apply Zo);rfl)|((with_reducible refine Zn ?_ ?_);focus((with_reducible apply ZI);rfl;rfl))|(show Qd _ _ _;rfl)|((with_reducible apply Zb hs);exact Ii;rfl;(with_reducible repeat first|exact Qh|apply Qk);rfl;rfl;simp only[Uc,Uz])|((with_reducible apply Zv hs);exact Ii;rfl;rfl;(with_reducible repeat first|exact Qh|apply Qk);rfl;exact Vb rfl;rfl;clear hs;intro w hs;simp only[Yg,Uc,Uz]at hs)|(go_at_call 146;(refine(HW.out).at hs (by with_reducible repeat first|exact Qh|apply Qk) ?_;clear hs;intro w hs;(try simp only[Em,Ma]at hs)))|(go_at_call 148;((refine(hN.out).at hs (by (with_reducible exact Qh)) ?_);clear hs;intro w hs;(try simp only[Em,Ma]at hs)))|(go_at_call 147;((refine(hP.out).at hs (by (with_reducible exact Qh)) ?_);clear hs;intro w hs;(try simp only[Em,Ma]at hs)))|(go_at_call 65;(refine(hG.out).at hs (by with_reducible repeat first|exact Qh|apply Qk) ?_;clear hs;intro w hs;(try simp only[Em,Ma]at hs)))|(go_at_call 145;((refine(hS.out).at hs (by (focus((repeat(with_reducible exact Qn));done))) ?_);clear hs;intro w hs;(try simp only[Em,Ma]at hs)))|(go_at_call 149;(refine(hSh.out).at hs (by with_reducible repeat first|exact Qh|apply Qb|apply Qk) ?_;clear hs;intro w hs;(try simp only[Em,Ma]at hs)))|((with_reducible refine Wp (id:=6) (Paz (Pbz [.neu 10,.neu 11,.neu 12,.neu 13,.eff 14 [],.neu 15])) hs rfl ?_ ?_);kernel_rfl;clear hs;intro w hs)|((with_reducible refine Wp (id:=10) (Paz [.neu 6,.neu 7,.neu 8,.neu 9,.neu 10,.eff 5 [6,7,8,9,10],.eff 11 [6],.eff 12 []]) hs rfl ?_ ?_);kernel_rfl;clear hs;intro w hs)))|go_step|(dsimp only)))
  go_ret
  refine⟨rfl,?_⟩
  simp only[Ma]
  apply QZ (vr:=vr)
  ((with_reducible apply Sat.fin hs);(focus((repeat(first|with_reducible exact Ql|with_reducible exact Qh|with_reducible apply Qb|exact Qh|with_reducible apply Qk));done)))
 ·simp only[if_neg hu]
  have hu':decide (u=p2)=false:=by simpa using hu
  rw[hu']at hW
  have HW:=Lh hW
  clear ok hz hm hOk hu hu' hj k0 k1 hW hil hcur
  go_enter Tryz.func170,Tryz.ntmps170
  (repeat'(first|(go_big_may;(first|(with_reducible refine NQ.mk ?_)|((with_reducible apply Zi);rfl;rfl)|((with_reducible apply Zo);rfl)|(with_reducible refine EQ.mk ?_ ?_)|(with_reducible exact Zg)|(with_reducible refine Zj ?_)|((with_reducible apply Zb hs);exact Ii;rfl;(with_reducible exact Qh);rfl;rfl;simp only[Uc,Uz])|((with_reducible apply Zv hs);exact Ii;rfl;rfl;(with_reducible repeat first|exact Qh|apply Qk);rfl;exact Vb rfl;rfl;clear hs;intro w hs;simp only[Yg,Uc,Uz]at hs)|(go_at_call 146;(refine(HW.out).at hs (by with_reducible repeat first|exact Qh|apply Qk) ?_;clear hs;intro w hs;(try simp only[Em,Ma]at hs)))|((with_reducible refine Wp (id:=6) (Paz (Pbz [.neu 10,.neu 11,.neu 12,.neu 13,.eff 14 [],.neu 15])) hs rfl ?_ ?_);kernel_rfl;clear hs;intro w hs)))|go_step|(dsimp only)))
  go_ret
  refine⟨rfl,?_⟩
  simp only[Ma]
  apply QZ (vr:=vr)
  (with_reducible apply Sat.fin hs;repeat first|exact Ql|exact Qh|apply Qb|apply Qk)
theorem gt_e11a (ok:GtOk h a m p)(h1:p.stage=11)(h2:p.cleared=0) :
  Zk Tryz.prog 170 #[.pointer (some ⟨gp,0,none⟩),.pointer (some ⟨d,0,none⟩)] (GtR gp bh ba h.c p*(HazR bh ba h*(AreR ba a*DkR d bx bm m))) (.bool false)
   (GtR gp bh ba h.c { p with cleared:=1 }*(HazR bh ba h*(AreR ba a*DkR d bx bm (m.store (qHz h p.thread 0) (m.word (qHz h p.thread 0)) 0)))):=by
 intro O w F hs
 simp only[Ma]at hs
 have hz:=ok.hz
 have hOk:h.c.Ok:=hz.c▸hz.ok.c
 have hS2:=hOk.S2
 obtain⟨p1,p2,p3,p4,p5,p6,p7,p8,p9,p10,p11⟩:=p
 simp only[]at h1
 subst h1
 have hcl:p7=0:=h2
 subst hcl
 have hm:m.May (qHz h p1 0):=qHz_may hz ok.t0 ok.t1 ok.held (by omega) (by have:=hOk.H1;omega)
 have hE:=ok.hzE0
 simp only[]at hE
 subst hE
 have hL:=Lh (Z7 d bx bm m _ _ 0 hm.acs)
 generalize m.word (qHz h p1 0)=u at hL ⊢
 obtain⟨vr,hs⟩:=gtR.1 hs
 simp only[]at hs ⊢
 generalize qHz h p1 0=Z at hL hs ⊢
 clear ok hz hm hOk hS2
 go_enter Tryz.func170,Tryz.ntmps170
 (repeat'(first|(go_big_may;(first|(with_reducible refine NQ.mk ?_)|((with_reducible apply Zi);rfl;rfl)|((with_reducible apply Zo);rfl)|(with_reducible refine EQ.mk ?_ ?_)|(with_reducible exact Zg)|(with_reducible refine Zj ?_)|((with_reducible apply Zb hs);exact Ii;rfl;(with_reducible repeat first|exact Qh|apply Qk);rfl;rfl;simp only[Uc,Uz])|((with_reducible apply Zv hs);exact Ii;rfl;rfl;(with_reducible repeat first|exact Qh|apply Qk);rfl;exact Vb rfl;rfl;clear hs;intro w hs;simp only[Yg,Uc,Uz]at hs)|(go_at_call 141;(refine(hL.out).at hs (by with_reducible repeat first|exact Qh|apply Qk) ?_;clear hs;intro w hs;(try simp only[Em,Ma]at hs)))|((with_reducible refine Wp (id:=14) (Paz (Pbz [.eff 10 []])) hs rfl ?_ ?_);kernel_rfl;clear hs;intro w hs)))|go_step|(dsimp only)))
 go_ret
 refine⟨rfl,?_⟩
 simp only[Ma]
 apply QZ (vr:=vr)
 (with_reducible apply Sat.fin hs;repeat first|exact Ql|exact Qh|apply Qb|apply Qk)
theorem gt_e11b (ok:GtOk h a m p)(h1:p.stage=11)(h2:p.cleared=1)(h3:p.got=false) :
  Zk Tryz.prog 170 #[.pointer (some ⟨gp,0,none⟩),.pointer (some ⟨d,0,none⟩)] (GtR gp bh ba h.c p*(HazR bh ba h*(AreR ba a*DkR d bx bm m))) (.bool true)
   (GtR gp bh ba h.c { p with cleared:=2 }*(HazR bh ba h*(AreR ba a*DkR d bx bm (m.store (qHz h p.thread 1) (m.word (qHz h p.thread 1)) 0)))):=by
 intro O w F hs
 simp only[Ma]at hs
 have hz:=ok.hz
 have hOk:h.c.Ok:=hz.c▸hz.ok.c
 have hS2:=hOk.S2
 obtain⟨p1,p2,p3,p4,p5,p6,p7,p8,p9,p10,p11⟩:=p
 simp only[]at h1
 subst h1
 have hcl:p7=1:=h2
 subst hcl
 have hm:m.May (qHz h p1 1):=qHz_may hz ok.t0 ok.t1 ok.held (by omega) (by have:=hOk.H1;omega)
 have hE:=ok.hzE1
 simp only[]at hE
 subst hE
 have hL:=Lh (Z7 d bx bm m _ _ 0 hm.acs)
 have hgo:p6=false:=h3
 subst hgo
 generalize m.word (qHz h p1 1)=u at hL ⊢
 obtain⟨vr,hs⟩:=gtR.1 hs
 simp only[]at hs ⊢
 generalize qHz h p1 1=Z at hL hs ⊢
 clear ok hz hm hOk hS2
 go_enter Tryz.func170,Tryz.ntmps170
 (repeat'(first|(go_big_may;(first|(with_reducible refine NQ.mk ?_)|((with_reducible apply Zi);rfl;rfl)|((with_reducible apply Zo);rfl)|(with_reducible refine EQ.mk ?_ ?_)|(with_reducible exact Zg)|(with_reducible refine Zj ?_)|((with_reducible apply Zb hs);exact Ii;rfl;(with_reducible repeat first|exact Qh|apply Qk);rfl;rfl;simp only[Uc,Uz])|((with_reducible apply Zv hs);exact Ii;rfl;rfl;(with_reducible repeat first|exact Qh|apply Qk);rfl;exact Vb rfl;rfl;clear hs;intro w hs;simp only[Yg,Uc,Uz]at hs)|(go_at_call 141;(refine(hL.out).at hs (by with_reducible repeat first|exact Qh|apply Qk) ?_;clear hs;intro w hs;(try simp only[Em,Ma]at hs)))|((with_reducible refine Wp (id:=14) (Paz (Pbz [.eff 10 []])) hs rfl ?_ ?_);kernel_rfl;clear hs;intro w hs)))|go_step|(dsimp only)))
 go_ret
 refine⟨rfl,?_⟩
 simp only[Ma]
 apply QZ (vr:=vr)
 (with_reducible apply Sat.fin hs;repeat first|exact Ql|exact Qh|apply Qb|apply Qk)
def gtRet (h:Haz)(a:Are)(m:Mch)(t:Nat)(s:Sea)(g:Gt):Bool×Haz×Are×Mch×Gt:=
 let Z:=qHz h g.thread 1
 let q:=Zr h a ((m.store Z (m.word Z) 0).answer t s 2 g.value) ⟨g.thread,g.h0-1,none⟩
 (q.1,q.2.1,q.2.2.1,q.2.2.2.1,{ g with cleared:=2,retire:=some q.2.2.2.2,stage:=12 })
theorem gt_e11c (ok:GtOk h a m p)(h1:p.stage=11)(hcur:ZX m i t c s)(h2:p.cleared=1)(h3:p.got=true) :
  Zk Tryz.prog 170 #[.pointer (some ⟨gp,0,none⟩),.pointer (some ⟨d,0,none⟩)] (GtR gp bh ba h.c p*(HazR bh ba h*(AreR ba a*DkR d bx bm m))) (.bool (gtRet h a m t s p).1)
   (GtR gp bh ba h.c (gtRet h a m t s p).2.2.2.2*(HazR bh ba (gtRet h a m t s p).2.1*(AreR ba (gtRet h a m t s p).2.2.1*DkR d bx bm (gtRet h a m t s p).2.2.2.1))):=by
 intro O w F hs
 simp only[Ma]at hs
 have hz:=ok.hz
 have hOk:h.c.Ok:=hz.c▸hz.ok.c
 have hS2:=hOk.S2
 obtain⟨p1,p2,p3,p4,p5,p6,p7,p8,p9,p10,p11⟩:=p
 simp only[]at h1
 subst h1
 have hcl:p7=1:=h2
 subst hcl
 have hm:m.May (qHz h p1 1):=qHz_may hz ok.t0 ok.t1 ok.held (by omega) (by have:=hOk.H1;omega)
 have hE:=ok.hzE1
 simp only[]at hE
 subst hE
 have hL:=Lh (Z7 d bx bm m _ _ 0 hm.acs)
 have hgo:p6=true:=h3
 subst hgo
 obtain⟨k0,k1⟩:=ok.h0 (by simp)
 simp only[]at k0 k1
 obtain⟨v,hv⟩:∃v,p2-1=v:=⟨_,rfl⟩
 have hS:=Lh (que_slot p2 v (by omega) (by omega) hv)
 unfold gtRet
 simp only[hv]
 have hRt:=Lh (haz_retire bh ba p1 v)
 have hsh:=hz.sh
 have hRR:=fun gr=>retire_ready gr bh ba d bx bm h a ((m.store (qHz h p1 1) (m.word (qHz h p1 1)) 0).answer t s 2 p5) m ⟨p1,v,none⟩ hz (by show m.shifts.length<_;omega) ok.t0 ok.t1 (by simp only[];omega) (by simp only[];omega) ok.held rfl
 have hAn:=Lh (QD d bx bm (m.store (qHz h p1 1) (m.word (qHz h p1 1)) 0) i t s 2 p5 hcur.cur hcur.seat)
 generalize m.word (qHz h p1 1)=u at hL hRR hAn ⊢
 obtain⟨vr,hs⟩:=gtR.1 hs
 simp only[]at hs ⊢
 generalize qHz h p1 1=Z at hL hRR hAn hs ⊢
 have hcf:∃cf,cf=h.c:=⟨_,rfl⟩
 obtain⟨cf,hcf⟩:=hcf
 rw[←hcf]at hs ⊢
 generalize Zr h a ((m.store Z u 0).answer t s 2 p5) ⟨p1,v,none⟩=q at hRR ⊢
 obtain⟨q1,q2,q3,q4,q5⟩:=q
 have HRR:=Lh hRR
 simp only[]
 clear hRR ok hOk hm hcur k0 k1 hsh hv hz hcf hS2
 go_enter Tryz.func170,Tryz.ntmps170
 (repeat'(first|(go_big_may;(first|(with_reducible first|apply NQ.mk|apply EQ.mk|exact Zg|apply Zj)|((with_reducible apply Zi);rfl;rfl)|((with_reducible apply Zo);rfl)|((with_reducible refine Zn ?_ ?_);focus((with_reducible apply ZI);rfl;rfl))|(show Qd _ _ _;rfl)|((with_reducible apply Zb hs);exact Ii;rfl;(with_reducible repeat first|exact Qh|apply Qk);rfl;rfl;simp only[Uc,Uz])|((with_reducible apply Zv hs);exact Ii;rfl;rfl;(with_reducible repeat first|exact Qh|apply Qk);rfl;exact Vb rfl;rfl;clear hs;intro w hs;simp only[Yg,Uc,Uz]at hs)|(go_at_call 141;(refine(hL.out).at hs (by with_reducible repeat first|exact Qh|apply Qk) ?_;clear hs;intro w hs;(try simp only[Em,Ma]at hs)))|(go_at_call 150;(refine(hAn.out).at hs (by with_reducible repeat first|exact Qh|apply Qk) ?_;clear hs;intro w hs;(try simp only[Em,Ma]at hs)))|(go_at_call 145;((refine(hS.out).at hs (by (focus((repeat(with_reducible exact Qn));done))) ?_);clear hs;intro w hs;(try simp only[Em,Ma]at hs)))|(go_at_call 172;((refine(hRt.out).at hs (by (focus((repeat(with_reducible exact Qn));done))) ?_);clear hs;intro g w hs;(try simp only[Em,Ma]at hs)))|(go_at_call 173;((refine((HRR.out g)).at hs (by (with_reducible repeat first|exact Qh|apply Qb|apply Qk)) ?_);clear hs;intro w hs;(try simp only[Em,Ma]at hs)))|((with_reducible refine Wp (id:=14) (Paz (Pbz [.eff 10 []])) hs rfl ?_ ?_);kernel_rfl;clear hs;intro w hs)|((with_reducible refine Wp (id:=21) (Paz (Pbz [.neu 10,.neu 11,.neu 12,.neu 13,.eff 14 [0,1,2,3,4,5,6,7,8,9],.eff 15 [0],.neu 16,.neu 17,.eff 18 []])) hs rfl ?_ ?_);kernel_rfl;clear hs;intro w hs)))|go_step|(dsimp only)))
 go_ret
 refine⟨rfl,?_⟩
 simp only[Ma]
 replace hs:=rtr_get.2 ⟨g,rfl,hs.pull (A:=RetR g bh ba q5) (by (with_reducible exact Qh))⟩
 apply QZ (vr:=.pointer (some ⟨g,0,none⟩))
 (with_reducible apply Sat.fin hs;repeat first|exact Ql|exact Qh|apply Qb|apply Qk)
theorem gt_e12 (ok:GtOk h a m p)(h1:p.stage=12)(r:Ret)(sc:Scn)(e1:p.retire=some r)(e2:r.scan=some sc)(e3:ScanOk h a m sc) :
  Zk Tryz.prog 170 #[.pointer (some ⟨gp,0,none⟩),.pointer (some ⟨d,0,none⟩)] (GtR gp bh ba h.c p*(HazR bh ba h*(AreR ba a*DkR d bx bm m))) (.bool (Zl h a m sc).1)
   (GtR gp bh ba h.c { p with retire:=some { r with scan:=some (Zl h a m sc).2.2.2.2 } }*(HazR bh ba (Zl h a m sc).2.1*(AreR ba (Zl h a m sc).2.2.1*DkR d bx bm (Zl h a m sc).2.2.2.1))):=by
 intro O w F hs
 simp only[Ma]at hs
 obtain⟨p1,p2,p3,p4,p5,p6,p7,p8,p9,p10,p11⟩:=p
 simp only[]at h1 e1
 subst h1 e1
 have hR:=fun gr=>retire_step gr bh ba d bx bm h a m r sc e2 e3
 obtain⟨vr,hs⟩:=gtR.1 hs
 simp only[]at hs ⊢
 obtain⟨gr,rfl,hs⟩:=rtr_get.1 (hs.pull (A:=rtrR bh ba (some r) vr) (by (with_reducible repeat first|exact Qh|apply Qk)))
 have hcf:∃cf,cf=h.c:=⟨_,rfl⟩
 obtain⟨cf,hcf⟩:=hcf
 rw[←hcf]at hs ⊢
 generalize Zl h a m sc=q at hR ⊢
 obtain⟨q1,q2,q3,q4,q5⟩:=q
 simp only[]at hR ⊢
 have HR:=Lh hR
 clear ok e2 e3 hR hcf
 go_enter Tryz.func170,Tryz.ntmps170
 (repeat'(first|(go_big_may;(first|((with_reducible apply Zb hs);exact Ii;rfl;(with_reducible repeat first|exact Qh|apply Qk);rfl;rfl;simp only[Uc,Uz])|(go_at_call 174;((refine((HR.out gr)).at hs (by (with_reducible repeat first|exact Qh|apply Qb|apply Qk)) ?_);clear hs;intro w hs;(try simp only[Em,Ma]at hs)))))|go_step|(dsimp only)))
 go_ret
 refine⟨rfl,?_⟩
 simp only[Ma]
 replace hs:=rtr_get.2 ⟨gr,rfl,hs.pull (A:=RetR gr bh ba { r with scan:=some q5 }) (by (with_reducible exact Qh))⟩
 apply QZ (vr:=.pointer (some ⟨gr,0,none⟩))
 (with_reducible apply Sat.fin hs;repeat first|exact Ql|exact Qh|apply Qb|apply Qk)
theorem gt_key (B:Bool)(X:Zc)(hst:p.stage=9∨p.stage=10∨p.stage=11∨p.stage=12)
  (hE:Zk Tryz.prog 170 #[.pointer (some ⟨gp,0,none⟩),.pointer (some ⟨d,0,none⟩)] (GtR gp bh ba h.c p*(HazR bh ba h*(AreR ba a*DkR d bx bm m))) (.bool B) X) :
  Zk Tryz.prog 168 #[.pointer (some ⟨gp,0,none⟩),.pointer (some ⟨d,0,none⟩)] (GtR gp bh ba h.c p*(HazR bh ba h*(AreR ba a*DkR d bx bm m))) (.bool B) X:=by
 intro O w F hs
 simp only[Ma]at hs
 have HE:=Lh hE
 obtain⟨p1,p2,p3,p4,p5,p6,p7,p8,p9,p10,p11⟩:=p
 simp only[]at hst
 obtain⟨vr,hs⟩:=gtR.1 hs
 simp only[]at hs
 clear hE
 rcases hst with e|e|e|e
 ·subst e
  go_enter Tryz.func168,Tryz.ntmps168
  (repeat'(first|(go_big_may;(first|((with_reducible apply Zb hs);exact Ii;rfl;(with_reducible exact Qh);rfl;rfl;simp only[Uc,Uz])|(go_at_call 170;(replace hs:=QZ (p:=⟨p1,p2,p3,p4,p5,p6,p7,p8,9,p10,p11⟩) (vr:=vr) (hs.fin (by (with_reducible exact Ql))));((refine(HE.out).at hs (by (focus with_reducible (repeat first|exact Qh|apply Qb);done)) ?_);clear hs;intro w hs;(try simp only[Em,Ma]at hs)))))|go_step|(dsimp only)))
  go_ret
  refine⟨rfl,?_⟩
  ((with_reducible apply Sat.fin hs);(with_reducible exact Ql))
 ·subst e
  go_enter Tryz.func168,Tryz.ntmps168
  (repeat'(first|(go_big_may;(first|((with_reducible apply Zb hs);exact Ii;rfl;(with_reducible exact Qh);rfl;rfl;simp only[Uc,Uz])|(go_at_call 170;(replace hs:=QZ (p:=⟨p1,p2,p3,p4,p5,p6,p7,p8,10,p10,p11⟩) (vr:=vr) (hs.fin (by (with_reducible exact Ql))));((refine(HE.out).at hs (by (focus with_reducible (repeat first|exact Qh|apply Qb);done)) ?_);clear hs;intro w hs;(try simp only[Em,Ma]at hs)))))|go_step|(dsimp only)))
  go_ret
  refine⟨rfl,?_⟩
  ((with_reducible apply Sat.fin hs);(with_reducible exact Ql))
 ·subst e
  go_enter Tryz.func168,Tryz.ntmps168
  (repeat'(first|(go_big_may;(first|((with_reducible apply Zb hs);exact Ii;rfl;(with_reducible exact Qh);rfl;rfl;simp only[Uc,Uz])|(go_at_call 170;(replace hs:=QZ (p:=⟨p1,p2,p3,p4,p5,p6,p7,p8,11,p10,p11⟩) (vr:=vr) (hs.fin (by (with_reducible exact Ql))));((refine(HE.out).at hs (by (focus with_reducible (repeat first|exact Qh|apply Qb);done)) ?_);clear hs;intro w hs;(try simp only[Em,Ma]at hs)))))|go_step|(dsimp only)))
  go_ret
  refine⟨rfl,?_⟩
  ((with_reducible apply Sat.fin hs);(with_reducible exact Ql))
 ·subst e
  go_enter Tryz.func168,Tryz.ntmps168
  (repeat'(first|(go_big_may;(first|((with_reducible apply Zb hs);exact Ii;rfl;(with_reducible exact Qh);rfl;rfl;simp only[Uc,Uz])|(go_at_call 170;(replace hs:=QZ (p:=⟨p1,p2,p3,p4,p5,p6,p7,p8,12,p10,p11⟩) (vr:=vr) (hs.fin (by (with_reducible exact Ql))));((refine(HE.out).at hs (by (focus with_reducible (repeat first|exact Qh|apply Qb);done)) ?_);clear hs;intro w hs;(try simp only[Em,Ma]at hs)))))|go_step|(dsimp only)))
  go_ret
  refine⟨rfl,?_⟩
  ((with_reducible apply Sat.fin hs);(with_reducible exact Ql))
theorem gt_step (ok:GtOk h a m p)(hcur:ZX m i t c s) :
  Zk Tryz.prog 168 #[.pointer (some ⟨gp,0,none⟩),.pointer (some ⟨d,0,none⟩)] (GtR gp bh ba h.c p*(HazR bh ba h*(AreR ba a*DkR d bx bm m))) (.bool (Z6 h a m i t c s p).1)
   (GtR gp bh ba h.c (Z6 h a m i t c s p).2.2.2.2*(HazR bh ba (Z6 h a m i t c s p).2.1*(AreR ba (Z6 h a m i t c s p).2.2.1*DkR d bx bm (Z6 h a m i t c s p).2.2.2.1))):=by
 unfold Z6
 simp only[]
 have hst:=ok.stage
 by_cases e1:p.stage=1
 ·rw[if_pos e1]
  exact gt_s1 gp bh ba d bx bm h a m p ok e1
 rw[if_neg e1]
 by_cases e2:p.stage=2
 ·rw[if_pos e2]
  exact gt_s2 gp bh ba d bx bm h a m p ok e2
 rw[if_neg e2]
 by_cases e3:p.stage=3
 ·rw[if_pos e3]
  exact gt_s3 gp bh ba d bx bm h a m p ok e3
 rw[if_neg e3]
 by_cases e4:p.stage=4
 ·rw[if_pos e4]
  exact gt_s4 gp bh ba d bx bm h a m p ok e4
 rw[if_neg e4]
 by_cases e5:p.stage=5
 ·rw[if_pos e5]
  have:=gt_s5 gp bh ba d bx bm h a m i t c s p ok e5 hcur
  unfold gtFollow at this
  simp only[]at this
  split
  ·rename_i hu
   simp only[if_pos hu]at this
   exact this
  ·rename_i hu
   simp only[if_neg hu]at this
   exact this
 rw[if_neg e5]
 by_cases e6:p.stage=6
 ·rw[if_pos e6]
  exact gt_s6 gp bh ba d bx bm h a m p ok e6
 rw[if_neg e6]
 by_cases e7:p.stage=7
 ·rw[if_pos e7]
  by_cases hht:p.h0=p.t
  ·simp only[if_pos hht]
   exact gt_s7a gp bh ba d bx bm h a m p ok e7 hht
  ·simp only[if_neg hht]
   exact gt_s7b gp bh ba d bx bm h a m p ok e7 hht
 rw[if_neg e7]
 by_cases e8:p.stage=8
 ·rw[if_pos e8]
  exact gt_s8 gp bh ba d bx bm h a m p ok e8
 rw[if_neg e8]
 by_cases e9:p.stage=9
 ·rw[if_pos e9]
  exact gt_key gp bh ba d bx bm h a m p _ _ (by omega) (gt_e9 gp bh ba d bx bm h a m p ok e9)
 rw[if_neg e9]
 by_cases e10:p.stage=10
 ·rw[if_pos e10]
  have:=gt_key gp bh ba d bx bm h a m p _ _ (by omega) (gt_e10 gp bh ba d bx bm h a m i t c s p ok e10 hcur)
  unfold gtSwap at this
  simp only[]at this
  split
  ·rename_i hu
   simp only[if_pos hu]at this
   exact this
  ·rename_i hu
   simp only[if_neg hu]at this
   exact this
 rw[if_neg e10]
 by_cases e11:p.stage=11
 ·rw[if_pos e11]
  unfold gtEnd
  simp only[]
  have hcl:=ok.cleared (by omega)
  by_cases hc0:p.cleared=0
  ·have:=gt_key gp bh ba d bx bm h a m p _ _ (by omega) (gt_e11a gp bh ba d bx bm h a m p ok e11 hc0)
   simp only[hc0,Int.zero_add,if_pos (show(1:Int)<2 by omega)]
   exact this
  ·have hc1:p.cleared=1:=by omega
   simp only[hc1,if_neg (show ¬(1:Int)+1<2 by omega),show(1:Int)+1=2 from rfl]
   by_cases hg:p.got=false
   ·simp only[if_pos hg]
    exact gt_key gp bh ba d bx bm h a m p _ _ (by omega) (gt_e11b gp bh ba d bx bm h a m p ok e11 hc1 hg)
   ·simp only[if_neg hg]
    have:=gt_key gp bh ba d bx bm h a m p _ _ (by omega) (gt_e11c gp bh ba d bx bm h a m i t c s p ok e11 hcur hc1 (by simpa using hg))
    unfold gtRet at this
    exact this
 rw[if_neg e11]
 have e12:p.stage=12:=by omega
 obtain⟨r,sc,r1,r2,r3⟩:=ok.ret e12
 rw[r1]
 simp only[r2]
 exact gt_key gp bh ba d bx bm h a m p _ _ (by omega) (gt_e12 gp bh ba d bx bm h a m p ok e12 r sc r1 r2 r3)
end
end Go.Proofs.YtefjbdajgakgpaaGreat
