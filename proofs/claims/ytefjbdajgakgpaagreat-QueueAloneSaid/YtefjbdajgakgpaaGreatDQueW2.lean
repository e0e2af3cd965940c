import Derived.Test.YtefjbdajgakgpaaGreatDQueW
set_option linter.all false
namespace Go.Proofs.YtefjbdajgakgpaaGreat
open Go.RowKit Hp
set_option maxRecDepth 100000
set_option maxHeartbeats 1000000
attribute [local irreducible] Go.Calls Go.wpList
theorem in_link' {c:Cfg}{i:Int}(h0:0≤i)(h1:i<c.Sl):InReg c 13 i:=⟨h0,by omega,h1⟩
theorem in_head' {c:Cfg}:InReg c 4 0:=⟨by omega,by omega,by show(0:Int)<1;omega⟩
theorem in_tail' {c:Cfg}:InReg c 5 0:=⟨by omega,by omega,by show(0:Int)<1;omega⟩
theorem qHz_may {h:Haz}{a:Are}{m:Mch}{th k:Int}(hz:HazOk h a m)(t0:0≤th)(t1:th<h.c.T)(hd:0≤h.held.getD th.toNat 0)(k0:0≤k)(k1:k<h.c.Hz):m.May (qHz h th k):=by
 obtain⟨r,hr,_,hr1⟩:=hz.hold t0 t1
 have hOk:h.c.Ok:=hz.c▸hz.ok.c
 have hrd:h.held.getD th.toNat 0=r:=by rw[Yb,hr];rfl
 rw[hrd]at hd
 have hza:=hz_adr hOk hd hr1 k0 k1
 have e:qHz h th k=(base h.c 9+r*h.c.Hz+k).toNat:=by unfold qHz;rw[hrd]
 have hb:=(ZD hOk 9).1
 have b10:base h.c 10=base h.c 9+h.c.R*h.c.Hz:=rfl
 have b11:base h.c 11=base h.c 10+h.c.Sl:=rfl
 have b12:base h.c 12=base h.c 11+h.c.Sl:=rfl
 have b13:base h.c 13=base h.c 12+h.c.Sl:=rfl
 have b14:base h.c 14=base h.c 13+h.c.Sl:=rfl
 have hS1:=hOk.S1
 refine⟨hz.ok.used,?_,hz.ok.log,hz.ok.ahead⟩
 rw[hz.ok.words,←hz.c,e]
 omega
section
variable (gp bh ba d bx bm:Nat)(h:Haz)(a:Are)(m:Mch)(i t:Nat)(c:Cll)(s:Sea)(p:Pt)
theorem pt_s1 (ok:PtOk h a m p)(h1:p.stage=1)(hcur:ZX m i t c s) :
  Zk Tryz.prog 136 #[.pointer (some ⟨gp,0,none⟩),.pointer (some ⟨d,0,none⟩)] (PtR gp bh ba h.c p*(HazR bh ba h*(AreR ba a*DkR d bx bm m))) (.bool (ptTake a m i t c s p).1)
   (PtR gp bh ba h.c (ptTake a m i t c s p).2.2.2*(HazR bh ba h*(AreR ba (ptTake a m i t c s p).2.1*DkR d bx bm (ptTake a m i t c s p).2.2.1))):=by
 intro O w F hs
 simp only[Ma]at hs
 obtain⟨p1,p2,p3,p4,p5,p6,p7,p8⟩:=p
 simp only[]at h1
 subst h1
 obtain⟨tok,tb1,tb0⟩:=ok.tk rfl
 simp only[]at tok tb1 tb0
 have hR:=fun g=>take_step g ba d bx bm a m p3 tok
 obtain⟨c1,c2,c3⟩:=takeStep_cur a m p3
 have hc0:ZX (Zh a m p3).2.2.1 i t c s:=⟨by rw[c1];exact hcur.cur,by rw[c2];exact hcur.call,by rw[c3];exact hcur.seat⟩
 obtain⟨gt,own,ho,hs⟩:=ptR.1 hs
 unfold ptTake
 simp only[]at hs ⊢
 clear ok tok c1 c2 c3 hcur ho
 generalize Zh a m p3=q at hR hc0 tb1 tb0 ⊢
 obtain⟨q1,q2,q3,q4⟩:=q
 simp only[]at hR hc0 tb1 tb0 ⊢
 have hK:=pt_taken gp bh ba d bx bm h.c q3 i t c s ⟨p1,p2,q4,p4,p5,p6,1,p8⟩ (by simp only[];omega) rfl hc0
 generalize ZV q3 i t c s ⟨p1,p2,q4,p4,p5,p6,1,p8⟩=qq at hK ⊢
 obtain⟨k1,k2,k3⟩:=qq
 have HR:=Lh hR;have HK:=Lh hK;clear hR hK hc0 tb1 tb0
 unfold ptC at hs
 simp only[]at hs
 rw[show ptAt 1=0 from by simp[ptAt]]at hs
 cases q1 with
 | true=>
  simp only[if_true]
  go_enter Tryz.func136,Tryz.ntmps136
  (repeat'(first|((with_reducible apply wl_pick);((simp only[ev,Ue,Uf]);rfl);((simp only[cond_true,cond_false,ev,Ue,Uf]);rfl);(with_reducible exact QX);simp only[Uc,Uz])|(go_big_may;(first|((with_reducible apply Zb hs);exact Ii;rfl;(with_reducible exact Qh);rfl;rfl;simp only[Uc,Uz])|(go_at_call 140;((refine((HR.out gt)).at hs (by (with_reducible repeat first|exact Qh|apply Qb|apply Qk)) ?_);clear hs;intro w hs;(try simp only[Em,Ma]at hs)))|(go_at_call 139;(replace hs:=JC (p:=⟨p1,p2,q4,p4,p5,p6,1,p8⟩) (gt:=gt) (own:=own) (fun hf=>by simp at hf) (hs.fin (by (focus((repeat(first|with_reducible exact Ql|with_reducible apply Qb|exact Qh|with_reducible apply Qk));done)))));(refine(HK.out).at hs (by with_reducible repeat first|exact Qh|apply Qb|apply Qk) ?_;clear hs;intro w hs;(try simp only[Em,Ma]at hs)))))|go_guarded|go_step|(dsimp only)))
  go_ret
  refine⟨by simp,?_⟩
  simp only[Ma]
  (with_reducible apply Sat.fin hs;repeat first|exact Ql|exact Qh|apply Qb|apply Qk)
 | false=>
  simp only[Yn,if_false]
  go_enter Tryz.func136,Tryz.ntmps136
  (repeat'(first|(((with_reducible apply wl_pass2);rfl;rfl;((simp only[ev,Ue,Uf]);rfl);rfl;simp only[Uc,Uz]);(repeat((with_reducible apply wl_pass2);rfl;rfl;((simp only[ev,Ue,Uf]);rfl);rfl;simp only[Uc,Uz])))|((with_reducible apply wl_pick);((simp only[ev,Ue,Uf]);rfl);((simp only[cond_true,cond_false,ev,Ue,Uf]);rfl);(with_reducible exact QX);simp only[Uc,Uz])|(go_big_may;(first|((with_reducible apply Zb hs);exact Ii;rfl;(with_reducible exact Qh);rfl;rfl;simp only[Uc,Uz])|(go_at_call 140;((refine((HR.out gt)).at hs (by (with_reducible repeat first|exact Qh|apply Qb|apply Qk)) ?_);clear hs;intro w hs;(try simp only[Em,Ma]at hs)))))|go_step|(dsimp only)))
  go_ret
  refine⟨by simp,?_⟩
  simp only[Ma]
  apply JC (gt:=gt) (own:=own) (fun hf=>by simp at hf)
  ((with_reducible apply Sat.fin hs);(focus((repeat(first|with_reducible exact Ql|with_reducible exact Qh|with_reducible apply Qb|exact Qh|with_reducible apply Qk));done)))
theorem pt_s2 (ok:PtOk h a m p)(h1:p.stage=2) :
  Zk Tryz.prog 136 #[.pointer (some ⟨gp,0,none⟩),.pointer (some ⟨d,0,none⟩)] (PtR gp bh ba h.c p*(HazR bh ba h*(AreR ba a*DkR d bx bm m))) (.bool false)
   (PtR gp bh ba h.c { p with stage:=3 }*(HazR bh ba h*(AreR ba a*DkR d bx bm (m.store (adr h.c 11 p.slot) (m.word (adr h.c 11 p.slot)) (p.value%18446744073709551616))))):=by
 intro O w F hs
 simp only[Ma]at hs
 obtain⟨p1,p2,p3,p4,p5,p6,p7,p8⟩:=p
 simp only[]at h1
 subst h1
 have hs2:=ptR.1 hs
 clear hs
 obtain⟨gt,own,ho,hs⟩:=hs2
 unfold ptC at hs
 simp only[]at ho hs ⊢
 rw[show ptAt 2=1 from by simp[ptAt]]at hs
 have ho2:=ho (by omega)
 clear ho
 obtain⟨ho,hts⟩:=ho2
 have HO:=Lh (And.intro ho hts)
 have hz:=ok.hz
 have hOk:h.c.Ok:=hz.c▸hz.ok.c
 have hS2:=hOk.S2
 have hTS:=take_slot gt ba p3
 change Zk _ _ _ _ (.int .i64 (Zd p3)) _ at hTS
 rw[hts]at hTS
 have HTS:=Lh hTS
 obtain⟨s0,s1⟩:=ok.slot (by simp)
 simp only[]at s0 s1
 have hm:m.May (adr h.c 11 p4):=by rw[hz.c];exact hz.ok.may (by omega) (by omega) (in_value s0 (hz.c▸s1))
 have he:=adr_eq hOk 11 s0
 obtain⟨b0,b1⟩:=ZD hOk 11
 have hL:=Lh (Z7 d bx bm m _ _ (p2%18446744073709551616) hm.acs)
 have hN:=Lh (word_number p2)
 generalize m.word (adr h.c 11 p4)=u at hL ⊢
 clear ok hz hm hOk ho hts hTS
 go_enter Tryz.func136,Tryz.ntmps136
 (repeat'(first|(go_big_may;(first|(with_reducible first|apply NQ.mk|apply EQ.mk|exact Zg|apply Zj)|((with_reducible apply Zi);rfl;rfl)|((with_reducible apply Zo);rfl)|((with_reducible refine Zn ?_ ?_);focus((with_reducible apply ZI);rfl;rfl))|(show Qd _ _ _;rfl)|((with_reducible apply Zb hs);exact Ii;rfl;(with_reducible repeat first|exact Qh|apply Qk);rfl;rfl;simp only[Uc,Uz])|((with_reducible apply Zv hs);exact Ii;rfl;rfl;(with_reducible repeat first|exact Qh|apply Qk);rfl;exact Vb rfl;rfl;clear hs;intro w hs;simp only[Yg,Uc,Uz]at hs)|(go_at_call 142;(refine(HTS.out).at hs (by with_reducible repeat first|exact Qh|apply Qk) ?_;clear hs;intro w hs;(try simp only[Em,Ma]at hs)))|(go_at_call 143;((refine(hN.out).at hs (by (focus((repeat(with_reducible exact Qn));done))) ?_);clear hs;intro w hs;(try simp only[Em,Ma]at hs)))|(go_at_call 141;(refine(hL.out).at hs (by with_reducible repeat first|exact Qh|apply Qk) ?_;clear hs;intro w hs;(try simp only[Em,Ma]at hs)))|((with_reducible refine Wp (id:=5) (Paz (Pbz [.neu 12,.neu 13,.neu 14,.neu 15,.eff 10 [0,1,2,3,4,5,12,13,14,15],.neu 11,.eff 16 [0,1,2,3,4,5,11],.eff 17 []])) hs rfl ?_ ?_);kernel_rfl;clear hs;intro w hs)))|go_step|(dsimp only)))
 go_ret
 refine⟨rfl,?_⟩
 simp only[Ma]
 apply JC (gt:=gt) (own:=own) (fun _=>HO.out)
 ((with_reducible apply Sat.fin hs);(focus((repeat(first|with_reducible exact Ql|with_reducible exact Qh|with_reducible apply Qb|exact Qh|with_reducible apply Qk));done)))
theorem pt_s3 (ok:PtOk h a m p)(h1:p.stage=3) :
  Zk Tryz.prog 136 #[.pointer (some ⟨gp,0,none⟩),.pointer (some ⟨d,0,none⟩)] (PtR gp bh ba h.c p*(HazR bh ba h*(AreR ba a*DkR d bx bm m))) (.bool false)
   (PtR gp bh ba h.c { p with stage:=4 }*(HazR bh ba h*(AreR ba a*DkR d bx bm (m.store (adr h.c 13 p.slot) (m.word (adr h.c 13 p.slot)) 0)))):=by
 intro O w F hs
 simp only[Ma]at hs
 obtain⟨p1,p2,p3,p4,p5,p6,p7,p8⟩:=p
 simp only[]at h1
 subst h1
 have hs2:=ptR.1 hs
 clear hs
 obtain⟨gt,own,ho,hs⟩:=hs2
 unfold ptC at hs
 simp only[]at ho hs ⊢
 rw[show ptAt 3=2 from by simp[ptAt]]at hs
 have ho2:=ho (by omega)
 clear ho
 obtain⟨ho,hts⟩:=ho2
 have HO:=Lh (And.intro ho hts)
 have hz:=ok.hz
 have hOk:h.c.Ok:=hz.c▸hz.ok.c
 have hS2:=hOk.S2
 have hTS:=take_slot gt ba p3
 change Zk _ _ _ _ (.int .i64 (Zd p3)) _ at hTS
 rw[hts]at hTS
 have HTS:=Lh hTS
 obtain⟨s0,s1⟩:=ok.slot (by simp)
 simp only[]at s0 s1
 have hm:m.May (adr h.c 13 p4):=by rw[hz.c];exact hz.ok.may (by omega) (by omega) (in_link' s0 (hz.c▸s1))
 have he:=adr_eq hOk 13 s0
 obtain⟨b0,b1⟩:=ZD hOk 13
 have hL:=Lh (Z7 d bx bm m _ _ 0 hm.acs)
 generalize m.word (adr h.c 13 p4)=u at hL ⊢
 clear ok hz hm hOk ho hts hTS
 go_enter Tryz.func136,Tryz.ntmps136
 (repeat'(first|(go_big_may;(first|(with_reducible first|apply NQ.mk|apply EQ.mk|exact Zg|apply Zj)|((with_reducible apply Zi);rfl;rfl)|((with_reducible apply Zo);rfl)|((with_reducible refine Zn ?_ ?_);focus((with_reducible apply ZI);rfl;rfl))|(show Qd _ _ _;rfl)|((with_reducible apply Zb hs);exact Ii;rfl;(with_reducible repeat first|exact Qh|apply Qk);rfl;rfl;simp only[Uc,Uz])|((with_reducible apply Zv hs);exact Ii;rfl;rfl;(with_reducible repeat first|exact Qh|apply Qk);rfl;exact Vb rfl;rfl;clear hs;intro w hs;simp only[Yg,Uc,Uz]at hs)|(go_at_call 142;(refine(HTS.out).at hs (by with_reducible repeat first|exact Qh|apply Qk) ?_;clear hs;intro w hs;(try simp only[Em,Ma]at hs)))|(go_at_call 141;(refine(hL.out).at hs (by with_reducible repeat first|exact Qh|apply Qk) ?_;clear hs;intro w hs;(try simp only[Em,Ma]at hs)))|((with_reducible refine Wp (id:=8) (Paz (Pbz [.eff 10 [0,1,2,3,4,5],.neu 11,.eff 12 []])) hs rfl ?_ ?_);kernel_rfl;clear hs;intro w hs)))|go_step|(dsimp only)))
 go_ret
 refine⟨rfl,?_⟩
 simp only[Ma]
 apply JC (gt:=gt) (own:=own) (fun _=>HO.out)
 ((with_reducible apply Sat.fin hs);(focus((repeat(first|with_reducible exact Ql|with_reducible exact Qh|with_reducible apply Qb|exact Qh|with_reducible apply Qk));done)))
theorem pt_s4 (ok:PtOk h a m p)(h1:p.stage=4) :
  Zk Tryz.prog 136 #[.pointer (some ⟨gp,0,none⟩),.pointer (some ⟨d,0,none⟩)] (PtR gp bh ba h.c p*(HazR bh ba h*(AreR ba a*DkR d bx bm m))) (.bool false)
   (PtR gp bh ba h.c { p with t:=m.word (adr h.c 5 0),stage:=5 }*(HazR bh ba h*(AreR ba a*DkR d bx bm (m.load (adr h.c 5 0) (m.word (adr h.c 5 0)))))):=by
 intro O w F hs
 simp only[Ma]at hs
 obtain⟨p1,p2,p3,p4,p5,p6,p7,p8⟩:=p
 simp only[]at h1
 subst h1
 have hs2:=ptR.1 hs
 clear hs
 obtain⟨gt,own,ho,hs⟩:=hs2
 unfold ptC at hs
 simp only[]at ho hs ⊢
 rw[show ptAt 4=3 from by simp[ptAt]]at hs
 have ho2:=ho (by omega)
 clear ho
 obtain⟨ho,hts⟩:=ho2
 have HO:=Lh (And.intro ho hts)
 have hz:=ok.hz
 have hOk:h.c.Ok:=hz.c▸hz.ok.c
 have hS2:=hOk.S2
 have hm:m.May (adr h.c 5 0):=by rw[hz.c];exact hz.ok.may (by omega) (by omega) in_tail'
 have hL:=Lh (Qt d bx bm m _ _ hm.acs)
 generalize m.word (adr h.c 5 0)=u at hL ⊢
 clear ok hz hm hOk ho hts hS2
 go_enter Tryz.func136,Tryz.ntmps136
 (repeat'(first|(go_big_may;(first|((with_reducible apply Zb hs);exact Ii;rfl;(with_reducible exact Qh);rfl;rfl;simp only[Uc,Uz])|((with_reducible apply Zv hs);exact Ii;rfl;rfl;(with_reducible repeat first|exact Qh|apply Qk);rfl;exact Vb rfl;rfl;clear hs;intro w hs;simp only[Yg,Uc,Uz]at hs)|(go_at_call 144;(refine(hL.out).at hs (by with_reducible repeat first|exact Qh|apply Qk) ?_;clear hs;intro w hs;(try simp only[Em,Ma]at hs)))))|go_step|(dsimp only)))
 go_ret
 refine⟨rfl,?_⟩
 simp only[Ma]
 apply JC (gt:=gt) (own:=own) (fun _=>HO.out)
 ((with_reducible apply Sat.fin hs);(focus((repeat(first|with_reducible exact Ql|with_reducible exact Qh|with_reducible apply Qb|exact Qh|with_reducible apply Qk));done)))
theorem pt_s5 (ok:PtOk h a m p)(h1:p.stage=5) :
  Zk Tryz.prog 136 #[.pointer (some ⟨gp,0,none⟩),.pointer (some ⟨d,0,none⟩)] (PtR gp bh ba h.c p*(HazR bh ba h*(AreR ba a*DkR d bx bm m))) (.bool false)
   (PtR gp bh ba h.c { p with stage:=6 }*(HazR bh ba h*(AreR ba a*DkR d bx bm (m.store (qHz h p.thread 0) (m.word (qHz h p.thread 0)) p.t)))):=by
 intro O w F hs
 simp only[Ma]at hs
 obtain⟨p1,p2,p3,p4,p5,p6,p7,p8⟩:=p
 simp only[]at h1
 subst h1
 have hs2:=ptR.1 hs
 clear hs
 obtain⟨gt,own,ho,hs⟩:=hs2
 unfold ptC at hs
 simp only[]at ho hs ⊢
 rw[show ptAt 5=4 from by simp[ptAt]]at hs
 have ho2:=ho (by omega)
 clear ho
 obtain⟨ho,hts⟩:=ho2
 have HO:=Lh (And.intro ho hts)
 have hz:=ok.hz
 have hOk:h.c.Ok:=hz.c▸hz.ok.c
 have hS2:=hOk.S2
 have hm:m.May (qHz h p1 0):=qHz_may hz ok.t0 ok.t1 ok.held (by omega) (by have:=hOk.H1;omega)
 have hE:=ok.hzE
 simp only[]at hE
 subst hE
 have hL:=Lh (Z7 d bx bm m _ _ p5 hm.acs)
 generalize m.word (qHz h p1 0)=u at hL ⊢
 generalize qHz h p1 0=Z at hL hs ⊢
 clear ok hz hm hOk ho hts hS2
 go_enter Tryz.func136,Tryz.ntmps136
 (repeat'(first|(go_big_may;(first|(with_reducible refine NQ.mk ?_)|((with_reducible apply Zi);rfl;rfl)|((with_reducible apply Zo);rfl)|(with_reducible refine EQ.mk ?_ ?_)|(with_reducible exact Zg)|(with_reducible refine Zj ?_)|((with_reducible apply Zb hs);exact Ii;rfl;(with_reducible exact Qh);rfl;rfl;simp only[Uc,Uz])|((with_reducible apply Zv hs);exact Ii;rfl;rfl;(with_reducible repeat first|exact Qh|apply Qk);rfl;exact Vb rfl;rfl;clear hs;intro w hs;simp only[Yg,Uc,Uz]at hs)|(go_at_call 141;(refine(hL.out).at hs (by with_reducible repeat first|exact Qh|apply Qk) ?_;clear hs;intro w hs;(try simp only[Em,Ma]at hs)))|((with_reducible refine Wp (id:=14) (Paz (Pbz [.eff 10 []])) hs rfl ?_ ?_);kernel_rfl;clear hs;intro w hs)))|go_step|(dsimp only)))
 go_ret
 refine⟨rfl,?_⟩
 simp only[Ma]
 apply JC (gt:=gt) (own:=own) (fun _=>HO.out)
 ((with_reducible apply Sat.fin hs);(focus((repeat(first|with_reducible exact Ql|with_reducible exact Qh|with_reducible apply Qb|exact Qh|with_reducible apply Qk));done)))
theorem pt_s6 (ok:PtOk h a m p)(h1:p.stage=6) :
  Zk Tryz.prog 136 #[.pointer (some ⟨gp,0,none⟩),.pointer (some ⟨d,0,none⟩)] (PtR gp bh ba h.c p*(HazR bh ba h*(AreR ba a*DkR d bx bm m))) (.bool false)
   (PtR gp bh ba h.c (if m.word (adr h.c 5 0)=p.t then { p with stage:=7 } else { p with t:=m.word (adr h.c 5 0),stage:=5 })*(HazR bh ba h*(AreR ba a*DkR d bx bm (m.load (adr h.c 5 0) (m.word (adr h.c 5 0)))))):=by
 intro O w F hs
 simp only[Ma]at hs
 obtain⟨p1,p2,p3,p4,p5,p6,p7,p8⟩:=p
 simp only[]at h1
 subst h1
 have hs2:=ptR.1 hs
 clear hs
 obtain⟨gt,own,ho,hs⟩:=hs2
 unfold ptC at hs
 simp only[]at ho hs ⊢
 rw[show ptAt 6=5 from by simp[ptAt]]at hs
 have ho2:=ho (by omega)
 clear ho
 obtain⟨ho,hts⟩:=ho2
 have HO:=Lh (And.intro ho hts)
 have hz:=ok.hz
 have hOk:h.c.Ok:=hz.c▸hz.ok.c
 have hS2:=hOk.S2
 have hm:m.May (adr h.c 5 0):=by rw[hz.c];exact hz.ok.may (by omega) (by omega) in_tail'
 have hL:=Lh (Qt d bx bm m _ _ hm.acs)
 generalize m.word (adr h.c 5 0)=u at hL ⊢
 by_cases hu:u=p5
 ·have hd:(u != p5)=false:=by simpa using hu
  simp only[if_pos hu]
  clear ok hz hm hOk ho hts hS2 hu
  go_enter Tryz.func136,Tryz.ntmps136
  (repeat'(first|(go_big_may;(first|((with_reducible apply Zb hs);exact Ii;rfl;(with_reducible exact Qh);rfl;rfl;simp only[Uc,Uz])|((with_reducible apply Zv hs);exact Ii;rfl;rfl;(with_reducible repeat first|exact Qh|apply Qk);rfl;exact Vb rfl;rfl;clear hs;intro w hs;simp only[Yg,Uc,Uz]at hs)|(go_at_call 144;(refine(hL.out).at hs (by with_reducible repeat first|exact Qh|apply Qk) ?_;clear hs;intro w hs;(try simp only[Em,Ma]at hs)))))|go_step|(dsimp only)))
  go_ret
  refine⟨rfl,?_⟩
  simp only[Ma]
  apply JC (gt:=gt) (own:=own) (fun _=>HO.out)
  ((with_reducible apply Sat.fin hs);(focus((repeat(first|with_reducible exact Ql|with_reducible exact Qh|with_reducible apply Qb|exact Qh|with_reducible apply Qk));done)))
 ·have hd:(u != p5)=true:=by simpa using hu
  simp only[if_neg hu]
  clear ok hz hm hOk ho hts hS2 hu
  go_enter Tryz.func136,Tryz.ntmps136
  (repeat'(first|(go_big_may;(first|((with_reducible apply Zb hs);exact Ii;rfl;(with_reducible exact Qh);rfl;rfl;simp only[Uc,Uz])|((with_reducible apply Zv hs);exact Ii;rfl;rfl;(with_reducible repeat first|exact Qh|apply Qk);rfl;exact Vb rfl;rfl;clear hs;intro w hs;simp only[Yg,Uc,Uz]at hs)|(go_at_call 144;(refine(hL.out).at hs (by with_reducible repeat first|exact Qh|apply Qk) ?_;clear hs;intro w hs;(try simp only[Em,Ma]at hs)))))|go_step|(dsimp only)))
  go_ret
  refine⟨rfl,?_⟩
  simp only[Ma]
  apply JC (gt:=gt) (own:=own) (fun _=>HO.out)
  ((with_reducible apply Sat.fin hs);(focus((repeat(first|with_reducible exact Ql|with_reducible exact Qh|with_reducible apply Qb|exact Qh|with_reducible apply Qk));done)))
theorem pt_s7 (ok:PtOk h a m p)(h1:p.stage=7) :
  Zk Tryz.prog 136 #[.pointer (some ⟨gp,0,none⟩),.pointer (some ⟨d,0,none⟩)] (PtR gp bh ba h.c p*(HazR bh ba h*(AreR ba a*DkR d bx bm m))) (.bool false)
   (PtR gp bh ba h.c (if 0≤m.word (adr h.c 13 (p.t-1))-1 then { p with n:=m.word (adr h.c 13 (p.t-1)),stage:=11 } else { p with n:=m.word (adr h.c 13 (p.t-1)),stage:=8 })*(HazR bh ba h*(AreR ba a*DkR d bx bm (m.load (adr h.c 13 (p.t-1)) (m.word (adr h.c 13 (p.t-1))))))):=by
 intro O w F hs
 simp only[Ma]at hs
 obtain⟨p1,p2,p3,p4,p5,p6,p7,p8⟩:=p
 simp only[]at h1
 subst h1
 have hs2:=ptR.1 hs
 clear hs
 obtain⟨gt,own,ho,hs⟩:=hs2
 unfold ptC at hs
 simp only[]at ho hs ⊢
 rw[show ptAt 7=6 from by simp[ptAt]]at hs
 have ho2:=ho (by omega)
 clear ho
 obtain⟨ho,hts⟩:=ho2
 have HO:=Lh (And.intro ho hts)
 have hz:=ok.hz
 have hOk:h.c.Ok:=hz.c▸hz.ok.c
 have hS2:=hOk.S2
 obtain⟨k0,k1⟩:=ok.t (by simp)
 obtain⟨w0,w1⟩:=ok.wl (by simp)
 simp only[]at k0 k1 w0 w1
 obtain⟨v,hv⟩:∃v,p5-1=v:=⟨_,rfl⟩
 have hS:=Lh (que_slot p5 v (by omega) (by omega) hv)
 rw[hv]at w0 w1
 rw[hv]
 have hm:m.May (adr h.c 13 v):=by rw[hz.c];exact hz.ok.may (by omega) (by omega) (in_link' (by omega) (by rw[←hz.c];omega))
 have he:=adr_eq hOk 13 (i:=v) (by omega)
 obtain⟨b0,b1⟩:=ZD hOk 13
 have v0:0≤v:=by omega
 have v1:v<h.c.Sl:=by omega
 have hL:=Lh (Qt d bx bm m _ _ hm.acs)
 generalize m.word (adr h.c 13 v)=u at hL w0 w1 ⊢
 obtain⟨q,hq⟩:∃q,u-1=q:=⟨_,rfl⟩
 have hS2:=Lh (que_slot u q w0 (by omega) hq)
 rw[hq]
 by_cases hu:0≤q
 ·have hd:decide (q≥0)=true:=by simpa using hu
  have hd2:decide (0≤q)=true:=by simpa using hu
  simp only[if_pos hu]
  clear ok hz hm hOk ho hts hu hv k0 k1 w0 w1 hq
  go_enter Tryz.func136,Tryz.ntmps136
  (repeat'(first|(go_big_may;(first|(with_reducible first|apply NQ.mk|apply EQ.mk|exact Zg|apply Zj)|((with_reducible apply Zi);rfl;rfl)|((with_reducible apply Zo);rfl)|((with_reducible refine Zn ?_ ?_);focus((with_reducible apply ZI);rfl;rfl))|(show Qd _ _ _;rfl)|((with_reducible apply Zb hs);exact Ii;rfl;(with_reducible exact Qh);rfl;rfl;simp only[Uc,Uz])|((with_reducible apply Zv hs);exact Ii;rfl;rfl;(with_reducible repeat first|exact Qh|apply Qk);rfl;exact Vb rfl;rfl;clear hs;intro w hs;simp only[Yg,Uc,Uz]at hs)|(go_at_call 145;first|((refine(hS.out).at hs (by (focus((repeat(with_reducible exact Qn));done))) ?_);clear hs;intro w hs;(try simp only[Em,Ma]at hs))|((refine(hS2.out).at hs (by (focus((repeat(with_reducible exact Qn));done))) ?_);clear hs;intro w hs;(try simp only[Em,Ma]at hs)))|(go_at_call 144;(refine(hL.out).at hs (by with_reducible repeat first|exact Qh|apply Qk) ?_;clear hs;intro w hs;(try simp only[Em,Ma]at hs)))|((with_reducible refine Wp (id:=23) (Paz (Pbz [.neu 10,.eff 11 [0,1,2,3,4,5,6],.neu 12,.eff 13 [0],.neu 14,.neu 15,.eff 16 []])) hs rfl ?_ ?_);kernel_rfl;clear hs;intro w hs)))|go_step|(dsimp only)))
  go_ret
  refine⟨rfl,?_⟩
  simp only[Ma]
  apply JC (gt:=gt) (own:=own) (fun _=>HO.out)
  ((with_reducible apply Sat.fin hs);(focus((repeat(first|with_reducible exact Ql|with_reducible exact Qh|with_reducible apply Qb|exact Qh|with_reducible apply Qk));done)))
 ·have hd:decide (q≥0)=false:=by simpa using hu
  have hd2:decide (0≤q)=false:=by simpa using hu
  simp only[if_neg hu]
  clear ok hz hm hOk ho hts hu hv k0 k1 w0 w1 hq
  go_enter Tryz.func136,Tryz.ntmps136
  (repeat'(first|(go_big_may;(first|(with_reducible first|apply NQ.mk|apply EQ.mk|exact Zg|apply Zj)|((with_reducible apply Zi);rfl;rfl)|((with_reducible apply Zo);rfl)|((with_reducible refine Zn ?_ ?_);focus((with_reducible apply ZI);rfl;rfl))|(show Qd _ _ _;rfl)|((with_reducible apply Zb hs);exact Ii;rfl;(with_reducible exact Qh);rfl;rfl;simp only[Uc,Uz])|((with_reducible apply Zv hs);exact Ii;rfl;rfl;(with_reducible repeat first|exact Qh|apply Qk);rfl;exact Vb rfl;rfl;clear hs;intro w hs;simp only[Yg,Uc,Uz]at hs)|(go_at_call 145;first|((refine(hS.out).at hs (by (focus((repeat(with_reducible exact Qn));done))) ?_);clear hs;intro w hs;(try simp only[Em,Ma]at hs))|((refine(hS2.out).at hs (by (focus((repeat(with_reducible exact Qn));done))) ?_);clear hs;intro w hs;(try simp only[Em,Ma]at hs)))|(go_at_call 144;(refine(hL.out).at hs (by with_reducible repeat first|exact Qh|apply Qk) ?_;clear hs;intro w hs;(try simp only[Em,Ma]at hs)))|((with_reducible refine Wp (id:=23) (Paz (Pbz [.neu 10,.eff 11 [0,1,2,3,4,5,6],.neu 12,.eff 13 [0],.neu 14,.neu 15,.eff 16 []])) hs rfl ?_ ?_);kernel_rfl;clear hs;intro w hs)))|go_step|(dsimp only)))
  go_ret
  refine⟨rfl,?_⟩
  simp only[Ma]
  apply JC (gt:=gt) (own:=own) (fun _=>HO.out)
  ((with_reducible apply Sat.fin hs);(focus((repeat(first|with_reducible exact Ql|with_reducible exact Qh|with_reducible apply Qb|exact Qh|with_reducible apply Qk));done)))
def ptSwap (h:Haz)(a:Are)(m:Mch)(i:Nat)(c:Cll)(p:Pt):Bool×Are×Mch×Pt:=
 let K:=adr h.c 13 (p.t-1)
 if m.word K=0 then
  (false,a.shift p.slot.toNat m.thread 3,((m.swap K (m.word K) 0 (p.slot+1)).point i c m.now).shift p.slot (a.slots.getD p.slot.toNat ⟨0,0⟩).state 3,{ p with stage:=9 })
 else (false,a,m.swap K (m.word K) 0 (p.slot+1),{ p with stage:=4 })
theorem pt_s8 (ok:PtOk h a m p)(h1:p.stage=8)(hcur:ZX m i t c s) :
  Zk Tryz.prog 136 #[.pointer (some ⟨gp,0,none⟩),.pointer (some ⟨d,0,none⟩)] (PtR gp bh ba h.c p*(HazR bh ba h*(AreR ba a*DkR d bx bm m))) (.bool (ptSwap h a m i c p).1)
   (PtR gp bh ba h.c (ptSwap h a m i c p).2.2.2*(HazR bh ba h*(AreR ba (ptSwap h a m i c p).2.1*DkR d bx bm (ptSwap h a m i c p).2.2.1))):=by
 intro O w F hs
 simp only[Ma]at hs
 obtain⟨p1,p2,p3,p4,p5,p6,p7,p8⟩:=p
 simp only[]at h1
 subst h1
 have hs2:=ptR.1 hs
 clear hs
 obtain⟨gt,own,ho,hs⟩:=hs2
 unfold ptC at hs
 simp only[]at ho hs ⊢
 rw[show ptAt 8=7 from by simp[ptAt]]at hs
 have ho2:=ho (by omega)
 clear ho
 obtain⟨ho,hts⟩:=ho2
 have HO:=Lh (And.intro ho hts)
 have hz:=ok.hz
 have hOk:h.c.Ok:=hz.c▸hz.ok.c
 have hS2:=hOk.S2
 unfold ptSwap
 simp only[]
 have hTS:=take_slot gt ba p3
 change Zk _ _ _ _ (.int .i64 (Zd p3)) _ at hTS
 rw[hts]at hTS
 have HTS:=Lh hTS
 obtain⟨k0,k1⟩:=ok.t (by simp)
 obtain⟨w0,w1⟩:=ok.wl (by simp)
 simp only[]at k0 k1 w0 w1
 obtain⟨v,hv⟩:∃v,p5-1=v:=⟨_,rfl⟩
 have hS:=Lh (que_slot p5 v (by omega) (by omega) hv)
 rw[hv]at w0 w1
 rw[hv]
 have hm:m.May (adr h.c 13 v):=by rw[hz.c];exact hz.ok.may (by omega) (by omega) (in_link' (by omega) (by rw[←hz.c];omega))
 have he:=adr_eq hOk 13 (i:=v) (by omega)
 obtain⟨b0,b1⟩:=ZD hOk 13
 have v0:0≤v:=by omega
 have v1:v<h.c.Sl:=by omega
 obtain⟨s0,s1⟩:=ok.slot (by simp)
 simp only[]at s0 s1
 obtain⟨j,rfl⟩:=Int.eq_ofNat_of_zero_le s0
 have hil:j<a.slots.length:=by rw[hz.ok.slots,←hz.c];omega
 have hG:=Lh (que_arena bh ba h)
 rw[ho]at hs
 simp only[Yo]
 have hW:=Jl d bx bm m _ _ 0 (j+1) hm.acs
 generalize m.word (adr h.c 13 v)=u at hW w0 w1 ⊢
 by_cases hu:u=0
 ·have hN:=Lh (desk_now d bx bm (m.swap (adr h.c 13 v) u 0 (j+1)))
  have hP:=Lh (Jx d bx bm (m.swap (adr h.c 13 v) u 0 (j+1)) i t c m.now hcur.cur hcur.call)
  have hSh:=Lh (Jb ba d bx bm a ((m.swap (adr h.c 13 v) u 0 (j+1)).point i c m.now) j (a.slots.getD j ⟨0,0⟩) 3 (by simp[hil]) (by omega) (by omega) (by show m.shifts.length<_;have:=hz.sh;omega))
  simp only[if_pos hu]
  have hu':decide (u=0)=true:=by simpa using hu
  rw[hu']at hW
  have HW:=Lh hW
  clear ok hz hm hOk ho hts hu hu' hv k0 k1 w0 w1 hW hTS s0 s1 hil hcur
  generalize a.slots.getD j ⟨0,0⟩=st at hSh ⊢
  go_enter Tryz.func136,Tryz.ntmps136
  (repeat'(first|(go_big_may;(first|(with_reducible first|apply NQ.mk|apply EQ.mk|exact Zg|apply Zj)|((with_reducible apply Zi);rfl;rfl)|((with_reducible apply Zo);rfl)|((with_reducible refine Zn ?_ ?_);focus((with_reducible apply ZI);rfl;rfl))|(show Qd _ _ _;rfl)|((with_reducible apply Zb hs);exact Ii;rfl;(with_reducible repeat first|exact Qh|apply Qk);rfl;rfl;simp only[Uc,Uz])|((with_reducible apply Zv hs);exact Ii;rfl;rfl;(with_reducible repeat first|exact Qh|apply Qk);rfl;exact Vb rfl;rfl;clear hs;intro w hs;simp only[Yg,Uc,Uz]at hs)|(go_at_call 145;((refine(hS.out).at hs (by (focus((repeat(with_reducible exact Qn));done))) ?_);clear hs;intro w hs;(try simp only[Em,Ma]at hs)))|(go_at_call 146;(refine(HW.out).at hs (by with_reducible repeat first|exact Qh|apply Qk) ?_;clear hs;intro w hs;(try simp only[Em,Ma]at hs)))|(go_at_call 142;(refine(HTS.out).at hs (by with_reducible repeat first|exact Qh|apply Qk) ?_;clear hs;intro w hs;(try simp only[Em,Ma]at hs)))|(go_at_call 148;((refine(hN.out).at hs (by (with_reducible exact Qh)) ?_);clear hs;intro w hs;(try simp only[Em,Ma]at hs)))|(go_at_call 147;((refine(hP.out).at hs (by (with_reducible exact Qh)) ?_);clear hs;intro w hs;(try simp only[Em,Ma]at hs)))|(go_at_call 65;(refine(hG.out).at hs (by with_reducible repeat first|exact Qh|apply Qk) ?_;clear hs;intro w hs;(try simp only[Em,Ma]at hs)))|(go_at_call 149;(refine(hSh.out).at hs (by with_reducible repeat first|exact Qh|apply Qb|apply Qk) ?_;clear hs;intro w hs;(try simp only[Em,Ma]at hs)))|((with_reducible refine Wp (id:=28) (Paz (Pbz [.neu 12,.neu 13,.neu 14,.neu 15,.eff 10 [0,1,2,3,4,5,12,13,14,15],.neu 11,.eff 16 [],.neu 17])) hs rfl ?_ ?_);kernel_rfl;clear hs;intro w hs)|((with_reducible refine Wp (id:=32) (Paz [.neu 6,.neu 7,.neu 8,.neu 9,.neu 10,.eff 5 [6,7,8,9,10],.eff 11 [6],.eff 12 []]) hs rfl ?_ ?_);kernel_rfl;clear hs;intro w hs)))|go_step|(dsimp only)))
  go_ret
  refine⟨rfl,?_⟩
  simp only[Ma]
  apply JC (gt:=gt) (own:=(j:Int)+1) (by exact fun _=>⟨rfl,HO.out.2⟩)
  ((with_reducible apply Sat.fin hs);(focus((repeat(first|with_reducible exact Ql|with_reducible exact Qh|with_reducible apply Qb|exact Qh|with_reducible apply Qk));done)))
 ·simp only[if_neg hu]
  have hu':decide (u=0)=false:=by simpa using hu
  rw[hu']at hW
  have HW:=Lh hW
  clear ok hz hm hOk ho hts hu hu' hv k0 k1 w0 w1 hW hTS s0 s1 hil hcur
  go_enter Tryz.func136,Tryz.ntmps136
  (repeat'(first|(go_big_may;(first|(with_reducible first|apply NQ.mk|apply EQ.mk|exact Zg|apply Zj)|((with_reducible apply Zi);rfl;rfl)|((with_reducible apply Zo);rfl)|((with_reducible refine Zn ?_ ?_);focus((with_reducible apply ZI);rfl;rfl))|(show Qd _ _ _;rfl)|((with_reducible apply Zb hs);exact Ii;rfl;(with_reducible exact Qh);rfl;rfl;simp only[Uc,Uz])|((with_reducible apply Zv hs);exact Ii;rfl;rfl;(with_reducible repeat first|exact Qh|apply Qk);rfl;exact Vb rfl;rfl;clear hs;intro w hs;simp only[Yg,Uc,Uz]at hs)|(go_at_call 145;((refine(hS.out).at hs (by (focus((repeat(with_reducible exact Qn));done))) ?_);clear hs;intro w hs;(try simp only[Em,Ma]at hs)))|(go_at_call 146;(refine(HW.out).at hs (by with_reducible repeat first|exact Qh|apply Qk) ?_;clear hs;intro w hs;(try simp only[Em,Ma]at hs)))|((with_reducible refine Wp (id:=28) (Paz (Pbz [.neu 12,.neu 13,.neu 14,.neu 15,.eff 10 [0,1,2,3,4,5,12,13,14,15],.neu 11,.eff 16 [],.neu 17])) hs rfl ?_ ?_);kernel_rfl;clear hs;intro w hs)))|go_step|(dsimp only)))
  go_ret
  refine⟨rfl,?_⟩
  simp only[Ma]
  apply JC (gt:=gt) (own:=(j:Int)+1) (by exact fun _=>⟨rfl,HO.out.2⟩)
  ((with_reducible apply Sat.fin hs);(focus((repeat(first|with_reducible exact Ql|with_reducible exact Qh|with_reducible apply Qb|exact Qh|with_reducible apply Qk));done)))
theorem pt_s9 (ok:PtOk h a m p)(h1:p.stage=9) :
  Zk Tryz.prog 136 #[.pointer (some ⟨gp,0,none⟩),.pointer (some ⟨d,0,none⟩)] (PtR gp bh ba h.c p*(HazR bh ba h*(AreR ba a*DkR d bx bm m))) (.bool false)
   (PtR gp bh ba h.c { p with stage:=10 }*(HazR bh ba h*(AreR ba a*DkR d bx bm (m.swap (adr h.c 5 0) (m.word (adr h.c 5 0)) p.t (p.slot+1))))):=by
 intro O w F hs
 simp only[Ma]at hs
 obtain⟨p1,p2,p3,p4,p5,p6,p7,p8⟩:=p
 simp only[]at h1
 subst h1
 have hs2:=ptR.1 hs
 clear hs
 obtain⟨gt,own,ho,hs⟩:=hs2
 unfold ptC at hs
 simp only[]at ho hs ⊢
 rw[show ptAt 9=8 from by simp[ptAt]]at hs
 have ho2:=ho (by omega)
 clear ho
 obtain⟨ho,hts⟩:=ho2
 have HO:=Lh (And.intro ho hts)
 have hz:=ok.hz
 have hOk:h.c.Ok:=hz.c▸hz.ok.c
 have hS2:=hOk.S2
 have hm:m.May (adr h.c 5 0):=by rw[hz.c];exact hz.ok.may (by omega) (by omega) in_tail'
 rw[ho]at hs
 have hW:=Lh (Jl d bx bm m _ _ p5 (p4+1) hm.acs)
 generalize m.word (adr h.c 5 0)=u at hW ⊢
 generalize decide (u=p5)=b9 at hW
 clear ok hz hm hOk ho hts hS2
 go_enter Tryz.func136,Tryz.ntmps136
 (repeat'(first|(go_big_may;(first|(with_reducible refine NQ.mk ?_)|((with_reducible apply Zi);rfl;rfl)|((with_reducible apply Zo);rfl)|(with_reducible refine EQ.mk ?_ ?_)|(with_reducible exact Zg)|(with_reducible refine Zj ?_)|((with_reducible apply Zb hs);exact Ii;rfl;(with_reducible exact Qh);rfl;rfl;simp only[Uc,Uz])|((with_reducible apply Zv hs);exact Ii;rfl;rfl;(with_reducible repeat first|exact Qh|apply Qk);rfl;exact Vb rfl;rfl;clear hs;intro w hs;simp only[Yg,Uc,Uz]at hs)|(go_at_call 146;(refine(hW.out).at hs (by with_reducible repeat first|exact Qh|apply Qk) ?_;clear hs;intro w hs;(try simp only[Em,Ma]at hs)))|((with_reducible refine Wp (id:=35) (Paz (Pbz [.neu 10,.neu 11,.neu 12,.neu 13,.eff 14 []])) hs rfl ?_ ?_);kernel_rfl;clear hs;intro w hs)))|go_step|(dsimp only)))
 go_ret
 refine⟨rfl,?_⟩
 simp only[Ma]
 apply JC (gt:=gt) (own:=p4+1) (fun _=>⟨rfl,HO.out.2⟩)
 ((with_reducible apply Sat.fin hs);(focus((repeat(first|with_reducible exact Ql|with_reducible exact Qh|with_reducible apply Qb|exact Qh|with_reducible apply Qk));done)))
theorem pt_s10 (ok:PtOk h a m p)(h1:p.stage=10)(hcur:ZX m i t c s) :
  Zk Tryz.prog 136 #[.pointer (some ⟨gp,0,none⟩),.pointer (some ⟨d,0,none⟩)] (PtR gp bh ba h.c p*(HazR bh ba h*(AreR ba a*DkR d bx bm m))) (.bool true)
   (PtR gp bh ba h.c p*(HazR bh ba h*(AreR ba a*DkR d bx bm ((m.store (qHz h p.thread 0) (m.word (qHz h p.thread 0)) 0).answer t s 1 0)))):=by
 intro O w F hs
 simp only[Ma]at hs
 obtain⟨p1,p2,p3,p4,p5,p6,p7,p8⟩:=p
 simp only[]at h1
 subst h1
 have hs2:=ptR.1 hs
 clear hs
 obtain⟨gt,own,ho,hs⟩:=hs2
 unfold ptC at hs
 simp only[]at ho hs ⊢
 rw[show ptAt 10=9 from by simp[ptAt]]at hs
 have ho2:=ho (by omega)
 clear ho
 obtain⟨ho,hts⟩:=ho2
 have HO:=Lh (And.intro ho hts)
 have hz:=ok.hz
 have hOk:h.c.Ok:=hz.c▸hz.ok.c
 have hS2:=hOk.S2
 have hm:m.May (qHz h p1 0):=qHz_may hz ok.t0 ok.t1 ok.held (by omega) (by have:=hOk.H1;omega)
 have hE:=ok.hzE
 simp only[]at hE
 subst hE
 have hL:=Lh (Z7 d bx bm m _ _ 0 hm.acs)
 have hA:=Lh (QD d bx bm (m.store (qHz h p1 0) (m.word (qHz h p1 0)) 0) i t s 1 0 hcur.cur hcur.seat)
 generalize m.word (qHz h p1 0)=u at hL hA ⊢
 generalize qHz h p1 0=Z at hL hs hA ⊢
 clear ok hz hm hOk ho hts hS2 hcur
 go_enter Tryz.func136,Tryz.ntmps136
 (repeat'(first|(go_big_may;(first|((with_reducible apply Zb hs);exact Ii;rfl;(with_reducible exact Qh);rfl;rfl;simp only[Uc,Uz])|(go_at_call 141;(refine(hL.out).at hs (by with_reducible repeat first|exact Qh|apply Qk) ?_;clear hs;intro w hs;(try simp only[Em,Ma]at hs)))|(go_at_call 150;((refine(hA.out).at hs (by (with_reducible exact Qh)) ?_);clear hs;intro w hs;(try simp only[Em,Ma]at hs)))))|go_step|(dsimp only)))
 go_ret
 refine⟨rfl,?_⟩
 simp only[Ma]
 apply JC (gt:=gt) (own:=own) (fun _=>HO.out)
 ((with_reducible apply Sat.fin hs);(focus((repeat(first|with_reducible exact Ql|with_reducible exact Qh|with_reducible apply Qb|exact Qh|with_reducible apply Qk));done)))
theorem pt_s11 (ok:PtOk h a m p)(h1:p.stage=11) :
  Zk Tryz.prog 136 #[.pointer (some ⟨gp,0,none⟩),.pointer (some ⟨d,0,none⟩)] (PtR gp bh ba h.c p*(HazR bh ba h*(AreR ba a*DkR d bx bm m))) (.bool false)
   (PtR gp bh ba h.c { p with stage:=4 }*(HazR bh ba h*(AreR ba a*DkR d bx bm (m.swap (adr h.c 5 0) (m.word (adr h.c 5 0)) p.t p.n)))):=by
 intro O w F hs
 simp only[Ma]at hs
 obtain⟨p1,p2,p3,p4,p5,p6,p7,p8⟩:=p
 simp only[]at h1
 subst h1
 have hs2:=ptR.1 hs
 clear hs
 obtain⟨gt,own,ho,hs⟩:=hs2
 unfold ptC at hs
 simp only[]at ho hs ⊢
 rw[show ptAt 11=10 from by simp[ptAt]]at hs
 have ho2:=ho (by omega)
 clear ho
 obtain⟨ho,hts⟩:=ho2
 have HO:=Lh (And.intro ho hts)
 have hz:=ok.hz
 have hOk:h.c.Ok:=hz.c▸hz.ok.c
 have hS2:=hOk.S2
 have hm:m.May (adr h.c 5 0):=by rw[hz.c];exact hz.ok.may (by omega) (by omega) in_tail'
 have hW:=Lh (Jl d bx bm m _ _ p5 p6 hm.acs)
 generalize m.word (adr h.c 5 0)=u at hW ⊢
 generalize decide (u=p5)=b9 at hW
 clear ok hz hm hOk ho hts hS2
 go_enter Tryz.func136,Tryz.ntmps136
 (repeat'(first|(go_big_may;(first|(with_reducible refine NQ.mk ?_)|((with_reducible apply Zi);rfl;rfl)|((with_reducible apply Zo);rfl)|(with_reducible refine EQ.mk ?_ ?_)|(with_reducible exact Zg)|(with_reducible refine Zj ?_)|((with_reducible apply Zb hs);exact Ii;rfl;(with_reducible exact Qh);rfl;rfl;simp only[Uc,Uz])|((with_reducible apply Zv hs);exact Ii;rfl;rfl;(with_reducible repeat first|exact Qh|apply Qk);rfl;exact Vb rfl;rfl;clear hs;intro w hs;simp only[Yg,Uc,Uz]at hs)|(go_at_call 146;(refine(hW.out).at hs (by with_reducible repeat first|exact Qh|apply Qk) ?_;clear hs;intro w hs;(try simp only[Em,Ma]at hs)))|((with_reducible refine Wp (id:=42) (Paz (Pbz [.neu 10,.neu 11,.neu 12,.neu 13,.eff 14 []])) hs rfl ?_ ?_);kernel_rfl;clear hs;intro w hs)))|go_step|(dsimp only)))
 go_ret
 refine⟨rfl,?_⟩
 simp only[Ma]
 apply JC (gt:=gt) (own:=own) (fun _=>HO.out)
 ((with_reducible apply Sat.fin hs);(focus((repeat(first|with_reducible exact Ql|with_reducible exact Qh|with_reducible apply Qb|exact Qh|with_reducible apply Qk));done)))
theorem pt_step (ok:PtOk h a m p)(hcur:ZX m i t c s) :
  Zk Tryz.prog 136 #[.pointer (some ⟨gp,0,none⟩),.pointer (some ⟨d,0,none⟩)] (PtR gp bh ba h.c p*(HazR bh ba h*(AreR ba a*DkR d bx bm m))) (.bool (Qc h a m i t c s p).1)
   (PtR gp bh ba h.c (Qc h a m i t c s p).2.2.2*(HazR bh ba h*(AreR ba (Qc h a m i t c s p).2.1*DkR d bx bm (Qc h a m i t c s p).2.2.1))):=by
 unfold Qc
 simp only[]
 have hst:=ok.stage
 by_cases e1:p.stage=1
 ·rw[if_pos e1]
  exact pt_s1 gp bh ba d bx bm h a m i t c s p ok e1 hcur
 rw[if_neg e1]
 by_cases e2:p.stage=2
 ·rw[if_pos e2]
  exact pt_s2 gp bh ba d bx bm h a m  p ok e2
 rw[if_neg e2]
 by_cases e3:p.stage=3
 ·rw[if_pos e3]
  exact pt_s3 gp bh ba d bx bm h a m  p ok e3
 rw[if_neg e3]
 by_cases e4:p.stage=4
 ·rw[if_pos e4]
  exact pt_s4 gp bh ba d bx bm h a m  p ok e4
 rw[if_neg e4]
 by_cases e5:p.stage=5
 ·rw[if_pos e5]
  exact pt_s5 gp bh ba d bx bm h a m  p ok e5
 rw[if_neg e5]
 by_cases e6:p.stage=6
 ·rw[if_pos e6]
  exact pt_s6 gp bh ba d bx bm h a m  p ok e6
 rw[if_neg e6]
 by_cases e7:p.stage=7
 ·rw[if_pos e7]
  exact pt_s7 gp bh ba d bx bm h a m  p ok e7
 rw[if_neg e7]
 by_cases e8:p.stage=8
 ·rw[if_pos e8]
  have:=pt_s8 gp bh ba d bx bm h a m i t c s p ok e8 hcur
  unfold ptSwap at this
  exact this
 rw[if_neg e8]
 by_cases e9:p.stage=9
 ·rw[if_pos e9]
  exact pt_s9 gp bh ba d bx bm h a m  p ok e9
 rw[if_neg e9]
 by_cases e10:p.stage=10
 ·rw[if_pos e10]
  exact pt_s10 gp bh ba d bx bm h a m i t c s p ok e10 hcur
 rw[if_neg e10]
 exact pt_s11 gp bh ba d bx bm h a m p ok (by omega)
end
end Go.Proofs.YtefjbdajgakgpaaGreat
