import Derived.Test.YtefjbdajgakgpaaGreatDQueW2
set_option linter.all false
namespace Go.Proofs.YtefjbdajgakgpaaGreat
open Go.RowKit Hp
set_option maxRecDepth 100000
set_option maxHeartbeats 1000000
attribute [local irreducible] Go.Calls Go.wpList
abbrev gtC (gp bh:Nat)(c:Cfg)(vr:Value)(p:Gt):Zc:=pt gp (.cells #[.pointer (some ⟨bh,0,none⟩),.int .i64 (adr c 4 0:Nat),.int .i64 (adr c 5 0:Nat),.int .i64 (base c 11),.int .i64 (base c 13),.int .i64 p.thread,.int .i64 p.stage,.int .u64 p.h0,.int .u64 p.t,.int .u64 p.n,.int .i64 p.value,.bool p.got,.int .i64 p.hz0,.int .i64 p.hz1,.int .i64 p.cleared,vr] 148)
def GtR (gp bh ba:Nat)(c:Cfg)(p:Gt):Zc:=ex fun vr=>gtC gp bh c vr p*rtrR bh ba p.retire vr
theorem gtR {O w:World}{gp bh ba:Nat}{c:Cfg}{p:Gt}{R:Zc}:Sat O w (GtR gp bh ba c p*R)↔∃vr,Sat O w (gtC gp bh c vr p*(rtrR bh ba p.retire vr*R)):=by
 unfold GtR
 simp only[ZG,Ma]
theorem QZ {O w:World}{gp bh ba:Nat}{c:Cfg}{vr:Value}{p:Gt}{R:Zc}(hs:Sat O w (gtC gp bh c vr p*(rtrR bh ba p.retire vr*R))):Sat O w (GtR gp bh ba c p*R):=gtR.2 ⟨_,hs⟩
attribute [irreducible] GtR
section
variable (gp bh ba d bx bm:Nat)(h:Haz)(a:Are)(m:Mch)(i t:Nat)(c:Cll)(s:Sea)(p:Gt)
theorem gt_ready (hz:HazOk h a m)(t0:0≤p.thread)(t1:p.thread<h.c.T)(hd:0≤h.held.getD p.thread.toNat 0) :
  Zk Tryz.prog 167 #[.pointer (some ⟨gp,0,none⟩),.pointer (some ⟨d,0,none⟩)] (GtR gp bh ba h.c p*HazR bh ba h) (.bool false)
   (GtR gp bh ba h.c { p with stage:=1,hz0:=(qHz h p.thread 0:Int),hz1:=(qHz h p.thread 1:Int) }*HazR bh ba h):=by
 intro O w F hs
 simp only[Ma]at hs
 obtain⟨p1,p2,p3,p4,p5,p6,p7,p8,p9,p10,p11⟩:=p
 simp only[]at t0 t1 hd
 obtain⟨tn,rfl⟩:=Int.eq_ofNat_of_zero_le t0
 obtain⟨r,hr,_,hr1⟩:=hz.hold t0 t1
 rw[Yo]at hr hd
 have hrd:h.held.getD tn 0=r:=by rw[Yb,hr];rfl
 rw[hrd]at hd
 have hOk:h.c.Ok:=hz.c▸hz.ok.c
 have hH1:=hOk.H1
 have hb9:=(ZD hOk 9).1
 have hA0:=haz_addr bh ba h hOk tn r 0 hr hd hr1 (by omega) (by omega)
 have hA1:=haz_addr bh ba h hOk tn r 1 hr hd hr1 (by omega) (by omega)
 have ez:∀k:Int,0≤k→k<h.c.Hz→base h.c 9+r*h.c.Hz+k=((qHz h tn k:Nat):Int):=fun k k0 k1=>by
  have hza:=hz_adr hOk hd hr1 k0 k1
  unfold qHz
  rw[Yo,hrd]
  omega
 rw[ez 0 (by omega) (by omega)]at hA0
 rw[ez 1 (by omega) (by omega)]at hA1
 have HA0:=Lh hA0;have HA1:=Lh hA1
 obtain⟨vr,hs⟩:=gtR.1 hs
 simp only[]at hs ⊢
 clear hz t0 t1 hr hrd hd hr1 hOk hH1 hb9 hA0 hA1 ez
 generalize ((qHz h tn 0:Nat):Int)=Z0 at HA0 ⊢
 generalize ((qHz h tn 1:Nat):Int)=Z1 at HA1 ⊢
 obtain⟨cf,hcf⟩:∃cf,cf=h.c:=⟨_,rfl⟩
 rw[←hcf]at hs ⊢
 clear hcf
 go_enter Tryz.func167,Tryz.ntmps167
 (repeat'(go_step))
 go_loopw [5,6] (fun _ q wr=>∃(k:Nat) (y0 y1:Int),k≤2∧q=.int .i64 (k:Int)∧(1≤k→y0=Z0)∧(2≤k→y1=Z1)∧Sat O wr (gtC gp bh cf vr ⟨tn,p2,p3,p4,p5,p6,p7,p8,p9,y0,y1⟩*(rtrR bh ba p8 vr*(HazR bh ba h*F)))) (fun _ q _=>3-(intOf q).toNat)
 case atStart=>exact⟨0,p10,p11,by omega,rfl,by omega,by omega,by ((with_reducible apply Sat.fin hs);(with_reducible exact Ql))⟩
 case round=>
  obtain⟨k,y0,y1,k2,rfl,e0,e1,hs⟩:=hrel
  unfold gtC at hs
  simp only[]at hs
  by_cases h2:k=2
  ·subst h2
   have e0:=e0 (by omega)
   have e1:=e1 (by omega)
   subst e0 e1
   (repeat'(first|(go_big_may;((with_reducible apply Zv hs);exact Ii;rfl;rfl;(with_reducible exact Qh);rfl;exact Vb rfl;rfl;clear hs;intro w hs;simp only[Yg,Uc,Uz]at hs))|go_step))
   go_ret
   refine⟨rfl,?_⟩
   simp only[Ma]
   apply QZ (vr:=vr)
   ((with_reducible apply Sat.fin hs);(with_reducible exact Ql))
  ·by_cases h1:k=1
   ·subst h1
    have e0:=e0 (by omega)
    subst e0
    clear e1 h2 k2
    (repeat'(first|(go_big_may;(first|(with_reducible first|apply NQ.mk|apply EQ.mk|exact Zg|apply Zj)|((with_reducible apply Zi);rfl;rfl)|((with_reducible apply Zo);rfl)|((with_reducible refine Zn ?_ ?_);focus((with_reducible apply ZI);rfl;rfl))|(show Qd _ _ _;rfl)|((with_reducible apply Zb hs);exact Ii;rfl;(with_reducible exact Qh);rfl;rfl;simp only[Uc,Uz])|((with_reducible apply Zv hs);exact Ii;rfl;rfl;(with_reducible repeat first|exact Qh|apply Qk);rfl;exact Vb rfl;rfl;clear hs;intro w hs;simp only[Yg,Uc,Uz]at hs)|(go_at_call 91;(refine(HA1.out).at hs (by with_reducible repeat first|exact Qh|apply Qk) ?_;clear hs;intro w hs;(try simp only[Em,Ma]at hs)))|((with_reducible refine Wp (id:=4) (Paz (Pbz [.neu 10,.neu 11,.neu 13,.neu 14,.eff 12 [0,1,13,14],.neu 15,.eff 16 []])) hs rfl ?_ ?_);kernel_rfl;clear hs;intro w hs)))|go_step|(dsimp only)))
    go_roundw
    case rel=>exact⟨2,y0,Z1,by omega,rfl,fun _=>rfl,fun _=>rfl,by (with_reducible apply Sat.fin hs;repeat first|exact Ql|exact Qh|apply Qb|apply Qk)⟩
    case measure=>simp[intOf]
   ·have h0:k=0:=by omega
    subst h0
    clear e0 e1 h1 h2 k2
    (repeat'(first|(go_big_may;(first|(with_reducible first|apply NQ.mk|apply EQ.mk|exact Zg|apply Zj)|((with_reducible apply Zi);rfl;rfl)|((with_reducible apply Zo);rfl)|((with_reducible refine Zn ?_ ?_);focus((with_reducible apply ZI);rfl;rfl))|(show Qd _ _ _;rfl)|((with_reducible apply Zb hs);exact Ii;rfl;(with_reducible exact Qh);rfl;rfl;simp only[Uc,Uz])|((with_reducible apply Zv hs);exact Ii;rfl;rfl;(with_reducible repeat first|exact Qh|apply Qk);rfl;exact Vb rfl;rfl;clear hs;intro w hs;simp only[Yg,Uc,Uz]at hs)|(go_at_call 91;(refine(HA0.out).at hs (by with_reducible repeat first|exact Qh|apply Qk) ?_;clear hs;intro w hs;(try simp only[Em,Ma]at hs)))|((with_reducible refine Wp (id:=4) (Paz (Pbz [.neu 10,.neu 11,.neu 13,.neu 14,.eff 12 [0,1,13,14],.neu 15,.eff 16 []])) hs rfl ?_ ?_);kernel_rfl;clear hs;intro w hs)))|go_step|(dsimp only)))
    go_roundw
    case rel=>exact⟨1,Z0,y1,by omega,rfl,fun _=>rfl,by omega,by (with_reducible apply Sat.fin hs;repeat first|exact Ql|exact Qh|apply Qb|apply Qk)⟩
    case measure=>simp[intOf]
theorem gt_same (nx:Int)(hz:HazOk h a m) :
  Zk Tryz.prog 169 #[.pointer (some ⟨gp,0,none⟩),.pointer (some ⟨d,0,none⟩),.int .i64 nx] (GtR gp bh ba h.c p*DkR d bx bm m) (.tuple #[])
   (GtR gp bh ba h.c (if m.word (adr h.c 4 0)=p.h0 then { p with stage:=nx } else { p with h0:=m.word (adr h.c 4 0),stage:=2 })*DkR d bx bm (m.load (adr h.c 4 0) (m.word (adr h.c 4 0)))):=by
 intro O w F hs
 simp only[Ma]at hs
 obtain⟨p1,p2,p3,p4,p5,p6,p7,p8,p9,p10,p11⟩:=p
 have hm:m.May (adr h.c 4 0):=by rw[hz.c];exact hz.ok.may (by omega) (by omega) in_head'
 have hL:=Lh (Qt d bx bm m _ _ hm.acs)
 generalize m.word (adr h.c 4 0)=u at hL ⊢
 obtain⟨vr,hs⟩:=gtR.1 hs
 simp only[]at hs ⊢
 clear hz hm
 by_cases hu:u=p2
 ·have hd:(u != p2)=false:=by simpa using hu
  simp only[if_pos hu]
  clear hu
  go_enter Tryz.func169,Tryz.ntmps169
  (repeat'(first|(go_big_may;(first|((with_reducible apply Zb hs);exact Ii;rfl;(with_reducible exact Qh);rfl;rfl;simp only[Uc,Uz])|((with_reducible apply Zv hs);exact Ii;rfl;rfl;(with_reducible repeat first|exact Qh|apply Qk);rfl;exact Vb rfl;rfl;clear hs;intro w hs;simp only[Yg,Uc,Uz]at hs)|(go_at_call 144;(refine(hL.out).at hs (by with_reducible repeat first|exact Qh|apply Qk) ?_;clear hs;intro w hs;(try simp only[Em,Ma]at hs)))))|go_step|(dsimp only)))
  (go_end0)
  refine⟨rfl,?_⟩
  simp only[Ma]
  apply QZ (vr:=vr)
  (with_reducible apply Sat.fin hs;repeat first|exact Ql|exact Qh|apply Qb|apply Qk)
 ·have hd:(u != p2)=true:=by simpa using hu
  simp only[if_neg hu]
  clear hu
  go_enter Tryz.func169,Tryz.ntmps169
  (repeat'(first|(go_big_may;(first|((with_reducible apply Zb hs);exact Ii;rfl;(with_reducible exact Qh);rfl;rfl;simp only[Uc,Uz])|((with_reducible apply Zv hs);exact Ii;rfl;rfl;(with_reducible repeat first|exact Qh|apply Qk);rfl;exact Vb rfl;rfl;clear hs;intro w hs;simp only[Yg,Uc,Uz]at hs)|(go_at_call 144;(refine(hL.out).at hs (by with_reducible repeat first|exact Qh|apply Qk) ?_;clear hs;intro w hs;(try simp only[Em,Ma]at hs)))))|go_step|(dsimp only)))
  (go_end0)
  refine⟨rfl,?_⟩
  simp only[Ma]
  apply QZ (vr:=vr)
  (with_reducible apply Sat.fin hs;repeat first|exact Ql|exact Qh|apply Qb|apply Qk)
theorem gt_s1 (ok:GtOk h a m p)(h1:p.stage=1) :
  Zk Tryz.prog 168 #[.pointer (some ⟨gp,0,none⟩),.pointer (some ⟨d,0,none⟩)] (GtR gp bh ba h.c p*(HazR bh ba h*(AreR ba a*DkR d bx bm m))) (.bool false)
   (GtR gp bh ba h.c { p with h0:=m.word (adr h.c 4 0),stage:=2 }*(HazR bh ba h*(AreR ba a*DkR d bx bm (m.load (adr h.c 4 0) (m.word (adr h.c 4 0)))))):=by
 intro O w F hs
 simp only[Ma]at hs
 have hz:=ok.hz
 have hOk:h.c.Ok:=hz.c▸hz.ok.c
 have hS2:=hOk.S2
 obtain⟨p1,p2,p3,p4,p5,p6,p7,p8,p9,p10,p11⟩:=p
 simp only[]at h1
 subst h1
 have hm:m.May (adr h.c 4 0):=by rw[hz.c];exact hz.ok.may (by omega) (by omega) in_head'
 have hL:=Lh (Qt d bx bm m _ _ hm.acs)
 generalize m.word (adr h.c 4 0)=u at hL ⊢
 obtain⟨vr,hs⟩:=gtR.1 hs
 simp only[]at hs ⊢
 clear ok hz hm hOk hS2
 go_enter Tryz.func168,Tryz.ntmps168
 (repeat'(first|(go_big_may;(first|((with_reducible apply Zb hs);exact Ii;rfl;(with_reducible exact Qh);rfl;rfl;simp only[Uc,Uz])|((with_reducible apply Zv hs);exact Ii;rfl;rfl;(with_reducible repeat first|exact Qh|apply Qk);rfl;exact Vb rfl;rfl;clear hs;intro w hs;simp only[Yg,Uc,Uz]at hs)|(go_at_call 144;(refine(hL.out).at hs (by with_reducible repeat first|exact Qh|apply Qk) ?_;clear hs;intro w hs;(try simp only[Em,Ma]at hs)))))|go_step|(dsimp only)))
 go_ret
 refine⟨rfl,?_⟩
 simp only[Ma]
 apply QZ (vr:=vr)
 (with_reducible apply Sat.fin hs;repeat first|exact Ql|exact Qh|apply Qb|apply Qk)
theorem gt_s2 (ok:GtOk h a m p)(h1:p.stage=2) :
  Zk Tryz.prog 168 #[.pointer (some ⟨gp,0,none⟩),.pointer (some ⟨d,0,none⟩)] (GtR gp bh ba h.c p*(HazR bh ba h*(AreR ba a*DkR d bx bm m))) (.bool false)
   (GtR gp bh ba h.c { p with stage:=3 }*(HazR bh ba h*(AreR ba a*DkR d bx bm (m.store (qHz h p.thread 0) (m.word (qHz h p.thread 0)) p.h0)))):=by
 intro O w F hs
 simp only[Ma]at hs
 have hz:=ok.hz
 have hOk:h.c.Ok:=hz.c▸hz.ok.c
 have hS2:=hOk.S2
 obtain⟨p1,p2,p3,p4,p5,p6,p7,p8,p9,p10,p11⟩:=p
 simp only[]at h1
 subst h1
 have hm:m.May (qHz h p1 0):=qHz_may hz ok.t0 ok.t1 ok.held (by omega) (by have:=hOk.H1;omega)
 have hE:=ok.hzE0
 simp only[]at hE
 subst hE
 have hL:=Lh (Z7 d bx bm m _ _ p2 hm.acs)
 generalize m.word (qHz h p1 0)=u at hL ⊢
 obtain⟨vr,hs⟩:=gtR.1 hs
 simp only[]at hs ⊢
 generalize qHz h p1 0=Z at hL hs ⊢
 clear ok hz hm hOk hS2
 go_enter Tryz.func168,Tryz.ntmps168
 (repeat'(first|(go_big_may;(first|(with_reducible refine NQ.mk ?_)|((with_reducible apply Zi);rfl;rfl)|((with_reducible apply Zo);rfl)|(with_reducible refine EQ.mk ?_ ?_)|(with_reducible exact Zg)|(with_reducible refine Zj ?_)|((with_reducible apply Zb hs);exact Ii;rfl;(with_reducible exact Qh);rfl;rfl;simp only[Uc,Uz])|((with_reducible apply Zv hs);exact Ii;rfl;rfl;(with_reducible repeat first|exact Qh|apply Qk);rfl;exact Vb rfl;rfl;clear hs;intro w hs;simp only[Yg,Uc,Uz]at hs)|(go_at_call 141;(refine(hL.out).at hs (by with_reducible repeat first|exact Qh|apply Qk) ?_;clear hs;intro w hs;(try simp only[Em,Ma]at hs)))|((with_reducible refine Wp (id:=7) (Paz (Pbz [.eff 10 []])) hs rfl ?_ ?_);kernel_rfl;clear hs;intro w hs)))|go_step|(dsimp only)))
 go_ret
 refine⟨rfl,?_⟩
 simp only[Ma]
 apply QZ (vr:=vr)
 (with_reducible apply Sat.fin hs;repeat first|exact Ql|exact Qh|apply Qb|apply Qk)
theorem gt_s3 (ok:GtOk h a m p)(h1:p.stage=3) :
  Zk Tryz.prog 168 #[.pointer (some ⟨gp,0,none⟩),.pointer (some ⟨d,0,none⟩)] (GtR gp bh ba h.c p*(HazR bh ba h*(AreR ba a*DkR d bx bm m))) (.bool false)
   (GtR gp bh ba h.c (if m.word (adr h.c 4 0)=p.h0 then { p with stage:=4 } else { p with h0:=m.word (adr h.c 4 0),stage:=2 })*(HazR bh ba h*(AreR ba a*DkR d bx bm (m.load (adr h.c 4 0) (m.word (adr h.c 4 0)))))):=by
 intro O w F hs
 simp only[Ma]at hs
 have hS0:=gt_same gp bh ba d bx bm h a m p 4 ok.hz
 generalize (if m.word (adr h.c 4 0)=p.h0 then { p with stage:=4 } else { p with h0:=m.word (adr h.c 4 0),stage:=2 }:Gt)=p' at hS0 ⊢
 generalize m.load (adr h.c 4 0) (m.word (adr h.c 4 0))=m' at hS0 ⊢
 obtain⟨p1,p2,p3,p4,p5,p6,p7,p8,p9,p10,p11⟩:=p
 simp only[]at h1
 subst h1
 have HS:=Lh hS0
 obtain⟨vr,hs⟩:=gtR.1 hs
 simp only[]at hs ⊢
 clear ok hS0
 go_enter Tryz.func168,Tryz.ntmps168
 (repeat'(first|(go_big_may;(first|((with_reducible apply Zb hs);exact Ii;rfl;(with_reducible exact Qh);rfl;rfl;simp only[Uc,Uz])|(go_at_call 169;(replace hs:=QZ (p:=⟨p1,p2,p3,p4,p5,p6,p7,p8,3,p10,p11⟩) (vr:=vr) (hs.fin (by (with_reducible exact Ql))));(refine(HS.out).at hs (by with_reducible repeat first|exact Qh|apply Qb|apply Qk) ?_;clear hs;intro w hs;(try simp only[Em,Ma]at hs)))))|go_step|(dsimp only)))
 go_ret
 refine⟨rfl,?_⟩
 simp only[Ma]
 (with_reducible apply Sat.fin hs;repeat first|exact Ql|exact Qh|apply Qb|apply Qk)
theorem gt_s4 (ok:GtOk h a m p)(h1:p.stage=4) :
  Zk Tryz.prog 168 #[.pointer (some ⟨gp,0,none⟩),.pointer (some ⟨d,0,none⟩)] (GtR gp bh ba h.c p*(HazR bh ba h*(AreR ba a*DkR d bx bm m))) (.bool false)
   (GtR gp bh ba h.c { p with t:=m.word (adr h.c 5 0),stage:=5 }*(HazR bh ba h*(AreR ba a*DkR d bx bm (m.load (adr h.c 5 0) (m.word (adr h.c 5 0)))))):=by
 intro O w F hs
 simp only[Ma]at hs
 have hz:=ok.hz
 have hOk:h.c.Ok:=hz.c▸hz.ok.c
 have hS2:=hOk.S2
 obtain⟨p1,p2,p3,p4,p5,p6,p7,p8,p9,p10,p11⟩:=p
 simp only[]at h1
 subst h1
 have hm:m.May (adr h.c 5 0):=by rw[hz.c];exact hz.ok.may (by omega) (by omega) in_tail'
 have hL:=Lh (Qt d bx bm m _ _ hm.acs)
 generalize m.word (adr h.c 5 0)=u at hL ⊢
 obtain⟨vr,hs⟩:=gtR.1 hs
 simp only[]at hs ⊢
 clear ok hz hm hOk hS2
 go_enter Tryz.func168,Tryz.ntmps168
 (repeat'(first|(go_big_may;(first|((with_reducible apply Zb hs);exact Ii;rfl;(with_reducible exact Qh);rfl;rfl;simp only[Uc,Uz])|((with_reducible apply Zv hs);exact Ii;rfl;rfl;(with_reducible repeat first|exact Qh|apply Qk);rfl;exact Vb rfl;rfl;clear hs;intro w hs;simp only[Yg,Uc,Uz]at hs)|(go_at_call 144;(refine(hL.out).at hs (by with_reducible repeat first|exact Qh|apply Qk) ?_;clear hs;intro w hs;(try simp only[Em,Ma]at hs)))))|go_step|(dsimp only)))
 go_ret
 refine⟨rfl,?_⟩
 simp only[Ma]
 apply QZ (vr:=vr)
 (with_reducible apply Sat.fin hs;repeat first|exact Ql|exact Qh|apply Qb|apply Qk)
def gtFollow (h:Haz)(m:Mch)(i t:Nat)(c:Cll)(s:Sea)(g:Gt):Mch×Gt:=
 let K:=adr h.c 13 (g.h0-1)
 if 0≤m.word K-1 then (m.load K (m.word K),{ g with n:=m.word K,stage:=6 })
 else (((m.load K (m.word K)).point i c m.now).answer t s 3 0,{ g with n:=m.word K,stage:=11 })
theorem gt_s5 (ok:GtOk h a m p)(h1:p.stage=5)(hcur:ZX m i t c s) :
  Zk Tryz.prog 168 #[.pointer (some ⟨gp,0,none⟩),.pointer (some ⟨d,0,none⟩)] (GtR gp bh ba h.c p*(HazR bh ba h*(AreR ba a*DkR d bx bm m))) (.bool false)
   (GtR gp bh ba h.c (gtFollow h m i t c s p).2*(HazR bh ba h*(AreR ba a*DkR d bx bm (gtFollow h m i t c s p).1))):=by
 intro O w F hs
 simp only[Ma]at hs
 have hz:=ok.hz
 have hOk:h.c.Ok:=hz.c▸hz.ok.c
 have hS2:=hOk.S2
 obtain⟨p1,p2,p3,p4,p5,p6,p7,p8,p9,p10,p11⟩:=p
 simp only[]at h1
 subst h1
 unfold gtFollow
 simp only[]
 obtain⟨k0,k1⟩:=ok.h0 (by simp)
 obtain⟨w0,w1⟩:=ok.wl (by simp)
 simp only[]at k0 k1 w0 w1
 obtain⟨v,hv⟩:∃v,p2-1=v:=⟨_,rfl⟩
 have hS:=Lh (que_slot p2 v (by omega) (by omega) hv)
 rw[hv]at w0 w1
 simp only[hv]
 have hm:m.May (adr h.c 13 v):=by rw[hz.c];exact hz.ok.may (by omega) (by omega) (in_link' (by omega) (by rw[←hz.c];omega))
 have he:=adr_eq hOk 13 (i:=v) (by omega)
 obtain⟨b0,b1⟩:=ZD hOk 13
 have v0:0≤v:=by omega
 have v1:v<h.c.Sl:=by omega
 have hL:=Lh (Qt d bx bm m _ _ hm.acs)
 generalize m.word (adr h.c 13 v)=u at hL w0 w1 ⊢
 obtain⟨q,hq⟩:∃q,u-1=q:=⟨_,rfl⟩
 have hSB:=Lh (que_slot u q w0 (by omega) hq)
 simp only[hq]
 obtain⟨vr,hs⟩:=gtR.1 hs
 simp only[]at hs ⊢
 by_cases hu:0≤q
 ·have hd:decide (q<0)=false:=by simpa using hu
  simp only[if_pos hu]
  clear ok hz hm hOk hu hv k0 k1 w0 w1 hq
  go_enter Tryz.func168,Tryz.ntmps168
  (repeat'(first|(go_big_may;(first|(with_reducible first|apply NQ.mk|apply EQ.mk|exact Zg|apply Zj)|((with_reducible apply Zi);rfl;rfl)|((with_reducible apply Zo);rfl)|((with_reducible refine Zn ?_ ?_);focus((with_reducible apply ZI);rfl;rfl))|(show Qd _ _ _;rfl)|((with_reducible apply Zb hs);exact Ii;rfl;(with_reducible exact Qh);rfl;rfl;simp only[Uc,Uz])|((with_reducible apply Zv hs);exact Ii;rfl;rfl;(with_reducible repeat first|exact Qh|apply Qk);rfl;exact Vb rfl;rfl;clear hs;intro w hs;simp only[Yg,Uc,Uz]at hs)|(go_at_call 145;first|((refine(hS.out).at hs (by (focus((repeat(with_reducible exact Qn));done))) ?_);clear hs;intro w hs;(try simp only[Em,Ma]at hs))|((refine(hSB.out).at hs (by (focus((repeat(with_reducible exact Qn));done))) ?_);clear hs;intro w hs;(try simp only[Em,Ma]at hs)))|(go_at_call 144;(refine(hL.out).at hs (by with_reducible repeat first|exact Qh|apply Qk) ?_;clear hs;intro w hs;(try simp only[Em,Ma]at hs)))|((with_reducible refine Wp (id:=15) (Paz (Pbz [.neu 10,.eff 11 [0,1,2,3,4,5,6],.neu 12,.eff 13 [0],.neu 14,.neu 15,.eff 16 []])) hs rfl ?_ ?_);kernel_rfl;clear hs;intro w hs)))|go_step|(dsimp only)))
  go_ret
  refine⟨rfl,?_⟩
  simp only[Ma]
  apply QZ (vr:=vr)
  (with_reducible apply Sat.fin hs;repeat first|exact Ql|exact Qh|apply Qb|apply Qk)
 ·have hd:decide (q<0)=true:=by simpa using hu
  have hN:=Lh (desk_now d bx bm (m.load (adr h.c 13 v) u))
  have hP:=Lh (Jx d bx bm (m.load (adr h.c 13 v) u) i t c m.now hcur.cur hcur.call)
  have hA:=Lh (QD d bx bm ((m.load (adr h.c 13 v) u).point i c m.now) i t s 3 0 hcur.cur hcur.seat)
  simp only[if_neg hu]
  clear ok hz hm hOk hu hv k0 k1 w0 w1 hq hcur
  go_enter Tryz.func168,Tryz.ntmps168
  (repeat'(first|(go_big_may;(first|(with_reducible first|apply NQ.mk|apply EQ.mk|exact Zg|apply Zj)|((with_reducible apply Zi);rfl;rfl)|((with_reducible apply Zo);rfl)|((with_reducible refine Zn ?_ ?_);focus((with_reducible apply ZI);rfl;rfl))|(show Qd _ _ _;rfl)|((with_reducible apply Zb hs);exact Ii;rfl;(with_reducible exact Qh);rfl;rfl;simp only[Uc,Uz])|((with_reducible apply Zv hs);exact Ii;rfl;rfl;(with_reducible repeat first|exact Qh|apply Qk);rfl;exact Vb rfl;rfl;clear hs;intro w hs;simp only[Yg,Uc,Uz]at hs)|(go_at_call 145;first|((refine(hS.out).at hs (by (focus((repeat(with_reducible exact Qn));done))) ?_);clear hs;intro w hs;(try simp only[Em,Ma]at hs))|((refine(hSB.out).at hs (by (focus((repeat(with_reducible exact Qn));done))) ?_);clear hs;intro w hs;(try simp only[Em,Ma]at hs)))|(go_at_call 144;(refine(hL.out).at hs (by with_reducible repeat first|exact Qh|apply Qk) ?_;clear hs;intro w hs;(try simp only[Em,Ma]at hs)))|(go_at_call 148;(refine(hN.out).at hs (by with_reducible repeat first|exact Qh|apply Qk) ?_;clear hs;intro w hs;(try simp only[Em,Ma]at hs)))|(go_at_call 147;((refine(hP.out).at hs (by (with_reducible exact Qh)) ?_);clear hs;intro w hs;(try simp only[Em,Ma]at hs)))|(go_at_call 150;((refine(hA.out).at hs (by (with_reducible exact Qh)) ?_);clear hs;intro w hs;(try simp only[Em,Ma]at hs)))|((with_reducible refine Wp (id:=15) (Paz (Pbz [.neu 10,.eff 11 [0,1,2,3,4,5,6],.neu 12,.eff 13 [0],.neu 14,.neu 15,.eff 16 []])) hs rfl ?_ ?_);kernel_rfl;clear hs;intro w hs)))|go_step|(dsimp only)))
  go_ret
  refine⟨rfl,?_⟩
  simp only[Ma]
  apply QZ (vr:=vr)
  (with_reducible apply Sat.fin hs;repeat first|exact Ql|exact Qh|apply Qb|apply Qk)
theorem gt_s6 (ok:GtOk h a m p)(h1:p.stage=6) :
  Zk Tryz.prog 168 #[.pointer (some ⟨gp,0,none⟩),.pointer (some ⟨d,0,none⟩)] (GtR gp bh ba h.c p*(HazR bh ba h*(AreR ba a*DkR d bx bm m))) (.bool false)
   (GtR gp bh ba h.c { p with stage:=7 }*(HazR bh ba h*(AreR ba a*DkR d bx bm (m.store (qHz h p.thread 1) (m.word (qHz h p.thread 1)) p.n)))):=by
 intro O w F hs
 simp only[Ma]at hs
 have hz:=ok.hz
 have hOk:h.c.Ok:=hz.c▸hz.ok.c
 have hS2:=hOk.S2
 obtain⟨p1,p2,p3,p4,p5,p6,p7,p8,p9,p10,p11⟩:=p
 simp only[]at h1
 subst h1
 have hm:m.May (qHz h p1 1):=qHz_may hz ok.t0 ok.t1 ok.held (by omega) (by have:=hOk.H1;omega)
 have hE:=ok.hzE1
 simp only[]at hE
 subst hE
 have hL:=Lh (Z7 d bx bm m _ _ p4 hm.acs)
 generalize m.word (qHz h p1 1)=u at hL ⊢
 obtain⟨vr,hs⟩:=gtR.1 hs
 simp only[]at hs ⊢
 generalize qHz h p1 1=Z at hL hs ⊢
 clear ok hz hm hOk hS2
 go_enter Tryz.func168,Tryz.ntmps168
 (repeat'(first|(go_big_may;(first|(with_reducible refine NQ.mk ?_)|((with_reducible apply Zi);rfl;rfl)|((with_reducible apply Zo);rfl)|(with_reducible refine EQ.mk ?_ ?_)|(with_reducible exact Zg)|(with_reducible refine Zj ?_)|((with_reducible apply Zb hs);exact Ii;rfl;(with_reducible exact Qh);rfl;rfl;simp only[Uc,Uz])|((with_reducible apply Zv hs);exact Ii;rfl;rfl;(with_reducible repeat first|exact Qh|apply Qk);rfl;exact Vb rfl;rfl;clear hs;intro w hs;simp only[Yg,Uc,Uz]at hs)|(go_at_call 141;(refine(hL.out).at hs (by with_reducible repeat first|exact Qh|apply Qk) ?_;clear hs;intro w hs;(try simp only[Em,Ma]at hs)))|((with_reducible refine Wp (id:=22) (Paz (Pbz [.eff 10 []])) hs rfl ?_ ?_);kernel_rfl;clear hs;intro w hs)))|go_step|(dsimp only)))
 go_ret
 refine⟨rfl,?_⟩
 simp only[Ma]
 apply QZ (vr:=vr)
 (with_reducible apply Sat.fin hs;repeat first|exact Ql|exact Qh|apply Qb|apply Qk)
theorem gt_s7a (ok:GtOk h a m p)(h1:p.stage=7)(hht:p.h0=p.t) :
  Zk Tryz.prog 168 #[.pointer (some ⟨gp,0,none⟩),.pointer (some ⟨d,0,none⟩)] (GtR gp bh ba h.c p*(HazR bh ba h*(AreR ba a*DkR d bx bm m))) (.bool false)
   (GtR gp bh ba h.c (if m.word (adr h.c 4 0)=p.h0 then { p with stage:=8 } else { p with h0:=m.word (adr h.c 4 0),stage:=2 })*(HazR bh ba h*(AreR ba a*DkR d bx bm (m.load (adr h.c 4 0) (m.word (adr h.c 4 0)))))):=by
 intro O w F hs
 simp only[Ma]at hs
 have hS0:=gt_same gp bh ba d bx bm h a m p 8 ok.hz
 generalize (if m.word (adr h.c 4 0)=p.h0 then { p with stage:=8 } else { p with h0:=m.word (adr h.c 4 0),stage:=2 }:Gt)=p' at hS0 ⊢
 generalize m.load (adr h.c 4 0) (m.word (adr h.c 4 0))=m' at hS0 ⊢
 obtain⟨p1,p2,p3,p4,p5,p6,p7,p8,p9,p10,p11⟩:=p
 simp only[]at h1 hht
 subst h1
 have HS:=Lh hS0
 have hd:(p2==p3)=true:=by simpa using hht
 obtain⟨vr,hs⟩:=gtR.1 hs
 simp only[]at hs ⊢
 clear ok hS0 hht
 go_enter Tryz.func168,Tryz.ntmps168
 (repeat'(first|(go_big_may;(first|(with_reducible refine NQ.mk ?_)|((with_reducible apply Zi);rfl;rfl)|(with_reducible refine Zj ?_)|((with_reducible apply Zb hs);exact Ii;rfl;(with_reducible exact Qh);rfl;rfl;simp only[Uc,Uz])|(go_at_call 169;(replace hs:=QZ (p:=⟨p1,p2,p3,p4,p5,p6,p7,p8,7,p10,p11⟩) (vr:=vr) (hs.fin (by (with_reducible exact Ql))));(refine(HS.out).at hs (by with_reducible repeat first|exact Qh|apply Qb|apply Qk) ?_;clear hs;intro w hs;(try simp only[Em,Ma]at hs)))|((with_reducible refine Wp (id:=26) (Paz [.neu 5,.neu 6,.neu 7,.neu 8]) hs rfl ?_ ?_);kernel_rfl;clear hs;intro w hs)))|go_step|(dsimp only)))
 go_ret
 refine⟨rfl,?_⟩
 simp only[Ma]
 (with_reducible apply Sat.fin hs;repeat first|exact Ql|exact Qh|apply Qb|apply Qk)
theorem gt_s7b (ok:GtOk h a m p)(h1:p.stage=7)(hht:¬p.h0=p.t) :
  Zk Tryz.prog 168 #[.pointer (some ⟨gp,0,none⟩),.pointer (some ⟨d,0,none⟩)] (GtR gp bh ba h.c p*(HazR bh ba h*(AreR ba a*DkR d bx bm m))) (.bool false)
   (GtR gp bh ba h.c (if m.word (adr h.c 4 0)=p.h0 then { p with stage:=9 } else { p with h0:=m.word (adr h.c 4 0),stage:=2 })*(HazR bh ba h*(AreR ba a*DkR d bx bm (m.load (adr h.c 4 0) (m.word (adr h.c 4 0)))))):=by
 intro O w F hs
 simp only[Ma]at hs
 have hS0:=gt_same gp bh ba d bx bm h a m p 9 ok.hz
 generalize (if m.word (adr h.c 4 0)=p.h0 then { p with stage:=9 } else { p with h0:=m.word (adr h.c 4 0),stage:=2 }:Gt)=p' at hS0 ⊢
 generalize m.load (adr h.c 4 0) (m.word (adr h.c 4 0))=m' at hS0 ⊢
 obtain⟨p1,p2,p3,p4,p5,p6,p7,p8,p9,p10,p11⟩:=p
 simp only[]at h1 hht
 subst h1
 have HS:=Lh hS0
 have hd:(p2==p3)=false:=by simpa using hht
 obtain⟨vr,hs⟩:=gtR.1 hs
 simp only[]at hs ⊢
 clear ok hS0 hht
 go_enter Tryz.func168,Tryz.ntmps168
 (repeat'(first|(go_big_may;(first|(with_reducible refine NQ.mk ?_)|((with_reducible apply Zi);rfl;rfl)|(with_reducible refine Zj ?_)|((with_reducible apply Zb hs);exact Ii;rfl;(with_reducible exact Qh);rfl;rfl;simp only[Uc,Uz])|(go_at_call 169;(replace hs:=QZ (p:=⟨p1,p2,p3,p4,p5,p6,p7,p8,7,p10,p11⟩) (vr:=vr) (hs.fin (by (with_reducible exact Ql))));(refine(HS.out).at hs (by with_reducible repeat first|exact Qh|apply Qb|apply Qk) ?_;clear hs;intro w hs;(try simp only[Em,Ma]at hs)))|((with_reducible refine Wp (id:=26) (Paz [.neu 5,.neu 6,.neu 7,.neu 8]) hs rfl ?_ ?_);kernel_rfl;clear hs;intro w hs)))|go_step|(dsimp only)))
 go_ret
 refine⟨rfl,?_⟩
 simp only[Ma]
 (with_reducible apply Sat.fin hs;repeat first|exact Ql|exact Qh|apply Qb|apply Qk)
theorem gt_s8 (ok:GtOk h a m p)(h1:p.stage=8) :
  Zk Tryz.prog 168 #[.pointer (some ⟨gp,0,none⟩),.pointer (some ⟨d,0,none⟩)] (GtR gp bh ba h.c p*(HazR bh ba h*(AreR ba a*DkR d bx bm m))) (.bool false)
   (GtR gp bh ba h.c { p with stage:=1 }*(HazR bh ba h*(AreR ba a*DkR d bx bm (m.swap (adr h.c 5 0) (m.word (adr h.c 5 0)) p.t p.n)))):=by
 intro O w F hs
 simp only[Ma]at hs
 have hz:=ok.hz
 have hOk:h.c.Ok:=hz.c▸hz.ok.c
 have hS2:=hOk.S2
 obtain⟨p1,p2,p3,p4,p5,p6,p7,p8,p9,p10,p11⟩:=p
 simp only[]at h1
 subst h1
 have hm:m.May (adr h.c 5 0):=by rw[hz.c];exact hz.ok.may (by omega) (by omega) in_tail'
 have hW:=Lh (Jl d bx bm m _ _ p3 p4 hm.acs)
 generalize m.word (adr h.c 5 0)=u at hW ⊢
 generalize decide (u=p3)=b9 at hW
 obtain⟨vr,hs⟩:=gtR.1 hs
 simp only[]at hs ⊢
 clear ok hz hm hOk hS2
 go_enter Tryz.func168,Tryz.ntmps168
 (repeat'(first|(go_big_may;(first|(with_reducible refine NQ.mk ?_)|((with_reducible apply Zi);rfl;rfl)|((with_reducible apply Zo);rfl)|(with_reducible refine EQ.mk ?_ ?_)|(with_reducible exact Zg)|(with_reducible refine Zj ?_)|((with_reducible apply Zb hs);exact Ii;rfl;(with_reducible exact Qh);rfl;rfl;simp only[Uc,Uz])|((with_reducible apply Zv hs);exact Ii;rfl;rfl;(with_reducible repeat first|exact Qh|apply Qk);rfl;exact Vb rfl;rfl;clear hs;intro w hs;simp only[Yg,Uc,Uz]at hs)|(go_at_call 146;(refine(hW.out).at hs (by with_reducible repeat first|exact Qh|apply Qk) ?_;clear hs;intro w hs;(try simp only[Em,Ma]at hs)))|((with_reducible refine Wp (id:=30) (Paz (Pbz [.neu 10,.neu 11,.neu 12,.neu 13,.eff 14 []])) hs rfl ?_ ?_);kernel_rfl;clear hs;intro w hs)))|go_step|(dsimp only)))
 go_ret
 refine⟨rfl,?_⟩
 simp only[Ma]
 apply QZ (vr:=vr)
 (with_reducible apply Sat.fin hs;repeat first|exact Ql|exact Qh|apply Qb|apply Qk)
end
end Go.Proofs.YtefjbdajgakgpaaGreat
