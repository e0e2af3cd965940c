/-
  The stack's calls: pops.
-/
import Derived.Test.YtjagadldibbbbaaGreatDStkW
set_option linter.all false
namespace Go.Proofs.YtjagadldibbbbaaGreat
open Go.RowKit Hp
set_option maxRecDepth 100000
set_option maxHeartbeats 1000000
attribute [local irreducible] Go.Calls Go.wpList
def poFn (st:Int)(gp:Nat)(vr:Value):Value:=
 if st=1 then fnS 152 gp else if st=2 then fnS 154 gp else if st=3 then fnS 157 gp else if st=4 then fnS 158 gp else if st=5 then fnS 159 gp
 else if st=6 then fnS 160 gp else if st=7 then fnS 161 gp else if st=8 then fnS 156 gp else if st=9 then .func (.func 133) #[vr] #[] else .nilFunc
theorem poFn1 (g:Nat)(v:Value):poFn 1 g v=fnS 152 g:=rfl
theorem poFn2 (g:Nat)(v:Value):poFn 2 g v=fnS 154 g:=rfl
theorem poFn3 (g:Nat)(v:Value):poFn 3 g v=fnS 157 g:=rfl
theorem poFn4 (g:Nat)(v:Value):poFn 4 g v=fnS 158 g:=rfl
theorem poFn5 (g:Nat)(v:Value):poFn 5 g v=fnS 159 g:=rfl
theorem poFn6 (g:Nat)(v:Value):poFn 6 g v=fnS 160 g:=rfl
theorem poFn7 (g:Nat)(v:Value):poFn 7 g v=fnS 161 g:=rfl
theorem poFn8 (g:Nat)(v:Value):poFn 8 g v=fnS 156 g:=rfl
theorem poFn9 (g:Nat)(v:Value):poFn 9 g v=.func (.func 133) #[v] #[]:=rfl
abbrev poC (gp bh ba:Nat)(fv vr:Value)(p:Po):Zc:=pt gp (.cells #[.pointer (some ⟨bh,0,none⟩),.pointer (some ⟨ba,0,none⟩),.int .i64 p.thread,fv,.int .u64 p.top,.int .u64 p.behind,.int .i64 p.value,.bool p.named,vr] 149)
def PoR (gp bh ba:Nat)(p:Po):Zc:=ex fun vr=>poC gp bh ba (poFn p.stage gp vr) vr p*rtrR bh ba p.retire vr
theorem poR {O w:World}{gp bh ba:Nat}{p:Po}{R:Zc}:Sat O w (PoR gp bh ba p*R)↔∃vr,Sat O w (poC gp bh ba (poFn p.stage gp vr) vr p*(rtrR bh ba p.retire vr*R)):=by
 unfold PoR
 simp only[ZI,Ma]
theorem poR_mk {O w:World}{gp bh ba:Nat}{fv vr:Value}{p:Po}{R:Zc}(hf:poFn p.stage gp vr=fv)(hs:Sat O w (poC gp bh ba fv vr p*(rtrR bh ba p.retire vr*R))):Sat O w (PoR gp bh ba p*R):=poR.2 ⟨_,by rw[hf];exact hs⟩
attribute [irreducible] PoR
theorem po_ready (gp bh ba d:Nat)(p:Po) :
  Zk Tryz.prog 151 #[.pointer (some ⟨gp,0,none⟩),.pointer (some ⟨d,0,none⟩)] (PoR gp bh ba p) (.bool false) (PoR gp bh ba { p with stage:=1 }):=by
 intro O w F hs
 obtain⟨p1,p2,p3,p4,p5,p6,p7⟩:=p
 obtain⟨vr,hs⟩:=poR.1 hs
 simp only[]at hs
 generalize poFn p7 gp vr=fv at hs
 go_enter Tryz.func151,Tryz.ntmps151
 go_wp2_with ((with_reducible apply ZA hs);exact Ii;rfl;rfl;(with_reducible exact Qh);(rfl);(exact Vb rfl);rfl;clear hs;intro w hs;simp only[Yg,Uc,Uz]at hs)
 (go_ret)
 refine⟨rfl,?_⟩
 apply poR_mk (vr:=vr) (fv:=fnS 152 gp) rfl
 ((with_reducible apply Sat.fin hs);(with_reducible exact Ql))
theorem po_seen (gp bh ba d bx bm:Nat)(m:Mch)(i t:Nat)(c:Cll)(s:Sea)(p:Po)(h0:0≤p.top)(h1:p.top≤2147483647)(hcur:ZG m i t c s) :
  Zk Tryz.prog 153 #[.pointer (some ⟨gp,0,none⟩),.pointer (some ⟨d,0,none⟩)] (PoR gp bh ba p*DkR d bx bm m) (.bool (Z4 m i t c s p).1)
   (PoR gp bh ba (Z4 m i t c s p).2.2*DkR d bx bm (Z4 m i t c s p).2.1):=by
 intro O w F hs
 simp only[Ma]at hs
 obtain⟨p1,p2,p3,p4,p5,p6,p7⟩:=p
 simp only[]at h0 h1
 obtain⟨vr,hs⟩:=poR.1 hs
 have hN:=Lh (desk_now d bx bm m)
 have hP:=Lh (Jg d bx bm m i t c m.now hcur.cur hcur.call)
 have hA:=Lh (Qr d bx bm (m.point i c m.now) i t s 3 0 hcur.cur hcur.seat)
 have hS:=Lh (stk_slot p2 h0 h1)
 unfold Z4
 simp only[]at hs ⊢
 generalize poFn p7 gp vr=fv at hs
 clear hcur h0 h1
 by_cases hu:0≤p2-1
 ·have hd:decide (1≤p2)=true:=by simp;omega
  have hd2:decide (p2<1)=false:=by simp;omega
  simp only[if_pos hu]
  clear hu
  go_enter Tryz.func153,Tryz.ntmps153
  go_wp2_with (first|(first|((with_reducible apply Zb hs);exact Ii;rfl;(with_reducible exact Qh);rfl;rfl;(simp only[Uc,Uz]))|((with_reducible apply ZA hs);exact Ii;rfl;rfl;(with_reducible exact Qh);(rfl);(exact Vb rfl);rfl;clear hs;intro w hs;simp only[Yg,Uc,Uz]at hs))|(go_at_call 155;((refine(hS.out).at hs (by (focus((repeat(with_reducible exact Qn));done))) ?_);clear hs;intro w hs;(try simp only[Em,Ma]at hs))))
  (go_ret)
  refine⟨rfl,?_⟩
  simp only[Ma]
  apply poR_mk (vr:=vr) (fv:=fnS 154 gp) rfl
  ((with_reducible apply Sat.fin hs);(with_reducible exact Ql))
 ·have hd:decide (1≤p2)=false:=by simp;omega
  have hd2:decide (p2<1)=true:=by simp;omega
  simp only[if_neg hu]
  clear hu
  go_enter Tryz.func153,Tryz.ntmps153
  go_wp2_with (first|(first|((with_reducible apply Zb hs);exact Ii;rfl;(with_reducible exact Qh);rfl;rfl;(simp only[Uc,Uz]))|((with_reducible apply ZA hs);exact Ii;rfl;rfl;(with_reducible repeat first|exact Qh|apply Qk);(rfl);(exact Vb rfl);rfl;clear hs;intro w hs;simp only[Yg,Uc,Uz]at hs))|(go_at_call 155;((refine(hS.out).at hs (by (focus((repeat(with_reducible exact Qn));done))) ?_);clear hs;intro w hs;(try simp only[Em,Ma]at hs)))|(go_at_call 129;((refine(hN.out).at hs (by (with_reducible repeat first|exact Qh|apply Qk)) ?_);clear hs;intro w hs;(try simp only[Em,Ma]at hs)))|(go_at_call 128;((refine(hP.out).at hs (by (with_reducible exact Qh)) ?_);clear hs;intro w hs;(try simp only[Em,Ma]at hs)))|(go_at_call 87;((refine(hA.out).at hs (by (with_reducible exact Qh)) ?_);clear hs;intro w hs;(try simp only[Em,Ma]at hs))))
  (go_ret)
  refine⟨rfl,?_⟩
  simp only[Ma]
  apply poR_mk (vr:=vr) (fv:=fnS 156 gp) rfl
  ((with_reducible apply Sat.fin hs);(with_reducible repeat first|exact Ql|exact Qh|apply Qb|apply Qk))
theorem po_hz {h:Haz}{a:Are}{m:Mch}{p:Po}(ok:PoOk h a m p):∃(tn:Nat) (r:Int),p.thread=(tn:Int)∧h.held[tn]? = some r∧0≤r∧r<h.c.R∧poHz h p=(base h.c 9+r*h.c.Hz+0).toNat∧base h.c 9+r*h.c.Hz+0=(poHz h p:Int)∧m.May (poHz h p):=by
 obtain⟨hz,t0,t1,hd,hst,hwt,htop,hret⟩:=ok
 obtain⟨tn,hn⟩:=Int.eq_ofNat_of_zero_le t0
 obtain⟨r,hr,_,hr1⟩:=hz.hold t0 t1
 have hOk:h.c.Ok:=hz.c▸hz.ok.c
 rw[hn,Yo]at hr hd
 have hrd:h.held.getD tn 0=r:=by rw[Yb,hr];rfl
 rw[hrd]at hd
 have hH1:=hOk.H1
 have e:poHz h p=(base h.c 9+r*h.c.Hz+0).toNat:=by
  unfold poHz
  rw[hn,Yo,hrd]
 have hb:=(ZD hOk 9).1
 have h2:0≤r*h.c.Hz:=Int.mul_nonneg hd (by omega)
 have h3:(r+1)*h.c.Hz≤h.c.R*h.c.Hz:=Int.mul_le_mul_of_nonneg_right (by omega) (by omega)
 have h4:(r+1)*h.c.Hz=r*h.c.Hz+h.c.Hz:=by rw[Int.add_mul,Int.one_mul]
 have b10:base h.c 10=base h.c 9+h.c.R*h.c.Hz:=rfl
 have b11:base h.c 11=base h.c 10+h.c.Sl:=rfl
 have b12:base h.c 12=base h.c 11+h.c.Sl:=rfl
 have b13:base h.c 13=base h.c 12+h.c.Sl:=rfl
 have b14:base h.c 14=base h.c 13+h.c.Sl:=rfl
 have hS1:=hOk.S1
 refine⟨tn,r,hn,hr,hd,hr1,e,by omega,⟨hz.ok.used,?_,hz.ok.log,hz.ok.ahead⟩⟩
 rw[hz.ok.words,←hz.c,e]
 omega
section
variable (gp bh ba d bx bm:Nat)(h:Haz)(a:Are)(m:Mch)(i t:Nat)(c:Cll)(s:Sea)(p:Po)
theorem po_load (ok:PoOk h a m p)(h1:p.stage=1)(hcur:ZG m i t c s) :
  Zk Tryz.prog 152 #[.pointer (some ⟨gp,0,none⟩),.pointer (some ⟨d,0,none⟩)] (PoR gp bh ba p*(AreR ba a*DkR d bx bm m)) (.bool (Z4 (m.load (adr h.c 3 0) (m.word (adr h.c 3 0))) i t c s { p with top:=m.word (adr h.c 3 0) }).1)
   (PoR gp bh ba (Z4 (m.load (adr h.c 3 0) (m.word (adr h.c 3 0))) i t c s { p with top:=m.word (adr h.c 3 0) }).2.2*(AreR ba a*DkR d bx bm (Z4 (m.load (adr h.c 3 0) (m.word (adr h.c 3 0))) i t c s { p with top:=m.word (adr h.c 3 0) }).2.1)):=by
 intro O w F hs
 simp only[Ma]at hs
 obtain⟨p1,p2,p3,p4,p5,p6,p7⟩:=p
 simp only[]at h1
 subst h1
 have hz:=ok.hz
 obtain⟨w0,w1⟩:=ok.wtop
 rw[hz.c]at w0 w1 ⊢
 have hOk:=hz.ok.c
 have hS2:=hOk.S2
 have hm:m.May (adr a.c 3 0):=hz.ok.may (by omega) (by omega) in_top
 have hL:=Lh (QD d bx bm m _ _ hm.acs)
 have hA:=Lh (po_addr gp ba a hOk 3 (by omega) (by omega) (by omega) 0 in_top)
 obtain⟨vr,hs⟩:=poR.1 hs
 simp only[poFn1]at hs
 simp only[]
 generalize m.word (adr a.c 3 0)=u at hL w0 w1 ⊢
 have hK:=po_seen gp bh ba d bx bm (m.load (adr a.c 3 0) u) i t c s ⟨p1,u,p3,p4,p5,p6,1⟩ w0 (by simp only[];omega) ((ZB m _ _).curIn hcur)
 generalize Z4 (m.load (adr a.c 3 0) u) i t c s ⟨p1,u,p3,p4,p5,p6,1⟩=q at hK ⊢
 obtain⟨q1,q2,q3⟩:=q
 have HK:=Lh hK
 clear hK ok hz hm hOk w0 w1 hcur
 go_enter Tryz.func152,Tryz.ntmps152
 go_wp2_with (first|((with_reducible apply ZA hs);exact Ii;rfl;rfl;(with_reducible repeat first|exact Qh|apply Qk);(rfl);(exact Vb rfl);rfl;clear hs;intro w hs;simp only[Yg,Uc,Uz]at hs)|(go_at_call 146;((refine((hA.out _ _ _ _ _ _ _ _)).at hs (by (with_reducible repeat first|exact Qh|apply Qb|apply Qk)) ?_);clear hs;intro w hs;(try simp only[Em,Ma]at hs)))|(go_at_call 85;((refine(hL.out).at hs (by (with_reducible repeat first|exact Qh|apply Qk)) ?_);clear hs;intro w hs;(try simp only[Em,Ma]at hs)))|(go_at_call 153;(replace hs:=poR_mk (p:=⟨p1,u,p3,p4,p5,p6,1⟩) (vr:=vr) (fv:=fnS 152 gp) rfl (hs.fin (by (with_reducible repeat first|exact Ql|exact Qh|apply Qb|apply Qk))));((refine(HK.out).at hs (by (focus with_reducible (repeat first|exact Qh|apply Qb);done)) ?_);clear hs;intro w hs;(try simp only[Em,Ma]at hs))))
 (go_ret)
 refine⟨rfl,?_⟩
 simp only[Ma]
 ((with_reducible apply Sat.fin hs);(with_reducible repeat first|exact Ql|exact Qh|apply Qb|apply Qk))
theorem po_name (ok:PoOk h a m p)(h1:p.stage=2) :
  Zk Tryz.prog 154 #[.pointer (some ⟨gp,0,none⟩),.pointer (some ⟨d,0,none⟩)] (PoR gp bh ba p*(HazR bh ba h*DkR d bx bm m)) (.bool false)
   (PoR gp bh ba { p with named:=true,stage:=3 }*(HazR bh ba h*DkR d bx bm (m.store (poHz h p) (m.word (poHz h p)) p.top))):=by
 intro O w F hs
 simp only[Ma]at hs
 obtain⟨tn,r,hn,hr,hd,hr1,_,he,hm⟩:=po_hz ok
 have hOk:h.c.Ok:=ok.hz.c▸ok.hz.ok.c
 have hH1:=hOk.H1
 have hA:=haz_addr bh ba h hOk tn r 0 hr hd hr1 (by omega) (by omega)
 rw[he]at hA
 have HA:=Lh hA
 have hL:=Lh (Qy d bx bm m _ _ p.top hm.acs)
 generalize poHz h p=A at HA hL ⊢
 obtain⟨p1,p2,p3,p4,p5,p6,p7⟩:=p
 simp only[]at h1 hn
 subst h1 hn
 obtain⟨vr,hs⟩:=poR.1 hs
 simp only[poFn2]at hs
 simp only[]at hL ⊢
 generalize m.word A=u at hL ⊢
 clear ok hOk hr hd hr1 hm he hH1 hA
 go_enter Tryz.func154,Tryz.ntmps154
 go_wp2_with (first|(first|(first|(with_reducible refine NQ.mk ?_)|((with_reducible apply Zh);rfl;rfl)|((with_reducible apply Zq);rfl)|(with_reducible refine EQ.mk ?_ ?_)|(first|(with_reducible exact Zf)|((with_reducible refine Zl ?_ ?_);(focus((with_reducible apply ZF);rfl;rfl))))|(with_reducible refine Zi ?_)|(show ZY _ _ _;rfl))|((with_reducible apply Zb hs);exact Ii;rfl;(with_reducible repeat first|exact Qh|apply Qk);rfl;rfl;(simp only[Uc,Uz]))|((with_reducible apply ZA hs);exact Ii;rfl;rfl;(with_reducible repeat first|exact Qh|apply Qk);(rfl);(exact Vb rfl);rfl;clear hs;intro w hs;simp only[Yg,Uc,Uz]at hs))|(go_at_call 45;((refine(HA.out).at hs (by (with_reducible repeat first|exact Qh|apply Qk)) ?_);clear hs;intro w hs;(try simp only[Em,Ma]at hs)))|(go_at_call 97;((refine(hL.out).at hs (by (with_reducible repeat first|exact Qh|apply Qk)) ?_);clear hs;intro w hs;(try simp only[Em,Ma]at hs)))|((with_reducible refine Wp (id:=1) (Paz (Pbz [.neu 10,.neu 12,.neu 13,.neu 14,.neu 15,.eff 11 [0,12,13,14,15],.eff 16 []])) hs rfl ?_ ?_);kernel_rfl;clear hs;intro w hs))
 (go_ret)
 refine⟨rfl,?_⟩
 simp only[Ma]
 apply poR_mk (vr:=vr) (fv:=fnS 157 gp) rfl
 ((with_reducible apply Sat.fin hs);(with_reducible repeat first|exact Ql|exact Qh|apply Qb|apply Qk))
def poAgain (h:Haz)(m:Mch)(i t:Nat)(c:Cll)(s:Sea)(p:Po):Bool×Mch×Po:=
 let T:=adr h.c 3 0
 if m.word T=p.top then (false,m.load T (m.word T),{ p with stage:=4 })
 else Z4 (m.load T (m.word T)) i t c s { p with top:=m.word T }
theorem po_again (ok:PoOk h a m p)(h1:p.stage=3)(hcur:ZG m i t c s) :
  Zk Tryz.prog 157 #[.pointer (some ⟨gp,0,none⟩),.pointer (some ⟨d,0,none⟩)] (PoR gp bh ba p*(AreR ba a*DkR d bx bm m)) (.bool (poAgain h m i t c s p).1)
   (PoR gp bh ba (poAgain h m i t c s p).2.2*(AreR ba a*DkR d bx bm (poAgain h m i t c s p).2.1)):=by
 intro O w F hs
 simp only[Ma]at hs
 obtain⟨p1,p2,p3,p4,p5,p6,p7⟩:=p
 simp only[]at h1
 subst h1
 have hz:=ok.hz
 obtain⟨w0,w1⟩:=ok.wtop
 unfold poAgain
 rw[hz.c]at w0 w1 ⊢
 have hOk:=hz.ok.c
 have hS2:=hOk.S2
 have hm:m.May (adr a.c 3 0):=hz.ok.may (by omega) (by omega) in_top
 have hL:=Lh (QD d bx bm m _ _ hm.acs)
 have hA:=Lh (po_addr gp ba a hOk 3 (by omega) (by omega) (by omega) 0 in_top)
 obtain⟨vr,hs⟩:=poR.1 hs
 simp only[poFn3]at hs
 simp only[]
 generalize m.word (adr a.c 3 0)=u at hL w0 w1 ⊢
 have hK:=po_seen gp bh ba d bx bm (m.load (adr a.c 3 0) u) i t c s ⟨p1,u,p3,p4,p5,p6,3⟩ w0 (by simp only[];omega) ((ZB m _ _).curIn hcur)
 generalize Z4 (m.load (adr a.c 3 0) u) i t c s ⟨p1,u,p3,p4,p5,p6,3⟩=q at hK ⊢
 obtain⟨q1,q2,q3⟩:=q
 have HK:=Lh hK
 clear hK ok hz hm hOk w0 w1 hcur
 by_cases hu:u=p2
 ·have hd:(u != p2)=false:=by simpa using hu
  simp only[if_pos hu]
  clear hu
  go_enter Tryz.func157,Tryz.ntmps157
  go_wp2_with (first|(first|((with_reducible apply Zb hs);exact Ii;rfl;(with_reducible repeat first|exact Qh|apply Qk);rfl;rfl;(simp only[Uc,Uz]))|((with_reducible apply ZA hs);exact Ii;rfl;rfl;(with_reducible repeat first|exact Qh|apply Qk);(rfl);(exact Vb rfl);rfl;clear hs;intro w hs;simp only[Yg,Uc,Uz]at hs))|(go_at_call 146;((refine((hA.out _ _ _ _ _ _ _ _)).at hs (by (with_reducible repeat first|exact Qh|apply Qb|apply Qk)) ?_);clear hs;intro w hs;(try simp only[Em,Ma]at hs)))|(go_at_call 85;((refine(hL.out).at hs (by (with_reducible repeat first|exact Qh|apply Qk)) ?_);clear hs;intro w hs;(try simp only[Em,Ma]at hs))))
  (go_ret)
  refine⟨rfl,?_⟩
  simp only[Ma]
  apply poR_mk (vr:=vr) (fv:=fnS 158 gp) rfl
  ((with_reducible apply Sat.fin hs);(with_reducible repeat first|exact Ql|exact Qh|apply Qb|apply Qk))
 ·have hd:(u != p2)=true:=by simpa using hu
  simp only[if_neg hu]
  clear hu
  go_enter Tryz.func157,Tryz.ntmps157
  go_wp2_with (first|(first|((with_reducible apply Zb hs);exact Ii;rfl;(with_reducible repeat first|exact Qh|apply Qk);rfl;rfl;(simp only[Uc,Uz]))|((with_reducible apply ZA hs);exact Ii;rfl;rfl;(with_reducible repeat first|exact Qh|apply Qk);(rfl);(exact Vb rfl);rfl;clear hs;intro w hs;simp only[Yg,Uc,Uz]at hs))|(go_at_call 146;((refine((hA.out _ _ _ _ _ _ _ _)).at hs (by (with_reducible repeat first|exact Qh|apply Qb|apply Qk)) ?_);clear hs;intro w hs;(try simp only[Em,Ma]at hs)))|(go_at_call 85;((refine(hL.out).at hs (by (with_reducible repeat first|exact Qh|apply Qk)) ?_);clear hs;intro w hs;(try simp only[Em,Ma]at hs)))|(go_at_call 153;(replace hs:=poR_mk (p:=⟨p1,u,p3,p4,p5,p6,3⟩) (vr:=vr) (fv:=fnS 157 gp) rfl (hs.fin (by (with_reducible repeat first|exact Ql|exact Qh|apply Qb|apply Qk))));((refine(HK.out).at hs (by (focus with_reducible (repeat first|exact Qh|apply Qb);done)) ?_);clear hs;intro w hs;(try simp only[Em,Ma]at hs))))
  (go_ret)
  refine⟨rfl,?_⟩
  simp only[Ma]
  ((with_reducible apply Sat.fin hs);(with_reducible repeat first|exact Ql|exact Qh|apply Qb|apply Qk))
theorem po_follow (ok:PoOk h a m p)(h1:p.stage=4) :
  Zk Tryz.prog 158 #[.pointer (some ⟨gp,0,none⟩),.pointer (some ⟨d,0,none⟩)] (PoR gp bh ba p*(AreR ba a*DkR d bx bm m)) (.bool false)
   (PoR gp bh ba { p with behind:=m.word (adr h.c 13 (p.top-1)),stage:=5 }*(AreR ba a*DkR d bx bm (m.load (adr h.c 13 (p.top-1)) (m.word (adr h.c 13 (p.top-1)))))):=by
 intro O w F hs
 simp only[Ma]at hs
 obtain⟨p1,p2,p3,p4,p5,p6,p7⟩:=p
 simp only[]at h1
 subst h1
 obtain⟨s0,s1⟩:=ok.top (by simp) (by simp)
 have hz:=ok.hz
 simp only[]at s0 s1
 rw[hz.c]at s1 ⊢
 have hOk:=hz.ok.c
 have hS2:=hOk.S2
 have hm:m.May (adr a.c 13 (p2-1)):=hz.ok.may (by omega) (by omega) (in_link (by omega) (by omega))
 have hL:=Lh (QD d bx bm m _ _ hm.acs)
 have hS:=Lh (stk_slot p2 (by omega) (by omega))
 have hA:=Lh (po_addr gp ba a hOk 13 (by omega) (by omega) (by omega) (p2-1) (in_link (by omega) (by omega)))
 obtain⟨vr,hs⟩:=poR.1 hs
 simp only[poFn4]at hs
 simp only[]
 generalize m.word (adr a.c 13 (p2-1))=u at hL ⊢
 clear ok hz hm hOk s0 s1
 go_enter Tryz.func158,Tryz.ntmps158
 go_wp2_with (first|(first|(first|(with_reducible refine NQ.mk ?_)|((with_reducible apply Zh);rfl;rfl)|((with_reducible apply Zq);rfl)|(with_reducible refine EQ.mk ?_ ?_)|(first|(with_reducible exact Zf)|((with_reducible refine Zl ?_ ?_);(focus((with_reducible apply ZF);rfl;rfl))))|(with_reducible refine Zi ?_)|(show ZY _ _ _;rfl))|((with_reducible apply Zb hs);exact Ii;rfl;(with_reducible exact Qh);rfl;rfl;(simp only[Uc,Uz]))|((with_reducible apply ZA hs);exact Ii;rfl;rfl;(with_reducible repeat first|exact Qh|apply Qk);(rfl);(exact Vb rfl);rfl;clear hs;intro w hs;simp only[Yg,Uc,Uz]at hs))|(go_at_call 146;((refine((hA.out _ _ _ _ _ _ _ _)).at hs (by (with_reducible repeat first|exact Qh|apply Qb|apply Qk)) ?_);clear hs;intro w hs;(try simp only[Em,Ma]at hs)))|(go_at_call 155;((refine(hS.out).at hs (by (focus((repeat(with_reducible exact Qn));done))) ?_);clear hs;intro w hs;(try simp only[Em,Ma]at hs)))|(go_at_call 85;((refine(hL.out).at hs (by (with_reducible repeat first|exact Qh|apply Qk)) ?_);clear hs;intro w hs;(try simp only[Em,Ma]at hs)))|((with_reducible refine Wp (id:=1) (Paz [.neu 5,.neu 6,.neu 7,.neu 8,.eff 9 [0,1,2,3,4],.eff 10 [0,1],.eff 11 [0],.neu 12,.neu 13,.eff 14 []]) hs rfl ?_ ?_);kernel_rfl;clear hs;intro w hs))
 (go_ret)
 refine⟨rfl,?_⟩
 simp only[Ma]
 apply poR_mk (vr:=vr) (fv:=fnS 159 gp) rfl
 ((with_reducible apply Sat.fin hs);(with_reducible repeat first|exact Ql|exact Qh|apply Qb|apply Qk))
def poSwap (h:Haz)(a:Are)(m:Mch)(i:Nat)(c:Cll)(p:Po):Bool×Are×Mch×Po:=
 let T:=adr h.c 3 0
 if m.word T=p.top then
  (false,a.shift (p.top-1).toNat m.thread 4,((m.swap T (m.word T) p.top p.behind).point i c m.now).shift (p.top-1) (a.slots.getD (p.top-1).toNat ⟨0,0⟩).state 4,{ p with stage:=6 })
 else (false,a,m.swap T (m.word T) p.top p.behind,{ p with stage:=1 })
theorem po_swap (ok:PoOk h a m p)(h1:p.stage=5)(hcur:ZG m i t c s) :
  Zk Tryz.prog 159 #[.pointer (some ⟨gp,0,none⟩),.pointer (some ⟨d,0,none⟩)] (PoR gp bh ba p*(AreR ba a*DkR d bx bm m)) (.bool (poSwap h a m i c p).1)
   (PoR gp bh ba (poSwap h a m i c p).2.2.2*(AreR ba (poSwap h a m i c p).2.1*DkR d bx bm (poSwap h a m i c p).2.2.1)):=by
 intro O w F hs
 simp only[Ma]at hs
 obtain⟨p1,p2,p3,p4,p5,p6,p7⟩:=p
 simp only[]at h1
 subst h1
 obtain⟨s0,s1⟩:=ok.top (by simp) (by simp)
 have hz:=ok.hz
 simp only[]at s0 s1
 unfold poSwap
 rw[hz.c]at s1 ⊢
 have hOk:=hz.ok.c
 have hS2:=hOk.S2
 have hsh:=hz.sh
 have hm:m.May (adr a.c 3 0):=hz.ok.may (by omega) (by omega) in_top
 have hW:=desk_swap d bx bm m _ _ p2 p3 hm.acs
 have hA:=Lh (po_addr gp ba a hOk 3 (by omega) (by omega) (by omega) 0 in_top)
 have hS:=stk_slot p2 (by omega) (by omega)
 obtain⟨j,hj⟩:=Int.eq_ofNat_of_zero_le (show 0≤p2-1 by omega)
 have hil:j<a.slots.length:=by rw[hz.ok.slots];omega
 rw[hj]at hS
 have HS:=Lh hS
 obtain⟨vr,hs⟩:=poR.1 hs
 simp only[poFn5]at hs
 simp only[hj,Yo]
 generalize m.word (adr a.c 3 0)=u at hW ⊢
 by_cases hu:u=p2
 ·have hN:=Lh (desk_now d bx bm (m.swap (adr a.c 3 0) u p2 p3))
  have hP:=Lh (Jg d bx bm (m.swap (adr a.c 3 0) u p2 p3) i t c m.now hcur.cur hcur.call)
  have hSh:=Lh (Q1 ba d bx bm a ((m.swap (adr a.c 3 0) u p2 p3).point i c m.now) j (a.slots.getD j ⟨0,0⟩) 4 (by simp[hil]) (by omega) (by omega) (by show m.shifts.length<_;omega))
  simp only[if_pos hu]
  have hu':decide (u=p2)=true:=by simpa using hu
  rw[hu']at hW
  have HW:=Lh hW
  clear hW hu hu' ok hz hm hOk s0 s1 hcur hil hj hS
  generalize a.slots.getD j ⟨0,0⟩=st at hSh ⊢
  go_enter Tryz.func159,Tryz.ntmps159
  go_wp2_with (first|(first|(first|(with_reducible refine NQ.mk ?_)|((with_reducible apply Zh);rfl;rfl)|((with_reducible apply Zq);rfl)|(with_reducible refine EQ.mk ?_ ?_)|(first|(with_reducible exact Zf)|((with_reducible refine Zl ?_ ?_);(focus((with_reducible apply ZF);rfl;rfl))))|(with_reducible refine Zi ?_)|(show ZY _ _ _;rfl))|((with_reducible apply Zb hs);exact Ii;rfl;(with_reducible repeat first|exact Qh|apply Qk);rfl;rfl;(simp only[Uc,Uz]))|((with_reducible apply ZA hs);exact Ii;rfl;rfl;(with_reducible repeat first|exact Qh|apply Qk);(rfl);(exact Vb rfl);rfl;clear hs;intro w hs;simp only[Yg,Uc,Uz]at hs))|(go_at_call 146;((refine((hA.out _ _ _ _ _ _ _ _)).at hs (by (with_reducible repeat first|exact Qh|apply Qb|apply Qk)) ?_);clear hs;intro w hs;(try simp only[Em,Ma]at hs)))|(go_at_call 155;((refine(HS.out).at hs (by (focus((repeat(with_reducible exact Qn));done))) ?_);clear hs;intro w hs;(try simp only[Em,Ma]at hs)))|(go_at_call 86;((refine(HW.out).at hs (by (with_reducible repeat first|exact Qh|apply Qk)) ?_);clear hs;intro w hs;(try simp only[Em,Ma]at hs)))|(go_at_call 129;((refine(hN.out).at hs (by (with_reducible exact Qh)) ?_);clear hs;intro w hs;(try simp only[Em,Ma]at hs)))|(go_at_call 128;((refine(hP.out).at hs (by (with_reducible exact Qh)) ?_);clear hs;intro w hs;(try simp only[Em,Ma]at hs)))|(go_at_call 118;((refine(hSh.out).at hs (by (with_reducible repeat first|exact Qh|apply Qb|apply Qk)) ?_);clear hs;intro w hs;(try simp only[Em,Ma]at hs)))|((with_reducible refine Wp (id:=1) [.neu 0,.neu 1,.neu 2,.neu 3,.neu 5,.neu 6,.neu 7,.neu 8,.neu 9,.neu 10,.neu 11,.neu 12,.eff 4 [0,5,6,7,8,9,10,11,12],.eff 13 [],.neu 14] hs rfl ?_ ?_);kernel_rfl;clear hs;intro w hs)|((with_reducible refine Wp (id:=5) (Paz (Pbz [.eff 10 [0,1,2,3,4,5],.eff 11 []])) hs rfl ?_ ?_);kernel_rfl;clear hs;intro w hs))
  (go_ret)
  refine⟨rfl,?_⟩
  simp only[Ma]
  apply poR_mk (vr:=vr) (fv:=fnS 160 gp) rfl
  ((with_reducible apply Sat.fin hs);(focus((repeat(first|with_reducible exact Ql|with_reducible exact Qh|with_reducible apply Qb|exact Qh|with_reducible apply Qk));done)))
 ·simp only[if_neg hu]
  have hu':decide (u=p2)=false:=by simpa using hu
  rw[hu']at hW
  have HW:=Lh hW
  clear hW hu hu' ok hz hm hOk s0 s1 hcur hil hj hS
  go_enter Tryz.func159,Tryz.ntmps159
  go_wp2_with (first|(first|(first|(with_reducible refine NQ.mk ?_)|((with_reducible apply Zh);rfl;rfl)|((with_reducible apply Zq);rfl)|(with_reducible refine EQ.mk ?_ ?_)|(first|(with_reducible exact Zf)|((with_reducible refine Zl ?_ ?_);(focus((with_reducible apply ZF);rfl;rfl))))|(with_reducible refine Zi ?_)|(show ZY _ _ _;rfl))|((with_reducible apply Zb hs);exact Ii;rfl;(with_reducible exact Qh);rfl;rfl;(simp only[Uc,Uz]))|((with_reducible apply ZA hs);exact Ii;rfl;rfl;(with_reducible repeat first|exact Qh|apply Qk);(rfl);(exact Vb rfl);rfl;clear hs;intro w hs;simp only[Yg,Uc,Uz]at hs))|(go_at_call 146;((refine((hA.out _ _ _ _ _ _ _ _)).at hs (by (with_reducible repeat first|exact Qh|apply Qb|apply Qk)) ?_);clear hs;intro w hs;(try simp only[Em,Ma]at hs)))|(go_at_call 86;((refine(HW.out).at hs (by (with_reducible repeat first|exact Qh|apply Qk)) ?_);clear hs;intro w hs;(try simp only[Em,Ma]at hs)))|((with_reducible refine Wp (id:=1) [.neu 0,.neu 1,.neu 2,.neu 3,.neu 5,.neu 6,.neu 7,.neu 8,.neu 9,.neu 10,.neu 11,.neu 12,.eff 4 [0,5,6,7,8,9,10,11,12],.eff 13 [],.neu 14] hs rfl ?_ ?_);kernel_rfl;clear hs;intro w hs))
  (go_ret)
  refine⟨rfl,?_⟩
  simp only[Ma]
  apply poR_mk (vr:=vr) (fv:=fnS 152 gp) rfl
  ((with_reducible apply Sat.fin hs);(with_reducible repeat first|exact Ql|exact Qh|apply Qb|apply Qk))
theorem po_read (ok:PoOk h a m p)(h1:p.stage=6) :
  Zk Tryz.prog 160 #[.pointer (some ⟨gp,0,none⟩),.pointer (some ⟨d,0,none⟩)] (PoR gp bh ba p*(AreR ba a*DkR d bx bm m)) (.bool false)
   (PoR gp bh ba { p with value:=wrap64 (m.word (adr h.c 11 (p.top-1))),stage:=7 }*(AreR ba a*DkR d bx bm (m.load (adr h.c 11 (p.top-1)) (m.word (adr h.c 11 (p.top-1)))))):=by
 intro O w F hs
 simp only[Ma]at hs
 obtain⟨p1,p2,p3,p4,p5,p6,p7⟩:=p
 simp only[]at h1
 subst h1
 obtain⟨s0,s1⟩:=ok.top (by simp) (by simp)
 have hz:=ok.hz
 simp only[]at s0 s1
 rw[hz.c]at s1 ⊢
 have hOk:=hz.ok.c
 have hS2:=hOk.S2
 have hm:m.May (adr a.c 11 (p2-1)):=hz.ok.may (by omega) (by omega) (in_value (by omega) (by omega))
 have hL:=Lh (QD d bx bm m _ _ hm.acs)
 have hV:=Lh (word_value (m.word (adr a.c 11 (p2-1))))
 have hS:=Lh (stk_slot p2 (by omega) (by omega))
 have hA:=Lh (po_addr gp ba a hOk 11 (by omega) (by omega) (by omega) (p2-1) (in_value (by omega) (by omega)))
 obtain⟨vr,hs⟩:=poR.1 hs
 simp only[poFn6]at hs
 simp only[]
 generalize m.word (adr a.c 11 (p2-1))=u at hL hV ⊢
 generalize wrap64 u=v0 at hV ⊢
 clear ok hz hm hOk s0 s1
 go_enter Tryz.func160,Tryz.ntmps160
 go_wp2_with (first|(first|(first|(with_reducible refine NQ.mk ?_)|((with_reducible apply Zh);rfl;rfl)|((with_reducible apply Zq);rfl)|(with_reducible refine EQ.mk ?_ ?_)|(first|(with_reducible exact Zf)|((with_reducible refine Zl ?_ ?_);(focus((with_reducible apply ZF);rfl;rfl))))|(with_reducible refine Zi ?_)|(show ZY _ _ _;rfl))|((with_reducible apply Zb hs);exact Ii;rfl;(with_reducible exact Qh);rfl;rfl;(simp only[Uc,Uz]))|((with_reducible apply ZA hs);exact Ii;rfl;rfl;(with_reducible repeat first|exact Qh|apply Qk);(rfl);(exact Vb rfl);rfl;clear hs;intro w hs;simp only[Yg,Uc,Uz]at hs))|(go_at_call 146;((refine((hA.out _ _ _ _ _ _ _ _)).at hs (by (with_reducible repeat first|exact Qh|apply Qb|apply Qk)) ?_);clear hs;intro w hs;(try simp only[Em,Ma]at hs)))|(go_at_call 155;((refine(hS.out).at hs (by (focus((repeat(with_reducible exact Qn));done))) ?_);clear hs;intro w hs;(try simp only[Em,Ma]at hs)))|(go_at_call 85;((refine(hL.out).at hs (by (with_reducible repeat first|exact Qh|apply Qk)) ?_);clear hs;intro w hs;(try simp only[Em,Ma]at hs)))|(go_at_call 138;((refine(hV.out).at hs (by (focus((repeat(with_reducible exact Qn));done))) ?_);clear hs;intro w hs;(try simp only[Em,Ma]at hs)))|((with_reducible refine Wp (id:=1) (Paz [.neu 5,.neu 6,.neu 7,.neu 8,.eff 9 [0,1,2,3,4],.eff 10 [0,1],.eff 11 [0],.eff 12 [0],.neu 13,.neu 14,.eff 15 []]) hs rfl ?_ ?_);kernel_rfl;clear hs;intro w hs))
 (go_ret)
 refine⟨rfl,?_⟩
 simp only[Ma]
 apply poR_mk (vr:=vr) (fv:=fnS 161 gp) rfl
 ((with_reducible apply Sat.fin hs);(with_reducible repeat first|exact Ql|exact Qh|apply Qb|apply Qk))
theorem po_forget (ok:PoOk h a m p)(h1:p.stage=8) :
  Zk Tryz.prog 156 #[.pointer (some ⟨gp,0,none⟩),.pointer (some ⟨d,0,none⟩)] (PoR gp bh ba p*(HazR bh ba h*DkR d bx bm m)) (.bool true)
   (PoR gp bh ba p*(HazR bh ba h*DkR d bx bm (m.store (poHz h p) (m.word (poHz h p)) 0))):=by
 intro O w F hs
 simp only[Ma]at hs
 obtain⟨tn,r,hn,hr,hd,hr1,_,he,hm⟩:=po_hz ok
 have hOk:h.c.Ok:=ok.hz.c▸ok.hz.ok.c
 have hH1:=hOk.H1
 have hA:=haz_addr bh ba h hOk tn r 0 hr hd hr1 (by omega) (by omega)
 rw[he]at hA
 have HA:=Lh hA
 have hL:=Lh (Qy d bx bm m _ _ 0 hm.acs)
 generalize poHz h p=A at HA hL ⊢
 obtain⟨p1,p2,p3,p4,p5,p6,p7⟩:=p
 simp only[]at h1 hn
 subst h1 hn
 obtain⟨vr,hs⟩:=poR.1 hs
 simp only[poFn8]at hs
 generalize m.word A=u at hL ⊢
 clear ok hOk hr hd hr1 hm he hH1 hA
 go_enter Tryz.func156,Tryz.ntmps156
 go_wp2_with (first|(first|(first|(with_reducible refine NQ.mk ?_)|((with_reducible apply Zh);rfl;rfl)|((with_reducible apply Zq);rfl)|(with_reducible refine EQ.mk ?_ ?_)|(first|(with_reducible exact Zf)|((with_reducible refine Zl ?_ ?_);(focus((with_reducible apply ZF);rfl;rfl))))|(with_reducible refine Zi ?_)|(show ZY _ _ _;rfl))|((with_reducible apply Zb hs);exact Ii;rfl;(with_reducible exact Qh);rfl;rfl;(simp only[Uc,Uz])))|(go_at_call 45;((refine(HA.out).at hs (by (with_reducible repeat first|exact Qh|apply Qk)) ?_);clear hs;intro w hs;(try simp only[Em,Ma]at hs)))|(go_at_call 97;((refine(hL.out).at hs (by (with_reducible repeat first|exact Qh|apply Qk)) ?_);clear hs;intro w hs;(try simp only[Em,Ma]at hs)))|((with_reducible refine Wp (id:=1) (Paz (Pbz [.neu 10,.eff 11 [0],.eff 12 []])) hs rfl ?_ ?_);kernel_rfl;clear hs;intro w hs))
 (go_ret)
 refine⟨rfl,?_⟩
 simp only[Ma]
 apply poR_mk (vr:=vr) (fv:=fnS 156 gp) rfl
 ((with_reducible apply Sat.fin hs);(with_reducible repeat first|exact Ql|exact Qh|apply Qb|apply Qk))
def poUnname (h:Haz)(a:Are)(m:Mch)(t:Nat)(s:Sea)(p:Po):Bool×Haz×Are×Mch×Po:=
 let q:=Zv h a ((m.store (poHz h p) (m.word (poHz h p)) 0).answer t s 2 p.value) ⟨p.thread,p.top-1,none⟩
 (q.1,q.2.1,q.2.2.1,q.2.2.2.1,{ p with retire:=some q.2.2.2.2,stage:=9 })
theorem po_unname (ok:PoOk h a m p)(h1:p.stage=7)(hcur:ZG m i t c s) :
  Zk Tryz.prog 161 #[.pointer (some ⟨gp,0,none⟩),.pointer (some ⟨d,0,none⟩)] (PoR gp bh ba p*(HazR bh ba h*(AreR ba a*DkR d bx bm m))) (.bool (poUnname h a m t s p).1)
   (PoR gp bh ba (poUnname h a m t s p).2.2.2.2*(HazR bh ba (poUnname h a m t s p).2.1*(AreR ba (poUnname h a m t s p).2.2.1*DkR d bx bm (poUnname h a m t s p).2.2.2.1))):=by
 intro O w F hs
 simp only[Ma]at hs
 obtain⟨tn,r,hn,hr,hd,hr1,_,he,hm⟩:=po_hz ok
 have hOk:h.c.Ok:=ok.hz.c▸ok.hz.ok.c
 have hH1:=hOk.H1
 have hS2:=hOk.S2
 obtain⟨s0,s1⟩:=ok.top (by omega) (by omega)
 have hA:=haz_addr bh ba h hOk tn r 0 hr hd hr1 (by omega) (by omega)
 rw[he]at hA
 have HA:=Lh hA
 have hL:=Lh (Qy d bx bm m _ _ 0 hm.acs)
 have hS:=Lh (stk_slot p.top (by omega) (by omega))
 have hRt:=Lh (haz_retire bh ba p.thread (p.top-1))
 unfold poUnname
 have hsh:=ok.hz.sh
 have hRR:=fun gr=>retire_ready gr bh ba d bx bm h a ((m.store (poHz h p) (m.word (poHz h p)) 0).answer t s 2 p.value) m ⟨p.thread,p.top-1,none⟩ ok.hz (by show m.shifts.length<_;omega) ok.t0 ok.t1 (by simp only[];omega) (by simp only[];omega) ok.held rfl
 have hAn:=Lh (Qr d bx bm (m.store (poHz h p) (m.word (poHz h p)) 0) i t s 2 p.value hcur.cur hcur.seat)
 generalize poHz h p=A at HA hL hRR hAn ⊢
 generalize m.word A=u at hL hRR hAn ⊢
 obtain⟨p1,p2,p3,p4,p5,p6,p7⟩:=p
 simp only[]at h1 hn s0 s1
 subst h1 hn
 obtain⟨vr,hs⟩:=poR.1 hs
 simp only[poFn7]at hs
 simp only[]at hRR hAn hRt hS ⊢
 generalize Zv h a ((m.store A u 0).answer t s 2 p4) ⟨tn,p2-1,none⟩=q at hRR ⊢
 obtain⟨q1,q2,q3,q4,q5⟩:=q
 have HRR:=Lh hRR
 clear hRR ok hOk hr hd hr1 hm he hH1 hA hcur s0 s1 hsh
 go_enter Tryz.func161,Tryz.ntmps161
 go_wp2_with (first|(first|(first|(with_reducible refine NQ.mk ?_)|((with_reducible apply Zh);rfl;rfl)|((with_reducible apply Zq);rfl)|(with_reducible refine EQ.mk ?_ ?_)|(first|(with_reducible exact Zf)|((with_reducible refine Zl ?_ ?_);(focus((with_reducible apply ZF);rfl;rfl))))|(with_reducible refine Zi ?_)|(show ZY _ _ _;rfl))|((with_reducible apply Zb hs);exact Ii;rfl;(with_reducible repeat first|exact Qh|apply Qk);rfl;rfl;(simp only[Uc,Uz]))|((with_reducible apply ZA hs);exact Ii;rfl;rfl;(with_reducible repeat first|exact Qh|apply Qk);(rfl);(exact Vb rfl);rfl;clear hs;intro w hs;simp only[Yg,Uc,Uz]at hs))|(go_at_call 45;((refine(HA.out).at hs (by (with_reducible repeat first|exact Qh|apply Qk)) ?_);clear hs;intro w hs;(try simp only[Em,Ma]at hs)))|(go_at_call 97;((refine(hL.out).at hs (by (with_reducible repeat first|exact Qh|apply Qk)) ?_);clear hs;intro w hs;(try simp only[Em,Ma]at hs)))|(go_at_call 87;((refine(hAn.out).at hs (by (with_reducible exact Qh)) ?_);clear hs;intro w hs;(try simp only[Em,Ma]at hs)))|(go_at_call 155;((refine(hS.out).at hs (by (focus((repeat(with_reducible exact Qn));done))) ?_);clear hs;intro w hs;(try simp only[Em,Ma]at hs)))|(go_at_call 131;((refine(hRt.out).at hs (by (focus((repeat(with_reducible exact Qn));done))) ?_);clear hs;intro g w hs;(try simp only[Em,Ma]at hs)))|(go_at_call 132;((refine((HRR.out g)).at hs (by (with_reducible repeat first|exact Qh|apply Qb|apply Qk)) ?_);clear hs;intro w hs;(try simp only[Em,Ma]at hs)))|((with_reducible refine Wp (id:=1) (Paz (Pbz [.neu 10,.eff 11 [0],.eff 12 []])) hs rfl ?_ ?_);kernel_rfl;clear hs;intro w hs)|((with_reducible refine Wp (id:=3) (Paz (Pbz (Pcz [.eff 15 [0,1,2,3,4,5,6,7,8,9,10],.eff 16 [0],.neu 17,.neu 18,.eff 19 []]))) hs rfl ?_ ?_);kernel_rfl;clear hs;intro w hs))
 (go_ret)
 refine⟨rfl,?_⟩
 simp only[Ma]
 replace hs:=rtr_get.2 ⟨g,rfl,hs.pull (A:=RetR g bh ba q5) (by (with_reducible exact Qh))⟩
 apply poR_mk (vr:=.pointer (some ⟨g,0,none⟩)) (fv:=fnS 133 g) rfl
 ((with_reducible apply Sat.fin hs);(with_reducible repeat first|exact Ql|exact Qh|apply Qb|apply Qk))
end
end Go.Proofs.YtjagadldibbbbaaGreat
