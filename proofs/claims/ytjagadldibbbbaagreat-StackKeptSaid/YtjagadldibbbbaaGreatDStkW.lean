/-
  The stack's calls: pushes.
-/
import Derived.Test.YtjagadldibbbbaaGreatDMach2
import Derived.Test.YtjagadldibbbbaaGreatDNew3
set_option linter.all false
namespace Go.Proofs.YtjagadldibbbbaaGreat
open Go.RowKit Hp
set_option maxRecDepth 100000
set_option maxHeartbeats 1000000
attribute [local irreducible] Go.Calls Go.wpList
abbrev fnS (f g:Nat):Value:=.func (.func f) #[.pointer (some ⟨g,0,none⟩)] #[]
def puFn (st:Int)(g:Nat):Value:=
 if st=1 then fnS 143 g else if st=2 then fnS 145 g else if st=3 then fnS 147 g else if st=4 then fnS 148 g else if st=5 then fnS 149 g else .nilFunc
theorem puFn1 (g:Nat):puFn 1 g=fnS 143 g:=rfl
theorem puFn2 (g:Nat):puFn 2 g=fnS 145 g:=rfl
theorem puFn3 (g:Nat):puFn 3 g=fnS 147 g:=rfl
theorem puFn4 (g:Nat):puFn 4 g=fnS 148 g:=rfl
theorem puFn5 (g:Nat):puFn 5 g=fnS 149 g:=rfl
theorem stk_link (s:Int)(h0 : -1≤s)(h1:s≤2147483646):Zk Tryz.prog 150 #[.int .i64 s] emp (.int .u64 (s+1)) emp:=by
 intro O w F hs
 have hl:=Lh (word_link s h0 h1)
 go_enter Tryz.func150,Tryz.ntmps150
 go_wp2_with (go_at_call 116;((refine(hl.out).at hs (by (with_reducible exact Qh)) ?_);clear hs;intro w hs;(try simp only[Em,Ma]at hs)))
 (go_ret)
 exact⟨rfl,by ((with_reducible apply Sat.fin hs);(focus with_reducible (repeat first|exact Ql|exact Qn|apply Qb);done))⟩
theorem stk_slot (u:Int)(h0:0≤u)(h1:u≤2147483647):Zk Tryz.prog 155 #[.int .u64 u] emp (.int .i64 (u-1)) emp:=by
 intro O w F hs
 have hl:=Lh (Je u h0 h1)
 go_enter Tryz.func155,Tryz.ntmps155
 go_wp2_with (go_at_call 105;((refine(hl.out).at hs (by (with_reducible exact Qh)) ?_);clear hs;intro w hs;(try simp only[Em,Ma]at hs)))
 (go_ret)
 exact⟨rfl,by ((with_reducible apply Sat.fin hs);(focus with_reducible (repeat first|exact Ql|exact Qn|apply Qb);done))⟩
theorem adr_val {c:Cfg}(hc:c.Ok){r:Nat}{i:Int}(h0:0≤i)(h9:r≠9):base c r+(if r=9 then i*c.Hz else i)=(adr c r i:Int):=by
 rw[if_neg h9]
 have:=adr_eq hc r h0
 omega
theorem pu_addr (gp ba:Nat)(a:Are)(hc:a.c.Ok)(r:Nat)(h1:1≤r)(h2:r≤13)(h9:r≠9)(i:Int)(hi:InReg a.c r i)(v0 v2 v3 v4 v5 v6 v7:Value) :
  Zk Tryz.prog 146 #[.pointer (some ⟨gp,0,none⟩),.int .i64 (r:Int),.int .i64 i] (pt gp (.cells #[v0,.pointer (some ⟨ba,0,none⟩),v2,v3,v4,v5,v6,v7] 146)*AreR ba a) (.int .i64 (adr a.c r i:Nat))
   (pt gp (.cells #[v0,.pointer (some ⟨ba,0,none⟩),v2,v3,v4,v5,v6,v7] 146)*AreR ba a):=by
 intro O w F hs
 simp only[Ma]at hs
 have hG:=Lh (arena_config ba a)
 have hA:=word_addr a.c hc r h1 h2 i hi
 rw[adr_val hc hi.1 h9]at hA
 have HA:=Lh hA;clear hA
 go_enter Tryz.func146,Tryz.ntmps146
 go_wp2_with (first|((with_reducible apply Zb hs);exact Ii;rfl;(with_reducible exact Qh);rfl;rfl;(simp only[Uc,Uz]))|(go_at_call 34;((refine(hG.out).at hs (by (with_reducible repeat first|exact Qh|apply Qk)) ?_);clear hs;intro w hs;(try simp only[Em,Ma]at hs)))|(go_at_call 35;((refine(HA.out).at hs (by (focus((repeat(with_reducible exact Qn));done))) ?_);clear hs;intro w hs;(try simp only[Em,Ma]at hs))))
 (go_ret)
 refine⟨rfl,?_⟩
 simp only[Ma]
 ((with_reducible apply Sat.fin hs);(with_reducible repeat first|exact Ql|exact Qh|apply Qb|apply Qk))
theorem po_addr (gp ba:Nat)(a:Are)(hc:a.c.Ok)(r:Nat)(h1:1≤r)(h2:r≤13)(h9:r≠9)(i:Int)(hi:InReg a.c r i)(v0 v2 v3 v4 v5 v6 v7 v8:Value) :
  Zk Tryz.prog 146 #[.pointer (some ⟨gp,0,none⟩),.int .i64 (r:Int),.int .i64 i] (pt gp (.cells #[v0,.pointer (some ⟨ba,0,none⟩),v2,v3,v4,v5,v6,v7,v8] 149)*AreR ba a) (.int .i64 (adr a.c r i:Nat))
   (pt gp (.cells #[v0,.pointer (some ⟨ba,0,none⟩),v2,v3,v4,v5,v6,v7,v8] 149)*AreR ba a):=by
 intro O w F hs
 simp only[Ma]at hs
 have hG:=Lh (arena_config ba a)
 have hA:=word_addr a.c hc r h1 h2 i hi
 rw[adr_val hc hi.1 h9]at hA
 have HA:=Lh hA;clear hA
 go_enter Tryz.func146,Tryz.ntmps146
 go_wp2_with (first|((with_reducible apply Zb hs);exact Ii;rfl;(with_reducible exact Qh);rfl;rfl;(simp only[Uc,Uz]))|(go_at_call 34;((refine(hG.out).at hs (by (with_reducible repeat first|exact Qh|apply Qk)) ?_);clear hs;intro w hs;(try simp only[Em,Ma]at hs)))|(go_at_call 35;((refine(HA.out).at hs (by (focus((repeat(with_reducible exact Qn));done))) ?_);clear hs;intro w hs;(try simp only[Em,Ma]at hs))))
 (go_ret)
 refine⟨rfl,?_⟩
 simp only[Ma]
 ((with_reducible apply Sat.fin hs);(with_reducible repeat first|exact Ql|exact Qh|apply Qb|apply Qk))
abbrev puC (gp bh ba gt:Nat)(fv:Value)(p:Pu):Zc:=pt gp (.cells #[.pointer (some ⟨bh,0,none⟩),.pointer (some ⟨ba,0,none⟩),.int .i64 p.thread,fv,.int .i64 p.value,.pointer (some ⟨gt,0,none⟩),.int .i64 p.slot,.int .u64 p.top] 146)
def PuR (gp bh ba:Nat)(p:Pu):Zc:=ex fun gt=>puC gp bh ba gt (puFn p.stage gp) p*TakR gt ba p.take
theorem puR {O w:World}{gp bh ba:Nat}{p:Pu}{R:Zc}:Sat O w (PuR gp bh ba p*R)↔∃gt,Sat O w (puC gp bh ba gt (puFn p.stage gp) p*(TakR gt ba p.take*R)):=by
 unfold PuR
 simp only[ZI,Ma]
theorem puR_mk {O w:World}{gp bh ba gt:Nat}{fv:Value}{p:Pu}{R:Zc}(hf:puFn p.stage gp=fv)(hs:Sat O w (puC gp bh ba gt fv p*(TakR gt ba p.take*R))):Sat O w (PuR gp bh ba p*R):=puR.2 ⟨_,by rw[hf];exact hs⟩
attribute [irreducible] PuR
theorem pu_taken (gp bh ba d bx bm:Nat)(m:Mch)(i t:Nat)(c:Cll)(s:Sea)(p:Pu)(hcur:ZG m i t c s) :
  Zk Tryz.prog 144 #[.pointer (some ⟨gp,0,none⟩),.pointer (some ⟨d,0,none⟩)] (PuR gp bh ba p*DkR d bx bm m) (.bool (ZZ m i t c s p).1)
   (PuR gp bh ba (ZZ m i t c s p).2.2*DkR d bx bm (ZZ m i t c s p).2.1):=by
 intro O w F hs
 simp only[Ma]at hs
 obtain⟨p1,p2,p3,p4,p5,p6⟩:=p
 obtain⟨gt,hs⟩:=puR.1 hs
 simp only[]at hs
 have hN:=Lh (desk_now d bx bm m)
 have hP:=Lh (Jg d bx bm m i t c m.now hcur.cur hcur.call)
 have hA:=Lh (Qr d bx bm (m.point i c m.now) i t s 4 0 hcur.cur hcur.seat)
 have hS:=take_slot gt ba p3
 unfold ZZ
 change Zk _ _ _ _ (.int .i64 (Ze p3)) _ at hS
 simp only[]
 generalize Ze p3=sl0 at hS ⊢
 generalize hfv:puFn p6 gp=fv at hs
 have HS:=Lh hS;clear hS
 have HF:=Lh hfv;clear hfv
 clear hcur
 by_cases hu:sl0<0
 ·have hd:decide (sl0<0)=true:=by simpa using hu
  simp only[if_pos hu]
  clear hu
  go_enter Tryz.func144,Tryz.ntmps144
  go_wp2_with (first|(first|((with_reducible apply Zb hs);exact Ii;rfl;(with_reducible exact Qh);rfl;rfl;(simp only[Uc,Uz]))|((with_reducible apply ZA hs);exact Ii;rfl;rfl;(with_reducible repeat first|exact Qh|apply Qk);(rfl);(exact Vb rfl);rfl;clear hs;intro w hs;simp only[Yg,Uc,Uz]at hs))|(go_at_call 126;((refine(HS.out).at hs (by (with_reducible repeat first|exact Qh|apply Qk)) ?_);clear hs;intro w hs;(try simp only[Em,Ma]at hs)))|(go_at_call 129;((refine(hN.out).at hs (by (with_reducible repeat first|exact Qh|apply Qk)) ?_);clear hs;intro w hs;(try simp only[Em,Ma]at hs)))|(go_at_call 128;((refine(hP.out).at hs (by (with_reducible exact Qh)) ?_);clear hs;intro w hs;(try simp only[Em,Ma]at hs)))|(go_at_call 87;((refine(hA.out).at hs (by (with_reducible exact Qh)) ?_);clear hs;intro w hs;(try simp only[Em,Ma]at hs))))
  (go_ret)
  refine⟨rfl,?_⟩
  simp only[Ma]
  apply puR_mk (gt:=gt) (fv:=fv) HF.out
  ((with_reducible apply Sat.fin hs);(with_reducible repeat first|exact Ql|exact Qh|apply Qb|apply Qk))
 ·have hd:decide (sl0<0)=false:=by simpa using hu
  simp only[if_neg hu]
  clear hu
  go_enter Tryz.func144,Tryz.ntmps144
  go_wp2_with (first|(first|((with_reducible apply Zb hs);exact Ii;rfl;(with_reducible exact Qh);rfl;rfl;(simp only[Uc,Uz]))|((with_reducible apply ZA hs);exact Ii;rfl;rfl;(with_reducible repeat first|exact Qh|apply Qk);(rfl);(exact Vb rfl);rfl;clear hs;intro w hs;simp only[Yg,Uc,Uz]at hs))|(go_at_call 126;((refine(HS.out).at hs (by (with_reducible repeat first|exact Qh|apply Qk)) ?_);clear hs;intro w hs;(try simp only[Em,Ma]at hs))))
  (go_ret)
  refine⟨rfl,?_⟩
  simp only[Ma]
  apply puR_mk (gt:=gt) (fv:=fnS 145 gp) rfl
  ((with_reducible apply Sat.fin hs);(with_reducible exact Ql))
theorem pu_ready (gp bh ba d bx bm:Nat)(h:Haz)(a:Are)(m:Mch)(i t:Nat)(c:Cll)(s:Sea)(p:Pu)(hz:HazOk h a m)(t0:0≤p.thread)(t1:p.thread<h.c.T)(hp:p.take=⟨p.thread,1,0,0,0,false⟩)(hcur:ZG m i t c s) :
  Zk Tryz.prog 141 #[.pointer (some ⟨gp,0,none⟩),.pointer (some ⟨d,0,none⟩)] (PuR gp bh ba p*(AreR ba a*DkR d bx bm m)) (.bool (QF a m i t c s p).1)
   (PuR gp bh ba (QF a m i t c s p).2.2.2*(AreR ba (QF a m i t c s p).2.1*DkR d bx bm (QF a m i t c s p).2.2.1)):=by
 intro O w F hs
 simp only[Ma]at hs
 obtain⟨p1,p2,p3,p4,p5,p6⟩:=p
 simp only[]at t0 t1 hp
 obtain⟨tn,rfl⟩:=Int.eq_ofNat_of_zero_le t0
 obtain⟨x,hx,hxl,hin⟩:=hz.cache t0 t1
 rw[Yo]at hx
 have hsh:=hz.sh
 have hR:=fun g=>take_ready g ba d bx bm a m ⟨tn,1,0,0,0,false⟩ tn x rfl hx rfl hin (by omega) (by omega)
 have hc0:=(ZN a m ⟨tn,1,0,0,0,false⟩).curIn hcur
 subst hp
 obtain⟨gt,hs⟩:=puR.1 hs
 unfold QF
 simp only[]at hs ⊢
 clear hz hx hxl hin hsh hcur t0 t1
 generalize Zg a m ⟨tn,1,0,0,0,false⟩=q at hR hc0 ⊢
 obtain⟨q1,q2,q3,q4⟩:=q
 simp only[]at hR hc0 ⊢
 have hK:=pu_taken gp bh ba d bx bm q3 i t c s ⟨tn,p2,q4,p4,p5,1⟩ hc0
 generalize ZZ q3 i t c s ⟨tn,p2,q4,p4,p5,1⟩=qq at hK ⊢
 obtain⟨k1,k2,k3⟩:=qq
 generalize puFn p6 gp=fv at hs
 have HR:=Lh hR;have HK:=Lh hK;clear hR hK hc0
 cases q1 with
 | true=>
  simp only[if_true]
  go_enter Tryz.func141,Tryz.ntmps141
  go_wp2_with (first|(first|((with_reducible apply Zb hs);exact Ii;rfl;(with_reducible exact Qh);rfl;rfl;(simp only[Uc,Uz]))|((with_reducible apply ZA hs);exact Ii;rfl;rfl;(with_reducible exact Qh);(rfl);(exact Vb rfl);rfl;clear hs;intro w hs;simp only[Yg,Uc,Uz]at hs))|(go_at_call 123;((refine((HR.out gt)).at hs (by (with_reducible repeat first|exact Qh|apply Qb|apply Qk)) ?_);clear hs;intro w hs;(try simp only[Em,Ma]at hs)))|(go_at_call 144;(replace hs:=puR_mk (p:=⟨tn,p2,q4,p4,p5,1⟩) (gt:=gt) (fv:=fnS 143 gp) rfl (hs.fin (by (with_reducible repeat first|exact Ql|exact Qh|apply Qb|apply Qk))));((refine(HK.out).at hs (by (with_reducible repeat first|exact Qh|apply Qb|apply Qk)) ?_);clear hs;intro w hs;(try simp only[Em,Ma]at hs))))
  (go_ret)
  refine⟨by simp,?_⟩
  simp only[Ma]
  ((with_reducible apply Sat.fin hs);(with_reducible repeat first|exact Ql|exact Qh|apply Qb|apply Qk))
 | false=>
  simp only[Yn,if_false]
  go_enter Tryz.func141,Tryz.ntmps141
  go_wp2_with (first|(first|((with_reducible apply Zb hs);exact Ii;rfl;(with_reducible exact Qh);rfl;rfl;(simp only[Uc,Uz]))|((with_reducible apply ZA hs);exact Ii;rfl;rfl;(with_reducible exact Qh);(rfl);(exact Vb rfl);rfl;clear hs;intro w hs;simp only[Yg,Uc,Uz]at hs))|(go_at_call 123;((refine((HR.out gt)).at hs (by (with_reducible repeat first|exact Qh|apply Qb|apply Qk)) ?_);clear hs;intro w hs;(try simp only[Em,Ma]at hs))))
  (go_ret)
  refine⟨by simp,?_⟩
  simp only[Ma]
  apply puR_mk (gt:=gt) (fv:=fnS 143 gp) rfl
  ((with_reducible apply Sat.fin hs);(with_reducible repeat first|exact Ql|exact Qh|apply Qb|apply Qk))
theorem pu_taking (gp bh ba d bx bm:Nat)(h:Haz)(a:Are)(m:Mch)(i t:Nat)(c:Cll)(s:Sea)(p:Pu)(ok:PuOk h a m p)(h1:p.stage=1)(hcur:ZG m i t c s) :
  Zk Tryz.prog 143 #[.pointer (some ⟨gp,0,none⟩),.pointer (some ⟨d,0,none⟩)] (PuR gp bh ba p*(AreR ba a*DkR d bx bm m)) (.bool (puTake a m i t c s p).1)
   (PuR gp bh ba (puTake a m i t c s p).2.2.2*(AreR ba (puTake a m i t c s p).2.1*DkR d bx bm (puTake a m i t c s p).2.2.1)):=by
 intro O w F hs
 simp only[Ma]at hs
 obtain⟨p1,p2,p3,p4,p5,p6⟩:=p
 simp only[]at h1
 subst h1
 obtain⟨tok,tb1,tb0⟩:=ok.tk rfl
 simp only[]at tok
 have hR:=fun g=>take_step g ba d bx bm a m p3 tok
 obtain⟨c1,c2,c3⟩:=takeStep_cur a m p3
 have hc0:ZG (Zj a m p3).2.2.1 i t c s:=⟨by rw[c1];exact hcur.cur,by rw[c2];exact hcur.call,by rw[c3];exact hcur.seat⟩
 obtain⟨gt,hs⟩:=puR.1 hs
 unfold puTake
 simp only[]at hs ⊢
 clear ok tok tb1 tb0 c1 c2 c3 hcur
 generalize Zj a m p3=q at hR hc0 ⊢
 obtain⟨q1,q2,q3,q4⟩:=q
 simp only[]at hR hc0 ⊢
 have hK:=pu_taken gp bh ba d bx bm q3 i t c s ⟨p1,p2,q4,p4,p5,1⟩ hc0
 generalize ZZ q3 i t c s ⟨p1,p2,q4,p4,p5,1⟩=qq at hK ⊢
 obtain⟨k1,k2,k3⟩:=qq
 have HR:=Lh hR;have HK:=Lh hK;clear hR hK hc0
 simp only[puFn1]at hs
 cases q1 with
 | true=>
  simp only[if_true]
  go_enter Tryz.func143,Tryz.ntmps143
  go_wp2_with (first|((with_reducible apply Zb hs);exact Ii;rfl;(with_reducible exact Qh);rfl;rfl;(simp only[Uc,Uz]))|(go_at_call 125;((refine((HR.out gt)).at hs (by (with_reducible repeat first|exact Qh|apply Qb|apply Qk)) ?_);clear hs;intro w hs;(try simp only[Em,Ma]at hs)))|(go_at_call 144;(replace hs:=puR_mk (p:=⟨p1,p2,q4,p4,p5,1⟩) (gt:=gt) (fv:=fnS 143 gp) rfl (hs.fin (by (with_reducible repeat first|exact Ql|exact Qh|apply Qb|apply Qk))));((refine(HK.out).at hs (by (with_reducible repeat first|exact Qh|apply Qb|apply Qk)) ?_);clear hs;intro w hs;(try simp only[Em,Ma]at hs))))
  (go_ret)
  refine⟨by simp,?_⟩
  simp only[Ma]
  ((with_reducible apply Sat.fin hs);(with_reducible repeat first|exact Ql|exact Qh|apply Qb|apply Qk))
 | false=>
  simp only[Yn,if_false]
  go_enter Tryz.func143,Tryz.ntmps143
  go_wp2_with (first|((with_reducible apply Zb hs);exact Ii;rfl;(with_reducible exact Qh);rfl;rfl;(simp only[Uc,Uz]))|(go_at_call 125;((refine((HR.out gt)).at hs (by (with_reducible repeat first|exact Qh|apply Qb|apply Qk)) ?_);clear hs;intro w hs;(try simp only[Em,Ma]at hs))))
  (go_ret)
  refine⟨by simp,?_⟩
  simp only[Ma]
  apply puR_mk (gt:=gt) (fv:=fnS 143 gp) rfl
  ((with_reducible apply Sat.fin hs);(with_reducible repeat first|exact Ql|exact Qh|apply Qb|apply Qk))
theorem pu_store (gp bh ba d bx bm:Nat)(h:Haz)(a:Are)(m:Mch)(p:Pu)(ok:PuOk h a m p)(h1:p.stage=2) :
  Zk Tryz.prog 145 #[.pointer (some ⟨gp,0,none⟩),.pointer (some ⟨d,0,none⟩)] (PuR gp bh ba p*(AreR ba a*DkR d bx bm m)) (.bool false)
   (PuR gp bh ba { p with stage:=3 }*(AreR ba a*DkR d bx bm (m.store (adr h.c 11 p.slot) (m.word (adr h.c 11 p.slot)) (p.value%18446744073709551616)))):=by
 intro O w F hs
 simp only[Ma]at hs
 obtain⟨p1,p2,p3,p4,p5,p6⟩:=p
 simp only[]at h1
 subst h1
 obtain⟨s0,s1⟩:=ok.slot (by simp)
 have hz:=ok.hz
 simp only[]at s0 s1
 rw[hz.c]at s1 ⊢
 have hOk:=hz.ok.c
 have hm:m.May (adr a.c 11 p4):=hz.ok.may (by omega) (by omega) (in_value s0 s1)
 have hL:=Lh (Qy d bx bm m _ _ (p2%18446744073709551616) hm.acs)
 have hN:=Lh (word_number p2)
 have hA:=Lh (pu_addr gp ba a hOk 11 (by omega) (by omega) (by omega) p4 (in_value s0 s1))
 obtain⟨gt,hs⟩:=puR.1 hs
 simp only[puFn2]at hs
 simp only[]
 generalize m.word (adr a.c 11 p4)=u at hL ⊢
 clear ok hz hm hOk s0 s1
 go_enter Tryz.func145,Tryz.ntmps145
 go_wp2_with (first|(first|(first|(with_reducible refine NQ.mk ?_)|((with_reducible apply Zh);rfl;rfl)|((with_reducible apply Zq);rfl)|(with_reducible refine EQ.mk ?_ ?_)|(first|(with_reducible exact Zf)|((with_reducible refine Zl ?_ ?_);(focus((with_reducible apply ZF);rfl;rfl))))|(with_reducible refine Zi ?_)|(show ZY _ _ _;rfl))|((with_reducible apply Zb hs);exact Ii;rfl;(with_reducible exact Qh);rfl;rfl;(simp only[Uc,Uz]))|((with_reducible apply ZA hs);exact Ii;rfl;rfl;(with_reducible repeat first|exact Qh|apply Qk);(rfl);(exact Vb rfl);rfl;clear hs;intro w hs;simp only[Yg,Uc,Uz]at hs))|(go_at_call 146;((refine((hA.out _ _ _ _ _ _ _)).at hs (by (with_reducible repeat first|exact Qh|apply Qb|apply Qk)) ?_);clear hs;intro w hs;(try simp only[Em,Ma]at hs)))|(go_at_call 127;((refine(hN.out).at hs (by (focus((repeat(with_reducible exact Qn));done))) ?_);clear hs;intro w hs;(try simp only[Em,Ma]at hs)))|(go_at_call 97;((refine(hL.out).at hs (by (with_reducible repeat first|exact Qh|apply Qk)) ?_);clear hs;intro w hs;(try simp only[Em,Ma]at hs)))|((with_reducible refine Wp (id:=1) (Paz [.neu 5,.neu 6,.neu 7,.neu 9,.neu 10,.neu 11,.neu 12,.eff 8 [0,9,10,11,12],.eff 13 [0],.eff 14 []]) hs rfl ?_ ?_);kernel_rfl;clear hs;intro w hs))
 (go_ret)
 refine⟨rfl,?_⟩
 simp only[Ma]
 apply puR_mk (gt:=gt) (fv:=fnS 147 gp) rfl
 ((with_reducible apply Sat.fin hs);(with_reducible repeat first|exact Ql|exact Qh|apply Qb|apply Qk))
theorem in_top {c:Cfg}:InReg c 3 0:=⟨by omega,by omega,by show(0:Int)<1;omega⟩
theorem in_link {c:Cfg}{i:Int}(h0:0≤i)(h1:i<c.Sl):InReg c 13 i:=⟨h0,by omega,h1⟩
theorem pu_load (gp bh ba d bx bm:Nat)(h:Haz)(a:Are)(m:Mch)(p:Pu)(ok:PuOk h a m p)(h1:p.stage=3) :
  Zk Tryz.prog 147 #[.pointer (some ⟨gp,0,none⟩),.pointer (some ⟨d,0,none⟩)] (PuR gp bh ba p*(AreR ba a*DkR d bx bm m)) (.bool false)
   (PuR gp bh ba { p with top:=m.word (adr h.c 3 0),stage:=4 }*(AreR ba a*DkR d bx bm (m.load (adr h.c 3 0) (m.word (adr h.c 3 0))))):=by
 intro O w F hs
 simp only[Ma]at hs
 obtain⟨p1,p2,p3,p4,p5,p6⟩:=p
 simp only[]at h1
 subst h1
 have hz:=ok.hz
 rw[hz.c]
 have hOk:=hz.ok.c
 have hm:m.May (adr a.c 3 0):=hz.ok.may (by omega) (by omega) in_top
 have hL:=Lh (QD d bx bm m _ _ hm.acs)
 have hA:=Lh (pu_addr gp ba a hOk 3 (by omega) (by omega) (by omega) 0 in_top)
 obtain⟨gt,hs⟩:=puR.1 hs
 simp only[puFn3]at hs
 simp only[]
 generalize m.word (adr a.c 3 0)=u at hL ⊢
 clear ok hz hm hOk
 go_enter Tryz.func147,Tryz.ntmps147
 go_wp2_with (first|((with_reducible apply ZA hs);exact Ii;rfl;rfl;(with_reducible repeat first|exact Qh|apply Qk);(rfl);(exact Vb rfl);rfl;clear hs;intro w hs;simp only[Yg,Uc,Uz]at hs)|(go_at_call 146;((refine((hA.out _ _ _ _ _ _ _)).at hs (by (with_reducible repeat first|exact Qh|apply Qb|apply Qk)) ?_);clear hs;intro w hs;(try simp only[Em,Ma]at hs)))|(go_at_call 85;((refine(hL.out).at hs (by (with_reducible repeat first|exact Qh|apply Qk)) ?_);clear hs;intro w hs;(try simp only[Em,Ma]at hs))))
 (go_ret)
 refine⟨rfl,?_⟩
 simp only[Ma]
 apply puR_mk (gt:=gt) (fv:=fnS 148 gp) rfl
 ((with_reducible apply Sat.fin hs);(with_reducible repeat first|exact Ql|exact Qh|apply Qb|apply Qk))
theorem pu_tie (gp bh ba d bx bm:Nat)(h:Haz)(a:Are)(m:Mch)(p:Pu)(ok:PuOk h a m p)(h1:p.stage=4) :
  Zk Tryz.prog 148 #[.pointer (some ⟨gp,0,none⟩),.pointer (some ⟨d,0,none⟩)] (PuR gp bh ba p*(AreR ba a*DkR d bx bm m)) (.bool false)
   (PuR gp bh ba { p with stage:=5 }*(AreR ba a*DkR d bx bm (m.store (adr h.c 13 p.slot) (m.word (adr h.c 13 p.slot)) p.top))):=by
 intro O w F hs
 simp only[Ma]at hs
 obtain⟨p1,p2,p3,p4,p5,p6⟩:=p
 simp only[]at h1
 subst h1
 obtain⟨s0,s1⟩:=ok.slot (by simp)
 have hz:=ok.hz
 simp only[]at s0 s1
 rw[hz.c]at s1 ⊢
 have hOk:=hz.ok.c
 have hm:m.May (adr a.c 13 p4):=hz.ok.may (by omega) (by omega) (in_link s0 s1)
 have hL:=Lh (Qy d bx bm m _ _ p5 hm.acs)
 have hA:=Lh (pu_addr gp ba a hOk 13 (by omega) (by omega) (by omega) p4 (in_link s0 s1))
 obtain⟨gt,hs⟩:=puR.1 hs
 simp only[puFn4]at hs
 simp only[]
 generalize m.word (adr a.c 13 p4)=u at hL ⊢
 clear ok hz hm hOk s0 s1
 go_enter Tryz.func148,Tryz.ntmps148
 go_wp2_with (first|(first|(first|(with_reducible refine NQ.mk ?_)|((with_reducible apply Zh);rfl;rfl)|((with_reducible apply Zq);rfl)|(with_reducible refine EQ.mk ?_ ?_)|(first|(with_reducible exact Zf)|((with_reducible refine Zl ?_ ?_);(focus((with_reducible apply ZF);rfl;rfl))))|(with_reducible refine Zi ?_)|(show ZY _ _ _;rfl))|((with_reducible apply Zb hs);exact Ii;rfl;(with_reducible exact Qh);rfl;rfl;(simp only[Uc,Uz]))|((with_reducible apply ZA hs);exact Ii;rfl;rfl;(with_reducible repeat first|exact Qh|apply Qk);(rfl);(exact Vb rfl);rfl;clear hs;intro w hs;simp only[Yg,Uc,Uz]at hs))|(go_at_call 146;((refine((hA.out _ _ _ _ _ _ _)).at hs (by (with_reducible repeat first|exact Qh|apply Qb|apply Qk)) ?_);clear hs;intro w hs;(try simp only[Em,Ma]at hs)))|(go_at_call 97;((refine(hL.out).at hs (by (with_reducible repeat first|exact Qh|apply Qk)) ?_);clear hs;intro w hs;(try simp only[Em,Ma]at hs)))|((with_reducible refine Wp (id:=1) (Paz [.neu 5,.neu 6,.neu 7,.neu 9,.neu 10,.neu 11,.neu 12,.eff 8 [0,9,10,11,12],.eff 13 []]) hs rfl ?_ ?_);kernel_rfl;clear hs;intro w hs))
 (go_ret)
 refine⟨rfl,?_⟩
 simp only[Ma]
 apply puR_mk (gt:=gt) (fv:=fnS 149 gp) rfl
 ((with_reducible apply Sat.fin hs);(with_reducible repeat first|exact Ql|exact Qh|apply Qb|apply Qk))
def puSwap (h:Haz)(a:Are)(m:Mch)(i t:Nat)(c:Cll)(s:Sea)(p:Pu):Bool×Are×Mch×Pu:=
 let T:=adr h.c 3 0
 if m.word T=p.top then
  let q:=puDone a (m.swap T (m.word T) p.top (p.slot+1)) i t c s p
  (true,q.1,q.2,p)
 else (false,a,m.swap T (m.word T) p.top (p.slot+1),{ p with stage:=3 })
theorem pu_swap (gp bh ba d bx bm:Nat)(h:Haz)(a:Are)(m:Mch)(i t:Nat)(c:Cll)(s:Sea)(p:Pu)(ok:PuOk h a m p)(h1:p.stage=5)(hcur:ZG m i t c s) :
  Zk Tryz.prog 149 #[.pointer (some ⟨gp,0,none⟩),.pointer (some ⟨d,0,none⟩)] (PuR gp bh ba p*(AreR ba a*DkR d bx bm m)) (.bool (puSwap h a m i t c s p).1)
   (PuR gp bh ba (puSwap h a m i t c s p).2.2.2*(AreR ba (puSwap h a m i t c s p).2.1*DkR d bx bm (puSwap h a m i t c s p).2.2.1)):=by
 intro O w F hs
 simp only[Ma]at hs
 obtain⟨p1,p2,p3,p4,p5,p6⟩:=p
 simp only[]at h1
 subst h1
 obtain⟨s0,s1⟩:=ok.slot (by simp)
 have hz:=ok.hz
 simp only[]at s0 s1
 rw[hz.c]at s1
 unfold puSwap puDone
 rw[hz.c]
 have hOk:=hz.ok.c
 have hS2:=hOk.S2
 have hsh:=hz.sh
 have hm:m.May (adr a.c 3 0):=hz.ok.may (by omega) (by omega) in_top
 have hW:=desk_swap d bx bm m _ _ p5 (p4+1) hm.acs
 have hA:=Lh (pu_addr gp ba a hOk 3 (by omega) (by omega) (by omega) 0 in_top)
 have hK:=Lh (stk_link p4 (by omega) (by omega))
 have hil:p4.toNat<a.slots.length:=by rw[hz.ok.slots];omega
 obtain⟨j,rfl⟩:=Int.eq_ofNat_of_zero_le s0
 rw[Yo]at hil
 obtain⟨gt,hs⟩:=puR.1 hs
 simp only[puFn5]at hs
 simp only[Yo]
 generalize m.word (adr a.c 3 0)=u at hW ⊢
 by_cases hu:u=p5
 ·have hN:=Lh (desk_now d bx bm (m.swap (adr a.c 3 0) u p5 (j+1)))
  have hP:=Lh (Jg d bx bm (m.swap (adr a.c 3 0) u p5 (j+1)) i t c m.now hcur.cur hcur.call)
  have hSh:=Lh (Q1 ba d bx bm a ((m.swap (adr a.c 3 0) u p5 (j+1)).point i c m.now) j (a.slots.getD j ⟨0,0⟩) 3 (by simp[hil]) (by omega) (by omega) (by show m.shifts.length<_;omega))
  have hAn:=Lh (Qr d bx bm (((m.swap (adr a.c 3 0) u p5 (j+1)).point i c m.now).shift j (a.slots.getD j ⟨0,0⟩).state 3) i t s 1 0 hcur.cur hcur.seat)
  simp only[if_pos hu]
  have hu':decide (u=p5)=true:=by simpa using hu
  rw[hu']at hW
  have HW:=Lh hW
  clear hW hu hu' ok hz hm hOk s0 s1 hcur hil
  generalize a.slots.getD j ⟨0,0⟩=st at hSh hAn ⊢
  go_enter Tryz.func149,Tryz.ntmps149
  go_wp2_with (first|(first|(first|(with_reducible refine NQ.mk ?_)|((with_reducible apply Zh);rfl;rfl)|((with_reducible apply Zq);rfl)|(with_reducible refine EQ.mk ?_ ?_)|(first|(with_reducible exact Zf)|((with_reducible refine Zl ?_ ?_);(focus((with_reducible apply ZF);rfl;rfl))))|(with_reducible refine Zi ?_)|(show ZY _ _ _;rfl))|((with_reducible apply Zb hs);exact Ii;rfl;(with_reducible repeat first|exact Qh|apply Qk);rfl;rfl;(simp only[Uc,Uz])))|(go_at_call 146;((refine((hA.out _ _ _ _ _ _ _)).at hs (by (with_reducible repeat first|exact Qh|apply Qb|apply Qk)) ?_);clear hs;intro w hs;(try simp only[Em,Ma]at hs)))|(go_at_call 150;((refine(hK.out).at hs (by (focus((repeat(with_reducible exact Qn));done))) ?_);clear hs;intro w hs;(try simp only[Em,Ma]at hs)))|(go_at_call 86;((refine(HW.out).at hs (by (with_reducible repeat first|exact Qh|apply Qk)) ?_);clear hs;intro w hs;(try simp only[Em,Ma]at hs)))|(go_at_call 129;((refine(hN.out).at hs (by (with_reducible exact Qh)) ?_);clear hs;intro w hs;(try simp only[Em,Ma]at hs)))|(go_at_call 128;((refine(hP.out).at hs (by (with_reducible exact Qh)) ?_);clear hs;intro w hs;(try simp only[Em,Ma]at hs)))|(go_at_call 118;((refine(hSh.out).at hs (by (with_reducible repeat first|exact Qh|apply Qb|apply Qk)) ?_);clear hs;intro w hs;(try simp only[Em,Ma]at hs)))|(go_at_call 87;((refine(hAn.out).at hs (by (with_reducible repeat first|exact Qh|apply Qk)) ?_);clear hs;intro w hs;(try simp only[Em,Ma]at hs)))|((with_reducible refine Wp (id:=1) [.neu 0,.neu 1,.neu 2,.neu 3,.neu 5,.neu 6,.neu 7,.neu 8,.neu 9,.neu 10,.neu 11,.neu 12,.eff 4 [0,5,6,7,8,9,10,11,12],.eff 13 [0,5,6,7,8],.eff 14 [],.neu 15] hs rfl ?_ ?_);kernel_rfl;clear hs;intro w hs)|((with_reducible refine Wp (id:=5) (Paz (Pbz [.eff 10 []])) hs rfl ?_ ?_);kernel_rfl;clear hs;intro w hs))
  (go_ret)
  refine⟨rfl,?_⟩
  simp only[Ma]
  apply puR_mk (gt:=gt) (fv:=fnS 149 gp) rfl
  ((with_reducible apply Sat.fin hs);(focus((repeat(first|with_reducible exact Ql|with_reducible exact Qh|with_reducible apply Qb|exact Qh|with_reducible apply Qk));done)))
 ·simp only[if_neg hu]
  have hu':decide (u=p5)=false:=by simpa using hu
  rw[hu']at hW
  have HW:=Lh hW
  clear hW hu hu' ok hz hm hOk s0 s1 hcur hil
  go_enter Tryz.func149,Tryz.ntmps149
  go_wp2_with (first|(first|(first|(with_reducible refine NQ.mk ?_)|((with_reducible apply Zh);rfl;rfl)|((with_reducible apply Zq);rfl)|(with_reducible refine EQ.mk ?_ ?_)|(first|(with_reducible exact Zf)|((with_reducible refine Zl ?_ ?_);(focus((with_reducible apply ZF);rfl;rfl))))|(with_reducible refine Zi ?_)|(show ZY _ _ _;rfl))|((with_reducible apply Zb hs);exact Ii;rfl;(with_reducible exact Qh);rfl;rfl;(simp only[Uc,Uz]))|((with_reducible apply ZA hs);exact Ii;rfl;rfl;(with_reducible repeat first|exact Qh|apply Qk);(rfl);(exact Vb rfl);rfl;clear hs;intro w hs;simp only[Yg,Uc,Uz]at hs))|(go_at_call 146;((refine((hA.out _ _ _ _ _ _ _)).at hs (by (with_reducible repeat first|exact Qh|apply Qb|apply Qk)) ?_);clear hs;intro w hs;(try simp only[Em,Ma]at hs)))|(go_at_call 150;((refine(hK.out).at hs (by (focus((repeat(with_reducible exact Qn));done))) ?_);clear hs;intro w hs;(try simp only[Em,Ma]at hs)))|(go_at_call 86;((refine(HW.out).at hs (by (with_reducible repeat first|exact Qh|apply Qk)) ?_);clear hs;intro w hs;(try simp only[Em,Ma]at hs)))|((with_reducible refine Wp (id:=1) [.neu 0,.neu 1,.neu 2,.neu 3,.neu 5,.neu 6,.neu 7,.neu 8,.neu 9,.neu 10,.neu 11,.neu 12,.eff 4 [0,5,6,7,8,9,10,11,12],.eff 13 [0,5,6,7,8],.eff 14 [],.neu 15] hs rfl ?_ ?_);kernel_rfl;clear hs;intro w hs))
  (go_ret)
  refine⟨rfl,?_⟩
  simp only[Ma]
  apply puR_mk (gt:=gt) (fv:=fnS 147 gp) rfl
  ((with_reducible apply Sat.fin hs);(with_reducible repeat first|exact Ql|exact Qh|apply Qb|apply Qk))
theorem pu_step (gp bh ba d bx bm:Nat)(h:Haz)(a:Are)(m:Mch)(i t:Nat)(c:Cll)(s:Sea)(p:Pu)(ok:PuOk h a m p)(hcur:ZG m i t c s) :
  Zk Tryz.prog 142 #[.pointer (some ⟨gp,0,none⟩),.pointer (some ⟨d,0,none⟩)] (PuR gp bh ba p*(AreR ba a*DkR d bx bm m)) (.bool (Jf h a m i t c s p).1)
   (PuR gp bh ba (Jf h a m i t c s p).2.2.2*(AreR ba (Jf h a m i t c s p).2.1*DkR d bx bm (Jf h a m i t c s p).2.2.1)):=by
 have key:∀(f:Nat) (r:Bool×Are×Mch×Pu),puFn p.stage gp=fnS f gp →
   Zk Tryz.prog f #[.pointer (some ⟨gp,0,none⟩),.pointer (some ⟨d,0,none⟩)] (PuR gp bh ba p*(AreR ba a*DkR d bx bm m)) (.bool r.1) (PuR gp bh ba r.2.2.2*(AreR ba r.2.1*DkR d bx bm r.2.2.1)) →
   (∀w,(Qj (fnS f gp) #[.pointer (some ⟨d,0,none⟩)]).run Tryz.prog w=.ok (.enter f #[.pointer (some ⟨gp,0,none⟩),.pointer (some ⟨d,0,none⟩)]) w) →
   Zk Tryz.prog 142 #[.pointer (some ⟨gp,0,none⟩),.pointer (some ⟨d,0,none⟩)] (PuR gp bh ba p*(AreR ba a*DkR d bx bm m)) (.bool r.1) (PuR gp bh ba r.2.2.2*(AreR ba r.2.1*DkR d bx bm r.2.2.1)):=by
  intro f r hf hG hr O w F hs
  have HD:=Lh (hG.dyn (s:=Qj (fnS f gp) #[.pointer (some ⟨d,0,none⟩)]) hr)
  have HF:=Lh hf
  simp only[Ma]at hs
  obtain⟨gt,hs⟩:=puR.1 hs
  rw[hf]at hs
  clear hG hr hf ok hcur
  go_enter Tryz.func142,Tryz.ntmps142
  go_wp2_with (first|((with_reducible apply Zb hs);exact Ii;rfl;(with_reducible exact Qh);rfl;rfl;(simp only[Uc,Uz]))|((replace hs:=puR_mk (p:=p) (gt:=gt) HF.out (hs.fin (by (focus with_reducible (repeat first|exact Ql|apply Qb|apply Qk);done))));(with_reducible apply wl_val1 hs);rfl;rfl;exact HD.out;(focus with_reducible (repeat first|exact Qh|apply Qb);done);rfl;clear hs;intro v w hs;simp only[Ma]at hs;(have hs9:=Zx.1 hs);clear hs;(obtain⟨rfl,hs⟩:=hs9);(simp only[Uc,Uz])))
  (go_ret)
  refine⟨rfl,?_⟩
  simp only[Ma]
  ((with_reducible apply Sat.fin hs);(with_reducible exact Ql))
 unfold Jf
 simp only[]
 rcases ok.stage with e|e|e|e|e
 ·rw[if_pos e]
  exact key _ (puTake a m i t c s p) (by rw[e];rfl) (pu_taking gp bh ba d bx bm h a m i t c s p ok e hcur) (fun w=>by kernel_rfl)
 ·rw[if_neg (by omega),if_pos e]
  exact key _ (false,a,m.store (adr h.c 11 p.slot) (m.word (adr h.c 11 p.slot)) (p.value%18446744073709551616),{ p with stage:=3 }) (by rw[e];rfl) (pu_store gp bh ba d bx bm h a m p ok e) (fun w=>by kernel_rfl)
 ·rw[if_neg (by omega),if_neg (by omega),if_pos e]
  exact key _ (false,a,m.load (adr h.c 3 0) (m.word (adr h.c 3 0)),{ p with top:=m.word (adr h.c 3 0),stage:=4 }) (by rw[e];rfl) (pu_load gp bh ba d bx bm h a m p ok e) (fun w=>by kernel_rfl)
 ·rw[if_neg (by omega),if_neg (by omega),if_neg (by omega),if_pos e]
  exact key _ (false,a,m.store (adr h.c 13 p.slot) (m.word (adr h.c 13 p.slot)) p.top,{ p with stage:=5 }) (by rw[e];rfl) (pu_tie gp bh ba d bx bm h a m p ok e) (fun w=>by kernel_rfl)
 ·rw[if_neg (by omega),if_neg (by omega),if_neg (by omega),if_neg (by omega)]
  exact key _ (puSwap h a m i t c s p) (by rw[e];rfl) (pu_swap gp bh ba d bx bm h a m i t c s p ok e hcur) (fun w=>by kernel_rfl)
end Go.Proofs.YtjagadldibbbbaaGreat
