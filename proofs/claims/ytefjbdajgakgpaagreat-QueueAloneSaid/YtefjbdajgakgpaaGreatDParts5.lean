import Derived.Test.YtefjbdajgakgpaaGreatDParts
set_option linter.all false
namespace Go.Proofs.YtefjbdajgakgpaaGreat
open Go.RowKit Hp
set_option maxRecDepth 100000
set_option maxHeartbeats 1000000
attribute [local irreducible] Go.Calls
section
theorem give_ready_full (g b d bx bm:Nat)(E:TypeId)(a:Are)(m:Mch)(p:Psh)(t:Nat)(x:List Int)(ht:p.thread=(t:Int))(hx:a.caches[t]? = some x)(hp:p.at_=1)(hf:a.c.Ca≤x.length) :
  Zk Tryz.prog 182 #[.pointer (some ⟨g,0,none⟩),.pointer (some ⟨d,0,none⟩)] (PshR g b E p*(AreR b a*DkR d bx bm m))
   (.bool false) (PshR g b E p*(AreR b a*DkR d bx bm m)):=by
 intro O w F hs
 simp only[Ma]at hs
 unfold PshR at hs
 obtain⟨ps,pa,ph,pt_⟩:=p
 simp only[]at ht hp hs
 subst ht hp
 have hs:=hs.pull (A:=AreR b a) (by (with_reducible repeat first|exact Qh|apply Qk))
 have hlt:=(List.getElem?_eq_some_iff.1 hx).1
 (obtain⟨vas,vac,us,u,hus,hu,hs⟩:=areT hs hx)
 have hltu:t<us.length:=by omega
 have hge:decide ((x.length:Int)≥a.c.Ca)=true:=by simpa using hf
 go_enter Tryz.func182,Tryz.ntmps182
 go_wp2_with (first|(with_reducible refine NQ.mk ?_)|((with_reducible apply Zi);rfl;rfl)|(with_reducible refine Zj ?_)|((with_reducible apply Zb hs);exact Ii;rfl;(with_reducible repeat first|exact Qh|apply Qk);rfl;rfl;simp only[Uc,Uz])|((with_reducible apply ZE hs);exact Ii;rfl;assumption;(with_reducible repeat first|exact Qh|apply Qk);rfl;(exact Ze (by assumption));rfl;rfl;simp only[Uc,Uz])|((with_reducible apply Qe hs);exact Ii;exact Ii;rfl;rfl;(with_reducible repeat first|exact Qh|apply Qk);rfl;(simp only[Wm,Ws,Wa,Wc,Wn,Wr]at *;omega);rfl;intro b off hat;simp only[Uc,Uz])|((with_reducible apply ZS hs);exact Ii;rfl;(with_reducible repeat first|exact Qh|apply Qk);rfl;simp only[Uc,Uz])|((with_reducible refine Wp (id:=3) (Paz (Pbz (Pcz (Pdz [.neu 20,.neu 21,.neu 22,.neu 23,.neu 24])))) hs rfl ?_ ?_);kernel_rfl;clear hs;intro w hs))
 go_ret
 refine⟨rfl,?_⟩
 (replace hs:=areT_back hus hu hx (hs.fin (by (with_reducible exact Ql))))
 unfold PshR
 simp only[Ma]
 (with_reducible apply Sat.fin hs;repeat first|exact Ql|exact Qh|apply Qb|apply Qk)
theorem give_ready_room (g b d bx bm:Nat)(E:TypeId)(a:Are)(m:Mch)(p:Psh)(t n:Nat)(s:Slt)(x:List Int)(ht:p.thread=(t:Int))(hn:p.slot=(n:Int))(hx:a.caches[t]? = some x)(hsn:a.slots[n]? = some s)(hp:p.at_=1)(hf:¬a.c.Ca≤x.length)(hl:m.shifts.length<4294967296)(hxl:x.length<4294967296) :
  Zk Tryz.prog 182 #[.pointer (some ⟨g,0,none⟩),.pointer (some ⟨d,0,none⟩)] (PshR g b E p*(AreR b a*DkR d bx bm m))
   (.bool true) (PshR g b E { p with at_:=0 }*(AreR b ({ a with caches:=a.caches.set t (x++[p.slot]) }.shift n m.thread 1)*DkR d bx bm (m.shift n s.state 1))):=by
 intro O w F hs
 simp only[Ma]at hs
 unfold PshR at hs
 obtain⟨ps,pa,ph,pt_⟩:=p
 simp only[]at ht hp hs hn
 subst ht hp hn
 have hs:=hs.pull (A:=AreR b a) (by (with_reducible repeat first|exact Qh|apply Qk))
 have hlt:=(List.getElem?_eq_some_iff.1 hx).1
 have hSh:=Lh (Jb b d bx bm { a with caches:=a.caches.set t (x++[(n:Int)]) } m n s 1 hsn (by omega) (by omega) hl)
 (obtain⟨vas,vac,us,u,hus,hu,hs⟩:=areT hs hx)
 have hltu:t<us.length:=by omega
 have hge:decide ((x.length:Int)≥a.c.Ca)=false:=by simpa using hf
 have hf:=Lh hf
 go_enter Tryz.func182,Tryz.ntmps182
 go_wp2_with (first|(with_reducible first|apply NQ.mk|apply EQ.mk|exact Zg|apply Zj)|((with_reducible apply Zi);rfl;rfl)|((with_reducible apply Zo);rfl)|((with_reducible refine Zn ?_ ?_);focus((with_reducible apply ZI);rfl;rfl))|(show Qd _ _ _;rfl)|((with_reducible apply Zb hs);exact Ii;rfl;(with_reducible repeat first|exact Qh|apply Qk);rfl;rfl;simp only[Uc,Uz])|((with_reducible apply Zv hs);exact Ii;rfl;rfl;(with_reducible repeat first|exact Qh|apply Qk);rfl;exact Vb rfl;rfl;clear hs;intro w hs;simp only[Yg,Uc,Uz]at hs)|((with_reducible apply ZE hs);exact Ii;rfl;assumption;(with_reducible repeat first|exact Qh|apply Qk);rfl;(exact Ze (by assumption));rfl;rfl;simp only[Uc,Uz])|((with_reducible apply QO hs);exact Ii;rfl;rfl;assumption;(with_reducible repeat first|exact Qh|apply Qk);rfl;(exact Ze (by assumption));exact Vb rfl;(apply QS;apply hs.pull;(with_reducible exact Qh));rfl;clear hs;intro w hs)|((with_reducible apply Jv hs);exact Ii;exact Ii;rfl;assumption;rfl;(with_reducible repeat first|exact Qh|apply Qk);rfl;(simp only[Wm,Ws,Wa,Wc,Wn,Wr]at *;omega);rfl;simp only[Uc,Uz])|((with_reducible apply Qe hs);exact Ii;exact Ii;rfl;rfl;(with_reducible repeat first|exact Qh|apply Qk);rfl;(simp only[Wm,Ws,Wa,Wc,Wn,Wr]at *;omega);rfl;intro b off hat;simp only[Uc,Uz])|((with_reducible apply ZS hs);exact Ii;rfl;(with_reducible repeat first|exact Qh|apply Qk);rfl;simp only[Uc,Uz])|((with_reducible apply wl_bs hs);exact Ii;exact Ii;rfl;rfl;rfl;rfl;exact Vb rfl;rfl;clear hs;intro w v hs;simp only[Uc,Uz])|((with_reducible apply JA hs);exact Ii;exact Ii;rfl;rfl;(focus with_reducible (repeat first|exact Qh|apply Qk);done);(with_reducible exact Qh);(simp only[Wm,Ws,Wa,Wc,Wn,Wr]at *;omega);exact Vb rfl;rfl;clear hs;intro w v hs;simp only[Uc,Uz])|(go_at_call 149;(replace hs:=areT_mk2 (x:=((x++[(n:Int)]))) hus hlt (hs.fin (by (focus((repeat(first|with_reducible exact Ql|with_reducible exact Qh|with_reducible apply Qb|exact Qh|with_reducible apply Qk));done)))) (by simp));(refine(hSh.out).at hs (by with_reducible repeat first|exact Qh|apply Qb|apply Qk) ?_;clear hs;intro w hs;(try simp only[Em,Ma]at hs)))|((with_reducible refine Wp (id:=3) (Paz (Pbz (Pcz (Pdz [.neu 20,.neu 21,.neu 22,.neu 23,.neu 24])))) hs rfl ?_ ?_);kernel_rfl;clear hs;intro w hs)|((with_reducible refine Wp (id:=5) (Paz (Pbz (Pcz (Pdz (Pez (Pfz [.neu 30,.eff 31 [0,1,2,3,4,5,6,7,8,9,10,11,12,13,14,15,16,17,18,19,20,21,22,23,24,25],.eff 32 [0,1,2,3,4,5,6,7,8,9,10,11],.neu 33,.eff 34 []])))))) hs rfl ?_ ?_);kernel_rfl;clear hs;intro w hs)|((with_reducible refine Wp (id:=6) (Paz (Pbz [.neu 10,.eff 11 []])) hs rfl ?_ ?_);kernel_rfl;clear hs;intro w hs))
 go_ret
 refine⟨rfl,?_⟩
 simp only[Ma]
 unfold PshR
 (with_reducible apply Sat.fin hs;repeat first|exact Ql|exact Qh|apply Qb|apply Qk)
end
section
structure AOk (a:Are)(m:Mch):Prop where
 c:a.c.Ok
 used:m.used=false
 words:m.mem.words.length=(base a.c 14).toNat
 log:m.mem.log.length<4294967296
 ahead:m.mem.ahead.length<4294967296
 shifts:m.shifts.length<4294967296
 slots:a.slots.length=a.c.Sl.toNat
theorem AOk.may {a:Are}{m:Mch}(h:AOk a m){r:Nat}(h1:1≤r)(h2:r≤13){i:Int}(hi:InReg a.c r i):m.May (adr a.c r i):=
 ⟨h.used,by rw[h.words];exact adr_lt h.c h1 h2 hi,h.log,h.ahead⟩
structure Tak where
 thread:Int
 at_:Int
 head:Int
 next:Int
 slot:Int
 taken:Bool
def TakR (g ba:Nat)(t:Tak):Zc:=pt g (.cells #[.pointer (some ⟨ba,0,none⟩),.int .i64 t.thread,.int .i64 t.at_,.int .u64 t.head,.int .u64 t.next,.int .i64 t.slot,.bool t.taken] 267)
theorem arena_take (b:Nat)(a:Are)(t:Int)(h0:0<a.slots.length) :
  Makes Tryz.prog 137 #[.pointer (some ⟨b,0,none⟩),.int .i64 t] (AreR b a) (fun g=>TakR g b ⟨t,1,0,0,0,false⟩*AreR b a):=by
 intro O w F hs
 (obtain⟨vas,vac,hs⟩:=areR.1 hs)
 have hl:(((a.slots.map Slt.e).length:Int)==0)=false:=by simp;intro e;simp[e]at h0
 have hl2:((a.slots.length:Int)==0)=false:=by simp;intro e;simp[e]at h0
 go_enter Tryz.func137,Tryz.ntmps137
 go_wp2_with (first|((with_reducible apply Zb hs);exact Ii;rfl;(with_reducible repeat first|exact Qh|apply Qk);rfl;rfl;simp only[Uc,Uz])|((with_reducible apply Zt hs);rfl;rfl;rfl;clear hs;intro w b hs;simp only[Uc,Uz])|((with_reducible apply ZS hs);exact Ii;rfl;(with_reducible repeat first|exact Qh|apply Qk);rfl;simp only[Uc,Uz]))
 go_ret
 refine⟨_,rfl,?_⟩
 unfold TakR
 rw[Ma]
 have hs:=areR_mk (hs.fin (by (with_reducible repeat first|exact Ql|exact Qh|apply Qb|apply Qk)))
 (with_reducible apply Sat.fin hs;repeat first|exact Ql|exact Qh|apply Qb|apply Qk)
theorem take_slot (g b:Nat)(t:Tak) :
  Zk Tryz.prog 142 #[.pointer (some ⟨g,0,none⟩)] (TakR g b t) (.int .i64 (if t.taken=true then t.slot else -1)) (TakR g b t):=by
 intro O w F hs
 obtain⟨t1,t2,t3,t4,t5,t6⟩:=t
 unfold TakR at hs
 cases t6
 all_goals
  go_enter Tryz.func142,Tryz.ntmps142
  go_wp2_with ((with_reducible apply Zb hs);exact Ii;rfl;(with_reducible exact Qh);rfl;rfl;simp only[Uc,Uz])
  go_ret
  refine⟨rfl,?_⟩
  unfold TakR
  ((with_reducible apply Sat.fin hs);(with_reducible exact Ql))
def Jo (a:Are)(m:Mch)(t:Tak)(s:Int):Are×Mch×Tak:=
 (a.shift s.toNat m.thread 2,m.shift s (a.slots.getD s.toNat ⟨0,0⟩).state 2,{ t with slot:=s,taken:=true,at_:=0 })
theorem take_got (g b d bx bm:Nat)(a:Are)(m:Mch)(t:Tak)(n:Nat)(hn:n<a.slots.length)(hl:m.shifts.length<4294967296) :
  Zk Tryz.prog 152 #[.pointer (some ⟨g,0,none⟩),.pointer (some ⟨d,0,none⟩),.int .i64 (n:Int)] (TakR g b t*(AreR b a*DkR d bx bm m)) (.bool true)
   (TakR g b (Jo a m t n).2.2*(AreR b (Jo a m t n).1*DkR d bx bm (Jo a m t n).2.1)):=by
 intro O w F hs
 simp only[Ma]at hs
 obtain⟨t1,t2,t3,t4,t5,t6⟩:=t
 unfold TakR at hs
 have hSh:=Lh (Jb b d bx bm a m n (a.slots.getD n ⟨0,0⟩) 2 (by simp[hn]) (by omega) (by omega) hl)
 go_enter Tryz.func152,Tryz.ntmps152
 go_wp2_with (first|((with_reducible apply Zb hs);exact Ii;rfl;(with_reducible exact Qh);rfl;rfl;simp only[Uc,Uz])|((with_reducible apply Zv hs);exact Ii;rfl;rfl;(with_reducible exact Qh);rfl;exact Vb rfl;rfl;clear hs;intro w hs;simp only[Yg,Uc,Uz]at hs)|(go_at_call 149;(refine(hSh.out).at hs (by with_reducible repeat first|exact Qh|apply Qb|apply Qk) ?_;clear hs;intro w hs;(try simp only[Em,Ma]at hs))))
 go_ret
 refine⟨rfl,?_⟩
 simp only[Jo,Ma]
 unfold TakR
 ((with_reducible apply Sat.fin hs);(focus((repeat(first|with_reducible exact Ql|with_reducible exact Qh|with_reducible apply Qb|exact Qh|with_reducible apply Qk));done)))
def Zf (a:Are)(m:Mch)(t:Tak):Bool×Are×Mch×Tak:=
 let x:=a.caches.getD t.thread.toNat []
 if x.length=0 then (false,a,m,t)
 else (true,Jo { a with caches:=a.caches.set t.thread.toNat (x.take (x.length-1)) } m t (x.getD (x.length-1) 0))
theorem take_ready (g b d bx bm:Nat)(a:Are)(m:Mch)(t:Tak)(n:Nat)(x:List Int)(ht:t.thread=(n:Int))(hx:a.caches[n]? = some x)(ha:t.at_=1)(hins:∀s∈x,0≤s∧s<a.slots.length)(hl:m.shifts.length<4294967296)(hxl:x.length<4294967296) :
  Zk Tryz.prog 138 #[.pointer (some ⟨g,0,none⟩),.pointer (some ⟨d,0,none⟩)] (TakR g b t*(AreR b a*DkR d bx bm m)) (.bool (Zf a m t).1)
   (TakR g b (Zf a m t).2.2.2*(AreR b (Zf a m t).2.1*DkR d bx bm (Zf a m t).2.2.1)):=by
 intro O w F hs
 simp only[Ma]at hs
 obtain⟨t1,t2,t3,t4,t5,t6⟩:=t
 simp only[]at ht ha hs
 subst ht ha
 have hT:=Lh (arena_thread b a n x hx)
 have hlt:=(List.getElem?_eq_some_iff.1 hx).1
 have hxd:a.caches.getD n []=x:=by simp[Yb,hx]
 by_cases h0:x.length=0
 ·have e:Zf a m ⟨n,1,t3,t4,t5,t6⟩=(false,a,m,⟨n,1,t3,t4,t5,t6⟩):=by
   unfold Zf;simp only[Yo,hxd,h0,if_true]
  rw[e]
  clear e
  have h0':((x.length:Int)==0)=true:=by simp;exact List.length_eq_zero_iff.1 h0
  unfold TakR at hs
  clear hxd h0
  go_enter Tryz.func138,Tryz.ntmps138
  go_wp2_with (first|(with_reducible refine NQ.mk ?_)|((with_reducible apply Zi);rfl;rfl)|((with_reducible apply Zo);rfl)|(with_reducible refine EQ.mk ?_ ?_)|(with_reducible exact Zg)|(with_reducible refine Zj ?_)|((with_reducible apply Zb hs);exact Ii;rfl;(with_reducible repeat first|exact Qh|apply Qk);rfl;rfl;simp only[Uc,Uz])|((with_reducible apply ZE hs);exact Ii;rfl;assumption;(with_reducible repeat first|exact Qh|apply Qk);rfl;(exact Ze (by assumption));rfl;rfl;simp only[Uc,Uz])|((with_reducible apply Qe hs);exact Ii;exact Ii;rfl;rfl;(with_reducible repeat first|exact Qh|apply Qk);rfl;(simp only[Wm,Ws,Wa,Wc,Wn,Wr]at *;omega);rfl;intro b off hat;simp only[Uc,Uz])|((with_reducible apply ZS hs);exact Ii;rfl;(with_reducible repeat first|exact Qh|apply Qk);rfl;simp only[Uc,Uz])|(go_at_call 151;(refine(hT.out).at hs (by with_reducible repeat first|exact Qh|apply Qk) ?_;clear hs;intro w hs;(try simp only[Em,Ma]at hs));(obtain⟨vas,vac,us,u,hus,hu,hs⟩:=areT hs hx);(have hltu:n<us.length:=by omega))|((with_reducible refine Wp (id:=3) (Paz [.neu 5,.neu 6,.neu 7,.eff 8 [],.neu 9,.neu 10,.neu 11,.neu 12,.neu 13,.neu 14,.neu 15,.neu 16,.neu 17,.neu 18,.neu 19,.neu 20,.neu 21,.neu 22,.neu 23,.neu 24,.neu 25,.neu 26]) hs rfl ?_ ?_);kernel_rfl;clear hs;intro w hs))
  go_ret
  refine⟨rfl,?_⟩
  (replace hs:=areT_back hus hu hx (hs.fin (by (with_reducible exact Ql))))
  unfold TakR
  simp only[Ma]
  (with_reducible apply Sat.fin hs;repeat first|exact Ql|exact Qh|apply Qb|apply Qk)
 ·have hlen:x.length-1<x.length:=by omega
  obtain⟨v,hv⟩:∃v,x[x.length-1]? = some v:=⟨_,Yd hlen⟩
  have hvd:x.getD (x.length-1) 0=v:=by rw[Yb,hv];rfl
  obtain⟨v0,v1⟩:=hins v (Yc hv)
  obtain⟨k,rfl⟩:=Int.eq_ofNat_of_zero_le v0
  have hk:k<a.slots.length:=by omega
  have e:Zf a m ⟨n,1,t3,t4,t5,t6⟩=(true,Jo { a with caches:=a.caches.set n (x.take (x.length-1)) } m ⟨n,1,t3,t4,t5,t6⟩ k):=by
   unfold Zf;simp only[Yo,hxd,h0,if_false,hvd]
  rw[e]
  clear e
  have h0':((x.length:Int)==0)=false:=by simp;intro e;simp[e]at h0
  have e1:(x.length:Int)-1=((x.length-1:Nat):Int):=by omega
  have hG:=take_got g b d bx bm { a with caches:=a.caches.set n (x.take (x.length-1)) } m ⟨n,1,t3,t4,t5,t6⟩ k hk hl
  unfold TakR at hG
  have HG:=Lh hG;clear hG
  unfold TakR at hs
  clear hxd hvd hins v0 v1
  have hpos:0<x.length:=by omega
  clear h0
  have hv2:x[((x.length:Int)-1).toNat]? = some (k:Int):=by rw[e1,Yo];exact hv
  have HE:=Lh e1;clear e1 hv
  have HL:=Lh hlen;clear hlen
  go_enter Tryz.func138,Tryz.ntmps138
  go_wp2_with (first|(with_reducible refine NQ.mk ?_)|((with_reducible apply Zi);rfl;rfl)|((with_reducible apply Zo);rfl)|(with_reducible refine EQ.mk ?_ ?_)|(with_reducible exact Zg)|(with_reducible refine Zj ?_)|((with_reducible apply Zb hs);exact Ii;rfl;(with_reducible repeat first|exact Qh|apply Qk);rfl;rfl;simp only[Uc,Uz])|((with_reducible apply ZE hs);exact Ii;rfl;assumption;(with_reducible repeat first|exact Qh|apply Qk);rfl;(exact Ze (by assumption));rfl;rfl;simp only[Uc,Uz])|((with_reducible apply QO hs);exact Ii;rfl;rfl;assumption;(with_reducible repeat first|exact Qh|apply Qk);rfl;(exact Ze (by assumption));exact Vb rfl;(apply resH_one;apply QS;apply hs.pull;(with_reducible repeat first|exact Qh|apply Qk));rfl;clear hs;intro w hs)|((with_reducible apply Jv hs);exact Ii;exact Ii;rfl;assumption;rfl;(with_reducible repeat first|exact Qh|apply Qk);rfl;(simp only[Wm,Ws,Wa,Wc,Wn,Wr]at *;omega);rfl;simp only[Uc,Uz])|((with_reducible apply Qe hs);exact Ii;exact Ii;rfl;rfl;(with_reducible repeat first|exact Qh|apply Qk);(first|rfl|exact(Int.toNat_of_nonneg (by omega)).symm);(simp only[Wm,Ws,Wa,Wc,Wn,Wr]at *;omega);rfl;intro b off hat;simp only[Uc,Uz])|((with_reducible apply ZS hs);exact Ii;rfl;(with_reducible repeat first|exact Qh|apply Qk);rfl;simp only[Uc,Uz])|((with_reducible apply wl_reH hs);exact Ii;exact Ii;rfl;rfl;(with_reducible repeat first|exact Qh|apply Qk);(exact(Int.toNat_of_nonneg (by omega)).symm);(simp only[Wm,Ws,Wa,Wc,Wn,Wr]at *;omega);rfl;simp only[Uc,Uz])|(go_at_call 151;(refine(hT.out).at hs (by with_reducible repeat first|exact Qh|apply Qk) ?_;clear hs;intro w hs;(try simp only[Em,Ma]at hs));(obtain⟨vas,vac,us,u,hus,hu,hs⟩:=areT hs hx);(have hltu:n<us.length:=by omega))|(go_at_call 152;rw[HE.out,Yo]at hs;(replace hs:=sl_takeH (h:=x.length-1) (hs.pull (A:=sl 3 1 (x.map eI) u) (by (with_reducible repeat first|exact Qh|apply Qk))) (by simp));rw[←List.map_take]at hs;(replace hs:=areT_mk2 (x:=((x.take (x.length-1)))) hus hlt (hs.fin (by (focus((repeat(first|with_reducible exact Ql|with_reducible exact Qh|with_reducible apply Qb|exact Qh|with_reducible apply Qk));done)))) (by rfl));(refine(HG.out).at hs (by with_reducible repeat first|exact Qh|apply Qb|apply Qk) ?_;clear hs;intro w hs;(try simp only[Em,Ma]at hs)))|((with_reducible refine Wp (id:=3) (Paz [.neu 5,.neu 6,.neu 7,.eff 8 [],.neu 9,.neu 10,.neu 11,.neu 12,.neu 13,.neu 14,.neu 15,.neu 16,.neu 17,.neu 18,.neu 19,.neu 20,.neu 21,.neu 22,.neu 23,.neu 24,.neu 25,.neu 26]) hs rfl ?_ ?_);kernel_rfl;clear hs;intro w hs)|((with_reducible refine Wp (id:=5) (Paz (Pbz [.neu 10,.neu 11,.neu 12,.neu 13])) hs rfl ?_ ?_);kernel_rfl;clear hs;intro w hs)|((with_reducible refine Wp (id:=7) (Paz (Pbz (Pcz [.eff 15 []]))) hs rfl ?_ ?_);kernel_rfl;clear hs;intro w hs))
  go_ret
  refine⟨rfl,?_⟩
  unfold TakR
  simp only[Ma]
  ((with_reducible apply Sat.fin hs);(with_reducible exact Ql))
end
section
def Zh (a:Are)(m:Mch)(t:Tak):Bool×Are×Mch×Tak:=
 if t.at_=1 then (decide (m.word (adr a.c 1 0)%4294967296=0),a,m.load (adr a.c 1 0) (m.word (adr a.c 1 0)),{ t with head:=m.word (adr a.c 1 0),at_:=if m.word (adr a.c 1 0)%4294967296=0 then 0 else 2 })
 else if t.at_=2 then (false,a,m.load (adr a.c 10 (t.head%4294967296-1)) (m.word (adr a.c 10 (t.head%4294967296-1))),{ t with next:=m.word (adr a.c 10 (t.head%4294967296-1)),at_:=3 })
 else
  let m':=m.swap (adr a.c 1 0) (m.word (adr a.c 1 0)) t.head ((t.head / 4294967296+1)%4294967296*4294967296+t.next)
  if m.word (adr a.c 1 0)=t.head then (true,Jo a m' t (t.head%4294967296-1)) else (false,a,m',{ t with at_:=1 })
structure TakeOk (a:Are)(m:Mch)(t:Tak):Prop where
 ok:AOk a m
 at0:t.at_=1∨t.at_=2∨t.at_=3
 word:t.at_=1→HeadOk (m.word (adr a.c 1 0))
 head:t.at_≠1→HeadOk t.head
 s0:t.at_≠1→1≤t.head%4294967296
 s1:t.at_≠1→t.head%4294967296≤a.c.Sl
 n0:t.at_=3→0≤t.next
 n1:t.at_=3→t.next≤2147483647
theorem take_step (g b d bx bm:Nat)(a:Are)(m:Mch)(t:Tak)(h:TakeOk a m t) :
  Zk Tryz.prog 140 #[.pointer (some ⟨g,0,none⟩),.pointer (some ⟨d,0,none⟩)] (TakR g b t*(AreR b a*DkR d bx bm m)) (.bool (Zh a m t).1)
   (TakR g b (Zh a m t).2.2.2*(AreR b (Zh a m t).2.1*DkR d bx bm (Zh a m t).2.2.1)):=by
 intro O w F hs
 simp only[Ma]at hs
 unfold TakR at hs
 obtain⟨t1,t2,t3,t4,t5,t6⟩:=t
 obtain⟨hok,hat,hwd,hhd,hs0,hs1,hn0,hn1⟩:=h
 simp only[]at hat hwd hhd hs0 hs1 hn0 hn1 hs
 have hc:=hok.c
 have hF:=Lh (arena_addr b a hc 1 (by omega) (by omega) (by omega) 0 (in_free a.c))
 have mF:=hok.may (r:=1) (by omega) (by omega) (in_free a.c)
 rcases hat with e|e|e
 ·subst e
  obtain⟨g0,g1,g2⟩:=hwd rfl
  clear hhd hs0 hs1 hn0 hn1 hwd
  have hL:=Lh (Qt d bx bm m _ _ mF.acs)
  have hU:=word_unhead (m.word (adr a.c 1 0)) g0 g1 g2
  have e0:Zh a m ⟨t1,1,t3,t4,t5,t6⟩=(decide (m.word (adr a.c 1 0)%4294967296=0),a,m.load (adr a.c 1 0) (m.word (adr a.c 1 0)),⟨t1,if m.word (adr a.c 1 0)%4294967296=0 then 0 else 2,m.word (adr a.c 1 0),t4,t5,t6⟩):=rfl
  rw[e0];clear e0
  generalize hsu:m.word (adr a.c 1 0)%4294967296-1=s at hU
  by_cases hz:m.word (adr a.c 1 0)%4294967296=0
  ·have hlt:decide (s<0)=true:=by simp;omega
   rw[if_pos hz]
   rw[show(decide (m.word (adr a.c 1 0)%4294967296=0))=true by simpa using hz]
   clear hz hsu g0 g1 g2
   have HU:=Lh hU;clear hU
   go_enter Tryz.func140,Tryz.ntmps140
   go_wp2_with (first|((with_reducible apply Zb hs);exact Ii;rfl;(with_reducible exact Qh);rfl;rfl;simp only[Uc,Uz])|((with_reducible apply Zv hs);exact Ii;rfl;rfl;(with_reducible repeat first|exact Qh|apply Qk);rfl;exact Vb rfl;rfl;clear hs;intro w hs;simp only[Yg,Uc,Uz]at hs)|(go_at_call 154;(refine(hF.out).at hs (by with_reducible repeat first|exact Qh|apply Qk) ?_;clear hs;intro w hs;(try simp only[Em,Ma]at hs)))|(go_at_call 144;(refine(hL.out).at hs (by with_reducible repeat first|exact Qh|apply Qk) ?_;clear hs;intro w hs;(try simp only[Em,Ma]at hs)))|(go_at_call 155;((refine(HU.out).at hs (by (focus((repeat(with_reducible exact Qn));done))) ?_);clear hs;intro w hs;(try simp only[Em,Ma]at hs))))
   go_ret
   refine⟨rfl,?_⟩
   unfold TakR
   simp only[Ma]
   (with_reducible apply Sat.fin hs;repeat first|exact Ql|exact Qh|apply Qb|apply Qk)
  ·have hlt:decide (s<0)=false:=by simp;omega
   rw[if_neg hz]
   rw[show(decide (m.word (adr a.c 1 0)%4294967296=0))=false by simpa using hz]
   clear hz hsu g0 g1 g2
   have HU:=Lh hU;clear hU
   go_enter Tryz.func140,Tryz.ntmps140
   go_wp2_with (first|((with_reducible apply Zb hs);exact Ii;rfl;(with_reducible exact Qh);rfl;rfl;simp only[Uc,Uz])|((with_reducible apply Zv hs);exact Ii;rfl;rfl;(with_reducible repeat first|exact Qh|apply Qk);rfl;exact Vb rfl;rfl;clear hs;intro w hs;simp only[Yg,Uc,Uz]at hs)|(go_at_call 154;(refine(hF.out).at hs (by with_reducible repeat first|exact Qh|apply Qk) ?_;clear hs;intro w hs;(try simp only[Em,Ma]at hs)))|(go_at_call 144;(refine(hL.out).at hs (by with_reducible repeat first|exact Qh|apply Qk) ?_;clear hs;intro w hs;(try simp only[Em,Ma]at hs)))|(go_at_call 155;((refine(HU.out).at hs (by (focus((repeat(with_reducible exact Qn));done))) ?_);clear hs;intro w hs;(try simp only[Em,Ma]at hs))))
   go_ret
   refine⟨rfl,?_⟩
   unfold TakR
   simp only[Ma]
   (with_reducible apply Sat.fin hs;repeat first|exact Ql|exact Qh|apply Qb|apply Qk)
 ·subst e
  obtain⟨g0,g1,g2⟩:=hhd (by omega)
  have s0:=hs0 (by omega)
  have s1:=hs1 (by omega)
  clear hhd hs0 hs1 hn0 hn1 hwd
  have hiS:InReg a.c 10 (t3%4294967296-1):=in_spare (by omega) (by omega)
  have hS:=Lh (arena_addr b a hc 10 (by omega) (by omega) (by omega) _ hiS)
  have mS:=hok.may (r:=10) (by omega) (by omega) hiS
  have hU:=Lh (word_unhead t3 g0 g1 g2)
  have hL:=Lh (Qt d bx bm m _ _ mS.acs)
  clear hiS s0 s1 g0 g1 g2
  go_enter Tryz.func140,Tryz.ntmps140
  go_wp2_with (first|((with_reducible apply Zb hs);exact Ii;rfl;(with_reducible exact Qh);rfl;rfl;simp only[Uc,Uz])|((with_reducible apply Zv hs);exact Ii;rfl;rfl;(with_reducible repeat first|exact Qh|apply Qk);rfl;exact Vb rfl;rfl;clear hs;intro w hs;simp only[Yg,Uc,Uz]at hs)|(go_at_call 154;(refine(hS.out).at hs (by with_reducible repeat first|exact Qh|apply Qk) ?_;clear hs;intro w hs;(try simp only[Em,Ma]at hs)))|(go_at_call 144;(refine(hL.out).at hs (by with_reducible repeat first|exact Qh|apply Qk) ?_;clear hs;intro w hs;(try simp only[Em,Ma]at hs)))|(go_at_call 155;((refine(hU.out).at hs (by (focus((repeat(with_reducible exact Qn));done))) ?_);clear hs;intro w hs;(try simp only[Em,Ma]at hs))))
  go_ret
  refine⟨rfl,?_⟩
  simp only[Zh]
  unfold TakR
  simp only[Ma]
  ((with_reducible apply Sat.fin hs);(focus((repeat(first|with_reducible exact Ql|with_reducible apply Qb|exact Qh|with_reducible apply Qk));done)))
 ·subst e
  obtain⟨g0,g1,g2⟩:=hhd (by omega)
  have s0:=hs0 (by omega)
  have s1:=hs1 (by omega)
  have n0:=hn0 rfl
  have n1:=hn1 rfl
  clear hhd hs0 hs1 hn0 hn1 hwd
  have hS2:=hc.S2
  have hU:=Lh (word_unhead t3 g0 g1 g2)
  have hK:=Lh (Ju t4 n0 n1)
  have hH:=word_head ((t3 / 4294967296+1)%4294967296) (t4-1) (by omega) (by omega) (by omega) (by omega)
  rw[show t4-1+1=t4 by omega]at hH
  have hH:=Lh hH
  have hL:=Jl d bx bm m _ _ t3 ((t3 / 4294967296+1)%4294967296*4294967296+t4) mF.acs
  obtain⟨k,hk⟩:=Int.eq_ofNat_of_zero_le (show 0≤t3%4294967296-1 by omega)
  have hkl:k<a.slots.length:=by rw[hok.slots];omega
  by_cases hq:m.word (adr a.c 1 0)=t3
  ·have hq':decide (m.word (adr a.c 1 0)=t3)=true:=by simpa using hq
   rw[hq']at hL
   have e0:Zh a m ⟨t1,3,t3,t4,t5,t6⟩=(true,Jo a (m.swap (adr a.c 1 0) (m.word (adr a.c 1 0)) t3 ((t3 / 4294967296+1)%4294967296*4294967296+t4)) ⟨t1,3,t3,t4,t5,t6⟩ k):=by
    unfold Zh;simp only[hq,if_true,hk];rfl
   rw[e0];clear e0
   have hG:=take_got g b d bx bm a (m.swap (adr a.c 1 0) (m.word (adr a.c 1 0)) t3 ((t3 / 4294967296+1)%4294967296*4294967296+t4)) ⟨t1,3,t3,t4,t5,t6⟩ k hkl hok.shifts
   generalize Jo a (m.swap (adr a.c 1 0) (m.word (adr a.c 1 0)) t3 ((t3 / 4294967296+1)%4294967296*4294967296+t4)) ⟨t1,3,t3,t4,t5,t6⟩ k=r at hG ⊢
   obtain⟨a1,m1,tt⟩:=r
   unfold TakR at hG
   rw[←hk]at hG
   have HG:=Lh hG;clear hG
   have HL:=Lh hL;clear hL
   clear hq hq' hk s0 s1 n0 n1 g0 g1 g2
   go_enter Tryz.func140,Tryz.ntmps140
   go_wp2_with (first|(with_reducible first|apply NQ.mk|apply EQ.mk|exact Zg|apply Zj)|((with_reducible apply Zi);rfl;rfl)|((with_reducible apply Zo);rfl)|((with_reducible refine Zn ?_ ?_);focus((with_reducible apply ZI);rfl;rfl))|(show Qd _ _ _;rfl)|((with_reducible apply Zb hs);exact Ii;rfl;(with_reducible repeat first|exact Qh|apply Qk);rfl;rfl;simp only[Uc,Uz])|(go_at_call 154;(refine(hF.out).at hs (by with_reducible repeat first|exact Qh|apply Qk) ?_;clear hs;intro w hs;(try simp only[Em,Ma]at hs)))|(go_at_call 146;(refine(HL.out).at hs (by with_reducible repeat first|exact Qh|apply Qk) ?_;clear hs;intro w hs;(try simp only[Em,Ma]at hs)))|(go_at_call 155;((refine(hU.out).at hs (by (focus((repeat(with_reducible exact Qn));done))) ?_);clear hs;intro w hs;(try simp only[Em,Ma]at hs)))|(go_at_call 156;((refine(hK.out).at hs (by (focus((repeat(with_reducible exact Qn));done))) ?_);clear hs;intro w hs;(try simp only[Em,Ma]at hs)))|(go_at_call 157;((refine(hH.out).at hs (by (focus((repeat(with_reducible exact Qn));done))) ?_);clear hs;intro w hs;(try simp only[Em,Ma]at hs)))|(go_at_call 152;(refine(HG.out).at hs (by with_reducible repeat first|exact Qh|apply Qb|apply Qk) ?_;clear hs;intro w hs;(try simp only[Em,Ma]at hs)))|((with_reducible refine Wp (id:=18) (Paz [.neu 6,.neu 7,.neu 8,.neu 9,.neu 10,.eff 5 [0,6,7,8,9,10],.eff 11 []]) hs rfl ?_ ?_);kernel_rfl;clear hs;intro w hs))
   go_ret
   refine⟨rfl,?_⟩
   unfold TakR
   simp only[Ma]
   ((with_reducible apply Sat.fin hs);(with_reducible exact Ql))
  ·have hq':decide (m.word (adr a.c 1 0)=t3)=false:=by simpa using hq
   rw[hq']at hL
   have e0:Zh a m ⟨t1,3,t3,t4,t5,t6⟩=(false,a,m.swap (adr a.c 1 0) (m.word (adr a.c 1 0)) t3 ((t3 / 4294967296+1)%4294967296*4294967296+t4),⟨t1,1,t3,t4,t5,t6⟩):=by
    unfold Zh;simp[hq]
   rw[e0];clear e0
   have HL:=Lh hL;clear hL
   clear hq hq' hk s0 s1 n0 n1 g0 g1 g2
   go_enter Tryz.func140,Tryz.ntmps140
   go_wp2_with (first|(with_reducible first|apply NQ.mk|apply EQ.mk|exact Zg|apply Zj)|((with_reducible apply Zi);rfl;rfl)|((with_reducible apply Zo);rfl)|((with_reducible refine Zn ?_ ?_);focus((with_reducible apply ZI);rfl;rfl))|(show Qd _ _ _;rfl)|((with_reducible apply Zb hs);exact Ii;rfl;(with_reducible repeat first|exact Qh|apply Qk);rfl;rfl;simp only[Uc,Uz])|((with_reducible apply Zv hs);exact Ii;rfl;rfl;(with_reducible repeat first|exact Qh|apply Qk);rfl;exact Vb rfl;rfl;clear hs;intro w hs;simp only[Yg,Uc,Uz]at hs)|(go_at_call 154;(refine(hF.out).at hs (by with_reducible repeat first|exact Qh|apply Qk) ?_;clear hs;intro w hs;(try simp only[Em,Ma]at hs)))|(go_at_call 146;(refine(HL.out).at hs (by with_reducible repeat first|exact Qh|apply Qk) ?_;clear hs;intro w hs;(try simp only[Em,Ma]at hs)))|(go_at_call 155;((refine(hU.out).at hs (by (focus((repeat(with_reducible exact Qn));done))) ?_);clear hs;intro w hs;(try simp only[Em,Ma]at hs)))|(go_at_call 156;((refine(hK.out).at hs (by (focus((repeat(with_reducible exact Qn));done))) ?_);clear hs;intro w hs;(try simp only[Em,Ma]at hs)))|(go_at_call 157;((refine(hH.out).at hs (by (focus((repeat(with_reducible exact Qn));done))) ?_);clear hs;intro w hs;(try simp only[Em,Ma]at hs)))|((with_reducible refine Wp (id:=18) (Paz [.neu 6,.neu 7,.neu 8,.neu 9,.neu 10,.eff 5 [0,6,7,8,9,10],.eff 11 []]) hs rfl ?_ ?_);kernel_rfl;clear hs;intro w hs))
   go_ret
   refine⟨rfl,?_⟩
   unfold TakR
   simp only[Ma]
   (with_reducible apply Sat.fin hs;repeat first|exact Ql|exact Qh|apply Qb|apply Qk)
end
section
def Zq (a:Are)(m:Mch)(p:Psh):Bool×Are×Mch×Psh:=
 if a.c.Ca≤((a.caches.getD p.thread.toNat []).length:Int) then (false,a,m,p)
 else (true,{ a with caches:=a.caches.set p.thread.toNat (a.caches.getD p.thread.toNat []++[p.slot]) }.shift p.slot.toNat m.thread 1,m.shift p.slot (a.slots.getD p.slot.toNat ⟨0,0⟩).state 1,{ p with at_:=0 })
theorem give_ready (g b d bx bm:Nat)(E:TypeId)(a:Are)(m:Mch)(p:Psh)(t n:Nat)(x:List Int)(ht:p.thread=(t:Int))(hn:p.slot=(n:Int))(hx:a.caches[t]? = some x)(hsn:n<a.slots.length)(hp:p.at_=1)(hl:m.shifts.length<4294967296)(hxl:x.length<4294967296) :
  Zk Tryz.prog 182 #[.pointer (some ⟨g,0,none⟩),.pointer (some ⟨d,0,none⟩)] (PshR g b E p*(AreR b a*DkR d bx bm m))
   (.bool (Zq a m p).1) (PshR g b E (Zq a m p).2.2.2*(AreR b (Zq a m p).2.1*DkR d bx bm (Zq a m p).2.2.1)):=by
 have hxd:a.caches.getD p.thread.toNat []=x:=by simp[Yb,hx,ht]
 by_cases hf:a.c.Ca≤(x.length:Int)
 ·have e:Zq a m p=(false,a,m,p):=by unfold Zq;rw[hxd,if_pos hf]
  rw[e]
  exact give_ready_full g b d bx bm E a m p t x ht hx hp hf
 ·have e:Zq a m p=(true,{ a with caches:=a.caches.set t (x++[p.slot]) }.shift n m.thread 1,m.shift n (a.slots.getD n ⟨0,0⟩).state 1,{ p with at_:=0 }):=by
   unfold Zq;rw[hxd,if_neg hf,ht,hn];rfl
  rw[e]
  exact give_ready_room g b d bx bm E a m p t n _ x ht hn hx (by simp[hsn]) hp hf hl hxl
theorem give_step (g b d bx bm:Nat)(a:Are)(m:Mch)(p:Psh)(h:PushOk a m p) :
  Zk Tryz.prog 180 #[.pointer (some ⟨g,0,none⟩),.pointer (some ⟨d,0,none⟩)] (PshR g b 292 p*(AreR b a*DkR d bx bm m))
   (.bool (Za a m p).1) (PshR g b 292 (Za a m p).2.2.2*(AreR b (Za a m p).2.1*DkR d bx bm (Za a m p).2.2.1)):=by
 intro O w F hs
 simp only[Ma]at hs
 have hP:=push_step g b d bx bm 292 a m p h
 have h0:(p.at_==0)=false:=by have:=h.at0;simp;omega
 unfold PshR at hs hP
 generalize Za a m p=r at hP ⊢
 obtain⟨b1,a1,m1,p1⟩:=r
 have HP:=Lh hP;clear hP h
 go_enter Tryz.func180,Tryz.ntmps180
 go_wp2_with (first|((with_reducible apply Zb hs);exact Ii;rfl;(with_reducible exact Qh);rfl;rfl;simp only[Uc,Uz])|(go_at_call 183;((refine(HP.out).at hs (by (focus with_reducible (repeat first|exact Qh|apply Qb);done)) ?_);clear hs;intro w hs;(try simp only[Em,Ma]at hs))))
 go_ret
 refine⟨rfl,?_⟩
 unfold PshR
 simp only[Ma]
 ((with_reducible apply Sat.fin hs);(with_reducible exact Ql))
theorem flush_again (g b:Nat)(a:Are)(p:Psh)(n:Nat)(x:List Int)(z:Int)(ht:p.thread=(n:Int))(hx:a.caches[n]? = some x)(hz:x[x.length-1]? = some z)(hxl:x.length<4294967296) :
  Zk Tryz.prog 193 #[.pointer (some ⟨g,0,none⟩)] (PshR g b 296 p*AreR b a) (.tuple #[]) (PshR g b 296 { p with slot:=z,at_:=1 }*AreR b a):=by
 intro O w F hs
 simp only[Ma]at hs
 obtain⟨ps,pa,ph,pt_⟩:=p
 simp only[]at ht hs
 subst ht
 unfold PshR at hs
 have hlt:=(List.getElem?_eq_some_iff.1 hx).1
 have hzl:=(List.getElem?_eq_some_iff.1 hz).1
 have hs:=hs.pull (A:=AreR b a) (by (with_reducible repeat first|exact Qh|apply Qk))
 (obtain⟨vas,vac,us,u,hus,hu,hs⟩:=areT hs hx)
 have hltu:n<us.length:=by omega
 have hpos:0<x.length:=by omega
 have hz2:x[((x.length:Int)-1).toNat]? = some z:=by rw[show((x.length:Int)-1).toNat=x.length-1 by omega];exact hz
 clear hz hzl
 go_enter Tryz.func193,Tryz.ntmps193
 go_wp2_with (first|(with_reducible refine NQ.mk ?_)|((with_reducible apply Zi);rfl;rfl)|(with_reducible refine Zj ?_)|((with_reducible apply Zb hs);exact Ii;rfl;(with_reducible repeat first|exact Qh|apply Qk);rfl;rfl;simp only[Uc,Uz])|((with_reducible apply Zv hs);exact Ii;rfl;rfl;(with_reducible repeat first|exact Qh|apply Qk);rfl;exact Vb rfl;rfl;clear hs;intro w hs;simp only[Yg,Uc,Uz]at hs)|((with_reducible apply ZE hs);exact Ii;rfl;assumption;(with_reducible repeat first|exact Qh|apply Qk);rfl;(exact Ze (by assumption));rfl;rfl;simp only[Uc,Uz])|((with_reducible apply Qe hs);exact Ii;exact Ii;rfl;rfl;(with_reducible repeat first|exact Qh|apply Qk);(first|rfl|exact(Int.toNat_of_nonneg (by omega)).symm);(simp only[Wm,Ws,Wa,Wc,Wn,Wr]at *;omega);rfl;intro b off hat;simp only[Uc,Uz])|((with_reducible apply ZS hs);exact Ii;rfl;(with_reducible repeat first|exact Qh|apply Qk);rfl;simp only[Uc,Uz])|((with_reducible refine Wp (id:=0) (Paz (Pbz [.neu 10,.neu 11,.neu 12,.neu 13,.neu 14])) hs rfl ?_ ?_);kernel_rfl;clear hs;intro w hs))
 (go_end0)
 refine⟨rfl,?_⟩
 (replace hs:=areT_back hus hu hx (hs.fin (by (with_reducible repeat first|exact Ql|exact Qh|apply Qb|apply Qk))))
 unfold PshR
 simp only[Ma]
 (with_reducible apply Sat.fin hs;repeat first|exact Ql|exact Qh|apply Qb|apply Qk)
def QH (a:Are)(p:Psh):Bool×Psh:=
 let x:=a.caches.getD p.thread.toNat []
 if x.length=0 then (true,p) else (false,{ p with slot:=x.getD (x.length-1) 0,at_:=1 })
theorem flush_ready (g b:Nat)(dv:Value)(a:Are)(p:Psh)(n:Nat)(x:List Int)(ht:p.thread=(n:Int))(hx:a.caches[n]? = some x)(hxl:x.length<4294967296) :
  Zk Tryz.prog 192 #[.pointer (some ⟨g,0,none⟩),dv] (PshR g b 296 p*AreR b a) (.bool (QH a p).1) (PshR g b 296 (QH a p).2*AreR b a):=by
 intro O w F hs
 simp only[Ma]at hs
 obtain⟨ps,pa,ph,pt_⟩:=p
 simp only[]at ht hs
 subst ht
 have hlt:=(List.getElem?_eq_some_iff.1 hx).1
 have hT:=Lh (arena_thread b a n x hx)
 have hxd:a.caches.getD n []=x:=by simp[Yb,hx]
 by_cases h0:x.length=0
 ·have e:QH a ⟨ps,pa,ph,n⟩=(true,⟨ps,pa,ph,n⟩):=by unfold QH;simp only[Yo,hxd,h0,if_true]
  rw[e]
  have h0':((x.length:Int)==0)=true:=by simp;exact List.length_eq_zero_iff.1 h0
  unfold PshR at hs
  clear hxd h0 e
  go_enter Tryz.func192,Tryz.ntmps192
  go_wp2_with (first|(with_reducible refine NQ.mk ?_)|((with_reducible apply Zi);rfl;rfl)|((with_reducible apply Zo);rfl)|(with_reducible refine EQ.mk ?_ ?_)|(with_reducible exact Zg)|(with_reducible refine Zj ?_)|((with_reducible apply Zb hs);exact Ii;rfl;(with_reducible repeat first|exact Qh|apply Qk);rfl;rfl;simp only[Uc,Uz])|((with_reducible apply ZE hs);exact Ii;rfl;assumption;(with_reducible repeat first|exact Qh|apply Qk);rfl;(exact Ze (by assumption));rfl;rfl;simp only[Uc,Uz])|((with_reducible apply Qe hs);exact Ii;exact Ii;rfl;rfl;(with_reducible repeat first|exact Qh|apply Qk);rfl;(simp only[Wm,Ws,Wa,Wc,Wn,Wr]at *;omega);rfl;intro b off hat;simp only[Uc,Uz])|((with_reducible apply ZS hs);exact Ii;rfl;(with_reducible repeat first|exact Qh|apply Qk);rfl;simp only[Uc,Uz])|(go_at_call 151;(refine(hT.out).at hs (by with_reducible repeat first|exact Qh|apply Qk) ?_;clear hs;intro w hs;(try simp only[Em,Ma]at hs));(obtain⟨vas,vac,us,u,hus,hu,hs⟩:=areT hs hx);(have hltu:n<us.length:=by omega))|((with_reducible refine Wp (id:=1) (Paz (Pbz [.neu 10,.neu 11,.eff 12 [],.neu 13,.neu 14,.neu 15,.neu 16,.neu 17,.neu 18,.neu 19,.neu 20,.neu 21,.neu 22,.neu 23,.neu 24,.neu 25,.neu 26,.neu 27,.neu 28,.neu 29,.neu 30,.neu 31,.neu 32])) hs rfl ?_ ?_);kernel_rfl;clear hs;intro w hs))
  go_ret
  refine⟨rfl,?_⟩
  (replace hs:=areT_back hus hu hx (hs.fin (by (with_reducible exact Ql))))
  unfold PshR
  simp only[Ma]
  (with_reducible apply Sat.fin hs;repeat first|exact Ql|exact Qh|apply Qb|apply Qk)
 ·have hlen:x.length-1<x.length:=by omega
  obtain⟨v,hv⟩:∃v,x[x.length-1]? = some v:=⟨_,Yd hlen⟩
  have hvd:x.getD (x.length-1) 0=v:=by rw[Yb,hv];rfl
  have e:QH a ⟨ps,pa,ph,n⟩=(false,⟨v,1,ph,n⟩):=by unfold QH;simp only[Yo,hxd,h0,if_false,hvd]
  rw[e]
  have h0':((x.length:Int)==0)=false:=by simp;intro e;simp[e]at h0
  have hA:=flush_again g b a ⟨ps,pa,ph,n⟩ n x v rfl hx hv hxl
  unfold PshR at hs hA
  have HA:=Lh hA;clear hA
  clear hxd h0 e hvd hv
  go_enter Tryz.func192,Tryz.ntmps192
  go_wp2_with (first|(with_reducible refine NQ.mk ?_)|((with_reducible apply Zi);rfl;rfl)|((with_reducible apply Zo);rfl)|(with_reducible refine EQ.mk ?_ ?_)|(with_reducible exact Zg)|(with_reducible refine Zj ?_)|((with_reducible apply Zb hs);exact Ii;rfl;(with_reducible repeat first|exact Qh|apply Qk);rfl;rfl;simp only[Uc,Uz])|((with_reducible apply ZE hs);exact Ii;rfl;assumption;(with_reducible repeat first|exact Qh|apply Qk);rfl;(exact Ze (by assumption));rfl;rfl;simp only[Uc,Uz])|((with_reducible apply Qe hs);exact Ii;exact Ii;rfl;rfl;(with_reducible repeat first|exact Qh|apply Qk);rfl;(simp only[Wm,Ws,Wa,Wc,Wn,Wr]at *;omega);rfl;intro b off hat;simp only[Uc,Uz])|((with_reducible apply ZS hs);exact Ii;rfl;(with_reducible repeat first|exact Qh|apply Qk);rfl;simp only[Uc,Uz])|(go_at_call 151;(refine(hT.out).at hs (by with_reducible repeat first|exact Qh|apply Qk) ?_;clear hs;intro w hs;(try simp only[Em,Ma]at hs));(obtain⟨vas,vac,us,u,hus,hu,hs⟩:=areT hs hx);(have hltu:n<us.length:=by omega))|(go_at_call 193;(replace hs:=areT_back hus hu hx (hs.fin (by (with_reducible exact Ql))));(refine(HA.out).at hs (by with_reducible repeat first|exact Qh|apply Qb|apply Qk) ?_;clear hs;intro w hs;(try simp only[Em,Ma]at hs)))|((with_reducible refine Wp (id:=1) (Paz (Pbz [.neu 10,.neu 11,.eff 12 [],.neu 13,.neu 14,.neu 15,.neu 16,.neu 17,.neu 18,.neu 19,.neu 20,.neu 21,.neu 22,.neu 23,.neu 24,.neu 25,.neu 26,.neu 27,.neu 28,.neu 29,.neu 30,.neu 31,.neu 32])) hs rfl ?_ ?_);kernel_rfl;clear hs;intro w hs))
  go_ret
  refine⟨rfl,?_⟩
  unfold PshR
  simp only[Ma]
  ((with_reducible apply Sat.fin hs);(with_reducible exact Ql))
def ZC (a:Are)(m:Mch)(p:Psh):Bool×Are×Mch×Psh:=
 if (Za a m p).1=false then Za a m p else
 let x:=a.caches.getD p.thread.toNat []
 let y:=x.take (x.length-1)
 let a':={ (Za a m p).2.1 with caches:=a.caches.set p.thread.toNat y }
 if x.length=1 then (true,a',(Za a m p).2.2.1,(Za a m p).2.2.2)
 else (false,a',(Za a m p).2.2.1,{ (Za a m p).2.2.2 with slot:=y.getD (y.length-1) 0,at_:=1 })
theorem pushStep_caches (a:Are)(m:Mch)(p:Psh):(Za a m p).2.1.caches=a.caches:=by
 unfold Za;split
 ·rfl
 ·split
  ·rfl
  ·simp only[];split<;>rfl
theorem pushStep_thread (a:Are)(m:Mch)(p:Psh):(Za a m p).2.2.2.thread=p.thread:=by
 unfold Za;split
 ·rfl
 ·split
  ·rfl
  ·simp only[];split<;>rfl
theorem flush_step (g b d bx bm:Nat)(a:Are)(m:Mch)(p:Psh)(h:PushOk a m p)(n:Nat)(x:List Int)(ht:p.thread=(n:Int))(hx:a.caches[n]? = some x)(hxl:x.length<4294967296)(hpos:0<x.length) :
  Zk Tryz.prog 190 #[.pointer (some ⟨g,0,none⟩),.pointer (some ⟨d,0,none⟩)] (PshR g b 296 p*(AreR b a*DkR d bx bm m))
   (.bool (ZC a m p).1) (PshR g b 296 (ZC a m p).2.2.2*(AreR b (ZC a m p).2.1*DkR d bx bm (ZC a m p).2.2.1)):=by
 intro O w F hs
 simp only[Ma]at hs
 have hP:=push_step g b d bx bm 296 a m p h
 have h0:(p.at_==0)=false:=by have:=h.at0;simp;omega
 have hcs:=pushStep_caches a m p
 have hth:=pushStep_thread a m p
 have hxd:a.caches.getD p.thread.toNat []=x:=by simp[Yb,hx,ht]
 have hlt:=(List.getElem?_eq_some_iff.1 hx).1
 unfold ZC
 simp only[hxd]
 unfold PshR at hs hP
 generalize Za a m p=r at hP hcs hth ⊢
 obtain⟨b1,a1,m1,p1⟩:=r
 simp only[]at hP hcs hth ⊢
 have HP:=Lh hP;clear hP h
 cases b1 with
 | false=>
  simp only[if_true]
  clear hth hcs
  go_enter Tryz.func190,Tryz.ntmps190
  go_wp2_with (first|((with_reducible apply Zb hs);exact Ii;rfl;(with_reducible exact Qh);rfl;rfl;simp only[Uc,Uz])|(go_at_call 183;((refine(HP.out).at hs (by (focus with_reducible (repeat first|exact Qh|apply Qb);done)) ?_);clear hs;intro w hs;(try simp only[Em,Ma]at hs))))
  go_ret
  refine⟨rfl,?_⟩
  unfold PshR
  simp only[Ma]
  ((with_reducible apply Sat.fin hs);(with_reducible exact Ql))
 | true=>
  have hx1:a1.caches[n]? = some x:=by rw[hcs];exact hx
  have hlt1:n<a1.caches.length:=by rw[hcs];exact hlt
  obtain⟨ps,pa,ph,pt_⟩:=p1
  simp only[]at hth HP
  rw[ht]at hth
  subst hth
  rw[ht,Yo,←hcs]
  clear hcs hxd hx hlt ht
  have HE:=Lh (show((x.length:Int)-1).toNat=x.length-1 by omega)
  by_cases h1:x.length=1
  ·have h1':((x.length:Int)==1)=true:=by simp;omega
   have H1:=Lh h1;clear h1
   simp only[if_pos H1.out]
   go_enter Tryz.func190,Tryz.ntmps190
   go_wp2_with (first|(with_reducible refine NQ.mk ?_)|((with_reducible apply Zi);rfl;rfl)|((with_reducible apply Zo);rfl)|(with_reducible refine EQ.mk ?_ ?_)|(with_reducible exact Zg)|(with_reducible refine Zj ?_)|((with_reducible apply Zb hs);exact Ii;rfl;(with_reducible repeat first|exact Qh|apply Qk);rfl;rfl;simp only[Uc,Uz])|((with_reducible apply ZE hs);exact Ii;rfl;assumption;(with_reducible repeat first|exact Qh|apply Qk);rfl;(exact Ze (by assumption));rfl;rfl;simp only[Uc,Uz])|((with_reducible apply QO hs);exact Ii;rfl;rfl;assumption;(with_reducible repeat first|exact Qh|apply Qk);rfl;(exact Ze (by assumption));exact Vb rfl;(apply resH_one;apply QS;apply hs.pull;(with_reducible repeat first|exact Qh|apply Qk));rfl;clear hs;intro w hs)|((with_reducible apply Jv hs);exact Ii;exact Ii;rfl;assumption;rfl;(with_reducible repeat first|exact Qh|apply Qk);rfl;(simp only[Wm,Ws,Wa,Wc,Wn,Wr]at *;omega);rfl;simp only[Uc,Uz])|((with_reducible apply Qe hs);exact Ii;exact Ii;rfl;rfl;(with_reducible repeat first|exact Qh|apply Qk);rfl;(simp only[Wm,Ws,Wa,Wc,Wn,Wr]at *;omega);rfl;intro b off hat;simp only[Uc,Uz])|((with_reducible apply ZS hs);exact Ii;rfl;(with_reducible repeat first|exact Qh|apply Qk);rfl;simp only[Uc,Uz])|((with_reducible apply wl_reH hs);exact Ii;exact Ii;rfl;rfl;(with_reducible repeat first|exact Qh|apply Qk);(exact(Int.toNat_of_nonneg (by omega)).symm);(simp only[Wm,Ws,Wa,Wc,Wn,Wr]at *;omega);rfl;simp only[Uc,Uz])|(go_at_call 183;((refine(HP.out).at hs (by (focus with_reducible (repeat first|exact Qh|apply Qb);done)) ?_);clear hs;intro w hs;(try simp only[Em,Ma]at hs));(replace hs:=hs.pull (A:=AreR b a1) (by (with_reducible repeat first|exact Qh|apply Qk)));(obtain⟨vas,vac,us,u,hus,hu,hs⟩:=areT hs hx1);(have hltu:n<us.length:=by omega))|((with_reducible refine Wp (id:=5) (Paz (Pbz [.neu 10,.neu 11,.neu 12,.neu 13,.neu 14])) hs rfl ?_ ?_);kernel_rfl;clear hs;intro w hs)|((with_reducible refine Wp (id:=6) (Paz (Pbz (Pcz [.neu 15,.neu 16,.neu 17,.eff 18 []]))) hs rfl ?_ ?_);kernel_rfl;clear hs;intro w hs))
   rw[HE.out]at hs;(replace hs:=sl_takeH (h:=x.length-1) (hs.pull (A:=sl 3 1 (x.map eI) u) (by (with_reducible repeat first|exact Qh|apply Qk))) (by simp));rw[←List.map_take]at hs;(replace hs:=areT_mk2 (x:=((x.take (x.length-1)))) hus hlt1 (hs.fin (by (focus((repeat(first|with_reducible exact Ql|with_reducible exact Qh|with_reducible apply Qb|exact Qh|with_reducible apply Qk));done)))) (by rfl))
   go_ret
   refine⟨rfl,?_⟩
   unfold PshR
   simp only[Ma]
   (with_reducible apply Sat.fin hs;repeat first|exact Ql|exact Qh|apply Qb|apply Qk)
  ·have h1':((x.length:Int)==1)=false:=by simp;omega
   have hv:(x.take (x.length-1))[(x.take (x.length-1)).length-1]? = some ((x.take (x.length-1)).getD ((x.take (x.length-1)).length-1) 0):=by
    have:(x.take (x.length-1)).length-1<(x.take (x.length-1)).length:=by simp;omega
    rw[Yb,Yd this];rfl
   have hA:=flush_again g b { a1 with caches:=a1.caches.set n (x.take (x.length-1)) } ⟨ps,pa,ph,n⟩ n (x.take (x.length-1)) _ rfl (by simp[hlt1]) hv (by simp;omega)
   have H1:=Lh h1;clear h1 hv
   simp only[if_neg H1.out]
   unfold PshR at hA
   generalize (x.take (x.length-1)).getD ((x.take (x.length-1)).length-1) 0=v at hA ⊢
   have HA:=Lh hA;clear hA
   go_enter Tryz.func190,Tryz.ntmps190
   go_wp2_with (first|(with_reducible refine NQ.mk ?_)|((with_reducible apply Zi);rfl;rfl)|((with_reducible apply Zo);rfl)|(with_reducible refine EQ.mk ?_ ?_)|(with_reducible exact Zg)|(with_reducible refine Zj ?_)|((with_reducible apply Zb hs);exact Ii;rfl;(with_reducible repeat first|exact Qh|apply Qk);rfl;rfl;simp only[Uc,Uz])|((with_reducible apply ZE hs);exact Ii;rfl;assumption;(with_reducible repeat first|exact Qh|apply Qk);rfl;(exact Ze (by assumption));rfl;rfl;simp only[Uc,Uz])|((with_reducible apply QO hs);exact Ii;rfl;rfl;assumption;(with_reducible repeat first|exact Qh|apply Qk);rfl;(exact Ze (by assumption));exact Vb rfl;(apply resH_one;apply QS;apply hs.pull;(with_reducible repeat first|exact Qh|apply Qk));rfl;clear hs;intro w hs)|((with_reducible apply Jv hs);exact Ii;exact Ii;rfl;assumption;rfl;(with_reducible repeat first|exact Qh|apply Qk);rfl;(simp only[Wm,Ws,Wa,Wc,Wn,Wr]at *;omega);rfl;simp only[Uc,Uz])|((with_reducible apply Qe hs);exact Ii;exact Ii;rfl;rfl;(with_reducible repeat first|exact Qh|apply Qk);rfl;(simp only[Wm,Ws,Wa,Wc,Wn,Wr]at *;omega);rfl;intro b off hat;simp only[Uc,Uz])|((with_reducible apply ZS hs);exact Ii;rfl;(with_reducible repeat first|exact Qh|apply Qk);rfl;simp only[Uc,Uz])|((with_reducible apply wl_reH hs);exact Ii;exact Ii;rfl;rfl;(with_reducible repeat first|exact Qh|apply Qk);(exact(Int.toNat_of_nonneg (by omega)).symm);(simp only[Wm,Ws,Wa,Wc,Wn,Wr]at *;omega);rfl;simp only[Uc,Uz])|(go_at_call 183;((refine(HP.out).at hs (by (focus with_reducible (repeat first|exact Qh|apply Qb);done)) ?_);clear hs;intro w hs;(try simp only[Em,Ma]at hs));(replace hs:=hs.pull (A:=AreR b a1) (by (with_reducible repeat first|exact Qh|apply Qk)));(obtain⟨vas,vac,us,u,hus,hu,hs⟩:=areT hs hx1);(have hltu:n<us.length:=by omega))|(go_at_call 193;rw[HE.out]at hs;(replace hs:=sl_takeH (h:=x.length-1) (hs.pull (A:=sl 3 1 (x.map eI) u) (by (with_reducible repeat first|exact Qh|apply Qk))) (by simp));rw[←List.map_take]at hs;(replace hs:=areT_mk2 (x:=((x.take (x.length-1)))) hus hlt1 (hs.fin (by (focus((repeat(first|with_reducible exact Ql|with_reducible exact Qh|with_reducible apply Qb|exact Qh|with_reducible apply Qk));done)))) (by rfl));(refine(HA.out).at hs (by with_reducible repeat first|exact Qh|apply Qb|apply Qk) ?_;clear hs;intro w hs;(try simp only[Em,Ma]at hs)))|((with_reducible refine Wp (id:=5) (Paz (Pbz [.neu 10,.neu 11,.neu 12,.neu 13,.neu 14])) hs rfl ?_ ?_);kernel_rfl;clear hs;intro w hs)|((with_reducible refine Wp (id:=6) (Paz (Pbz (Pcz [.neu 15,.neu 16,.neu 17,.eff 18 []]))) hs rfl ?_ ?_);kernel_rfl;clear hs;intro w hs))
   go_ret
   refine⟨rfl,?_⟩
   unfold PshR
   simp only[Ma]
   ((with_reducible apply Sat.fin hs);(with_reducible exact Ql))
end
end Go.Proofs.YtefjbdajgakgpaaGreat
