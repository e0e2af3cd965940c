import Derived.Test.YtefjbdajgakgpaaGreatDNew3
set_option linter.all false
namespace Go.Proofs.YtefjbdajgakgpaaGreat
open Go.RowKit Hp
set_option maxRecDepth 100000
set_option maxHeartbeats 1000000
attribute [local irreducible] Go.Calls
section
abbrev fnV (f c1:Nat):Value:=.func (.func f) #[] #[.pointer (some ⟨c1,0,none⟩)]
abbrev holdV (c1 d:Nat):Value:=.func (.func 86) #[] #[.pointer (some ⟨c1,0,none⟩),.pointer (some ⟨d,0,none⟩)]
structure Caps where
 c1:Nat
 d2:Nat
 d3:Nat
 d4:Nat
 d5:Nat
 d6:Nat
def kitFn (x:Caps):Int→Option Value:=fun op=>
 if op=25 then some (holdV x.c1 x.d6) else if op=24 then some (holdV x.c1 x.d5) else if op=23 then some (holdV x.c1 x.d4) else if op=22 then some (holdV x.c1 x.d3) else if op=21 then some (holdV x.c1 x.d2) else if op=20 then some (fnV 87 x.c1) else none
def capR (bh:Nat)(x:Caps):Zc:=Qx bh x.c1*(Qs x.d2 (fnV 88 x.c1)*(Qs x.d3 (fnV 89 x.c1)*(Qs x.d4 (fnV 90 x.c1)*(Qs x.d5 (fnV 92 x.c1)*Qs x.d6 (fnV 93 x.c1)))))
theorem kit_hold (c1 f:Nat):Does Tryz.prog 85 #[fnV f c1,.pointer (some ⟨c1,0,none⟩)] emp (fun v=>ex fun d=>pu (v=holdV c1 d)*Qs d (fnV f c1)):=by
 intro O w F hs
 go_enter Tryz.func85,Tryz.ntmps85
 go_wp2_with ((with_reducible apply Zt hs);rfl;rfl;rfl;clear hs;intro w b hs;simp only[Uc,Uz])
 go_ret
 refine⟨_,rfl,?_⟩
 simp only[ZG,Ma,Zz]
 refine⟨_,rfl,?_⟩
 unfold Qs
 (with_reducible apply Sat.fin hs;repeat first|exact Ql|exact Qh|apply Qb|apply Qk)
theorem kit_dyn (c1 f:Nat):Dyn Tryz.prog (Ja (.func (.func 85) #[] #[.pointer (some ⟨c1,0,none⟩)]) #[fnV f c1]) emp (fun v=>ex fun d=>pu (v=holdV c1 d)*Qs d (fnV f c1)):=
 (kit_hold c1 f).dyn fun w=>by kernel_rfl
theorem kit_mk {bh ba:Nat}{h:Haz}{v:Value}{O w:World}{F:Zc}{b d2 d3 d4 d5 d6:Nat}(hs:Sat O w (mp .i64 (kitFn ⟨b,d2,d3,d4,d5,d6⟩) v*(HazR bh ba h*(capR bh ⟨b,d2,d3,d4,d5,d6⟩*F)))):Sat O w ((ex fun x=>mp .i64 (kitFn x) v*(HazR bh ba h*capR bh x))*F):=by
 simp only[ZG,Ma]
 exact⟨_,hs⟩
theorem haz_kit (bh ba:Nat)(h:Haz) :
  Does Tryz.prog 58 #[.pointer (some ⟨bh,0,none⟩)] (HazR bh ba h) (fun v=>ex fun x=>mp .i64 (kitFn x) v*(HazR bh ba h*capR bh x)):=by
 intro O w F hs
 (obtain⟨vhh,vhl,hs⟩:=hazR.1 hs)
 go_enter Tryz.func58,Tryz.ntmps58
 go_wp2_with (first|((with_reducible apply Zb hs);exact Ii;rfl;(with_reducible repeat first|exact Qh|apply Qk);rfl;rfl;simp only[Uc,Uz])|((with_reducible apply Zt hs);rfl;rfl;rfl;clear hs;intro w b hs;simp only[Uc,Uz])|(first|((with_reducible apply wl_mkmap hs);exact Ii;rfl;clear hs;intro w r hs;simp only[Uc,Uz])|((with_reducible apply wl_mi hs);exact Ii;rfl;rfl;rfl;(with_reducible repeat first|exact Qh|apply Qk);rfl;clear hs;intro w hs))|((with_reducible apply wl_val1 hs);rfl;rfl;(exact kit_dyn _ _);(focus((repeat(with_reducible exact Qn));done));rfl;clear hs;intro v w hs;(simp only[ZG,Ma,Zz,Em]at hs);(obtain⟨_,rfl,hs⟩:=hs);simp only[Uc,Uz]))
 go_ret
 refine⟨_,rfl,?_⟩
 (replace hs:=ZA (hs.fin (by (with_reducible repeat first|exact Ql|exact Qh|apply Qb|apply Qk))))
 apply kit_mk (b:=b)
 unfold capR Qx kitFn
 simp only[Ma]
 ((with_reducible apply Sat.fin hs);(focus((repeat(first|with_reducible exact Ql|with_reducible exact Qh|with_reducible apply Qb|exact Qh|with_reducible apply Qk));done)))
def Qr (s:Haz×Are)(t:Nat)(mv:Mv):Option Z8:=
 if mv.op=20 then (if s.1.held.getD t 0<0 then some (.reg ⟨t,0,false⟩) else none)
 else if s.1.held.getD t 0<0 then none
 else if mv.op=21 then some (.unr ⟨t,0,0,none,none⟩)
 else if mv.op=22 then some (.pst ⟨t,mv.arg,0,none,0,0,none⟩)
 else if mv.op=23 then (if 0≤mv.arg∧mv.arg<s.1.c.Hz then some (.rdg ⟨base s.1.c 9+s.1.held.getD t 0*s.1.c.Hz+mv.arg,0,0,0⟩) else none)
 else if mv.op=24 then (if 0≤mv.arg∧mv.arg<s.1.c.Hz then some (.clr (base s.1.c 9+s.1.held.getD t 0*s.1.c.Hz+mv.arg).toNat) else none)
 else some (.scn ⟨t,s.1.held.getD t 0,6,0,false,fun _=>0,[],none⟩)
structure KOk (n:Nat)(s:Haz×Are):Prop where
 c:s.1.c.Ok
 held:s.1.held.length=n
 hin:∀r∈s.1.held,r<s.1.c.R
theorem JG {P:Program}{s:Sem Next}{A A':Zc}{B B':Value→Zc}(Z:Zc)(h:Dyn P s A B)(hA:A'=A*Z)(hB:∀v,B' v=B v*Z):Dyn P s A' B':=by
 intro O w F hs
 subst hA
 obtain⟨f,args,hr,hC⟩:=h O w (Z*F) (hs.cast (by ac_rfl))
 refine⟨f,args,hr,hC.mono ?_⟩
 rintro e w' ⟨v,rfl,hs'⟩
 exact⟨v,rfl,by rw[hB v];exact hs'.cast (by ac_rfl)⟩
theorem made_opt {bh ba:Nat}{CX:Zc}{s:Haz×Are}{o:Option Z8}{v:Value}:madeR (hzT bh ba CX) s o v=optR bh ba o v*(HazR bh ba s.1*(AreR ba s.2*CX)):=by
 cases o<;>rfl
set_option maxHeartbeats 4000000 in
theorem hzT_kit (bh ba n:Nat)(x:Caps):KitOk (hzT bh ba (capR bh x)) (kitFn x) Qr (KOk n) n where
 func:=by
  intro op u h
  unfold kitFn at h
  repeat' split at h
  all_goals(first|(cases h;done)|(injection h with h;exact⟨_,_,_,h.symm⟩))
 make:=by
  intro op u s t mv hK hop ht hthr hok
  have hlt:t<s.1.held.length:=by rw[hok.held];exact ht
  obtain⟨r,hr⟩:∃r,s.1.held[t]? = some r:=⟨_,Yd hlt⟩
  have hrd:s.1.held.getD t 0=r:=by rw[Yb,hr];rfl
  have hrR:r<s.1.c.R:=hok.hin r (Yc hr)
  subst hop
  have key:∀o,Qr s t mv=o→(∀v,madeR (hzT bh ba (capR bh x)) s (Qr s t mv) v=optR bh ba o v*(HazR bh ba s.1*(AreR ba s.2*capR bh x))):=fun o ho v=>by rw[ho,made_opt]
  have hold:∀(f d:Nat) (o:Option Z8) (Z:Zc),capR bh x=Qx bh x.c1*(Qs d (fnV f x.c1)*Z)→Qr s t mv=(if r<0 then none else o)→u=holdV x.c1 d →
    (0≤r→Does Tryz.prog f #[.int .i64 (t:Int),mv.v,.pointer (some ⟨x.c1,0,none⟩)] (HazR bh ba s.1*Qx bh x.c1) (fun v=>optR bh ba o v*(HazR bh ba s.1*Qx bh x.c1))) →
    (∀w,(Ja (fnV f x.c1) #[.int .i64 (t:Int),mv.v]).run Tryz.prog w=.ok (.enter f #[.int .i64 (t:Int),mv.v,.pointer (some ⟨x.c1,0,none⟩)]) w) →
    Dyn Tryz.prog (Ja u #[.int .i64 (t:Int),mv.v]) ((hzT bh ba (capR bh x)).X s) (fun v=>madeR (hzT bh ba (capR bh x)) s (Qr s t mv) v):=by
   intro f d o Z hZ ho hu hin hrun
   subst hu
   by_cases h0:r<0
   ·rw[if_pos h0]at ho
    refine JG (AreR ba s.2*Z) ((hold_no bh ba x.c1 s.1 t mv d (fnV f x.c1) r hr h0).dyn (fun w=>by kernel_rfl)) (by simp only[hzT];rw[hZ];ac_rfl) (fun v=>by rw[key _ ho,hZ];ac_rfl)
   ·rw[if_neg h0]at ho
    refine JG (AreR ba s.2*Z) ((hold_yes bh ba x.c1 s.1 t mv d f o r hr (by omega) ((hin (by omega)).dyn hrun)).dyn (fun w=>by kernel_rfl)) (by simp only[hzT];rw[hZ];ac_rfl) (fun v=>by rw[key _ ho,hZ];ac_rfl)
  unfold kitFn at hK
  by_cases h25:mv.op=25
  ·rw[if_pos h25]at hK
   exact hold _ x.d6 _ (Qs x.d2 (fnV 88 x.c1)*(Qs x.d3 (fnV 89 x.c1)*(Qs x.d4 (fnV 90 x.c1)*(Qs x.d5 (fnV 92 x.c1))))) (by unfold capR;ac_rfl) (by simp only[Qr,hrd,h25];simp) (by injection hK with hK;exact hK.symm) (fun h0=>mk_scn bh ba x.c1 s.1 t mv r hr) (fun w=>by kernel_rfl)
  rw[if_neg h25]at hK
  by_cases h24:mv.op=24
  ·rw[if_pos h24]at hK
   by_cases hk:0≤mv.arg∧mv.arg<s.1.c.Hz
   ·exact hold _ x.d5 _ (Qs x.d2 (fnV 88 x.c1)*(Qs x.d3 (fnV 89 x.c1)*(Qs x.d4 (fnV 90 x.c1)*(Qs x.d6 (fnV 93 x.c1))))) (by unfold capR;ac_rfl) (by simp only[Qr,hrd,h24,if_pos hk];simp) (by injection hK with hK;exact hK.symm) (fun h0=>mk_clr bh ba x.c1 s.1 t mv hok.c r hr h0 hrR hk.1 hk.2) (fun w=>by kernel_rfl)
   ·exact hold _ x.d5 none (Qs x.d2 (fnV 88 x.c1)*(Qs x.d3 (fnV 89 x.c1)*(Qs x.d4 (fnV 90 x.c1)*(Qs x.d6 (fnV 93 x.c1))))) (by unfold capR;ac_rfl) (by simp only[Qr,hrd,h24,if_neg hk];simp) (by injection hK with hK;exact hK.symm) (fun h0=>mk_clr_no bh ba x.c1 s.1 t mv r hr h0 (by omega)) (fun w=>by kernel_rfl)
  rw[if_neg h24]at hK
  by_cases h23:mv.op=23
  ·rw[if_pos h23]at hK
   by_cases hk:0≤mv.arg∧mv.arg<s.1.c.Hz
   ·exact hold _ x.d4 _ (Qs x.d2 (fnV 88 x.c1)*(Qs x.d3 (fnV 89 x.c1)*(Qs x.d5 (fnV 92 x.c1)*(Qs x.d6 (fnV 93 x.c1))))) (by unfold capR;ac_rfl) (by simp only[Qr,hrd,h23,if_pos hk];simp) (by injection hK with hK;exact hK.symm) (fun h0=>mk_rdg bh ba x.c1 s.1 t mv hok.c r hr h0 hrR hk.1 hk.2) (fun w=>by kernel_rfl)
   ·exact hold _ x.d4 none (Qs x.d2 (fnV 88 x.c1)*(Qs x.d3 (fnV 89 x.c1)*(Qs x.d5 (fnV 92 x.c1)*(Qs x.d6 (fnV 93 x.c1))))) (by unfold capR;ac_rfl) (by simp only[Qr,hrd,h23,if_neg hk];simp) (by injection hK with hK;exact hK.symm) (fun h0=>mk_rdg_no bh ba x.c1 s.1 t mv r hr h0 (by omega)) (fun w=>by kernel_rfl)
  rw[if_neg h23]at hK
  by_cases h22:mv.op=22
  ·rw[if_pos h22]at hK
   exact hold _ x.d3 _ (Qs x.d2 (fnV 88 x.c1)*(Qs x.d4 (fnV 90 x.c1)*(Qs x.d5 (fnV 92 x.c1)*(Qs x.d6 (fnV 93 x.c1))))) (by unfold capR;ac_rfl) (by simp only[Qr,hrd,h22];simp) (by injection hK with hK;exact hK.symm) (fun h0=>mk_pst bh ba x.c1 s.1 t mv) (fun w=>by kernel_rfl)
  rw[if_neg h22]at hK
  by_cases h21:mv.op=21
  ·rw[if_pos h21]at hK
   exact hold _ x.d2 _ (Qs x.d3 (fnV 89 x.c1)*(Qs x.d4 (fnV 90 x.c1)*(Qs x.d5 (fnV 92 x.c1)*(Qs x.d6 (fnV 93 x.c1))))) (by unfold capR;ac_rfl) (by simp only[Qr,hrd,h21];simp) (by injection hK with hK;exact hK.symm) (fun h0=>mk_unr bh ba x.c1 s.1 t mv) (fun w=>by kernel_rfl)
  rw[if_neg h21]at hK
  by_cases h20:mv.op=20
  ·rw[if_pos h20]at hK
   injection hK with hK
   subst hK
   by_cases h0:r<0
   ·exact JG (AreR ba s.2*(Qs x.d2 (fnV 88 x.c1)*(Qs x.d3 (fnV 89 x.c1)*(Qs x.d4 (fnV 90 x.c1)*(Qs x.d5 (fnV 92 x.c1)*(Qs x.d6 (fnV 93 x.c1))))))) ((mk_reg bh ba x.c1 s.1 t mv r hr h0).dyn (fun w=>by kernel_rfl)) (by simp only[hzT,capR];ac_rfl) (fun v=>by rw[key (some (.reg ⟨t,0,false⟩)) (by simp only[Qr,hrd,h20,if_true,if_pos h0]),capR];ac_rfl)
   ·exact JG (AreR ba s.2*(Qs x.d2 (fnV 88 x.c1)*(Qs x.d3 (fnV 89 x.c1)*(Qs x.d4 (fnV 90 x.c1)*(Qs x.d5 (fnV 92 x.c1)*(Qs x.d6 (fnV 93 x.c1))))))) ((mk_reg_no bh ba x.c1 s.1 t mv r hr (by omega)).dyn (fun w=>by kernel_rfl)) (by simp only[hzT,capR];ac_rfl) (fun v=>by rw[key none (by simp only[Qr,hrd,h20,if_true,if_neg h0]),capR];ac_rfl)
  rw[if_neg h20]at hK
  cases hK
end
section
structure Wst (σ τ:Type) where
 s:σ
 m:Mch
 tasks:List (Option τ)
def Wst.tick {σ τ:Type}(x:Wst σ τ):Wst σ τ:={ x with m:={ x.m with moves:=x.m.moves+1 } }
section
variable {σ τ:Type}(T:JH σ τ)(bx bm:Nat)(K:Int→Option Value)(mkr:σ→Nat→Mv→Option τ)
def WR (x:Wst σ τ):Zc:=MchR bx bm x.m*(mp .i64 K x.m.kit*(T.X x.s*tskR T.R x.tasks x.m.seats))
inductive Jy (x:Wst σ τ) (mv:Mv):Bool→Wst σ τ→Prop where
 | out:(mv.thread<0∨(x.tasks.length:Int)≤mv.thread)→Jy x mv false x.tick
 | idle (t:Nat):mv.thread=(t:Int)→mv.op=0→x.tasks[t]? = some none→Jy x mv false x.tick
 | busy (t:Nat) (k:τ):mv.thread=(t:Int)→mv.op≠0→x.tasks[t]? = some (some k)→Jy x mv false x.tick
 | nokit (t:Nat):mv.thread=(t:Int)→mv.op≠0→x.tasks[t]? = some none→K mv.op=none→Jy x mv false x.tick
 | refused (t:Nat):mv.thread=(t:Int)→mv.op≠0→x.tasks[t]? = some none→K mv.op≠none→mkr x.s t mv=none→Jy x mv false x.tick
 | step (t i:Nat) (c:Cll) (se:Sea) (k:τ):mv.thread=(t:Int)→mv.op=0→x.tasks[t]? = some (some k)→x.m.seats[t]? = some se→se.last=(i:Int)→x.m.calls[i]? = some c →
   Jy x mv true ⟨(Z9 T x.s x.tick.m i t c se k x.m.moves).1,(Z9 T x.s x.tick.m i t c se k x.m.moves).2.1,x.tasks.set t (Z9 T x.s x.tick.m i t c se k x.m.moves).2.2⟩
 | begin_ (t:Nat) (k:τ) (v vc:Value):mv.thread=(t:Int)→mv.op≠0→x.tasks[t]? = some none→K mv.op≠none→mkr x.s t mv=some k→Jy x mv true ⟨x.s,ZB x.m t mv v vc,x.tasks.set t (some k)⟩
structure MayMove (ok:σ→Prop)(n:Nat)(x:Wst σ τ)(mv:Mv):Prop where
 cur:x.m.cur=none
 m0:0≤x.m.moves
 m1:x.m.moves<65536
 n0:0<n
 len:x.tasks.length=n
 seats:x.m.seats.length=n
 ok:ok x.s
 calls:x.m.calls.length<4294967296
 step:∀(t:Nat) (k:τ) (se:Sea),mv.thread=(t:Int)→mv.op=0→x.tasks[t]? = some (some k)→x.m.seats[t]? = some se→∃(i:Nat) (c:Cll),se.last=(i:Int)∧x.m.calls[i]? = some c ∧
  (se.ready=false→T.okr x.s (x.tick.m.prep t i x.m.moves se) t k) ∧
  ((Zp T x.s x.tick.m i t c se k x.m.moves).1=false→T.oks (Zp T x.s x.tick.m i t c se k x.m.moves).2.1 (Zp T x.s x.tick.m i t c se k x.m.moves).2.2.1 t (Zp T x.s x.tick.m i t c se k x.m.moves).2.2.2)
def moved (x:Wst σ τ)(mv:Mv)(v:Value):Zc:=ex fun b=>ex fun x'=>pu (v=.bool b∧Jy T K mkr x mv b x')*WR T bx bm K x'
variable {T bx bm K mkr}
theorem moved_mk {x:Wst σ τ}{mv:Mv}{b:Bool}{x':Wst σ τ}{O w:World}{F:Zc}(h:Jy T K mkr x mv b x')(hs:Sat O w (WR T bx bm K x'*F)):Sat O w (moved T bx bm K mkr x mv (.bool b)*F):=by
 unfold moved
 simp only[ZG,Ma,Zz]
 exact⟨b,x',⟨rfl,h⟩,hs⟩
theorem moved_iff {x:Wst σ τ}{mv:Mv}{v:Value}{O w:World}{F:Zc}:Sat O w (moved T bx bm K mkr x mv v*F)↔∃b x',(v=.bool b∧Jy T K mkr x mv b x')∧Sat O w (WR T bx bm K x'*F):=by
 unfold moved
 simp only[ZG,Ma,Zz]
theorem move_any (hT:T.Good){ok:σ→Prop}{n:Nat}(hKO:KitOk T K mkr ok n)(x:Wst σ τ)(mv:Mv)(h:MayMove T ok n x mv) :
  Does Tryz.prog 59 #[.pointer (some ⟨bx,0,none⟩),mv.v] (WR T bx bm K x) (moved T bx bm K mkr x mv):=by
 intro O w F hs
 have of:∀ {A B:Zc} {b:Bool} {x':Wst σ τ} (Z:Zc),Zk Tryz.prog 59 #[.pointer (some ⟨bx,0,none⟩),mv.v] A (.bool b) B→Sat O w (A*(Z*F))→Jy T K mkr x mv b x'→(∀w',Sat O w' (B*(Z*F))→Sat O w' (WR T bx bm K x'*F)) →
   Calls Tryz.prog 59 #[.pointer (some ⟨bx,0,none⟩),mv.v] w fun e w'=>∃v,e=.returned v∧Sat O w' (moved T bx bm K mkr x mv v*F):=by
  intro A B b x' Z hG hA hM hB
  refine(hG O w (Z*F) hA).mono ?_
  rintro e w' ⟨rfl,hs'⟩
  exact⟨_,rfl,moved_mk hM (hB w' hs')⟩
 have h0:0<x.m.seats.length:=by rw[h.seats];exact h.n0
 by_cases hth:mv.thread<0∨(x.tasks.length:Int)≤mv.thread
 ·refine of (mp .i64 K x.m.kit*(T.X x.s*tskR T.R x.tasks x.m.seats)) (move_thread bx bm x.m mv h.m1 h.m0 h0 (by rw[h.seats,←h.len];exact hth)) ?_ (.out hth) ?_
  ·unfold WR at hs;exact hs.cast (by ac_rfl)
  ·intro w' hs';unfold WR;exact hs'.cast (by simp only[Wst.tick];ac_rfl)
 have hlt:mv.thread.toNat<x.tasks.length:=by omega
 have ht:mv.thread=(mv.thread.toNat:Int):=by omega
 generalize mv.thread.toNat=t at hlt ht
 obtain⟨o,ho⟩:∃o,x.tasks[t]? = some o:=⟨_,Yd hlt⟩
 have hlt2:t<x.m.seats.length:=by rw[h.seats,←h.len];exact hlt
 obtain⟨se,hse⟩:∃se,x.m.seats[t]? = some se:=⟨_,Yd hlt2⟩
 have hlen:x.tasks.length=x.m.seats.length:=h.len.trans h.seats.symm
 have hs0:=hs
 unfold WR at hs
 have htick:∀w',Sat O w' (MchR bx bm { x.m with moves:=x.m.moves+1 }*((mp .i64 K x.m.kit*(T.X x.s*tskR T.R x.tasks x.m.seats))*F))→Sat O w' (WR T bx bm K x.tick*F):=fun w' hs'=>by
  unfold WR;exact hs'.cast (by simp only[Wst.tick];ac_rfl)
 cases o with
 | none=>
  have hidle:se.task=.nilIface:=by
   rw[tsk_at ho hse]at hs
   have:Sat O w (pu (se.task=.nilIface)*(MchR bx bm x.m*(mp .i64 K x.m.kit*(T.X x.s*(tskR T.R (x.tasks.eraseIdx t) (x.m.seats.eraseIdx t)*F))))):=hs.cast (by simp only[tskR,mul_emp];ac_rfl)
   exact(Zz.1 this).1
  by_cases hop:mv.op=0
  ·exact of _ (move_no bx bm h.m1 h.m0 ht hse (.inl ⟨hop,hidle⟩)) (hs.cast (by ac_rfl)) (.idle t ht hop ho) htick
  ·cases hK:K mv.op with
   | none=>
    refine of (T.X x.s*tskR T.R x.tasks x.m.seats) (move_nokit bx bm rfl h.m1 h.m0 ht hop hse hidle hK) (hs.cast (by ac_rfl)) (.nokit t ht hop ho hK) ?_
    intro w' hs'
    exact htick w' (hs'.cast (by ac_rfl))
   | some u=>
    have hKn:K mv.op≠none:=by rw[hK];simp
    have htn:t<n:=by rw[←h.len];exact hlt
    cases hmk:mkr x.s t mv with
    | none=>
     refine of (tskR T.R x.tasks x.m.seats) (move_refused T bx bm hKO x.s h.ok rfl h.m1 h.m0 ht htn hop hse hidle hK hmk) (hs.cast (by ac_rfl)) (.refused t ht hop ho hKn hmk) ?_
     intro w' hs'
     exact htick w' (hs'.cast (by ac_rfl))
    | some k=>
     refine(move_begin T bx bm hT hKO x.s h.ok rfl h.cur h.m1 h.m0 ht htn hop hse hidle hK hmk h.calls ho hlen O w F hs).mono ?_
     rintro e w' ⟨rfl,hs'⟩
     simp only[ZG,Ma]at hs'
     obtain⟨v,vc,hs'⟩:=hs'
     refine⟨_,rfl,moved_mk (.begin_ t k v vc ht hop ho hKn hmk) ?_⟩
     unfold WR
     exact hs'.cast (by simp only[ZB];ac_rfl)
 | some k=>
  by_cases hop:mv.op=0
  ·obtain⟨i,c,hl,hc,hr,hs2⟩:=h.step t k se ht hop ho hse
   refine of (mp .i64 K x.m.kit) (move_step T bx bm hT x.s x.tasks h.cur h.m1 h.m0 ht hop hse ho hl hc hlen hr hs2) (hs.cast (by ac_rfl)) (.step t i c se k ht hop ho hse hl hc) ?_
   intro w' hs'
   unfold WR
   have hci:ZX (x.tick.m.prep t i x.m.moves se) i t c { se with ready:=true }:=⟨rfl,hc,by simp[Mch.prep,Wst.tick,hlt2]⟩
   have hkit:(Z9 T x.s x.tick.m i t c se k x.m.moves).2.1.kit=x.m.kit:=by
    have e1:∀(m':Mch) (b:Bool) (c':Cll) (s':Sea),(QT m' t i x.m.moves c' s' b).kit=m'.kit:=by
     intro m' b c' s';unfold QT;split<;>rfl
    have e2:(Zp T x.s x.tick.m i t c se k x.m.moves).2.2.1.kit=x.m.kit∧∃c' s',ZX (Zp T x.s x.tick.m i t c se k x.m.moves).2.2.1 i t c' s':=by
     unfold Zp
     split
     ·have fr:=hT.fr x.s _ i t c { se with ready:=true } k hci
      obtain⟨z,kk,vv,hcc⟩:=fr.curIn hci
      exact⟨fr.kit,_,_,hcc⟩
     ·exact⟨rfl,_,_,hci⟩
    obtain⟨e2,c',s',hcc⟩:=e2
    have e3:(Jc T i t (Zp T x.s x.tick.m i t c se k x.m.moves)).2.2.1.kit=x.m.kit:=by
     unfold Jc
     split
     ·have fs:=hT.fs (Zp T x.s x.tick.m i t c se k x.m.moves).2.1 _ i t c' s' (Zp T x.s x.tick.m i t c se k x.m.moves).2.2.2 hcc
      rw[←hcc.getC,←hcc.getS]at fs
      exact fs.kit.trans e2
     ·exact e2
    unfold Z9
    simp only[e1]
    exact e3
   simp only[hkit]
   exact hs'.cast (by simp only[Wst.tick];ac_rfl)
  ·have hif:∃ty y,se.task=.iface ty y:=by
    rw[tsk_at ho hse]at hs
    have:Sat O w (T.R k se.task*(MchR bx bm x.m*(mp .i64 K x.m.kit*(T.X x.s*(tskR T.R (x.tasks.eraseIdx t) (x.m.seats.eraseIdx t)*F))))):=hs.cast (by simp only[tskR,mul_emp];ac_rfl)
    exact hT.iface this
   exact of _ (move_no bx bm h.m1 h.m0 ht hse (.inr ⟨hop,hif⟩)) (hs.cast (by ac_rfl)) (.busy t k ht hop ho) htick
end
end
section
def tot:List (List Int)→Nat
 | []=>0
 | l::r=>l.length+tot r
theorem tot_get:∀ {ls:List (List Int)} {i:Nat} {l:List Int},ls[i]? = some l→l.length≤tot ls
 | [],_,_,h=>by simp at h
 | a::r,0,l,h=>by simp at h;subst h;simp only[tot];omega
 | a::r,i+1,l,h=>by
  simp only[Ue]at h
  have:=tot_get h
  simp only[tot];omega
theorem tot_mem {ls:List (List Int)}{l:List Int}(h:l∈ls):l.length≤tot ls:=by
 obtain⟨i,hi⟩:=List.getElem?_of_mem h
 exact tot_get hi
theorem tot_set:∀ {ls:List (List Int)} {i:Nat} {l x:List Int},ls[i]? = some l→tot (ls.set i x)+l.length=tot ls+x.length
 | [],_,_,_,h=>by simp at h
 | a::r,0,l,x,h=>by simp at h;subst h;simp only[Uz,tot];omega
 | a::r,i+1,l,x,h=>by
  simp only[Ue]at h
  have:=tot_set (x:=x) h
  simp only[Uc,tot];omega
structure Bases (c:Cfg):Prop where
 b1:base c 1=0
 b2:base c 2=1
 b8:7≤base c 8
 b9:base c 9=base c 8+c.R
 b10:base c 10=base c 9+c.R*c.Hz
 b11:base c 11=base c 10+c.Sl
 b12:base c 12=base c 11+c.Sl
 b13:base c 13=base c 12+c.Sl
 b14:base c 14=base c 13+c.Sl
 rh:3≤c.R*c.Hz
 rh2:c.R*c.Hz≤128
 b3:base c 3=2
theorem Qg {c:Cfg}(h:c.Ok):Bases c:=by
 have e7:base c 8=base c 7+c.Bu:=rfl
 have e8:base c 7=6:=by simp[base,many]
 have:=h.B1
 refine⟨rfl,by simp[base,many],by omega,rfl,rfl,rfl,rfl,rfl,rfl,?_,h.rh.2,by simp[base,many]⟩
 have h1:=h.R1
 have h2:=h.H1
 calc (3:Int)=1*3:=rfl
  _≤c.R*c.Hz:=Int.mul_le_mul h1 h2 (by omega) (by omega)
structure WOk (c:Cfg)(k:Int)(u:Int):Prop where
 head:k=base c 1→0≤u∧u<18446744073709551616∧u%4294967296≤c.Sl
 cell:k=base c 2→0≤u∧u≤c.Sl
 hz:base c 9≤k→k<base c 10→0≤u∧u≤c.Sl
 next:base c 10≤k→k<base c 11→0≤u∧u≤c.Sl
 top:k=base c 3→0≤u∧u≤c.Sl
 link:base c 13≤k→k<base c 14→0≤u∧u≤c.Sl
structure Core (c:Cfg)(L S N:Nat)(h:Haz)(a:Are)(m:Mch):Prop where
 ok:c.Ok
 hc:h.c=c
 ac:a.c=c
 words:m.mem.words.length=(base c 14).toNat
 wok:∀(k:Nat) (u:Int),m.mem.words[k]? = some u→WOk c k u
 log:m.mem.log.length≤L
 ahead:m.mem.ahead.length≤L
 shifts:m.shifts.length≤S
 slots:a.slots.length=c.Sl.toNat
 held:h.held.length=c.T.toNat
 hin:∀r∈h.held,-1≤r∧r<c.R
 lists:h.lists.length=c.R.toNat
 tot:tot h.lists≤N
 ins:∀l∈h.lists,∀z∈l,0≤z∧z<c.Sl
 caches:a.caches.length=c.T.toNat
 clens:∀x∈a.caches,(x.length:Int)≤c.Ca
 cins:∀x∈a.caches,∀z∈x,0≤z∧z<c.Sl
section
variable {c:Cfg}{L S N:Nat}{h:Haz}{a:Are}{m:Mch}
theorem Core.haz (k:Core c L S N h a m)(hu:m.used=false)(hL:L<4294967296)(hS:S<1000000000)(hN:N<1000000):HazOk h a m:=by
 obtain⟨k1,rfl,k3,k4,k5,k6,k7,k8,k9,k10,k11,k12,k13,k14,k15,k16,k17⟩:=k
 have hC:=k1.C2
 exact⟨⟨by rw[k3];exact k1,hu,by rw[k3];exact k4,by omega,by omega,by omega,by rw[k3];exact k9⟩,k3.symm,k10,k11,k12,
  fun l hl=>by have:=tot_mem hl;omega,by rw[k3];exact k14,by rw[k3];exact k15,fun x hx=>by have:=k16 x hx;omega,by rw[k3];exact k17,by omega⟩
theorem Core.mono (k:Core c L S N h a m){L' S' N':Nat}(hL:L≤L')(hS:S≤S')(hN:N≤N'):Core c L' S' N' h a m:=
 ⟨k.ok,k.hc,k.ac,k.words,k.wok,by have:=k.log;omega,by have:=k.ahead;omega,by have:=k.shifts;omega,k.slots,k.held,k.hin,k.lists,by have:=k.tot;omega,k.ins,k.caches,k.clens,k.cins⟩
theorem Core.of {m':Mch}(k:Core c L S N h a m)(h1:m'.mem.words=m.mem.words)(h2:m'.mem.log.length=m.mem.log.length)(h3:m'.mem.ahead.length=m.mem.ahead.length)(h4:m'.shifts.length=m.shifts.length):Core c L S N h a m' :=
 ⟨k.ok,k.hc,k.ac,by rw[h1];exact k.words,by rw[h1];exact k.wok,by rw[h2];exact k.log,by rw[h3];exact k.ahead,by rw[h4];exact k.shifts,k.slots,k.held,k.hin,k.lists,k.tot,k.ins,k.caches,k.clens,k.cins⟩
theorem Core.word (k:Core c L S N h a m){i:Nat}(hi:(i:Int)<base c 14):WOk c i (m.word i):=by
 have hl:i<m.mem.words.length:=by rw[k.words];omega
 refine k.wok i _ ?_
 simp[Mch.word,Yb,Yd hl]
theorem Core.load (k:Core c L S N h a m)(i:Nat)(u:Int):Core c (L+1) S N h a (m.load i u):=
 ⟨k.ok,k.hc,k.ac,k.words,k.wok,by have:=k.log;simp[Mch.load];omega,by have:=k.ahead;simp[Mch.load];omega,k.shifts,k.slots,k.held,k.hin,k.lists,k.tot,k.ins,k.caches,k.clens,k.cins⟩
theorem Core.store (k:Core c L S N h a m)(i:Nat)(u z:Int)(hz:WOk c i z):Core c (L+1) S N h a (m.store i u z):=by
 refine⟨k.ok,k.hc,k.ac,by simp[Mch.store];exact k.words,?_,by have:=k.log;simp[Mch.store];omega,by have:=k.ahead;simp[Mch.store];omega,k.shifts,k.slots,k.held,k.hin,k.lists,k.tot,k.ins,k.caches,k.clens,k.cins⟩
 intro j v hj
 simp only[Mch.store]at hj
 by_cases hij:i=j
 ·subst hij
  rw[List.getElem?_set_self' ]at hj
  cases hg:m.mem.words[i]? with
  | none=>rw[hg]at hj;simp at hj
  | some w=>rw[hg]at hj;simp at hj;subst hj;exact hz
 ·rw[Yf hij]at hj
  exact k.wok j v hj
theorem Core.swap (k:Core c L S N h a m)(i:Nat)(u o z:Int)(hz:WOk c i z):Core c (L+1) S N h a (m.swap i u o z):=by
 by_cases hu:u=o
 ·exact(k.store i u z hz).of (by simp[Mch.swap,Mch.store,hu]) (by simp[Mch.swap,Mch.store]) (by simp[Mch.swap,Mch.store]) rfl
 ·exact(k.load i u).of (by simp[Mch.swap,Mch.load,hu]) (by simp[Mch.swap,Mch.load]) (by simp[Mch.swap,Mch.load]) rfl
theorem Core.mshift (k:Core c L S N h a m)(s f t:Int):Core c L (S+1) N h a (m.shift s f t):=
 ⟨k.ok,k.hc,k.ac,k.words,k.wok,k.log,k.ahead,by have:=k.shifts;simp[Mch.shift];omega,k.slots,k.held,k.hin,k.lists,k.tot,k.ins,k.caches,k.clens,k.cins⟩
theorem Core.ashift (k:Core c L S N h a m)(i:Nat)(t to:Int):Core c L S N h (a.shift i t to) m:=
 ⟨k.ok,k.hc,k.ac,k.words,k.wok,k.log,k.ahead,k.shifts,by simp only[Are.shift,List.length_set];exact k.slots,k.held,k.hin,k.lists,k.tot,k.ins,k.caches,k.clens,k.cins⟩
theorem Core.cache (k:Core c L S N h a m)(i:Nat)(x:List Int)(hx:(x.length:Int)≤c.Ca)(hin:∀z∈x,0≤z∧z<c.Sl):Core c L S N h { a with caches:=a.caches.set i x } m:=
 ⟨k.ok,k.hc,k.ac,k.words,k.wok,k.log,k.ahead,k.shifts,k.slots,k.held,k.hin,k.lists,k.tot,k.ins,by simp only[List.length_set];exact k.caches,
  fun y hy=>by rcases List.mem_or_eq_of_mem_set hy with h|rfl;exact k.clens y h;exact hx,
  fun y hy=>by rcases List.mem_or_eq_of_mem_set hy with h|rfl;exact k.cins y h;exact hin⟩
theorem Core.list (k:Core c L S N h a m)(ls:List (List Int)){N':Nat}(hl:ls.length=c.R.toNat)(ht:Go.Proofs.YtefjbdajgakgpaaGreat.tot ls≤N')(hin:∀l∈ls,∀z∈l,0≤z∧z<c.Sl):Core c L S N' { h with lists:=ls } a m:=
 ⟨k.ok,k.hc,k.ac,k.words,k.wok,k.log,k.ahead,k.shifts,k.slots,k.held,k.hin,hl,ht,hin,k.caches,k.clens,k.cins⟩
theorem Core.hold (k:Core c L S N h a m)(i:Nat)(r:Int)(hr : -1≤r∧r<c.R):Core c L S N { h with held:=h.held.set i r } a m:=
 ⟨k.ok,k.hc,k.ac,k.words,k.wok,k.log,k.ahead,k.shifts,k.slots,by simp only[List.length_set];exact k.held,
  fun y hy=>by rcases List.mem_or_eq_of_mem_set hy with h|rfl;exact k.hin y h;exact hr,k.lists,k.tot,k.ins,k.caches,k.clens,k.cins⟩
theorem Core.lget (k:Core c L S N h a m){r:Int}(h0:0≤r)(h1:r<c.R):h.lists[r.toNat]? = some (h.lists.getD r.toNat [])∧(h.lists.getD r.toNat []).length≤N∧∀z∈h.lists.getD r.toNat [],0≤z∧z<c.Sl:=by
 have hl:r.toNat<h.lists.length:=by rw[k.lists];omega
 have e:h.lists[r.toNat]? = some (h.lists.getD r.toNat []):=by rw[Yb,Yd hl];rfl
 refine⟨e,?_,fun z hz=>k.ins _ (Yc e) z hz⟩
 have:=tot_get e
 have:=k.tot
 omega
theorem Core.cget (k:Core c L S N h a m){t:Int}(h0:0≤t)(h1:t<c.T):a.caches[t.toNat]? = some (a.caches.getD t.toNat [])∧((a.caches.getD t.toNat []).length:Int)≤c.Ca∧∀z∈a.caches.getD t.toNat [],0≤z∧z<c.Sl:=by
 have hl:t.toNat<a.caches.length:=by rw[k.caches];omega
 have e:a.caches[t.toNat]? = some (a.caches.getD t.toNat []):=by rw[Yb,Yd hl];rfl
 exact⟨e,k.clens _ (Yc e),k.cins _ (Yc e)⟩
theorem ZY {c:Cfg}(hc:c.Ok)(r:Nat){i:Int}(hi:0≤i):((adr c r i:Nat):Int)=base c r+i:=by
 have:=(ZD hc r).1
 unfold adr;omega
theorem wok_active {c:Cfg}(hc:c.Ok){i:Int}(h0:0≤i)(h1:i<c.R)(u:Int):WOk c (adr c 8 i) u:=by
 have e:=ZY hc 8 h0
 have:=hc.S1
 obtain⟨b1,b2,b8,b9,b10,b11,b12,b13,b14,rh,rh2,b3⟩:=Qg hc
 constructor<;>(intros;exfalso;omega)
theorem wok_value {c:Cfg}(hc:c.Ok){i:Int}(h0:0≤i)(h1:i<c.Sl)(u:Int):WOk c (adr c 11 i) u:=by
 have e:=ZY hc 11 h0
 have:=hc.R1
 have:=hc.S1
 obtain⟨b1,b2,b8,b9,b10,b11,b12,b13,b14,rh,rh2,b3⟩:=Qg hc
 constructor<;>(intros;exfalso;omega)
theorem wok_next {c:Cfg}(hc:c.Ok){i:Int}(h0:0≤i)(h1:i<c.Sl){u:Int}(hu:0≤u∧u≤c.Sl):WOk c (adr c 10 i) u:=by
 have e:=ZY hc 10 h0
 have:=hc.R1
 have:=hc.S1
 obtain⟨b1,b2,b8,b9,b10,b11,b12,b13,b14,rh,rh2,b3⟩:=Qg hc
 constructor<;>(intros;first|exact hu|(exfalso;omega))
theorem wok_hz {c:Cfg}(hc:c.Ok){k:Int}(h0:base c 9≤k)(h1:k<base c 10){u:Int}(hu:0≤u∧u≤c.Sl):WOk c k u:=by
 have:=hc.R1
 have:=hc.S1
 obtain⟨b1,b2,b8,b9,b10,b11,b12,b13,b14,rh,rh2,b3⟩:=Qg hc
 constructor<;>(intros;first|exact hu|(exfalso;omega))
theorem wok_head {c:Cfg}(hc:c.Ok){u:Int}(hu:0≤u∧u<18446744073709551616∧u%4294967296≤c.Sl):WOk c (adr c 1 0) u:=by
 have e:=ZY hc 1 (Int.le_refl 0)
 have:=hc.R1
 have:=hc.S1
 obtain⟨b1,b2,b8,b9,b10,b11,b12,b13,b14,rh,rh2,b3⟩:=Qg hc
 constructor<;>(intros;first|exact hu|(exfalso;omega))
theorem wok_cell {c:Cfg}(hc:c.Ok){u:Int}(hu:0≤u∧u≤c.Sl):WOk c (adr c 2 0) u:=by
 have e:=ZY hc 2 (Int.le_refl 0)
 have:=hc.R1
 have:=hc.S1
 obtain⟨b1,b2,b8,b9,b10,b11,b12,b13,b14,rh,rh2,b3⟩:=Qg hc
 constructor<;>(intros;first|exact hu|(exfalso;omega))
theorem wok_link {c:Cfg}(hc:c.Ok){i:Int}(h0:0≤i)(h1:i<c.Sl){u:Int}(hu:0≤u∧u≤c.Sl):WOk c (adr c 13 i) u:=by
 have e:=ZY hc 13 h0
 have:=hc.R1
 have:=hc.S1
 obtain⟨b1,b2,b8,b9,b10,b11,b12,b13,b14,rh,rh2,b3⟩:=Qg hc
 constructor<;>(intros;first|exact hu|(exfalso;omega))
theorem adr_lt14 {c:Cfg}(hc:c.Ok):((adr c 1 0:Nat):Int)<base c 14∧((adr c 2 0:Nat):Int)<base c 14:=by
 have e:=ZY hc 1 (Int.le_refl 0)
 have e:=ZY hc 2 (Int.le_refl 0)
 have:=hc.R1
 have:=hc.S1
 obtain⟨b1,b2,b8,b9,b10,b11,b12,b13,b14,rh,rh2,b3⟩:=Qg hc
 omega
/-! ## giving back -/
structure PInv (c:Cfg)(p:Psh):Prop where
 s0:0≤p.slot
 s1:p.slot<c.Sl
 at0:p.at_=1∨p.at_=2∨p.at_=3
 head:p.at_≠1→0≤p.head∧p.head<18446744073709551616∧p.head%4294967296≤c.Sl
theorem PInv.pok {p:Psh}(P:PInv c p)(k:Core c L S N h a m)(hu:m.used=false)(hL:L<4294967296)(hS:S<1000000000):PushOk a m p:=by
 obtain⟨p1,p2,p3,p4⟩:=P
 have hl:=k.log
 have ha:=k.ahead
 have hs:=k.shifts
 have hS2:=k.ok.S2
 have hac:=k.ac
 exact⟨by rw[hac];exact k.ok,hu,by rw[hac];exact k.words,by omega,by omega,by omega,by rw[hac];exact k.slots,p1,by rw[hac];exact p2,p3,fun h1=>⟨(p4 h1).1,(p4 h1).2.1,by have:=(p4 h1).2.2;omega⟩⟩
theorem push_core {p:Psh}(k:Core c L S N h a m)(P:PInv c p) :
  Core c (L+1) (S+1) N h (Za a m p).2.1 (Za a m p).2.2.1∧((Za a m p).1=false→PInv c (Za a m p).2.2.2)∧(Za a m p).2.1.caches=a.caches∧(Za a m p).2.2.2.thread=p.thread:=by
 obtain⟨p1,p2,p3,p4⟩:=P
 have hac:=k.ac
 have hok:=k.ok
 have hw:=(k.word (adr_lt14 hok).1).head (by rw[ZY hok 1 (Int.le_refl 0)];simp)
 have hS2:=hok.S2
 unfold Za
 rw[hac]
 split
 ·exact⟨(k.load _ _).mono (by omega) (by omega) (by omega),fun _=>⟨p1,p2,.inr (.inl rfl),fun _=>hw⟩,rfl,rfl⟩
 ·rename_i h1
  have p4:=p4 h1
  split
  ·exact⟨(k.store _ _ _ (wok_next hok p1 p2 ⟨by omega,p4.2.2⟩)).mono (by omega) (by omega) (by omega),fun _=>⟨p1,p2,.inr (.inr rfl),fun _=>p4⟩,rfl,rfl⟩
  ·have hz:WOk c (adr c 1 0) ((p.head / 4294967296+1)%4294967296*4294967296+(p.slot+1)):=wok_head hok ⟨by omega,by omega,by omega⟩
   simp only[]
   split
   ·exact⟨(((k.swap _ _ _ _ hz).mshift _ _ _).ashift _ _ _),fun hf=>(by cases hf),rfl,rfl⟩
   ·exact⟨(k.swap _ _ _ _ hz).mono (by omega) (by omega) (by omega),fun _=>⟨p1,p2,.inl rfl,fun hf=>absurd rfl hf⟩,rfl,rfl⟩
theorem ZT {α:Type}{l:List α}{i j:Nat}{x:α}(h:j≠i):(l.set i x)[j]? = l[j]? := Yf (Ne.symm h)
theorem give_core {p:Psh}(k:Core c L S N h a m)(s0:0≤p.slot)(s1:p.slot<c.Sl)(t0:0≤p.thread)(t1:p.thread<c.T) :
  ((Zq a m p).1=true∧((a.caches.getD p.thread.toNat []).length:Int)<c.Ca∧Core c L (S+1) N h (Zq a m p).2.1 (Zq a m p).2.2.1∧((Zq a m p).2.1.caches.getD p.thread.toNat []).length=(a.caches.getD p.thread.toNat []).length+1∧∀j,j≠p.thread.toNat→(Zq a m p).2.1.caches[j]? = a.caches[j]?) ∨
  (Zq a m p)=(false,a,m,p):=by
 obtain rfl:=k.ac
 obtain⟨g1,g2,g3⟩:=k.cget t0 t1
 unfold Zq
 by_cases hf:a.c.Ca≤((a.caches.getD p.thread.toNat []).length:Int)
 ·rw[if_pos hf]
  exact .inr rfl
 ·rw[if_neg hf]
  have hlt:=(List.getElem?_eq_some_iff.1 g1).1
  refine .inl ⟨rfl,by omega,((k.cache _ _ (by simp only[List.length_append,List.length_cons,List.length_nil];omega) ?_).ashift _ _ _).mshift _ _ _,?_,?_⟩
  ·intro z hz
   rcases List.mem_append.1 hz with h|h
   ·exact g3 z h
   ·simp at h;subst h;exact⟨s0,s1⟩
  ·simp only[Are.shift,Yb,Ye hlt]
   simp
  ·intro j hj
   exact ZT hj
structure FreeInv (c:Cfg)(L S N:Nat)(h:Haz)(a:Are)(th:Int)(n:Nat)(r:Bool×List Int×Option Psh×Are×Mch):Prop where
 core:Core c L S N h r.2.2.2.1 r.2.2.2.2
 fin:r.1=false→(∃p,r.2.2.1=some p∧PInv c p)∧(∀z∈r.2.1,0≤z∧z<c.Sl)∧r.2.1.length≤n
 caches:∀j,j≠th.toNat→r.2.2.2.1.caches[j]? = a.caches[j]?
theorem free_core (th:Int)(t0:0≤th)(t1:th<c.T):∀(pend:List Int) (g:Option Psh) (a:Are) (m:Mch) (S q:Nat),Core c L S N h a m→(∀z∈pend,0≤z∧z<c.Sl)→(a.caches.getD th.toNat []).length+q=c.Ca.toNat →
  FreeInv c L (S+q) N h a th pend.length (Zu th pend g a m)
 | [],g,a,m,S,q,k,_,_=>⟨k.mono (by omega) (by omega) (by omega),fun hf=>(by cases hf),fun _ _=>rfl⟩
 | s::r,g,a,m,S,q,k,hin,hq=>by
  have hs:=hin s (List.mem_cons_self ..)
  unfold Zu
  rcases give_core (p:=⟨s,1,0,th⟩) k hs.1 hs.2 t0 t1 with⟨e1,e2,e3,e4,e5⟩|e
  ·rw[if_pos e1]
   simp only[]at e2 e4
   obtain⟨q',rfl⟩:∃q',q=q'+1:=⟨q-1,by omega⟩
   obtain⟨f1,f2,f3⟩:=free_core th t0 t1 r (some (Zq a m ⟨s,1,0,th⟩).2.2.2) _ _ (S+1) q' e3 (fun z hz=>hin z (List.mem_cons_of_mem _ hz)) (by omega)
   exact⟨f1.mono (by omega) (by omega) (by omega),fun hf=>⟨(f2 hf).1,(f2 hf).2.1,by have:=(f2 hf).2.2;simp only[List.length_cons];omega⟩,fun j hj=>(f3 j hj).trans (e5 j hj)⟩
  ·rw[e]
   exact⟨k.mono (by omega) (by omega) (by omega),fun _=>⟨⟨_,rfl,hs.1,hs.2,.inl rfl,fun hf=>absurd rfl hf⟩,fun z hz=>hin z (List.mem_cons_of_mem _ hz),by simp⟩,fun _ _=>rfl⟩
end
end
end Go.Proofs.YtefjbdajgakgpaaGreat
