/-
  The kit.
-/
import Derived.Test.YtjagadldibbbbaaGreatBKit2
import Derived.Test.YtjagadldibbbbaaGreatBNew3
import Derived.Test.YtjagadldibbbbaaGreatBMach3
set_option linter.all false
namespace Go.Proofs.YtjagadldibbbbaaGreat
open Go.RowKit Hp
set_option maxRecDepth 100000
set_option maxHeartbeats 1000000
attribute [local irreducible] Go.Calls
section
abbrev fnV (f c1:Nat):Value:=.func (.func f) #[] #[.pointer (some ⟨c1,0,none⟩)]
abbrev holdV (c1 d:Nat):Value:=.func (.func 39) #[] #[.pointer (some ⟨c1,0,none⟩),.pointer (some ⟨d,0,none⟩)]
structure Caps where
 c1:Nat
 d2:Nat
 d3:Nat
 d4:Nat
 d5:Nat
 d6:Nat
def kitFn (x:Caps):Int→Option Value:=fun op=>
 if op=25 then some (holdV x.c1 x.d6) else if op=24 then some (holdV x.c1 x.d5) else if op=23 then some (holdV x.c1 x.d4) else if op=22 then some (holdV x.c1 x.d3) else if op=21 then some (holdV x.c1 x.d2) else if op=20 then some (fnV 41 x.c1) else none
def capR (bh:Nat)(x:Caps):Za:=ZR bh x.c1*(ZW x.d2 (fnV 42 x.c1)*(ZW x.d3 (fnV 43 x.c1)*(ZW x.d4 (fnV 44 x.c1)*(ZW x.d5 (fnV 46 x.c1)*ZW x.d6 (fnV 47 x.c1)))))
theorem kit_hold (c1 f:Nat):Does Tryz.prog 38 #[fnV f c1,.pointer (some ⟨c1,0,none⟩)] emp (fun v=>ex fun d=>pu (v=holdV c1 d)*ZW d (fnV f c1)):=by
 intro O w F hs
 go_enter Tryz.func38,Tryz.ntmps38
 go_wp2_with ((with_reducible apply Zo hs);rfl;rfl;rfl;clear hs;intro w b hs;(simp only[Uc,Uz]))
 (go_ret)
 refine⟨_,rfl,?_⟩
 simp only[ZB,Ma,Zx]
 refine⟨_,rfl,?_⟩
 unfold ZW
 ((with_reducible apply Sat.fin hs);(with_reducible repeat first|exact Ql|exact Qh|apply Qb|apply Qk))
theorem kit_dyn (c1 f:Nat):Dyn Tryz.prog (ZX (.func (.func 38) #[] #[.pointer (some ⟨c1,0,none⟩)]) #[fnV f c1]) emp (fun v=>ex fun d=>pu (v=holdV c1 d)*ZW d (fnV f c1)):=
 (kit_hold c1 f).dyn fun w=>by kernel_rfl
theorem kit_mk {bh ba:Nat}{h:Haz}{v:Value}{O w:World}{F:Za}{b d2 d3 d4 d5 d6:Nat}(hs:Sat O w (mp .i64 (kitFn ⟨b,d2,d3,d4,d5,d6⟩) v*(HazR bh ba h*(capR bh ⟨b,d2,d3,d4,d5,d6⟩*F)))):Sat O w ((ex fun x=>mp .i64 (kitFn x) v*(HazR bh ba h*capR bh x))*F):=by
 simp only[ZB,Ma]
 exact⟨_,hs⟩
theorem haz_kit (bh ba:Nat)(h:Haz) :
  Does Tryz.prog 29 #[.pointer (some ⟨bh,0,none⟩)] (HazR bh ba h) (fun v=>ex fun x=>mp .i64 (kitFn x) v*(HazR bh ba h*capR bh x)):=by
 intro O w F hs
 (obtain⟨vhh,vhl,hs⟩:=hazR.1 hs)
 go_enter Tryz.func29,Tryz.ntmps29
 go_wp2_with (first|(first|((with_reducible apply Zb hs);exact Ii;rfl;(with_reducible repeat first|exact Qh|apply Qk);rfl;rfl;(simp only[Uc,Uz]))|((with_reducible apply Zo hs);rfl;rfl;rfl;clear hs;intro w b hs;(simp only[Uc,Uz])))|(first|((with_reducible apply wl_mkmap hs);exact Ii;rfl;clear hs;intro w r hs;(simp only[Uc,Uz]))|((with_reducible apply wl_mi hs);exact Ii;rfl;rfl;rfl;(with_reducible repeat first|exact Qh|apply Qk);rfl;clear hs;intro w hs))|((with_reducible apply wl_val1 hs);rfl;rfl;(exact kit_dyn _ _);(focus((repeat(with_reducible exact Qn));done));rfl;clear hs;intro v w hs;(simp only[ZB,Ma,Zx,Em]at hs);(obtain⟨_,rfl,hs⟩:=hs);(simp only[Uc,Uz])))
 (go_ret)
 refine⟨_,rfl,?_⟩
 (replace hs:=Zu (hs.fin (by (with_reducible repeat first|exact Ql|exact Qh|apply Qb|apply Qk))))
 apply kit_mk (b:=b)
 unfold capR ZR kitFn
 simp only[Ma]
 ((with_reducible apply Sat.fin hs);(focus((repeat(first|with_reducible exact Ql|with_reducible exact Qh|with_reducible apply Qb|exact Qh|with_reducible apply Qk));done)))
def Z2 (s:Haz×Are)(t:Nat)(mv:Mv):Option QP:=
 if mv.op=20 then (if s.1.held.getD t 0<0 then some (.reg ⟨t,0,false⟩) else none)
 else if s.1.held.getD t 0<0 then none
 else if mv.op=21 then some (.unr ⟨t,0,0,none,none⟩)
 else if mv.op=22 then some (.pst ⟨t,mv.arg,0,none,0,0,none⟩)
 else if mv.op=23 then (if 0≤mv.arg∧mv.arg<s.1.c.Hz then some (.rdg ⟨base s.1.c 9+s.1.held.getD t 0*s.1.c.Hz+mv.arg,0,0,0⟩) else none)
 else if mv.op=24 then (if 0≤mv.arg∧mv.arg<s.1.c.Hz then some (.clr (base s.1.c 9+s.1.held.getD t 0*s.1.c.Hz+mv.arg).toNat) else none)
 else some (.scn ⟨t,s.1.held.getD t 0,6,0,false,fun _=>0,[],none⟩)
structure KOk (n:Nat)(s:Haz×Are):Prop where
 c:s.1.c.Ok
 held:s.1.held.length=n
 hin:∀r∈s.1.held,r<s.1.c.R
theorem QZ {P:Program}{s:Sem Next}{A A':Za}{B B':Value→Za}(Z:Za)(h:Dyn P s A B)(hA:A'=A*Z)(hB:∀v,B' v=B v*Z):Dyn P s A' B':=by
 intro O w F hs
 subst hA
 obtain⟨f,args,hr,hC⟩:=h O w (Z*F) (hs.cast (by ac_rfl))
 refine⟨f,args,hr,hC.mono ?_⟩
 rintro e w' ⟨v,rfl,hs'⟩
 exact⟨v,rfl,by rw[hB v];exact hs'.cast (by ac_rfl)⟩
theorem made_opt {bh ba:Nat}{CX:Za}{s:Haz×Are}{o:Option QP}{v:Value}:madeR (hzT bh ba CX) s o v=optR bh ba o v*(HazR bh ba s.1*(AreR ba s.2*CX)):=by
 cases o<;>rfl
set_option maxHeartbeats 4000000 in
theorem hzT_kit (bh ba n:Nat)(x:Caps):KitOk (hzT bh ba (capR bh x)) (kitFn x) Z2 (KOk n) n where
 func:=by
  intro op u h
  unfold kitFn at h
  repeat' split at h
  all_goals(first|(cases h;done)|(injection h with h;exact⟨_,_,_,h.symm⟩))
 make:=by
  intro op u s t mv hK hop ht hthr hok
  have hlt:t<s.1.held.length:=by rw[hok.held];exact ht
  obtain⟨r,hr⟩:∃r,s.1.held[t]? = some r:=⟨_,Yd hlt⟩
  have hrd:s.1.held.getD t 0=r:=by rw[Yb,hr];rfl
  have hrR:r<s.1.c.R:=hok.hin r (Yc hr)
  subst hop
  have key:∀o,Z2 s t mv=o→(∀v,madeR (hzT bh ba (capR bh x)) s (Z2 s t mv) v=optR bh ba o v*(HazR bh ba s.1*(AreR ba s.2*capR bh x))):=fun o ho v=>by rw[ho,made_opt]
  have hold:∀(f d:Nat) (o:Option QP) (Z:Za),capR bh x=ZR bh x.c1*(ZW d (fnV f x.c1)*Z)→Z2 s t mv=(if r<0 then none else o)→u=holdV x.c1 d →
    (0≤r→Does Tryz.prog f #[.int .i64 (t:Int),mv.v,.pointer (some ⟨x.c1,0,none⟩)] (HazR bh ba s.1*ZR bh x.c1) (fun v=>optR bh ba o v*(HazR bh ba s.1*ZR bh x.c1))) →
    (∀w,(ZX (fnV f x.c1) #[.int .i64 (t:Int),mv.v]).run Tryz.prog w=.ok (.enter f #[.int .i64 (t:Int),mv.v,.pointer (some ⟨x.c1,0,none⟩)]) w) →
    Dyn Tryz.prog (ZX u #[.int .i64 (t:Int),mv.v]) ((hzT bh ba (capR bh x)).X s) (fun v=>madeR (hzT bh ba (capR bh x)) s (Z2 s t mv) v):=by
   intro f d o Z hZ ho hu hin hrun
   subst hu
   by_cases h0:r<0
   ·rw[if_pos h0]at ho
    refine QZ (AreR ba s.2*Z) ((hold_no bh ba x.c1 s.1 t mv d (fnV f x.c1) r hr h0).dyn (fun w=>by kernel_rfl)) (by simp only[hzT];rw[hZ];ac_rfl) (fun v=>by rw[key _ ho,hZ];ac_rfl)
   ·rw[if_neg h0]at ho
    refine QZ (AreR ba s.2*Z) ((hold_yes bh ba x.c1 s.1 t mv d f o r hr (by omega) ((hin (by omega)).dyn hrun)).dyn (fun w=>by kernel_rfl)) (by simp only[hzT];rw[hZ];ac_rfl) (fun v=>by rw[key _ ho,hZ];ac_rfl)
  unfold kitFn at hK
  by_cases h25:mv.op=25
  ·rw[if_pos h25]at hK
   exact hold _ x.d6 _ (ZW x.d2 (fnV 42 x.c1)*(ZW x.d3 (fnV 43 x.c1)*(ZW x.d4 (fnV 44 x.c1)*(ZW x.d5 (fnV 46 x.c1))))) (by unfold capR;ac_rfl) (by simp only[Z2,hrd,h25];simp) (by injection hK with hK;exact hK.symm) (fun h0=>mk_scn bh ba x.c1 s.1 t mv r hr) (fun w=>by kernel_rfl)
  rw[if_neg h25]at hK
  by_cases h24:mv.op=24
  ·rw[if_pos h24]at hK
   by_cases hk:0≤mv.arg∧mv.arg<s.1.c.Hz
   ·exact hold _ x.d5 _ (ZW x.d2 (fnV 42 x.c1)*(ZW x.d3 (fnV 43 x.c1)*(ZW x.d4 (fnV 44 x.c1)*(ZW x.d6 (fnV 47 x.c1))))) (by unfold capR;ac_rfl) (by simp only[Z2,hrd,h24,if_pos hk];simp) (by injection hK with hK;exact hK.symm) (fun h0=>mk_clr bh ba x.c1 s.1 t mv hok.c r hr h0 hrR hk.1 hk.2) (fun w=>by kernel_rfl)
   ·exact hold _ x.d5 none (ZW x.d2 (fnV 42 x.c1)*(ZW x.d3 (fnV 43 x.c1)*(ZW x.d4 (fnV 44 x.c1)*(ZW x.d6 (fnV 47 x.c1))))) (by unfold capR;ac_rfl) (by simp only[Z2,hrd,h24,if_neg hk];simp) (by injection hK with hK;exact hK.symm) (fun h0=>mk_clr_no bh ba x.c1 s.1 t mv r hr h0 (by omega)) (fun w=>by kernel_rfl)
  rw[if_neg h24]at hK
  by_cases h23:mv.op=23
  ·rw[if_pos h23]at hK
   by_cases hk:0≤mv.arg∧mv.arg<s.1.c.Hz
   ·exact hold _ x.d4 _ (ZW x.d2 (fnV 42 x.c1)*(ZW x.d3 (fnV 43 x.c1)*(ZW x.d5 (fnV 46 x.c1)*(ZW x.d6 (fnV 47 x.c1))))) (by unfold capR;ac_rfl) (by simp only[Z2,hrd,h23,if_pos hk];simp) (by injection hK with hK;exact hK.symm) (fun h0=>mk_rdg bh ba x.c1 s.1 t mv hok.c r hr h0 hrR hk.1 hk.2) (fun w=>by kernel_rfl)
   ·exact hold _ x.d4 none (ZW x.d2 (fnV 42 x.c1)*(ZW x.d3 (fnV 43 x.c1)*(ZW x.d5 (fnV 46 x.c1)*(ZW x.d6 (fnV 47 x.c1))))) (by unfold capR;ac_rfl) (by simp only[Z2,hrd,h23,if_neg hk];simp) (by injection hK with hK;exact hK.symm) (fun h0=>mk_rdg_no bh ba x.c1 s.1 t mv r hr h0 (by omega)) (fun w=>by kernel_rfl)
  rw[if_neg h23]at hK
  by_cases h22:mv.op=22
  ·rw[if_pos h22]at hK
   exact hold _ x.d3 _ (ZW x.d2 (fnV 42 x.c1)*(ZW x.d4 (fnV 44 x.c1)*(ZW x.d5 (fnV 46 x.c1)*(ZW x.d6 (fnV 47 x.c1))))) (by unfold capR;ac_rfl) (by simp only[Z2,hrd,h22];simp) (by injection hK with hK;exact hK.symm) (fun h0=>mk_pst bh ba x.c1 s.1 t mv) (fun w=>by kernel_rfl)
  rw[if_neg h22]at hK
  by_cases h21:mv.op=21
  ·rw[if_pos h21]at hK
   exact hold _ x.d2 _ (ZW x.d3 (fnV 43 x.c1)*(ZW x.d4 (fnV 44 x.c1)*(ZW x.d5 (fnV 46 x.c1)*(ZW x.d6 (fnV 47 x.c1))))) (by unfold capR;ac_rfl) (by simp only[Z2,hrd,h21];simp) (by injection hK with hK;exact hK.symm) (fun h0=>mk_unr bh ba x.c1 s.1 t mv) (fun w=>by kernel_rfl)
  rw[if_neg h21]at hK
  by_cases h20:mv.op=20
  ·rw[if_pos h20]at hK
   injection hK with hK
   subst hK
   by_cases h0:r<0
   ·exact QZ (AreR ba s.2*(ZW x.d2 (fnV 42 x.c1)*(ZW x.d3 (fnV 43 x.c1)*(ZW x.d4 (fnV 44 x.c1)*(ZW x.d5 (fnV 46 x.c1)*(ZW x.d6 (fnV 47 x.c1))))))) ((mk_reg bh ba x.c1 s.1 t mv r hr h0).dyn (fun w=>by kernel_rfl)) (by simp only[hzT,capR];ac_rfl) (fun v=>by rw[key (some (.reg ⟨t,0,false⟩)) (by simp only[Z2,hrd,h20,if_true,if_pos h0]),capR];ac_rfl)
   ·exact QZ (AreR ba s.2*(ZW x.d2 (fnV 42 x.c1)*(ZW x.d3 (fnV 43 x.c1)*(ZW x.d4 (fnV 44 x.c1)*(ZW x.d5 (fnV 46 x.c1)*(ZW x.d6 (fnV 47 x.c1))))))) ((mk_reg_no bh ba x.c1 s.1 t mv r hr (by omega)).dyn (fun w=>by kernel_rfl)) (by simp only[hzT,capR];ac_rfl) (fun v=>by rw[key none (by simp only[Z2,hrd,h20,if_true,if_neg h0]),capR];ac_rfl)
  rw[if_neg h20]at hK
  cases hK
end
section
structure Wst (σ τ:Type) where
 s:σ
 m:Mch
 tasks:List (Option τ)
def Wst.tick {σ τ:Type}(x:Wst σ τ):Wst σ τ:={ x with m:={ x.m with moves:=x.m.moves+1 } }
section
variable {σ τ:Type}(T:Tasks σ τ)(bx bm:Nat)(K:Int→Option Value)(mkr:σ→Nat→Mv→Option τ)
def WR (x:Wst σ τ):Za:=MchR bx bm x.m*(mp .i64 K x.m.kit*(T.X x.s*tskR T.R x.tasks x.m.seats))
inductive MoveTo (x:Wst σ τ) (mv:Mv):Bool→Wst σ τ→Prop where
 | out:(mv.thread<0∨(x.tasks.length:Int)≤mv.thread)→MoveTo x mv false x.tick
 | idle (t:Nat):mv.thread=(t:Int)→mv.op=0→x.tasks[t]? = some none→MoveTo x mv false x.tick
 | busy (t:Nat) (k:τ):mv.thread=(t:Int)→mv.op≠0→x.tasks[t]? = some (some k)→MoveTo x mv false x.tick
 | nokit (t:Nat):mv.thread=(t:Int)→mv.op≠0→x.tasks[t]? = some none→K mv.op=none→MoveTo x mv false x.tick
 | refused (t:Nat):mv.thread=(t:Int)→mv.op≠0→x.tasks[t]? = some none→K mv.op≠none→mkr x.s t mv=none→MoveTo x mv false x.tick
 | step (t i:Nat) (c:Cll) (se:Sea) (k:τ):mv.thread=(t:Int)→mv.op=0→x.tasks[t]? = some (some k)→x.m.seats[t]? = some se→se.last=(i:Int)→x.m.calls[i]? = some c →
   MoveTo x mv true ⟨(ZP T x.s x.tick.m i t c se k x.m.moves).1,(ZP T x.s x.tick.m i t c se k x.m.moves).2.1,x.tasks.set t (ZP T x.s x.tick.m i t c se k x.m.moves).2.2⟩
 | begin_ (t:Nat) (k:τ) (v vc:Value):mv.thread=(t:Int)→mv.op≠0→x.tasks[t]? = some none→K mv.op≠none→mkr x.s t mv=some k→MoveTo x mv true ⟨x.s,ZN x.m t mv v vc,x.tasks.set t (some k)⟩
structure MayMove (ok:σ→Prop)(n:Nat)(x:Wst σ τ)(mv:Mv):Prop where
 cur:x.m.cur=none
 m0:0≤x.m.moves
 m1:x.m.moves<65536
 n0:0<n
 len:x.tasks.length=n
 seats:x.m.seats.length=n
 ok:ok x.s
 calls:x.m.calls.length<4294967296
 step:∀(t:Nat) (k:τ) (se:Sea),mv.thread=(t:Int)→mv.op=0→x.tasks[t]? = some (some k)→x.m.seats[t]? = some se→∃(i:Nat) (c:Cll),se.last=(i:Int)∧x.m.calls[i]? = some c ∧
  (se.ready=false→T.okr x.s (x.tick.m.prep t i x.m.moves se) t k) ∧
  ((Zk T x.s x.tick.m i t c se k x.m.moves).1=false→T.oks (Zk T x.s x.tick.m i t c se k x.m.moves).2.1 (Zk T x.s x.tick.m i t c se k x.m.moves).2.2.1 t (Zk T x.s x.tick.m i t c se k x.m.moves).2.2.2)
def moved (x:Wst σ τ)(mv:Mv)(v:Value):Za:=ex fun b=>ex fun x'=>pu (v=.bool b∧MoveTo T K mkr x mv b x')*WR T bx bm K x'
variable {T bx bm K mkr}
theorem moved_mk {x:Wst σ τ}{mv:Mv}{b:Bool}{x':Wst σ τ}{O w:World}{F:Za}(h:MoveTo T K mkr x mv b x')(hs:Sat O w (WR T bx bm K x'*F)):Sat O w (moved T bx bm K mkr x mv (.bool b)*F):=by
 unfold moved
 simp only[ZB,Ma,Zx]
 exact⟨b,x',⟨rfl,h⟩,hs⟩
theorem moved_iff {x:Wst σ τ}{mv:Mv}{v:Value}{O w:World}{F:Za}:Sat O w (moved T bx bm K mkr x mv v*F)↔∃b x',(v=.bool b∧MoveTo T K mkr x mv b x')∧Sat O w (WR T bx bm K x'*F):=by
 unfold moved
 simp only[ZB,Ma,Zx]
theorem move_any (hT:T.Good){ok:σ→Prop}{n:Nat}(hKO:KitOk T K mkr ok n)(x:Wst σ τ)(mv:Mv)(h:MayMove T ok n x mv) :
  Does Tryz.prog 31 #[.pointer (some ⟨bx,0,none⟩),mv.v] (WR T bx bm K x) (moved T bx bm K mkr x mv):=by
 intro O w F hs
 have of:∀ {A B:Za} {b:Bool} {x':Wst σ τ} (Z:Za),Zf Tryz.prog 31 #[.pointer (some ⟨bx,0,none⟩),mv.v] A (.bool b) B→Sat O w (A*(Z*F))→MoveTo T K mkr x mv b x'→(∀w',Sat O w' (B*(Z*F))→Sat O w' (WR T bx bm K x'*F)) →
   Calls Tryz.prog 31 #[.pointer (some ⟨bx,0,none⟩),mv.v] w fun e w'=>∃v,e=.returned v∧Sat O w' (moved T bx bm K mkr x mv v*F):=by
  intro A B b x' Z hG hA hM hB
  refine(hG O w (Z*F) hA).mono ?_
  rintro e w' ⟨rfl,hs'⟩
  exact⟨_,rfl,moved_mk hM (hB w' hs')⟩
 have h0:0<x.m.seats.length:=by rw[h.seats];exact h.n0
 by_cases hth:mv.thread<0∨(x.tasks.length:Int)≤mv.thread
 ·refine of (mp .i64 K x.m.kit*(T.X x.s*tskR T.R x.tasks x.m.seats)) (move_thread bx bm x.m mv h.m1 h.m0 h0 (by rw[h.seats,←h.len];exact hth)) ?_ (.out hth) ?_
  ·unfold WR at hs;exact hs.cast (by ac_rfl)
  ·intro w' hs';unfold WR;exact hs'.cast (by simp only[Wst.tick];ac_rfl)
 have hlt:mv.thread.toNat<x.tasks.length:=by omega
 have ht:mv.thread=(mv.thread.toNat:Int):=by omega
 generalize mv.thread.toNat=t at hlt ht
 obtain⟨o,ho⟩:∃o,x.tasks[t]? = some o:=⟨_,Yd hlt⟩
 have hlt2:t<x.m.seats.length:=by rw[h.seats,←h.len];exact hlt
 obtain⟨se,hse⟩:∃se,x.m.seats[t]? = some se:=⟨_,Yd hlt2⟩
 have hlen:x.tasks.length=x.m.seats.length:=h.len.trans h.seats.symm
 have hs0:=hs
 unfold WR at hs
 have htick:∀w',Sat O w' (MchR bx bm { x.m with moves:=x.m.moves+1 }*((mp .i64 K x.m.kit*(T.X x.s*tskR T.R x.tasks x.m.seats))*F))→Sat O w' (WR T bx bm K x.tick*F):=fun w' hs'=>by
  unfold WR;exact hs'.cast (by simp only[Wst.tick];ac_rfl)
 cases o with
 | none=>
  have hidle:se.task=.nilIface:=by
   rw[tsk_at ho hse]at hs
   have:Sat O w (pu (se.task=.nilIface)*(MchR bx bm x.m*(mp .i64 K x.m.kit*(T.X x.s*(tskR T.R (x.tasks.eraseIdx t) (x.m.seats.eraseIdx t)*F))))):=hs.cast (by simp only[tskR,mul_emp];ac_rfl)
   exact(Zx.1 this).1
  by_cases hop:mv.op=0
  ·exact of _ (move_no bx bm h.m1 h.m0 ht hse (.inl ⟨hop,hidle⟩)) (hs.cast (by ac_rfl)) (.idle t ht hop ho) htick
  ·cases hK:K mv.op with
   | none=>
    refine of (T.X x.s*tskR T.R x.tasks x.m.seats) (move_nokit bx bm rfl h.m1 h.m0 ht hop hse hidle hK) (hs.cast (by ac_rfl)) (.nokit t ht hop ho hK) ?_
    intro w' hs'
    exact htick w' (hs'.cast (by ac_rfl))
   | some u=>
    have hKn:K mv.op≠none:=by rw[hK];simp
    have htn:t<n:=by rw[←h.len];exact hlt
    cases hmk:mkr x.s t mv with
    | none=>
     refine of (tskR T.R x.tasks x.m.seats) (move_refused T bx bm hKO x.s h.ok rfl h.m1 h.m0 ht htn hop hse hidle hK hmk) (hs.cast (by ac_rfl)) (.refused t ht hop ho hKn hmk) ?_
     intro w' hs'
     exact htick w' (hs'.cast (by ac_rfl))
    | some k=>
     refine(move_begin T bx bm hT hKO x.s h.ok rfl h.cur h.m1 h.m0 ht htn hop hse hidle hK hmk h.calls ho hlen O w F hs).mono ?_
     rintro e w' ⟨rfl,hs'⟩
     simp only[ZB,Ma]at hs'
     obtain⟨v,vc,hs'⟩:=hs'
     refine⟨_,rfl,moved_mk (.begin_ t k v vc ht hop ho hKn hmk) ?_⟩
     unfold WR
     exact hs'.cast (by simp only[ZN];ac_rfl)
 | some k=>
  by_cases hop:mv.op=0
  ·obtain⟨i,c,hl,hc,hr,hs2⟩:=h.step t k se ht hop ho hse
   refine of (mp .i64 K x.m.kit) (move_step T bx bm hT x.s x.tasks h.cur h.m1 h.m0 ht hop hse ho hl hc hlen hr hs2) (hs.cast (by ac_rfl)) (.step t i c se k ht hop ho hse hl hc) ?_
   intro w' hs'
   unfold WR
   have hci:ZL (x.tick.m.prep t i x.m.moves se) i t c { se with ready:=true }:=⟨rfl,hc,by simp[Mch.prep,Wst.tick,hlt2]⟩
   have hkit:(ZP T x.s x.tick.m i t c se k x.m.moves).2.1.kit=x.m.kit:=by
    have e1:∀(m':Mch) (b:Bool) (c':Cll) (s':Sea),(Qz m' t i x.m.moves c' s' b).kit=m'.kit:=by
     intro m' b c' s';unfold Qz;split<;>rfl
    have e2:(Zk T x.s x.tick.m i t c se k x.m.moves).2.2.1.kit=x.m.kit∧∃c' s',ZL (Zk T x.s x.tick.m i t c se k x.m.moves).2.2.1 i t c' s':=by
     unfold Zk
     split
     ·have fr:=hT.fr x.s _ i t c { se with ready:=true } k hci
      obtain⟨z,kk,vv,hcc⟩:=fr.curIn hci
      exact⟨fr.kit,_,_,hcc⟩
     ·exact⟨rfl,_,_,hci⟩
    obtain⟨e2,c',s',hcc⟩:=e2
    have e3:(QH T i t (Zk T x.s x.tick.m i t c se k x.m.moves)).2.2.1.kit=x.m.kit:=by
     unfold QH
     split
     ·have fs:=hT.fs (Zk T x.s x.tick.m i t c se k x.m.moves).2.1 _ i t c' s' (Zk T x.s x.tick.m i t c se k x.m.moves).2.2.2 hcc
      rw[←hcc.getC,←hcc.getS]at fs
      exact fs.kit.trans e2
     ·exact e2
    unfold ZP
    simp only[e1]
    exact e3
   simp only[hkit]
   exact hs'.cast (by simp only[Wst.tick];ac_rfl)
  ·have hif:∃ty y,se.task=.iface ty y:=by
    rw[tsk_at ho hse]at hs
    have:Sat O w (T.R k se.task*(MchR bx bm x.m*(mp .i64 K x.m.kit*(T.X x.s*(tskR T.R (x.tasks.eraseIdx t) (x.m.seats.eraseIdx t)*F))))):=hs.cast (by simp only[tskR,mul_emp];ac_rfl)
    exact hT.iface this
   exact of _ (move_no bx bm h.m1 h.m0 ht hse (.inr ⟨hop,hif⟩)) (hs.cast (by ac_rfl)) (.busy t k ht hop ho) htick
end
end
end Go.Proofs.YtjagadldibbbbaaGreat
