/-
  The stack's kit.
-/
import Derived.Test.YtjagadldibbbbaaGreatAKit2
import Derived.Test.YtjagadldibbbbaaGreatARange
import Derived.Test.YtjagadldibbbbaaGreatAGEra
set_option linter.all false
namespace Go.Proofs.YtjagadldibbbbaaGreat
open Go.RowKit Hp
set_option maxRecDepth 100000
set_option maxHeartbeats 1000000
attribute [local irreducible] Go.Calls Go.wpList
theorem haz_arena (bh ba:Nat)(h:Haz):Ze Tryz.prog 49 #[.pointer (some ⟨bh,0,none⟩)] (HazR bh ba h) (.pointer (some ⟨ba,0,none⟩)) (HazR bh ba h):=by
 intro O w F hs
 (obtain⟨vhh,vhl,hs⟩:=hazR.1 hs)
 go_enter Tryz.func49,Tryz.ntmps49
 go_wp2_with ((with_reducible apply Zc hs);exact Ii;rfl;(with_reducible exact Qh);rfl;rfl;(simp only[Uc,Uz]))
 (go_ret)
 refine⟨rfl,?_⟩
 (apply Zs;((try simp only[Yh,Yi,Yj,Yk,Yl]);(try simp only[Yh,Yi,Yj,Yk,Yl]at hs);((with_reducible apply Sat.fin hs);(with_reducible exact Ql))))
structure SCaps where
 c1:Nat
 c3:Nat
 c4:Nat
def acell (ba c:Nat):Za:=pt c (.cells #[.pointer (some ⟨ba,0,none⟩)] 65)
abbrev begV (x:SCaps):Value:=.func (.func 50) #[] #[.pointer (some ⟨x.c1,0,none⟩),.pointer (some ⟨x.c3,0,none⟩)]
def bcell (x:SCaps):Za:=pt x.c4 (.cells #[begV x] 142)
def scapR (bh ba:Nat)(x:SCaps):Za:=ZQ bh x.c1*(acell ba x.c3*bcell x)
def stkFn (x:SCaps):Int→Option Value:=fun op=>
 if op=31 then some (.func (.func 53) #[] #[.pointer (some ⟨x.c1,0,none⟩),.pointer (some ⟨x.c4,0,none⟩)])
 else if op=30 then some (.func (.func 51) #[] #[.pointer (some ⟨x.c1,0,none⟩),.pointer (some ⟨x.c4,0,none⟩),.pointer (some ⟨x.c3,0,none⟩)]) else none
theorem skit_mk {bh ba:Nat}{h:Haz}{v:Value}{O w:World}{F:Za}{c1 c3 c4:Nat}(hs:Sat O w (mp .i64 (stkFn ⟨c1,c3,c4⟩) v*(HazR bh ba h*(scapR bh ba ⟨c1,c3,c4⟩*F)))):Sat O w ((ex fun x=>mp .i64 (stkFn x) v*(HazR bh ba h*scapR bh ba x))*F):=by
 simp only[ZB,Ma]
 exact⟨_,hs⟩
theorem stk_kit (bh ba:Nat)(h:Haz) :
  Does Tryz.prog 30 #[.pointer (some ⟨bh,0,none⟩)] (HazR bh ba h) (fun v=>ex fun x=>mp .i64 (stkFn x) v*(HazR bh ba h*scapR bh ba x)):=by
 intro O w F hs
 have hA:=Lh (haz_arena bh ba h)
 go_enter Tryz.func30,Tryz.ntmps30
 go_wp2_with (first|(first|((with_reducible apply Zc hs);exact Ii;rfl;(with_reducible exact Qh);rfl;rfl;(simp only[Uc,Uz]))|((with_reducible apply Zu hs);exact Ii;rfl;rfl;(with_reducible exact Qh);(rfl);(exact Vb rfl);rfl;clear hs;intro w hs;simp only[Yg,Uc,Uz]at hs)|((with_reducible apply Zr hs);exact Ii;rfl;clear hs;intro w b hs;(simp only[Uc,Uz]))|((with_reducible apply Zm hs);rfl;rfl;rfl;clear hs;intro w b hs;(simp only[Uc,Uz])))|(first|((with_reducible apply wl_mkmap hs);exact Ii;rfl;clear hs;intro w r hs;(simp only[Uc,Uz]))|((with_reducible apply wl_mi hs);exact Ii;rfl;rfl;rfl;(with_reducible exact Qh);rfl;clear hs;intro w hs))|(go_at_call 49;((refine(hA.out).at hs (by (with_reducible repeat first|exact Qh|apply Qk)) ?_);clear hs;intro w hs;(try simp only[Em,Ma]at hs))))
 (go_ret)
 refine⟨_,rfl,?_⟩
 apply skit_mk
 unfold scapR ZQ acell bcell stkFn
 simp only[Ma]
 ((with_reducible apply Sat.fin hs);(focus((repeat(first|with_reducible exact Ql|with_reducible exact Qh|with_reducible apply Qb|exact Qh|with_reducible apply Qk));done)))
section
variable (bh ba:Nat)(x:SCaps)(h:Haz)(a:Are)(t:Nat)(mv:Mv)
theorem mk_beg:Ze Tryz.prog 50 #[.int .i64 (t:Int),.pointer (some ⟨x.c1,0,none⟩),.pointer (some ⟨x.c3,0,none⟩)] (ZQ bh x.c1*acell ba x.c3)
  (.agg #[.pointer (some ⟨bh,0,none⟩),.pointer (some ⟨ba,0,none⟩),.int .i64 (t:Int),.nilFunc]) (ZQ bh x.c1*acell ba x.c3):=by
 intro O w F hs
 unfold ZQ acell at hs ⊢
 simp only[Ma]at hs ⊢
 go_enter Tryz.func50,Tryz.ntmps50
 go_wp2_with (first|((with_reducible apply Zc hs);exact Ii;rfl;(with_reducible repeat first|exact Qh|apply Qk);rfl;rfl;(simp only[Uc,Uz]))|((with_reducible apply ZJ hs);exact Ii;rfl;rfl;(with_reducible exact Qh);rfl;rfl;rfl;rfl;clear hs;intro w hs)|((with_reducible apply Zr hs);exact Ii;rfl;clear hs;intro w b hs;(simp only[Uc,Uz])))
 ((try simp only[Exit.inBlock,Exit.then]);(with_reducible apply bodyPost_ret);((with_reducible apply results_c);rfl;rfl;(with_reducible apply loadF hs);exact Ii;(with_reducible exact Qh);rfl;rfl))
 refine⟨rfl,?_⟩
 ((with_reducible apply Sat.fin hs);(with_reducible repeat first|exact Ql|exact Qh|apply Qb|apply Qk))
theorem beg_dyn:Dyn Tryz.prog (ZV (begV x) #[.int .i64 (t:Int)]) (ZQ bh x.c1*acell ba x.c3) (fun u=>pu (u=.agg #[.pointer (some ⟨bh,0,none⟩),.pointer (some ⟨ba,0,none⟩),.int .i64 (t:Int),.nilFunc])*(ZQ bh x.c1*acell ba x.c3)):=
 (mk_beg bh ba x t).dyn fun w=>by kernel_rfl
theorem mk_psh_no (r:Int)(ht:h.held[t]? = some r)(r0:r<0):Does Tryz.prog 51 #[.int .i64 (t:Int),mv.v,.pointer (some ⟨x.c1,0,none⟩),.pointer (some ⟨x.c4,0,none⟩),.pointer (some ⟨x.c3,0,none⟩)] (HazR bh ba h*(AreR ba a*scapR bh ba x))
  (fun v=>pu (v=.nilIface)*(HazR bh ba h*(AreR ba a*scapR bh ba x))):=by
 intro O w F hs
 have hR:=Lh (Qt bh ba h t r ht)
 have n1:decide (r<0)=true:=by simp;omega
 unfold scapR ZQ at hs ⊢
 simp only[Ma]at hs ⊢
 go_enter Tryz.func51,Tryz.ntmps51
 go_wp2_with (first|(first|((with_reducible apply Zc hs);exact Ii;rfl;(with_reducible repeat first|exact Qh|apply Qk);rfl;rfl;(simp only[Uc,Uz]))|((with_reducible apply Zm hs);rfl;rfl;rfl;clear hs;intro w b hs;(simp only[Uc,Uz])))|(go_at_call 40;((refine(hR.out).at hs (by (with_reducible repeat first|exact Qh|apply Qk)) ?_);clear hs;intro w hs;(try simp only[Em,Ma]at hs))))
 (go_ret)
 refine⟨_,rfl,?_⟩
 refine Zw.2 ⟨rfl,?_⟩
 ((with_reducible apply Sat.fin hs);(with_reducible repeat first|exact Ql|exact Qh|apply Qb|apply Qk))
theorem mk_pop_no (r:Int)(ht:h.held[t]? = some r)(r0:r<0):Does Tryz.prog 53 #[.int .i64 (t:Int),mv.v,.pointer (some ⟨x.c1,0,none⟩),.pointer (some ⟨x.c4,0,none⟩)] (HazR bh ba h*(AreR ba a*scapR bh ba x))
  (fun v=>pu (v=.nilIface)*(HazR bh ba h*(AreR ba a*scapR bh ba x))):=by
 intro O w F hs
 have hR:=Lh (Qt bh ba h t r ht)
 have n1:decide (r<0)=true:=by simp;omega
 unfold scapR ZQ at hs ⊢
 simp only[Ma]at hs ⊢
 go_enter Tryz.func53,Tryz.ntmps53
 go_wp2_with (first|(first|((with_reducible apply Zc hs);exact Ii;rfl;(with_reducible repeat first|exact Qh|apply Qk);rfl;rfl;(simp only[Uc,Uz]))|((with_reducible apply Zm hs);rfl;rfl;rfl;clear hs;intro w b hs;(simp only[Uc,Uz])))|(go_at_call 40;((refine(hR.out).at hs (by (with_reducible repeat first|exact Qh|apply Qk)) ?_);clear hs;intro w hs;(try simp only[Em,Ma]at hs))))
 (go_ret)
 refine⟨_,rfl,?_⟩
 refine Zw.2 ⟨rfl,?_⟩
 ((with_reducible apply Sat.fin hs);(with_reducible repeat first|exact Ql|exact Qh|apply Qb|apply Qk))
theorem mk_pop (r:Int)(ht:h.held[t]? = some r)(r0:0≤r):Does Tryz.prog 53 #[.int .i64 (t:Int),mv.v,.pointer (some ⟨x.c1,0,none⟩),.pointer (some ⟨x.c4,0,none⟩)] (HazR bh ba h*(AreR ba a*scapR bh ba x))
  (fun v=>stR bh ba (.pop ⟨t,0,0,0,false,none,0⟩) v*(HazR bh ba h*(AreR ba a*scapR bh ba x))):=by
 intro O w F hs
 have hR:=Lh (Qt bh ba h t r ht)
 have n1:decide (r<0)=false:=by simp;omega
 have hB:=beg_dyn bh ba x t
 unfold ZQ at hB
 have HB:=Lh hB
 clear hB
 unfold scapR ZQ bcell at hs ⊢
 simp only[Ma]at hs ⊢
 go_enter Tryz.func53,Tryz.ntmps53
 go_wp2_with (first|(first|((with_reducible apply Zc hs);exact Ii;rfl;(with_reducible repeat first|exact Qh|apply Qk);rfl;rfl;(simp only[Uc,Uz]))|((with_reducible apply Zm hs);rfl;rfl;rfl;clear hs;intro w b hs;(simp only[Uc,Uz])))|(go_at_call 40;((refine(hR.out).at hs (by (with_reducible repeat first|exact Qh|apply Qk)) ?_);clear hs;intro w hs;(try simp only[Em,Ma]at hs)))|((with_reducible apply wl_val1 hs);rfl;rfl;exact HB.out;(with_reducible repeat first|exact Qh|apply Qb|apply Qk);rfl;clear hs;intro v w hs;simp only[Ma]at hs;(have hs9:=Zw.1 hs);clear hs;(obtain⟨rfl,hs⟩:=hs9);(simp only[Uc,Uz])))
 (go_ret)
 refine⟨_,rfl,?_⟩
 refine ifR_iff.2 ⟨_,rfl,?_⟩
 have hs:=rtr_none (bh:=bh) (ba:=ba) hs
 apply poR_mk (vr:=.pointer none) (fv:=.nilFunc) rfl
 ((with_reducible apply Sat.fin hs);(with_reducible repeat first|exact Ql|exact Qh|apply Qb|apply Qk))
theorem mk_psh (hsl:0<a.slots.length)(r:Int)(ht:h.held[t]? = some r)(r0:0≤r):Does Tryz.prog 51 #[.int .i64 (t:Int),mv.v,.pointer (some ⟨x.c1,0,none⟩),.pointer (some ⟨x.c4,0,none⟩),.pointer (some ⟨x.c3,0,none⟩)] (HazR bh ba h*(AreR ba a*scapR bh ba x))
  (fun v=>stR bh ba (.psh ⟨t,mv.arg,⟨t,1,0,0,0,false⟩,0,0,0⟩) v*(HazR bh ba h*(AreR ba a*scapR bh ba x))):=by
 intro O w F hs
 have hR:=Lh (Qt bh ba h t r ht)
 have hT:=Lh (arena_take ba a (t:Int) hsl)
 have n1:decide (r<0)=false:=by simp;omega
 have hB:=beg_dyn bh ba x t
 unfold ZQ acell at hB
 have HB:=Lh hB
 clear hB
 unfold scapR ZQ acell bcell at hs ⊢
 simp only[Ma]at hs ⊢
 go_enter Tryz.func51,Tryz.ntmps51
 go_wp2_with (first|(first|(first|(with_reducible refine NQ.mk ?_)|((with_reducible apply Zf);rfl;rfl)|((with_reducible apply Zn);rfl)|(with_reducible refine EQ.mk ?_ ?_)|(first|(with_reducible exact Zd)|((with_reducible refine Zi ?_ ?_);(focus((with_reducible apply ZA);rfl;rfl))))|(with_reducible refine Zg ?_)|(show ZS _ _ _;rfl))|((with_reducible apply Zc hs);exact Ii;rfl;(with_reducible repeat first|exact Qh|apply Qk);rfl;rfl;(simp only[Uc,Uz]))|((with_reducible apply Zm hs);rfl;rfl;rfl;clear hs;intro w b hs;(simp only[Uc,Uz])))|(go_at_call 40;((refine(hR.out).at hs (by (with_reducible repeat first|exact Qh|apply Qk)) ?_);clear hs;intro w hs;(try simp only[Em,Ma]at hs)))|(go_at_call 52;((refine(hT.out).at hs (by (with_reducible repeat first|exact Qh|apply Qk)) ?_);clear hs;intro g w hs;(try simp only[Em,Ma]at hs)))|((with_reducible apply wl_val1 hs);rfl;rfl;exact HB.out;(with_reducible repeat first|exact Qh|apply Qb|apply Qk);rfl;clear hs;intro v w hs;simp only[Ma]at hs;(have hs9:=Zw.1 hs);clear hs;(obtain⟨rfl,hs⟩:=hs9);(simp only[Uc,Uz]))|((with_reducible refine Wp (id:=3) [.neu 0,.neu 1,.neu 3,.neu 4,.neu 5,.neu 6,.eff 2 [3,4,5,6],.eff 7 [3,4],.neu 8,.eff 9 [],.neu 10,.neu 11] hs rfl ?_ ?_);kernel_rfl;clear hs;intro w hs))
 (go_ret)
 refine⟨_,rfl,?_⟩
 refine ifR_iff.2 ⟨_,rfl,?_⟩
 apply puR_mk (gt:=g) (fv:=.nilFunc) rfl
 ((with_reducible apply Sat.fin hs);(with_reducible repeat first|exact Ql|exact Qh|apply Qb|apply Qk))
end
def jFn (x:Caps)(y:SCaps):Int→Option Value:=fun o=>(stkFn y o).or (kitFn x o)
structure KOkS (n:Nat)(s:Haz×Are):Prop where
 k:KOk n s
 sl:0<s.2.slots.length
theorem core_kok {c:Cfg}{L S N:Nat}{h:Haz}{a:Are}{m:Mch}(C:Core c L S N h a m):KOkS c.T.toNat (h,a):=by
 have hS:=C.ok.S1
 exact⟨⟨by rw[C.hc];exact C.ok,C.held,fun r hr=>by rw[C.hc];exact(C.hin r hr).2⟩,by show 0<a.slots.length;rw[C.slots];omega⟩
theorem stkFn_no {x:SCaps}{o:Int}(h:¬(o=30∨o=31)):stkFn x o=none:=by
 unfold stkFn
 rw[if_neg (by omega),if_neg (by omega)]
theorem jFn_known (x:Caps)(y:SCaps)(o:Int):jFn x y o≠none↔(20≤o∧o≤25)∨o=30∨o=31:=by
 unfold jFn
 by_cases h:o=30∨o=31
 ·refine⟨fun _=>.inr h,fun _ => ?_⟩
  unfold stkFn
  rcases h with rfl|rfl<;>simp
 ·rw[stkFn_no h,Option.none_or]
  constructor
  ·intro hk
   refine .inl ?_
   by_cases hq:o<20∨25<o
   ·exact absurd (kitFn_none.2 hq) hk
   ·omega
  ·rintro(hk|hk)
   ·intro hq
    have:=kitFn_none.1 hq
    omega
   ·exact absurd hk h
theorem skT_kit (bh ba n:Nat)(x:Caps)(y:SCaps):KitOk (skT bh ba (capR bh x*scapR bh ba y)) (jFn x y) sTask (KOkS n) n where
 func:=by
  intro op u hu
  unfold jFn at hu
  by_cases h:op=30∨op=31
  ·unfold stkFn at hu
   rcases h with rfl|rfl
   ·simp at hu
    exact⟨_,_,_,hu.symm⟩
   ·simp at hu
    exact⟨_,_,_,hu.symm⟩
  ·rw[stkFn_no h,Option.none_or]at hu
   exact(hzT_kit bh ba n x).func op u hu
 make:=by
  intro op u s t mv hK hop ht hthr hok
  subst hop
  by_cases hs:mv.op=30∨mv.op=31
  ·have hlt:t<s.1.held.length:=by rw[hok.k.held];exact ht
   obtain⟨r,hr⟩:∃r,s.1.held[t]? = some r:=⟨_,Yd hlt⟩
   have hrd:s.1.held.getD t 0=r:=by rw[Yb,hr];rfl
   have e0:sTask s t mv=stkTask s t mv:=by unfold sTask;rw[if_pos hs]
   rw[e0]
   unfold stkTask
   rw[hrd]
   unfold jFn stkFn at hK
   rcases hs with e|e
   ·rw[e]at hK ⊢
    simp at hK
    subst hK
    rw[if_pos rfl]
    by_cases h0:r<0
    ·rw[if_pos h0]
     exact QW (capR bh x) ((mk_psh_no bh ba y s.1 s.2 t mv r hr h0).dyn (fun w=>by kernel_rfl)) (by simp only[skT];ac_rfl) (fun v=>by simp only[madeR,skT];ac_rfl)
    ·rw[if_neg h0]
     exact QW (capR bh x) ((mk_psh bh ba y s.1 s.2 t mv hok.sl r hr (by omega)).dyn (fun w=>by kernel_rfl)) (by simp only[skT];ac_rfl) (fun v=>by simp only[madeR,skT];ac_rfl)
   ·rw[e]at hK ⊢
    simp at hK
    subst hK
    rw[if_neg (by omega),if_pos rfl]
    by_cases h0:r<0
    ·rw[if_pos h0]
     exact QW (capR bh x) ((mk_pop_no bh ba y s.1 s.2 t mv r hr h0).dyn (fun w=>by kernel_rfl)) (by simp only[skT];ac_rfl) (fun v=>by simp only[madeR,skT];ac_rfl)
    ·rw[if_neg h0]
     exact QW (capR bh x) ((mk_pop bh ba y s.1 s.2 t mv r hr (by omega)).dyn (fun w=>by kernel_rfl)) (by simp only[skT];ac_rfl) (fun v=>by simp only[madeR,skT];ac_rfl)
  ·unfold jFn at hK
   rw[stkFn_no hs,Option.none_or]at hK
   have e0:sTask s t mv=(Qg s t mv).map .hz:=by unfold sTask;rw[if_neg hs]
   rw[e0]
   refine QW (scapR bh ba y) ((hzT_kit bh ba n x).make mv.op u s t mv hK rfl ht hthr hok.k) (by simp only[skT,hzT];ac_rfl) (fun v => ?_)
   cases Qg s t mv with
   | none=>simp only[Option.map_none,madeR,skT,hzT];ac_rfl
   | some q=>simp only[Option.map_some,madeR,skT,hzT,stR];ac_rfl
end Go.Proofs.YtjagadldibbbbaaGreat
