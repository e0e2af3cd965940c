/-
  The stack's kit.
-/
import Derived.Test.YtjagadldibbbbaaGreatCKit2
import Derived.Test.YtjagadldibbbbaaGreatCRange
import Derived.Test.YtjagadldibbbbaaGreatCGEra
import Derived.Test.YtjagadldibbbbaaGreatCRun
import Derived.Test.YtjagadldibbbbaaGreatCInv5
import Derived.KernelRfl
set_option linter.all false
namespace Go.Proofs.YtjagadldibbbbaaGreat
open Go.RowKit Hp
set_option maxRecDepth 100000
set_option maxHeartbeats 1000000
section
attribute [local irreducible] Go.Calls Go.wpList
theorem haz_arena (bh ba:Nat)(h:Haz):Zk Tryz.prog 49 #[.pointer (some ⟨bh,0,none⟩)] (HazR bh ba h) (.pointer (some ⟨ba,0,none⟩)) (HazR bh ba h):=by
 intro O w F hs
 (obtain⟨vhh,vhl,hs⟩:=hazR.1 hs)
 go_enter Tryz.func49,Tryz.ntmps49
 go_wp2_with ((with_reducible apply Zc hs);exact Ii;rfl;(with_reducible exact Qh);rfl;rfl;(simp only[Uc,Uz]))
 (go_ret)
 refine⟨rfl,?_⟩
 (apply Zx;((try simp only[Yh,Yi,Yj,Yk,Yl]);(try simp only[Yh,Yi,Yj,Yk,Yl]at hs);((with_reducible apply Sat.fin hs);(with_reducible exact Ql))))
structure SCaps where
 c1:Nat
 c3:Nat
 c4:Nat
def acell (ba c:Nat):Zb:=pt c (.cells #[.pointer (some ⟨ba,0,none⟩)] 65)
abbrev begV (x:SCaps):Value:=.func (.func 50) #[] #[.pointer (some ⟨x.c1,0,none⟩),.pointer (some ⟨x.c3,0,none⟩)]
def bcell (x:SCaps):Zb:=pt x.c4 (.cells #[begV x] 142)
def scapR (bh ba:Nat)(x:SCaps):Zb:=ZV bh x.c1*(acell ba x.c3*bcell x)
def stkFn (x:SCaps):Int→Option Value:=fun op=>
 if op=31 then some (.func (.func 53) #[] #[.pointer (some ⟨x.c1,0,none⟩),.pointer (some ⟨x.c4,0,none⟩)])
 else if op=30 then some (.func (.func 51) #[] #[.pointer (some ⟨x.c1,0,none⟩),.pointer (some ⟨x.c4,0,none⟩),.pointer (some ⟨x.c3,0,none⟩)]) else none
theorem skit_mk {bh ba:Nat}{h:Haz}{v:Value}{O w:World}{F:Zb}{c1 c3 c4:Nat}(hs:Sat O w (mp .i64 (stkFn ⟨c1,c3,c4⟩) v*(HazR bh ba h*(scapR bh ba ⟨c1,c3,c4⟩*F)))):Sat O w ((ex fun x=>mp .i64 (stkFn x) v*(HazR bh ba h*scapR bh ba x))*F):=by
 simp only[ZJ,Ma]
 exact⟨_,hs⟩
theorem stk_kit (bh ba:Nat)(h:Haz) :
  Does Tryz.prog 30 #[.pointer (some ⟨bh,0,none⟩)] (HazR bh ba h) (fun v=>ex fun x=>mp .i64 (stkFn x) v*(HazR bh ba h*scapR bh ba x)):=by
 intro O w F hs
 have hA:=Lh (haz_arena bh ba h)
 go_enter Tryz.func30,Tryz.ntmps30
 go_wp2_with (first|(first|((with_reducible apply Zc hs);exact Ii;rfl;(with_reducible exact Qh);rfl;rfl;(simp only[Uc,Uz]))|((with_reducible apply Zy hs);exact Ii;rfl;rfl;(with_reducible exact Qh);(rfl);(exact Vb rfl);rfl;clear hs;intro w hs;simp only[Yg,Uc,Uz]at hs)|((with_reducible apply Zv hs);exact Ii;rfl;clear hs;intro w b hs;(simp only[Uc,Uz]))|((with_reducible apply Zq hs);rfl;rfl;rfl;clear hs;intro w b hs;(simp only[Uc,Uz])))|(first|((with_reducible apply wl_mkmap hs);exact Ii;rfl;clear hs;intro w r hs;(simp only[Uc,Uz]))|((with_reducible apply wl_mi hs);exact Ii;rfl;rfl;rfl;(with_reducible exact Qh);rfl;clear hs;intro w hs))|(go_at_call 49;((refine(hA.out).at hs (by (with_reducible repeat first|exact Qh|apply Qk)) ?_);clear hs;intro w hs;(try simp only[Em,Ma]at hs))))
 (go_ret)
 refine⟨_,rfl,?_⟩
 apply skit_mk
 unfold scapR ZV acell bcell stkFn
 simp only[Ma]
 ((with_reducible apply Sat.fin hs);(focus((repeat(first|with_reducible exact Ql|with_reducible exact Qh|with_reducible apply Qb|exact Qh|with_reducible apply Qk));done)))
section
variable (bh ba:Nat)(x:SCaps)(h:Haz)(a:Are)(t:Nat)(mv:Mv)
theorem mk_beg:Zk Tryz.prog 50 #[.int .i64 (t:Int),.pointer (some ⟨x.c1,0,none⟩),.pointer (some ⟨x.c3,0,none⟩)] (ZV bh x.c1*acell ba x.c3)
  (.agg #[.pointer (some ⟨bh,0,none⟩),.pointer (some ⟨ba,0,none⟩),.int .i64 (t:Int),.nilFunc]) (ZV bh x.c1*acell ba x.c3):=by
 intro O w F hs
 unfold ZV acell at hs ⊢
 simp only[Ma]at hs ⊢
 go_enter Tryz.func50,Tryz.ntmps50
 go_wp2_with (first|((with_reducible apply Zc hs);exact Ii;rfl;(with_reducible repeat first|exact Qh|apply Qk);rfl;rfl;(simp only[Uc,Uz]))|((with_reducible apply ZR hs);exact Ii;rfl;rfl;(with_reducible exact Qh);rfl;rfl;rfl;rfl;clear hs;intro w hs)|((with_reducible apply Zv hs);exact Ii;rfl;clear hs;intro w b hs;(simp only[Uc,Uz])))
 ((try simp only[Exit.inBlock,Exit.then]);(with_reducible apply bodyPost_ret);((with_reducible apply results_c);rfl;rfl;(with_reducible apply loadF hs);exact Ii;(with_reducible exact Qh);rfl;rfl))
 refine⟨rfl,?_⟩
 ((with_reducible apply Sat.fin hs);(with_reducible repeat first|exact Ql|exact Qh|apply Qb|apply Qk))
theorem beg_dyn:Dyn Tryz.prog (Qd (begV x) #[.int .i64 (t:Int)]) (ZV bh x.c1*acell ba x.c3) (fun u=>pu (u=.agg #[.pointer (some ⟨bh,0,none⟩),.pointer (some ⟨ba,0,none⟩),.int .i64 (t:Int),.nilFunc])*(ZV bh x.c1*acell ba x.c3)):=
 (mk_beg bh ba x t).dyn fun w=>by kernel_rfl
theorem mk_psh_no (r:Int)(ht:h.held[t]? = some r)(r0:r<0):Does Tryz.prog 51 #[.int .i64 (t:Int),mv.v,.pointer (some ⟨x.c1,0,none⟩),.pointer (some ⟨x.c4,0,none⟩),.pointer (some ⟨x.c3,0,none⟩)] (HazR bh ba h*(AreR ba a*scapR bh ba x))
  (fun v=>pu (v=.nilIface)*(HazR bh ba h*(AreR ba a*scapR bh ba x))):=by
 intro O w F hs
 have hR:=Lh (QL bh ba h t r ht)
 have n1:decide (r<0)=true:=by simp;omega
 unfold scapR ZV at hs ⊢
 simp only[Ma]at hs ⊢
 go_enter Tryz.func51,Tryz.ntmps51
 go_wp2_with (first|(first|((with_reducible apply Zc hs);exact Ii;rfl;(with_reducible repeat first|exact Qh|apply Qk);rfl;rfl;(simp only[Uc,Uz]))|((with_reducible apply Zq hs);rfl;rfl;rfl;clear hs;intro w b hs;(simp only[Uc,Uz])))|(go_at_call 40;((refine(hR.out).at hs (by (with_reducible repeat first|exact Qh|apply Qk)) ?_);clear hs;intro w hs;(try simp only[Em,Ma]at hs))))
 (go_ret)
 refine⟨_,rfl,?_⟩
 refine Zz.2 ⟨rfl,?_⟩
 ((with_reducible apply Sat.fin hs);(with_reducible repeat first|exact Ql|exact Qh|apply Qb|apply Qk))
theorem mk_pop_no (r:Int)(ht:h.held[t]? = some r)(r0:r<0):Does Tryz.prog 53 #[.int .i64 (t:Int),mv.v,.pointer (some ⟨x.c1,0,none⟩),.pointer (some ⟨x.c4,0,none⟩)] (HazR bh ba h*(AreR ba a*scapR bh ba x))
  (fun v=>pu (v=.nilIface)*(HazR bh ba h*(AreR ba a*scapR bh ba x))):=by
 intro O w F hs
 have hR:=Lh (QL bh ba h t r ht)
 have n1:decide (r<0)=true:=by simp;omega
 unfold scapR ZV at hs ⊢
 simp only[Ma]at hs ⊢
 go_enter Tryz.func53,Tryz.ntmps53
 go_wp2_with (first|(first|((with_reducible apply Zc hs);exact Ii;rfl;(with_reducible repeat first|exact Qh|apply Qk);rfl;rfl;(simp only[Uc,Uz]))|((with_reducible apply Zq hs);rfl;rfl;rfl;clear hs;intro w b hs;(simp only[Uc,Uz])))|(go_at_call 40;((refine(hR.out).at hs (by (with_reducible repeat first|exact Qh|apply Qk)) ?_);clear hs;intro w hs;(try simp only[Em,Ma]at hs))))
 (go_ret)
 refine⟨_,rfl,?_⟩
 refine Zz.2 ⟨rfl,?_⟩
 ((with_reducible apply Sat.fin hs);(with_reducible repeat first|exact Ql|exact Qh|apply Qb|apply Qk))
theorem mk_pop (r:Int)(ht:h.held[t]? = some r)(r0:0≤r):Does Tryz.prog 53 #[.int .i64 (t:Int),mv.v,.pointer (some ⟨x.c1,0,none⟩),.pointer (some ⟨x.c4,0,none⟩)] (HazR bh ba h*(AreR ba a*scapR bh ba x))
  (fun v=>stR bh ba (.pop ⟨t,0,0,0,false,none,0⟩) v*(HazR bh ba h*(AreR ba a*scapR bh ba x))):=by
 intro O w F hs
 have hR:=Lh (QL bh ba h t r ht)
 have n1:decide (r<0)=false:=by simp;omega
 have hB:=beg_dyn bh ba x t
 unfold ZV at hB
 have HB:=Lh hB
 clear hB
 unfold scapR ZV bcell at hs ⊢
 simp only[Ma]at hs ⊢
 go_enter Tryz.func53,Tryz.ntmps53
 go_wp2_with (first|(first|((with_reducible apply Zc hs);exact Ii;rfl;(with_reducible repeat first|exact Qh|apply Qk);rfl;rfl;(simp only[Uc,Uz]))|((with_reducible apply Zq hs);rfl;rfl;rfl;clear hs;intro w b hs;(simp only[Uc,Uz])))|(go_at_call 40;((refine(hR.out).at hs (by (with_reducible repeat first|exact Qh|apply Qk)) ?_);clear hs;intro w hs;(try simp only[Em,Ma]at hs)))|((with_reducible apply wl_val1 hs);rfl;rfl;exact HB.out;(with_reducible repeat first|exact Qh|apply Qb|apply Qk);rfl;clear hs;intro v w hs;simp only[Ma]at hs;(have hs9:=Zz.1 hs);clear hs;(obtain⟨rfl,hs⟩:=hs9);(simp only[Uc,Uz])))
 (go_ret)
 refine⟨_,rfl,?_⟩
 refine ifR_iff.2 ⟨_,rfl,?_⟩
 have hs:=rtr_none (bh:=bh) (ba:=ba) hs
 apply poR_mk (vr:=.pointer none) (fv:=.nilFunc) rfl
 ((with_reducible apply Sat.fin hs);(with_reducible repeat first|exact Ql|exact Qh|apply Qb|apply Qk))
theorem mk_psh (hsl:0<a.slots.length)(r:Int)(ht:h.held[t]? = some r)(r0:0≤r):Does Tryz.prog 51 #[.int .i64 (t:Int),mv.v,.pointer (some ⟨x.c1,0,none⟩),.pointer (some ⟨x.c4,0,none⟩),.pointer (some ⟨x.c3,0,none⟩)] (HazR bh ba h*(AreR ba a*scapR bh ba x))
  (fun v=>stR bh ba (.psh ⟨t,mv.arg,⟨t,1,0,0,0,false⟩,0,0,0⟩) v*(HazR bh ba h*(AreR ba a*scapR bh ba x))):=by
 intro O w F hs
 have hR:=Lh (QL bh ba h t r ht)
 have hT:=Lh (arena_take ba a (t:Int) hsl)
 have n1:decide (r<0)=false:=by simp;omega
 have hB:=beg_dyn bh ba x t
 unfold ZV acell at hB
 have HB:=Lh hB
 clear hB
 unfold scapR ZV acell bcell at hs ⊢
 simp only[Ma]at hs ⊢
 go_enter Tryz.func51,Tryz.ntmps51
 go_wp2_with (first|(first|(first|(with_reducible refine NQ.mk ?_)|((with_reducible apply Zh);rfl;rfl)|((with_reducible apply Zr);rfl)|(with_reducible refine EQ.mk ?_ ?_)|(first|(with_reducible exact Zg)|((with_reducible refine Zm ?_ ?_);(focus((with_reducible apply ZH);rfl;rfl))))|(with_reducible refine Zi ?_)|(show Z6 _ _ _;rfl))|((with_reducible apply Zc hs);exact Ii;rfl;(with_reducible repeat first|exact Qh|apply Qk);rfl;rfl;(simp only[Uc,Uz]))|((with_reducible apply Zq hs);rfl;rfl;rfl;clear hs;intro w b hs;(simp only[Uc,Uz])))|(go_at_call 40;((refine(hR.out).at hs (by (with_reducible repeat first|exact Qh|apply Qk)) ?_);clear hs;intro w hs;(try simp only[Em,Ma]at hs)))|(go_at_call 52;((refine(hT.out).at hs (by (with_reducible repeat first|exact Qh|apply Qk)) ?_);clear hs;intro g w hs;(try simp only[Em,Ma]at hs)))|((with_reducible apply wl_val1 hs);rfl;rfl;exact HB.out;(with_reducible repeat first|exact Qh|apply Qb|apply Qk);rfl;clear hs;intro v w hs;simp only[Ma]at hs;(have hs9:=Zz.1 hs);clear hs;(obtain⟨rfl,hs⟩:=hs9);(simp only[Uc,Uz]))|((with_reducible refine Wp (id:=3) [.neu 0,.neu 1,.neu 3,.neu 4,.neu 5,.neu 6,.eff 2 [3,4,5,6],.eff 7 [3,4],.neu 8,.eff 9 [],.neu 10,.neu 11] hs rfl ?_ ?_);kernel_rfl;clear hs;intro w hs))
 (go_ret)
 refine⟨_,rfl,?_⟩
 refine ifR_iff.2 ⟨_,rfl,?_⟩
 apply puR_mk (gt:=g) (fv:=.nilFunc) rfl
 ((with_reducible apply Sat.fin hs);(with_reducible repeat first|exact Ql|exact Qh|apply Qb|apply Qk))
end
def jFn (x:Caps)(y:SCaps):Int→Option Value:=fun o=>(stkFn y o).or (kitFn x o)
structure KOkS (n:Nat)(s:Haz×Are):Prop where
 k:KOk n s
 sl:0<s.2.slots.length
theorem core_kok {c:Cfg}{L S N:Nat}{h:Haz}{a:Are}{m:Mch}(C:Core c L S N h a m):KOkS c.T.toNat (h,a):=by
 have hS:=C.ok.S1
 exact⟨⟨by rw[C.hc];exact C.ok,C.held,fun r hr=>by rw[C.hc];exact(C.hin r hr).2⟩,by show 0<a.slots.length;rw[C.slots];omega⟩
theorem stkFn_no {x:SCaps}{o:Int}(h:¬(o=30∨o=31)):stkFn x o=none:=by
 unfold stkFn
 rw[if_neg (by omega),if_neg (by omega)]
theorem jFn_known (x:Caps)(y:SCaps)(o:Int):jFn x y o≠none↔(20≤o∧o≤25)∨o=30∨o=31:=by
 unfold jFn
 by_cases h:o=30∨o=31
 ·refine⟨fun _=>.inr h,fun _ => ?_⟩
  unfold stkFn
  rcases h with rfl|rfl<;>simp
 ·rw[stkFn_no h,Option.none_or]
  constructor
  ·intro hk
   refine .inl ?_
   by_cases hq:o<20∨25<o
   ·exact absurd (kitFn_none.2 hq) hk
   ·omega
  ·rintro(hk|hk)
   ·intro hq
    have:=kitFn_none.1 hq
    omega
   ·exact absurd hk h
theorem skT_kit (bh ba n:Nat)(x:Caps)(y:SCaps):KitOk (skT bh ba (capR bh x*scapR bh ba y)) (jFn x y) sTask (KOkS n) n where
 func:=by
  intro op u hu
  unfold jFn at hu
  by_cases h:op=30∨op=31
  ·unfold stkFn at hu
   rcases h with rfl|rfl
   ·simp at hu
    exact⟨_,_,_,hu.symm⟩
   ·simp at hu
    exact⟨_,_,_,hu.symm⟩
  ·rw[stkFn_no h,Option.none_or]at hu
   exact(hzT_kit bh ba n x).func op u hu
 make:=by
  intro op u s t mv hK hop ht hthr hok
  subst hop
  by_cases hs:mv.op=30∨mv.op=31
  ·have hlt:t<s.1.held.length:=by rw[hok.k.held];exact ht
   obtain⟨r,hr⟩:∃r,s.1.held[t]? = some r:=⟨_,Yd hlt⟩
   have hrd:s.1.held.getD t 0=r:=by rw[Yb,hr];rfl
   have e0:sTask s t mv=stkTask s t mv:=by unfold sTask;rw[if_pos hs]
   rw[e0]
   unfold stkTask
   rw[hrd]
   unfold jFn stkFn at hK
   rcases hs with e|e
   ·rw[e]at hK ⊢
    simp at hK
    subst hK
    rw[if_pos rfl]
    by_cases h0:r<0
    ·rw[if_pos h0]
     exact Jf (capR bh x) ((mk_psh_no bh ba y s.1 s.2 t mv r hr h0).dyn (fun w=>by kernel_rfl)) (by simp only[skT];ac_rfl) (fun v=>by simp only[madeR,skT];ac_rfl)
    ·rw[if_neg h0]
     exact Jf (capR bh x) ((mk_psh bh ba y s.1 s.2 t mv hok.sl r hr (by omega)).dyn (fun w=>by kernel_rfl)) (by simp only[skT];ac_rfl) (fun v=>by simp only[madeR,skT];ac_rfl)
   ·rw[e]at hK ⊢
    simp at hK
    subst hK
    rw[if_neg (by omega),if_pos rfl]
    by_cases h0:r<0
    ·rw[if_pos h0]
     exact Jf (capR bh x) ((mk_pop_no bh ba y s.1 s.2 t mv r hr h0).dyn (fun w=>by kernel_rfl)) (by simp only[skT];ac_rfl) (fun v=>by simp only[madeR,skT];ac_rfl)
    ·rw[if_neg h0]
     exact Jf (capR bh x) ((mk_pop bh ba y s.1 s.2 t mv r hr (by omega)).dyn (fun w=>by kernel_rfl)) (by simp only[skT];ac_rfl) (fun v=>by simp only[madeR,skT];ac_rfl)
  ·unfold jFn at hK
   rw[stkFn_no hs,Option.none_or]at hK
   have e0:sTask s t mv=(Z0 s t mv).map .hz:=by unfold sTask;rw[if_neg hs]
   rw[e0]
   refine Jf (scapR bh ba y) ((hzT_kit bh ba n x).make mv.op u s t mv hK rfl ht hthr hok.k) (by simp only[skT,hzT];ac_rfl) (fun v => ?_)
   cases Z0 s t mv with
   | none=>simp only[Option.map_none,madeR,skT,hzT];ac_rfl
   | some q=>simp only[Option.map_some,madeR,skT,hzT,stR];ac_rfl
end
section
attribute [local irreducible] Go.Calls Go.wpList
def gst0 (τ:Type)(c:Cfg)(km:Nat)(vs:Value):GW τ:=⟨(haz0 c,are0 c),mch0 c.T.toNat (firstW c 0) (.map (some km)) vs,List.replicate c.T.toNat none⟩
theorem gwr0_eq {g ba bx bm:Nat}{CX:Zb}{K:Int→Option Value}{c:Cfg}{km:Nat}{vs:Value}:WR (skT g ba CX) bx bm K (gst0 Zt c km vs) =
  MchR bx bm (mch0 c.T.toNat (firstW c 0) (.map (some km)) vs)*(mp .i64 K (.map (some km))*(HazR g ba (haz0 c)*(AreR ba (are0 c)*(CX*tskR (stR g ba) (List.replicate c.T.toNat none) (List.replicate c.T.toNat sea0))))):=by
 unfold WR
 simp only[skT,Ma,gst0]
 rfl
def gplayR {τ:Type}(J:GW τ→Prop)(u:Value):Zb:=ex fun x=>ex fun v=>pu (J x∧u=.tuple #[v,.int .i64 0])*RunR x.m.calls x.m.mem.log x.m.shifts x.m.mem.words v
set_option maxHeartbeats 4000000 in
theorem stk_playR (c:Cfg)(h:c.Ok)(v:Value)(mvs:List Mv)(hl:mvs.length≤65536)(J:Nat→GW Zt→Prop)
  (J0:∀km vs,J 0 (gst0 Zt c km vs))
  (Jm:∀CX bh ba k y mv,mvs[k]? = some mv→J k y→MayMove (skT bh ba CX) (KOkS c.T.toNat) c.T.toNat y mv)
  (Js:∀CX bh ba x z k y mv b y',mvs[k]? = some mv→J k y→MoveTo (skT bh ba CX) (jFn x z) sTask y mv b y'→J (k+1) y')
  (Jr:∀y,J mvs.length y→y.m.calls.length<4294967296∧y.m.shifts.length<4294967296∧y.m.mem.words.length<4294967296∧y.m.mem.log.length<4294967295∧0<y.m.seats.length) (A:Zb) (hRd:Rd A 4 (mvs.map Mv.e) v) :
  Does Tryz.prog 17 #[c.v,v] A (fun u=>gplayR (J mvs.length) u*A):=by
 intro O w F hs
 have hA:=Lh (arena_new c h)
 have hF:=Lh (word_first0 c h)
 have hH:=Lh (fun ba=>hazard_new ba (are0 c) h)
 have hK:=Lh (fun bh ba=>haz_kit bh ba (haz0 c))
 have hK2:=Lh (fun bh ba=>stk_kit bh ba (haz0 c))
 have hM:=machine_new c.T.toNat
 have hT1:=h.T1
 have hT2:=h.T2
 have hTn:((c.T.toNat:Nat):Int)=c.T:=Int.toNat_of_nonneg (by omega)
 have hbl:=base14_le h
 rw[hTn]at hM
 have hM:=Lh (fun v km=>hM v km (firstW c 0) (by omega) (by omega) (by rw[firstW_len];omega))
 obtain⟨a0,c0,rfl⟩:=hRd.len
 simp only[List.length_map]at hRd hs ⊢
 have hRd:=Lh hRd
 have n1:decide ((mvs.length:Int)>65536)=false:=by simp;omega
 have J0:=Lh J0
 have Jm:=Lh Jm
 have Js:=Lh Js
 have Jr:=Lh Jr
 go_enter Tryz.func17,Tryz.ntmps17
 go_wp2_with (first|(first|(first|(with_reducible refine NQ.mk ?_)|((with_reducible apply Zh);rfl;rfl)|((with_reducible apply Zr);rfl)|(with_reducible refine EQ.mk ?_ ?_)|(first|(with_reducible exact Zg)|((with_reducible refine Zm ?_ ?_);(focus((with_reducible apply ZH);rfl;rfl))))|(with_reducible refine Zi ?_)|(show Z6 _ _ _;rfl))|((with_reducible apply Zc hs);exact Ii;rfl;(with_reducible repeat first|exact Qh|apply Qk);rfl;rfl;(simp only[Uc,Uz]))|((with_reducible apply Qg hs);exact Ii;rfl;(with_reducible repeat first|exact Qh|apply Qk);rfl;rfl;(simp only[Uc,Uz]))|((with_reducible apply Zv hs);exact Ii;rfl;clear hs;intro w b hs;(simp only[Uc,Uz]))|((with_reducible apply Zq hs);rfl;rfl;rfl;clear hs;intro w b hs;(simp only[Uc,Uz])))|(go_at_call 24;((refine(hA.out).at hs (by (focus((repeat(with_reducible exact Qn));done))) ?_);clear hs;intro v w hs;(try simp only[Em,Ma]at hs));(simp only[ZJ,Ma,Zz]at hs);(obtain⟨ba,rfl,hs⟩:=hs))|(go_at_call 26;((refine(hF.out).at hs (by (focus((repeat(with_reducible exact Qn));done))) ?_);clear hs;intro v w hs;(try simp only[Em,Ma]at hs));(simp only[ZJ,Ma,Zz]at hs);(obtain⟨vw,rfl,hs⟩:=hs))|(go_at_call 25;((refine((hH.out ba)).at hs (by (with_reducible exact Qh)) ?_);clear hs;intro g w hs;(try simp only[Em,Ma]at hs)))|(go_at_call 29;((refine((hK.out g ba)).at hs (by (focus((repeat(first|exact Qh|with_reducible apply Qk));done))) ?_);clear hs;intro v w hs;(try simp only[Em,Ma]at hs));(simp only[ZJ,Ma]at hs);(obtain⟨x,hs⟩:=hs);(obtain⟨km1,rfl⟩:=mp_some hs))|(go_at_call 30;((refine((hK2.out g ba)).at hs (by (with_reducible repeat first|exact Qh|apply Qk)) ?_);clear hs;intro v w hs;(try simp only[Em,Ma]at hs));(simp only[ZJ,Ma]at hs);(obtain⟨z,hs⟩:=hs);(obtain⟨km2,rfl⟩:=mp_some hs))|((with_reducible apply wl_bs2 hs);exact Ii;exact Ii;rfl;rfl;rfl;rfl;rfl;rfl;rfl;clear hs;intro w b2 hs;(simp only[Uc,Uz]))|(go_at_call 28;((refine((machine_join (.map (some km1)) (.map (some km2)) _ (kitFn x) (stkFn z))).at hs (by (with_reducible repeat first|exact Qh|apply Qb|apply Qk)) ?_);clear hs;intro v w hs;(try simp only[Em,Ma]at hs));(obtain⟨km,rfl⟩:=mp_some hs))|(go_at_call 27;((refine((hM.out vw km)).at hs (by (with_reducible repeat first|exact Qh|apply Qk)) ?_);clear hs;intro v w hs;(try simp only[Em,Ma]at hs));(simp only[ZJ,Ma,Zz]at hs);(obtain⟨bx,bm,vs,rfl,hs⟩:=hs))|((with_reducible refine Wp (id:=8) [.neu 0,.neu 1,.neu 2,.neu 3,.neu 5,.eff 4 [0,1,2,5],.eff 6 [0,1,2],.eff 7 [0,1,2],.eff 8 [0,1,2],.eff 9 [],.neu 10,.neu 11,.neu 12,.neu 13,.neu 14] hs rfl ?_ ?_);kernel_rfl;clear hs;intro w hs))
 replace hs:=tsk_nones (R:=stR g ba) hs c.T.toNat
 have hs2:Sat O w (WR (skT g ba (capR g x*scapR g ba z)) bx bm (jFn x z) (gst0 Zt c km vs)*(pt b (.cells #[.slice none 0 0,.slice none 0 0,.slice none 0 0,.slice none 0 0] 32)*(A*F))):=by
  rw[gwr0_eq]
  unfold jFn
  simp only[Ma]
  ((with_reducible apply Sat.fin hs);(with_reducible repeat first|exact Ql|exact Qh|apply Qb|apply Qk))
 clear hs
 have hs:=hs2
 clear hs2
 have hGood:=Lh (skT_good g ba (capR g x*scapR g ba z))
 have hKO:=Lh (skT_kit g ba c.T.toNat x z)
 have hJ0:=J0.out km vs
 go_loopw [13,53] (fun _ q wr=>∃(n:Nat) (y:GW Zt),n≤mvs.length∧q=.int .i64 (n:Int)∧J n y∧Sat O wr (WR (skT g ba (capR g x*scapR g ba z)) bx bm (jFn x z) y*(pt b (.cells #[.slice none 0 0,.slice none 0 0,.slice none 0 0,.slice none 0 0] 32)*(A*F)))) (fun _ q _=>65537-(intOf q).toNat)
 case atStart=>exact⟨0,_,by omega,rfl,hJ0,hs⟩
 case round=>
  obtain⟨n,y,k1,rfl,hJ,hs⟩:=hrel
  by_cases hkr:n=mvs.length
  ·subst hkr
   obtain⟨r1,r2,r3,r4,r5⟩:=Jr.out y hJ
   have hR:=Lh (mach_run bx bm y.m r5 r1 r2 r3 r4)
   unfold WR at hs
   simp only[Ma]at hs
   have hlt:decide ((mvs.length:Int)<(mvs.length:Int))=false:=by simp
   have hJ:=Lh hJ
   go_wp2_with (first|((with_reducible apply ZR hs);exact Ii;rfl;rfl;(with_reducible repeat first|exact Qh|apply Qk);rfl;rfl;rfl;rfl;clear hs;intro w hs)|(go_at_call 32;((refine(hR.out).at hs (by (with_reducible exact Qh)) ?_);clear hs;intro v w hs;(try simp only[Em,Ma]at hs));(unfold RunR at hs);(simp only[ZJ,Ma,Zz]at hs);(obtain⟨rc,rt,rs,rw_,rfl,hs⟩:=hs);(obtain⟨_,_,rfl⟩:=Qi (hs.pull (A:=sl 42 9 _ rc) (by (with_reducible exact Qh))));(obtain⟨_,_,rfl⟩:=Qi (hs.pull (A:=sl 49 7 _ rt) (by (with_reducible repeat first|exact Qh|apply Qk))));(obtain⟨_,_,rfl⟩:=Qi (hs.pull (A:=sl 52 5 _ rs) (by (with_reducible repeat first|exact Qh|apply Qk))));(obtain⟨_,_,rfl⟩:=Qi (hs.pull (A:=sl 47 1 _ rw_) (by (with_reducible repeat first|exact Qh|apply Qk))));(simp only[List.length_map]at hs ⊢)))
   ((try simp only[Exit.inBlock,Exit.then]);(with_reducible apply bodyPost_ret);((with_reducible apply results_ct);rfl;rfl;(with_reducible apply loadF hs);exact Ii;(with_reducible exact Qh);rfl;rfl))
   refine⟨_,rfl,?_⟩
   unfold gplayR RunR
   simp only[ZJ,Ma,Zz]
   refine⟨y,_,⟨hJ.out,rfl⟩,_,_,_,_,rfl,?_⟩
   ((with_reducible apply Sat.fin hs);(with_reducible repeat first|exact Ql|exact Qh|apply Qb|apply Qk))
  ·have hlt:decide ((n:Int)<(mvs.length:Int))=true:=by simp;omega
   have hlt2:decide (n<mvs.length)=true:=by simp;omega
   have hln:n<(mvs.map Mv.e).length:=by simp;omega
   obtain⟨mv,hmv⟩:∃mv,mvs[n]? = some mv:=⟨_,Yd (by omega)⟩
   have hgv:(mvs.map Mv.e)[n]? = some (Mv.e mv):=by simp[hmv]
   have hD:=Lh (move_any (bx:=bx) (bm:=bm) hGood.out hKO.out y mv (Jm.out _ g ba n y mv hmv hJ))
   have hJ:=Lh hJ
   go_wp2_with (first|(first|((with_reducible apply Qg hs);exact Ii;rfl;(with_reducible exact Qh);rfl;rfl;(simp only[Uc,Uz]))|((with_reducible apply ZR hs);exact Ii;rfl;rfl;(with_reducible exact Qh);rfl;rfl;rfl;rfl;clear hs;intro w hs)|((with_reducible apply Zv hs);exact Ii;rfl;clear hs;intro w b hs;(simp only[Uc,Uz])))|((with_reducible apply wl_ir hRd.out);exact Ii;exact Ii;rfl;rfl;(rfl);(assumption);rfl;intro ao hat;(simp only[Uc,Uz]))|((with_reducible apply wl_lr hs hRd.out);exact Ii;assumption;rfl;(with_reducible repeat first|exact Qh|apply Qk);(assumption);rfl;(simp only[Uc,Uz]))|(go_at_call 31;((refine(hD.out).at hs (by (with_reducible repeat first|exact Qh|apply Qk)) ?_);clear hs;intro v w hs;(try simp only[Em,Ma]at hs));(replace hs:=moved_iff.1 hs);(obtain⟨bb,y',⟨rfl,hmt⟩,hs⟩:=hs)))
   go_roundw
   case rel=>exact⟨n+1,y',by omega,by simp,Js.out _ g ba x z n y mv bb y' hmv hJ.out hmt,by ((with_reducible apply Sat.fin hs);(with_reducible repeat first|exact Ql|exact Qh|apply Qb|apply Qk))⟩
   case measure=>simp[intOf];omega
end
section
attribute [local irreducible] Go.Calls
theorem PG.start {τ:Type}(I:GI τ){c:Cfg}(hok:c.Ok)(km:Nat)(vs:Value):PG I c 0 (gst0 τ c km vs):=by
 obtain⟨p1,p2,p3,p4,p5,p6,p7⟩:=PI.start hok km vs
 refine⟨rfl,rfl,p3,by simp[gst0],p5,p6,?_⟩
 intro t k se hk
 simp only[gst0,List.getElem?_replicate]at hk
 split at hk<;>simp at hk
def sOps (o:Int):Prop:=(20≤o∧o≤25)∨o=30∨o=31
theorem stk_playJ (c:Cfg)(h:c.Ok)(v:Value)(mvs:List Mv)(hl:mvs.length≤65536)(J:Nat→GW Zt→Prop)(J0:∀km vs,J 0 (gst0 Zt c km vs))
  (hJ:∀bh ba CX,JG (skT bh ba CX) sTask (SI c) c sOps J) (A:Zb) (hRd:Rd A 4 (mvs.map Mv.e) v) :
  Does Tryz.prog 17 #[c.v,v] A (fun u=>gplayR (fun y=>PG (SI c) c mvs.length y∧J mvs.length y) u*A):=by
 have hT2:=h.T2
 refine stk_playR c h v mvs hl (fun k y=>PG (SI c) c k y∧J k y) (fun km vs=>⟨PG.start _ h km vs,J0 km vs⟩) ?_ ?_ ?_ A hRd
 ·intro CX bh ba k y mv hmv hj
  have:=(List.getElem?_eq_some_iff.1 hmv).1
  exact hj.1.may core_kok (skT_good bh ba CX) (sk_inv c _ _) (by omega) mv
 ·intro CX bh ba x z k y mv b y' hmv hj hm
  have:=(List.getElem?_eq_some_iff.1 hmv).1
  exact⟨hj.1.move (skT_good bh ba CX) (sk_inv c _ _) (by omega) hm,(hJ bh ba CX).move (skT_good bh ba CX) (sk_inv c _ _) (fun o=>(jFn_known x z o).1) hj.1 hj.2 (by omega) hm⟩
 ·intro y hj
  obtain⟨p1,p2,p3,p4,p5,p6,p7⟩:=hj.1
  have:=p3.log
  have:=p3.shifts
  have:=p3.words
  have:=base14_le h
  have:=h.T1
  omega
end
section
attribute [local irreducible] Go.Calls
variable (h:Haz)(a:Are)(m:Mch)(i t:Nat)
theorem er_puTaken (c:Cll)(s:Sea)(p:Pu):ZZ m.er i t c s.er p=er2 (ZZ m i t c s p):=by
 simp only[ZZ,er_point,er_now,er_answer,er2_ite];rfl
theorem er_puReady (c:Cll)(s:Sea)(p:Pu):QA a m.er i t c s.er p=er3 (QA a m i t c s p):=by
 simp only[QA,er_takeReady,Je]
 simp only[er3,er_puTaken];rfl
theorem er_puTake (c:Cll)(s:Sea)(p:Pu):puTake a m.er i t c s.er p=er3 (puTake a m i t c s p):=by
 simp only[puTake,er_take,Je]
 simp only[er3,er_puTaken];rfl
theorem er_puStep (c:Cll)(s:Sea)(p:Pu):Ja h a m.er i t c s.er p=er3 (Ja h a m i t c s p):=by
 simp only[Ja,er_puTake,er_word,er_load,er_store,er_swap,puDone,er_point,er_now,er_shift,er_answer,er_thread,Je];rfl
theorem er_poSeen (c:Cll)(s:Sea)(p:Po):Z3 m.er i t c s.er p=er2 (Z3 m i t c s p):=by
 simp only[Z3,er_point,er_now,er_answer,er2_ite];rfl
theorem er_poStep (c:Cll)(s:Sea)(p:Po):QP h a m.er i t c s.er p=er4 (QP h a m i t c s p):=by
 unfold QP
 simp only[er4_ite,er_word,er_load,er_store,er_swap,er_poSeen,er_point,er_now,er_shift,er_answer,er_thread,er_retire]
 congr 1
 congr 1
 congr 1
 congr 1
 congr 1
 congr 1
 congr 1
 congr 1
 split
 ·rfl
 ·split
  ·rfl
  ·rw[er_scan];rfl
theorem sk_er (bh ba:Nat)(CX:Zb):ErOk (skT bh ba CX):=by
 constructor
 ·intro s m i t c se k
  cases k with
  | hz k=>show((Qs s m.er i t c se.er k).1,_,_,_)=_;rw[er_rdy];rfl
  | psh p=>show((QA s.2 m.er i t c se.er p).1,_,_,_)=_;rw[er_puReady];rfl
  | pop p=>rfl
 ·intro s m i t c se k
  cases k with
  | hz k=>show((ZT s m.er i t c se.er k).1,_,_,_)=_;rw[er_stp];rfl
  | psh p=>show((Ja s.1 s.2 m.er i t c se.er p).1,_,_,_)=_;rw[er_puStep];rfl
  | pop p=>show((QP s.1 s.2 m.er i t c se.er p).1,_,_,_)=_;rw[er_poStep];rfl
def sKnown (o:Int):Bool:=decide (20≤o∧o≤25)||decide (o=30∨o=31)
def sMove (y:GW Zt)(mv:Mv):GW Zt:=gMove QQ QN sKnown sTask y mv
def sRun (c:Cfg)(mvs:List Mv):GW Zt:=mvs.foldl sMove (gEr (gst0 Zt c 0 .nilIface))
theorem sRun_take {c:Cfg}{mvs:List Mv}{k:Nat}{mv:Mv}(h:mvs[k]? = some mv):sRun c (mvs.take (k+1))=sMove (sRun c (mvs.take k)) mv:=by
 have e:mvs.take (k+1)=mvs.take k++[mv]:=by
  rw[List.take_add_one,h];rfl
 rw[e]
 simp only[sRun,List.foldl_append,List.foldl_cons,List.foldl_nil]
theorem jFn_sKnown (x:Caps)(y:SCaps)(o:Int):jFn x y o≠none↔sKnown o=true:=by
 rw[jFn_known]
 unfold sKnown
 simp
def RunS (c:Cfg)(mvs:List Mv)(u:Value):Zb:=ex fun v=>pu (u=.tuple #[v,.int .i64 0])*RunR (sRun c mvs).m.calls (sRun c mvs).m.mem.log (sRun c mvs).m.shifts (sRun c mvs).m.mem.words v
theorem stk_play_runR (c:Cfg)(h:c.Ok)(v:Value)(mvs:List Mv)(hl:mvs.length≤65536)(A:Zb)(hRd:Rd A 4 (mvs.map Mv.e) v) :
  Does Tryz.prog 17 #[c.v,v] A (fun u=>RunS c mvs u*A):=by
 intro O w F hs
 have hT2:=h.T2
 refine(stk_playR c h v mvs hl (fun k y=>PG (SI c) c k y∧gEr y=sRun c (mvs.take k)) (fun km vs=>⟨PG.start _ h km vs,?_⟩) ?_ ?_ ?_ A hRd O w F hs).mono ?_
 ·simp only[List.take_zero]
  rfl
 ·intro CX bh ba k y mv hmv hj
  have:=(List.getElem?_eq_some_iff.1 hmv).1
  exact hj.1.may core_kok (skT_good bh ba CX) (sk_inv c _ _) (by omega) mv
 ·intro CX bh ba x z k y mv b y' hmv hj hm
  have:=(List.getElem?_eq_some_iff.1 hmv).1
  exact⟨hj.1.move (skT_good bh ba CX) (sk_inv c _ _) (by omega) hm,by rw[sRun_take hmv,←hj.2];exact gMove_of (sk_er bh ba CX) (jFn_sKnown x z) hm⟩
 ·intro y hj
  obtain⟨p1,p2,p3,p4,p5,p6,p7⟩:=hj.1
  have:=p3.log
  have:=p3.shifts
  have:=p3.words
  have:=base14_le h
  have:=h.T1
  omega
 ·rintro e w' ⟨u,rfl,hs'⟩
  refine⟨u,rfl,?_⟩
  unfold gplayR at hs'
  unfold RunS
  simp only[ZJ,Ma,Zz]at hs' ⊢
  obtain⟨y,v',⟨⟨hP,hE⟩,hu⟩,hs'⟩:=hs'
  rw[List.take_length]at hE
  refine⟨v',hu,?_⟩
  rw[←hE]
  exact hs'
theorem stk_play_run (c:Cfg)(h:c.Ok)(v:Value)(mvs:List Mv)(hl:mvs.length≤65536) :
  Does Tryz.prog 17 #[c.v,v] (sl 57 4 (mvs.map Mv.e) v) (fun u=>RunS c mvs u*sl 57 4 (mvs.map Mv.e) v):=
 does_sl fun A hA=>stk_play_runR c h v mvs hl A hA
def sSmall:Cfg:=⟨1,1,3,1,0,2,1⟩
abbrev sSteps (n:Nat):List Mv:=List.replicate n ⟨0,0,0,0⟩
def sAw:List Mv:=([⟨0,20,0,0⟩,⟨0,0,0,0⟩,⟨0,0,0,0⟩,⟨0,30,5,0⟩]++sSteps 7)++[⟨0,31,0,0⟩]++sSteps 13
def sAwOk (y:GW Zt):Bool:=decide (y.m.calls.length=3) &&
 (match y.m.calls[1]? with|some c=>decide (c.end_=10)|none=>false) &&
 (match y.m.calls[2]? with|some c=>decide (c.end_=24)&&(decide (c.kind=2)&&decide (c.value=5))|none=>false)
theorem sAw_ok:sAwOk (sRun sSmall sAw)=true:=by kernel_rfl
end
end Go.Proofs.YtjagadldibbbbaaGreat
