import Derived.Test.YtefjbdajgakgpaaGreatDJoin
set_option linter.all false
namespace Go.Proofs.YtefjbdajgakgpaaGreat
open Go.RowKit Hp
set_option maxRecDepth 100000
section
set_option maxHeartbeats 1000000
attribute [local irreducible] Go.Calls
def Sea.er (s:Sea):Sea:={ s with task:=.nilIface }
def Mch.er (m:Mch):Mch:={ m with kit:=.nilIface,vs:=.nilIface,vc:=.nilIface,seats:=m.seats.map Sea.er }
section
variable {α β γ:Type}
def er3 (r:Bool×α×Mch×β):Bool×α×Mch×β:=(r.1,r.2.1,r.2.2.1.er,r.2.2.2)
def er4 (r:Bool×α×β×Mch×γ):Bool×α×β×Mch×γ:=(r.1,r.2.1,r.2.2.1,r.2.2.2.1.er,r.2.2.2.2)
def er2 (r:Bool×Mch×β):Bool×Mch×β:=(r.1,r.2.1.er,r.2.2)
theorem JF {p:Prop}[Decidable p](x y:Bool×α×Mch×β):er3 (if p then x else y)=if p then er3 x else er3 y:=by split<;>rfl
theorem er4_ite {p:Prop}[Decidable p](x y:Bool×α×β×Mch×γ):er4 (if p then x else y)=if p then er4 x else er4 y:=by split<;>rfl
theorem er2_ite {p:Prop}[Decidable p](x y:Bool×Mch×β):er2 (if p then x else y)=if p then er2 x else er2 y:=by split<;>rfl
end
variable (h:Haz)(a:Are)(m:Mch)(i t:Nat)
theorem er_word (i:Nat):m.er.word i=m.word i:=rfl
theorem er_load (u:Int):m.er.load i u=(m.load i u).er:=rfl
theorem er_store (u z:Int):m.er.store i u z=(m.store i u z).er:=rfl
theorem er_swap (u o z:Int):m.er.swap i u o z=(m.swap i u o z).er:=rfl
theorem er_shift (s f t:Int):m.er.shift s f t=(m.shift s f t).er:=rfl
theorem er_point (c:Cll)(z:Int):m.er.point i c z=(m.point i c z).er:=rfl
theorem er_thread:m.er.thread=m.thread:=rfl
theorem er_now:m.er.now=m.now:=rfl
theorem er_answer (s:Sea)(k v:Int):m.er.answer t s.er k v=(m.answer t s k v).er:=by
 simp only[Mch.answer,Mch.er,Yk];rfl
theorem er_prep (now:Int)(s:Sea):m.er.prep t i now s.er=(m.prep t i now s).er:=by
 simp only[Mch.prep,Mch.er,Yk];rfl
theorem er_push (p:Psh):Za a m.er p=er3 (Za a m p):=by
 simp only[Za,er_word,er_load,er_store,er_swap,er_shift,er_thread,JF];rfl
theorem er_give (p:Psh):Zq a m.er p=er3 (Zq a m p):=by
 simp only[Zq,er_shift,er_thread,JF];rfl
def er5 {α β γ:Type}(r:Bool×α×β×γ×Mch):Bool×α×β×γ×Mch:=(r.1,r.2.1,r.2.2.1,r.2.2.2.1,r.2.2.2.2.er)
theorem er5_ite {α β γ:Type}{p:Prop}[Decidable p](x y:Bool×α×β×γ×Mch):er5 (if p then x else y)=if p then er5 x else er5 y:=by split<;>rfl
theorem er_free (th:Int):∀(l:List Int) (g:Option Psh) (a:Are) (m:Mch),Zu th l g a m.er=er5 (Zu th l g a m)
 | [],g,a,m=>rfl
 | s::r,g,a,m=>by
  unfold Zu
  rw[er_give,er5_ite]
  simp only[er3]
  rw[er_free th r]
  rfl
theorem er_takeReady (k:Tak):Zf a m.er k=er3 (Zf a m k):=by
 simp only[Zf,Jo,er_shift,er_thread,JF];rfl
theorem er_take (k:Tak):Zh a m.er k=er3 (Zh a m k):=by
 simp only[Zh,Jo,er_word,er_load,er_swap,er_shift,er_thread,JF];rfl
theorem er_try (s:Scn):Jp h m.er s=er2 (Jp h m s):=by
 simp only[Jp,er_word,er_load,er2_ite];rfl
theorem er_stake (s:Scn):QJ h m.er s=er3 (QJ h m s):=by
 simp only[QJ,er_word,er_swap,JF];rfl
theorem er_look (s:Scn):QU h a m.er s=er4 (QU h a m s):=by
 have e1:(Qq h m.er s).1=(Qq h m s).1.er:=rfl
 have e2:(Qq h m.er s).2=(Qq h m s).2:=rfl
 unfold QU
 rw[e1,e2]
 dsimp only
 rw[er_free,er4_ite]
 rfl
theorem er_sgive (s:Scn)(p:Psh):QK h a m.er s p=er3 (QK h a m s p):=by
 simp only[QK,er_push,JF]
 simp only[er3,er_free];rfl
theorem er_scan (s:Scn):Zl h a m.er s=er4 (Zl h a m s):=by
 unfold Zl
 simp only[er4_ite]
 congr 1
 ·rw[er_try];rfl
 congr 1
 ·rw[er_stake];rfl
 congr 1
 congr 1
 ·exact er_look ..
 ·split
  ·rw[er_sgive];rfl
  ·rfl
theorem er_retire (r:Ret):Zr h a m.er r=er4 (Zr h a m r):=by
 simp only[Zr,er_shift,er_thread,er4_ite];rfl
theorem er_reg (s:Sea)(r:Reg):Z4 h m.er t s.er r=er3 (Z4 h m t s r):=by
 simp only[Z4,Qv,er_word,er_load,er_swap,er_answer,JF];rfl
theorem er_flush (p:Psh):ZC a m.er p=er3 (ZC a m p):=by
 simp only[ZC,er_push,JF];rfl
theorem er_unr (u:Unr):Zs h a m.er u=er4 (Zs h a m u):=by
 unfold Zs
 simp only[er_word,er_store,er4_ite]
 congr 1
 congr 1
 ·split
  ·rfl
  ·simp only[er_scan,er4_ite];rfl
 congr 1
 split
 ·rfl
 ·simp only[er_flush];rfl
theorem er_read (c:Cll)(s:Sea)(r:Rdg):ZZ h m.er i t c s.er r=er2 (ZZ h m i t c s r):=by
 simp only[ZZ,Qf,er_word,er_load,er_store,er_point,er_now,er_answer,er2_ite];rfl
theorem er_took (c:Cll)(s:Sea)(p:Pst)(k:Tak):ZH m.er i t c s.er p k=er2 (ZH m i t c s p k):=by
 simp only[ZH,er_point,er_now,er_answer,er2_ite];rfl
theorem er_postReady (c:Cll)(s:Sea)(p:Pst):ZM a m.er i t c s.er p=er3 (ZM a m i t c s p):=by
 simp only[ZM,er_takeReady,JF]
 simp only[er3,er_took];rfl
theorem er_post (c:Cll)(s:Sea)(p:Pst):ZP h a m.er i t c s.er p=er4 (ZP h a m i t c s p):=by
 unfold ZP
 split
 ·rfl
 ·simp only[er4_ite,er_take,er_word]
  congr 1
  ·simp only[er3,er_took];rfl
  congr 1
  congr 1
  congr 1
  ·congr 1
   simp only[er_swap,Je,er_point,er_answer,er_now,er_shift,er_thread,er_retire,er4_ite];rfl
  ·split
   ·rfl
   ·split
    ·rfl
    ·rw[er_scan];rfl
theorem er_rdy (s:Haz×Are)(c:Cll)(se:Sea)(k:Z8):Qw s m.er i t c se.er k=er3 (Qw s m i t c se k):=by
 cases k<;>first|rfl|(simp only[Qw,er_postReady];rfl)
theorem er_stp (s:Haz×Are)(c:Cll)(se:Sea)(k:Z8):ZQ s m.er i t c se.er k=er3 (ZQ s m i t c se k):=by
 cases k<;>first|rfl|(simp only[ZQ,er_reg,er_unr,er_read,er_post,er_scan];rfl)
theorem er_getC:getC m.er i=getC m i:=rfl
theorem er_getS:getS m.er t=(getS m t).er:=by
 simp only[getS,Mch.er,Yb,Ym]
 cases m.seats[t]? <;> rfl
theorem er_end (c:Cll)(s:Sea)(now:Int)(b:Bool):QT m.er t i now c s.er b=(QT m t i now c s b).er:=by
 unfold QT
 split
 ·simp only[Mch.er,Yk];rfl
 ·rfl
theorem kitFn_none {x:Caps}{op:Int}:kitFn x op=none↔op<20∨25<op:=by
 unfold kitFn
 constructor
 ·intro h
  repeat(split at h;· cases h)
  omega
 ·intro h
  rw[if_neg (by omega),if_neg (by omega),if_neg (by omega),if_neg (by omega),if_neg (by omega),if_neg (by omega)]
end
section
set_option maxHeartbeats 1000000
attribute [local irreducible] Go.Calls
section
variable {τ:Type}(rdy stp:Haz×Are→Mch→Nat→Nat→Cll→Sea→τ→GR τ)
def gT:JH (Haz×Are) τ:=⟨fun _=>emp,fun _ _=>emp,rdy,stp,fun _ _ _ _=>True,fun _ _ _ _=>True⟩
def gEr (y:GW τ):GW τ:={ y with m:=y.m.er }
def gMove (known:Int→Bool)(mkr:Haz×Are→Nat→Mv→Option τ)(y:GW τ)(mv:Mv):GW τ:=
 if mv.thread<0∨(y.tasks.length:Int)≤mv.thread then y.tick
 else match y.tasks.getD mv.thread.toNat none with
  | none=>
   if mv.op=0 then y.tick
   else if known mv.op=false then y.tick
   else match mkr y.s mv.thread.toNat mv with
    | none=>y.tick
    | some k=>⟨y.s,ZB y.m mv.thread.toNat mv .nilIface .nilIface,y.tasks.set mv.thread.toNat (some k)⟩
  | some k=>
   if mv.op≠0 then y.tick
   else
    let se:=getS y.m mv.thread.toNat
    let r:=Z9 (gT rdy stp) y.s y.tick.m se.last.toNat mv.thread.toNat (getC y.m se.last.toNat) se k y.m.moves
    ⟨r.1,r.2.1,y.tasks.set mv.thread.toNat r.2.2⟩
end
section
variable {τ:Type}{T:JH (Haz×Are) τ}{mkr:Haz×Are→Nat→Mv→Option τ}
structure ErOk (T:JH (Haz×Are) τ):Prop where
 rdy:∀s m i t c se k,T.rdy s m.er i t c se.er k=er3 (T.rdy s m i t c se k)
 stp:∀s m i t c se k,T.stp s m.er i t c se.er k=er3 (T.stp s m i t c se k)
theorem g_stepReady (H:ErOk T)(s:Haz×Are)(m:Mch)(i t:Nat)(c:Cll)(se:Sea)(k:τ)(now:Int):Zp (gT T.rdy T.stp) s m.er i t c se.er k now=er3 (Zp T s m i t c se k now):=by
 unfold Zp
 rw[JF]
 congr 1
 ·rw[er_prep];exact H.rdy s _ i t c { se with ready:=true } k
 ·rw[er_prep];rfl
theorem g_stepMore (H:ErOk T)(i t:Nat)(r:GR τ):Jc (gT T.rdy T.stp) i t (er3 r)=er3 (Jc T i t r):=by
 unfold Jc
 rw[JF]
 congr 1
 simp only[er3,er_getC,er_getS]
 exact H.stp ..
theorem gMove_of (H:ErOk T){K:Int→Option Value}{known:Int→Bool}(hK:∀o,K o≠none↔known o=true){y y':GW τ}{mv:Mv}{b:Bool}(h:Jy T K mkr y mv b y'):gEr y'=gMove T.rdy T.stp known mkr (gEr y) mv:=by
 have key:∀(t:Nat) (o:Option τ),mv.thread=(t:Int)→y.tasks[t]? = some o→(gEr y).tasks.getD mv.thread.toNat none=o∧¬(mv.thread<0∨((gEr y).tasks.length:Int)≤mv.thread):=by
  intro t o ht hk
  have hl:=(List.getElem?_eq_some_iff.1 hk).1
  refine⟨?_,?_⟩
  ·rw[ht,Yo,Yb]
   show(y.tasks[t]?).getD none=o
   rw[hk];rfl
  ·show ¬(mv.thread<0∨(y.tasks.length:Int)≤mv.thread)
   omega
 cases h with
 | out h=>unfold gMove;rw[if_pos (by exact h)];rfl
 | idle t ht hop hk=>
  obtain⟨e,hn⟩:=key t _ ht hk
  unfold gMove
  rw[if_neg hn,e]
  simp only[]
  rw[if_pos hop]
  rfl
 | busy t k ht hop hk=>
  obtain⟨e,hn⟩:=key t _ ht hk
  unfold gMove
  rw[if_neg hn,e]
  simp only[]
  rw[if_pos hop]
  rfl
 | nokit t ht hop hk hKn=>
  obtain⟨e,hn⟩:=key t _ ht hk
  unfold gMove
  rw[if_neg hn,e]
  simp only[]
  rw[if_neg hop,if_pos (by cases hq:known mv.op with|false=>rfl|true=>exact absurd hKn ((hK _).2 hq))]
  rfl
 | refused t ht hop hk hKn hm=>
  obtain⟨e,hn⟩:=key t _ ht hk
  have hm2:mkr (gEr y).s mv.thread.toNat mv=none:=by rw[ht,Yo];exact hm
  unfold gMove
  rw[if_neg hn,e]
  simp only[]
  rw[if_neg hop,if_neg (by rw[(hK _).1 hKn];simp),hm2]
  rfl
 | begin_ t k v vc ht hop hk hKn hm=>
  obtain⟨e,hn⟩:=key t _ ht hk
  have hm2:mkr (gEr y).s mv.thread.toNat mv=some k:=by rw[ht,Yo];exact hm
  unfold gMove
  rw[if_neg hn,e]
  simp only[]
  rw[if_neg hop,if_neg (by rw[(hK _).1 hKn];simp),hm2]
  rw[ht,Yo]
  simp only[gEr,ZB,Mch.er,Yk]
  rfl
 | step t i c se k ht hop hk hse hl hc=>
  obtain⟨e,hn⟩:=key t _ ht hk
  unfold gMove
  rw[if_neg hn,e]
  simp only[]
  rw[if_neg (by simpa using hop)]
  have e1:getS (gEr y).m mv.thread.toNat=se.er:=by
   rw[ht,Yo]
   show getS y.m.er t=_
   rw[er_getS]
   simp[getS,Yb,hse]
  have e2:getC (gEr y).m se.er.last.toNat=c:=by
   show getC y.m.er se.last.toNat=c
   rw[hl,Yo,er_getC]
   simp[getC,Yb,hc]
  have e3:se.er.last.toNat=i:=by show se.last.toNat=i;omega
  rw[e1,e2,e3,ht,Yo]
  have e4:Z9 (gT T.rdy T.stp) (gEr y).s (gEr y).tick.m i t c se.er k (gEr y).m.moves=((Z9 T y.s y.tick.m i t c se k y.m.moves).1,(Z9 T y.s y.tick.m i t c se k y.m.moves).2.1.er,(Z9 T y.s y.tick.m i t c se k y.m.moves).2.2):=by
   have h1:=g_stepReady H y.s y.tick.m i t c se k y.m.moves
   have h2:=g_stepMore H i t (Zp T y.s y.tick.m i t c se k y.m.moves)
   rw[←h1]at h2
   unfold Z9
   simp only[]
   have h3:Jc (gT T.rdy T.stp) i t (Zp (gT T.rdy T.stp) (gEr y).s (gEr y).tick.m i t c se.er k (gEr y).m.moves)=er3 (Jc T i t (Zp T y.s y.tick.m i t c se k y.m.moves)):=h2
   rw[h3]
   simp only[er3,er_getC,er_getS,er_end];rfl
  simp only[e4]
  rfl
end
end
section
set_option maxHeartbeats 1000000
attribute [local irreducible] Go.Calls Go.wpList
structure QCaps where
 c1:Nat
 c4:Nat
def placeR (bh:Nat)(c:Cfg)(g:Nat):Zc:=pt g (.cells #[.pointer (some ⟨bh,0,none⟩),.int .i64 (adr c 4 0:Nat),.int .i64 (adr c 5 0:Nat),.int .i64 (base c 11),.int .i64 (base c 13)] 130)
def qcapR (bh:Nat)(c:Cfg)(x:QCaps):Zc:=Qx bh x.c1*placeR bh c x.c4
def queFn (x:QCaps):Int→Option Value:=fun op=>
 if op=41 then some (.func (.func 70) #[] #[.pointer (some ⟨x.c1,0,none⟩),.pointer (some ⟨x.c4,0,none⟩)])
 else if op=40 then some (.func (.func 68) #[] #[.pointer (some ⟨x.c1,0,none⟩),.pointer (some ⟨x.c4,0,none⟩)]) else none
theorem qkit_mk {bh ba:Nat}{h:Haz}{a:Are}{v:Value}{O w:World}{F:Zc}{c1 c4:Nat}(hs:Sat O w (mp .i64 (queFn ⟨c1,c4⟩) v*(HazR bh ba h*(AreR ba a*(qcapR bh a.c ⟨c1,c4⟩*F))))):Sat O w ((ex fun x=>mp .i64 (queFn x) v*(HazR bh ba h*(AreR ba a*qcapR bh a.c x)))*F):=by
 simp only[ZG,Ma]
 exact⟨_,hs⟩
theorem que_kit (bh ba:Nat)(h:Haz)(a:Are)(hok:a.c.Ok) :
  Does Tryz.prog 27 #[.pointer (some ⟨bh,0,none⟩)] (HazR bh ba h*AreR ba a) (fun v=>ex fun x=>mp .i64 (queFn x) v*(HazR bh ba h*(AreR ba a*qcapR bh a.c x))):=by
 intro O w F hs
 simp only[Ma]at hs
 have hA:=Lh (que_arena bh ba h)
 have hG:=Lh (arena_config ba a)
 have hAd:∀r:Nat,1≤r→r≤13→r≠9→0<many a.c r→Zk Tryz.prog 67 #[a.c.v,.agg #[.int .i64 (r:Int),.int .i64 0,.int .i64 0]] emp (.tuple #[.int .i64 (base a.c r),.int .i64 0]) emp:=fun r h1 h2 h9 hm=>by
  have:=word_addr a.c hok r h1 h2 0 ⟨by omega,by omega,hm⟩
  rw[if_neg h9,Int.add_zero]at this
  exact this
 have e4:base a.c 4=((adr a.c 4 0:Nat):Int):=by have:=adr_eq hok 4 (i:=0) (by omega);omega
 have e5:base a.c 5=((adr a.c 5 0:Nat):Int):=by have:=adr_eq hok 5 (i:=0) (by omega);omega
 have hS:=hok.S1
 have h4:=hAd 4 (by omega) (by omega) (by omega) (by show(0:Int)<1;omega)
 have h5:=hAd 5 (by omega) (by omega) (by omega) (by show(0:Int)<1;omega)
 have h11:=hAd 11 (by omega) (by omega) (by omega) (by show 0<a.c.Sl;omega)
 have h13:=hAd 13 (by omega) (by omega) (by omega) (by show 0<a.c.Sl;omega)
 rw[e4]at h4
 rw[e5]at h5
 have H4:=Lh h4;have H5:=Lh h5;have H11:=Lh h11;have H13:=Lh h13
 clear hAd h4 h5 h11 h13 hok hS e4 e5
 go_enter Tryz.func27,Tryz.ntmps27
 (repeat'(first|(go_big_may;(first|((with_reducible apply Zb hs);exact Ii;rfl;(with_reducible repeat first|exact Qh|apply Qk);rfl;rfl;simp only[Uc,Uz])|((with_reducible apply Qy hs);exact Ii;rfl;(with_reducible repeat first|exact Qh|apply Qk);rfl;rfl;simp only[Uc,Uz])|((with_reducible apply Zv hs);exact Ii;rfl;rfl;(with_reducible exact Qh);rfl;exact Vb rfl;rfl;clear hs;intro w hs;simp only[Yg,Uc,Uz]at hs)|((with_reducible apply ZN hs);exact Ii;rfl;rfl;(with_reducible exact Qh);rfl;rfl;rfl;rfl;clear hs;intro w hs)|((with_reducible apply Zw hs);exact Ii;rfl;clear hs;intro w b hs;simp only[Uc,Uz])|((with_reducible apply Zt hs);rfl;rfl;rfl;clear hs;intro w b hs;simp only[Uc,Uz])|(first|((with_reducible apply wl_mkmap hs);exact Ii;rfl;clear hs;intro w r hs;simp only[Uc,Uz])|((with_reducible apply wl_mi hs);exact Ii;rfl;rfl;rfl;(with_reducible exact Qh);rfl;clear hs;intro w hs))|(go_at_call 65;(refine(hA.out).at hs (by with_reducible repeat first|exact Qh|apply Qk) ?_;clear hs;intro w hs;(try simp only[Em,Ma]at hs)))|(go_at_call 66;(refine(hG.out).at hs (by with_reducible repeat first|exact Qh|apply Qk) ?_;clear hs;intro w hs;(try simp only[Em,Ma]at hs)))|(go_at_call 67;first|((refine(H4.out).at hs (by (focus((repeat(with_reducible exact Qn));done))) ?_);clear hs;intro w hs;(try simp only[Em,Ma]at hs))|((refine(H5.out).at hs (by (focus((repeat(with_reducible exact Qn));done))) ?_);clear hs;intro w hs;(try simp only[Em,Ma]at hs))|((refine(H11.out).at hs (by (focus((repeat(with_reducible exact Qn));done))) ?_);clear hs;intro w hs;(try simp only[Em,Ma]at hs))|((refine(H13.out).at hs (by (focus((repeat(with_reducible exact Qn));done))) ?_);clear hs;intro w hs;(try simp only[Em,Ma]at hs)))))|go_step|(dsimp only)))
 go_ret
 refine⟨_,rfl,?_⟩
 apply qkit_mk
 unfold qcapR Qx placeR queFn
 simp only[Ma]
 ((with_reducible apply Sat.fin hs);(focus((repeat(first|with_reducible exact Ql|with_reducible exact Qh|with_reducible apply Qb|exact Qh|with_reducible apply Qk));done)))
section
variable (bh ba:Nat)(x:QCaps)(h:Haz)(a:Are)(t:Nat)(mv:Mv)
theorem mk_put_no (r:Int)(ht:h.held[t]? = some r)(r0:r<0):Does Tryz.prog 68 #[.int .i64 (t:Int),mv.v,.pointer (some ⟨x.c1,0,none⟩),.pointer (some ⟨x.c4,0,none⟩)] (HazR bh ba h*qcapR bh h.c x)
  (fun v=>pu (v=.nilIface)*(HazR bh ba h*qcapR bh h.c x)):=by
 intro O w F hs
 have hR:=Lh (Q3 bh ba h t r ht)
 have n1:decide (r<0)=true:=by simp;omega
 unfold qcapR Qx at hs ⊢
 simp only[Ma]at hs ⊢
 go_enter Tryz.func68,Tryz.ntmps68
 (repeat'(first|(go_big_may;(first|((with_reducible apply Zb hs);exact Ii;rfl;(with_reducible repeat first|exact Qh|apply Qk);rfl;rfl;simp only[Uc,Uz])|((with_reducible apply Zt hs);rfl;rfl;rfl;clear hs;intro w b hs;simp only[Uc,Uz])|(go_at_call 69;(refine(hR.out).at hs (by with_reducible repeat first|exact Qh|apply Qk) ?_;clear hs;intro w hs;(try simp only[Em,Ma]at hs)))))|go_step|(dsimp only)))
 go_ret
 refine⟨_,rfl,?_⟩
 refine Zz.2 ⟨rfl,?_⟩
 (with_reducible apply Sat.fin hs;repeat first|exact Ql|exact Qh|apply Qb|apply Qk)
theorem mk_get_no (r:Int)(ht:h.held[t]? = some r)(r0:r<0):Does Tryz.prog 70 #[.int .i64 (t:Int),mv.v,.pointer (some ⟨x.c1,0,none⟩),.pointer (some ⟨x.c4,0,none⟩)] (HazR bh ba h*qcapR bh h.c x)
  (fun v=>pu (v=.nilIface)*(HazR bh ba h*qcapR bh h.c x)):=by
 intro O w F hs
 have hR:=Lh (Q3 bh ba h t r ht)
 have n1:decide (r<0)=true:=by simp;omega
 unfold qcapR Qx at hs ⊢
 simp only[Ma]at hs ⊢
 go_enter Tryz.func70,Tryz.ntmps70
 (repeat'(first|(go_big_may;(first|((with_reducible apply Zb hs);exact Ii;rfl;(with_reducible repeat first|exact Qh|apply Qk);rfl;rfl;simp only[Uc,Uz])|((with_reducible apply Zt hs);rfl;rfl;rfl;clear hs;intro w b hs;simp only[Uc,Uz])|(go_at_call 69;(refine(hR.out).at hs (by with_reducible repeat first|exact Qh|apply Qk) ?_;clear hs;intro w hs;(try simp only[Em,Ma]at hs)))))|go_step|(dsimp only)))
 go_ret
 refine⟨_,rfl,?_⟩
 refine Zz.2 ⟨rfl,?_⟩
 (with_reducible apply Sat.fin hs;repeat first|exact Ql|exact Qh|apply Qb|apply Qk)
theorem mk_put (r:Int)(ht:h.held[t]? = some r)(r0:0≤r):Does Tryz.prog 68 #[.int .i64 (t:Int),mv.v,.pointer (some ⟨x.c1,0,none⟩),.pointer (some ⟨x.c4,0,none⟩)] (HazR bh ba h*qcapR bh h.c x)
  (fun v=>quR bh ba h.c (.put ⟨t,mv.arg,⟨t,1,0,0,0,false⟩,0,0,0,0,0⟩) v*(HazR bh ba h*qcapR bh h.c x)):=by
 intro O w F hs
 have hR:=Lh (Q3 bh ba h t r ht)
 have n1:decide (r<0)=false:=by simp;omega
 rw[quR_put0 rfl]
 unfold qcapR Qx placeR at hs ⊢
 simp only[Ma]at hs ⊢
 go_enter Tryz.func68,Tryz.ntmps68
 (repeat'(first|(go_big_may;(first|((with_reducible apply Zb hs);exact Ii;rfl;(with_reducible repeat first|exact Qh|apply Qk);rfl;rfl;simp only[Uc,Uz])|((with_reducible apply Qy hs);exact Ii;rfl;(with_reducible repeat first|exact Qh|apply Qk);rfl;rfl;simp only[Uc,Uz])|((with_reducible apply Zt hs);rfl;rfl;rfl;clear hs;intro w b hs;simp only[Uc,Uz])|(go_at_call 69;(refine(hR.out).at hs (by with_reducible repeat first|exact Qh|apply Qk) ?_;clear hs;intro w hs;(try simp only[Em,Ma]at hs)))))|go_step|(dsimp only)))
 go_ret
 refine⟨_,rfl,?_⟩
 refine JE.2 ⟨_,rfl,?_⟩
 unfold PtR0
 (with_reducible apply Sat.fin hs;repeat first|exact Ql|exact Qh|apply Qb|apply Qk)
theorem mk_get (r:Int)(ht:h.held[t]? = some r)(r0:0≤r):Does Tryz.prog 70 #[.int .i64 (t:Int),mv.v,.pointer (some ⟨x.c1,0,none⟩),.pointer (some ⟨x.c4,0,none⟩)] (HazR bh ba h*qcapR bh h.c x)
  (fun v=>quR bh ba h.c (.get ⟨t,0,0,0,0,false,0,none,0,0,0⟩) v*(HazR bh ba h*qcapR bh h.c x)):=by
 intro O w F hs
 have hR:=Lh (Q3 bh ba h t r ht)
 have n1:decide (r<0)=false:=by simp;omega
 unfold qcapR Qx placeR at hs ⊢
 simp only[Ma]at hs ⊢
 go_enter Tryz.func70,Tryz.ntmps70
 (repeat'(first|(go_big_may;(first|((with_reducible apply Zb hs);exact Ii;rfl;(with_reducible repeat first|exact Qh|apply Qk);rfl;rfl;simp only[Uc,Uz])|((with_reducible apply Qy hs);exact Ii;rfl;(with_reducible repeat first|exact Qh|apply Qk);rfl;rfl;simp only[Uc,Uz])|((with_reducible apply Zt hs);rfl;rfl;rfl;clear hs;intro w b hs;simp only[Uc,Uz])|(go_at_call 69;(refine(hR.out).at hs (by with_reducible repeat first|exact Qh|apply Qk) ?_;clear hs;intro w hs;(try simp only[Em,Ma]at hs)))))|go_step|(dsimp only)))
 go_ret
 refine⟨_,rfl,?_⟩
 refine JE.2 ⟨_,rfl,?_⟩
 have hs:=rtr_none (bh:=bh) (ba:=ba) hs
 apply QZ (vr:=.pointer none)
 (with_reducible apply Sat.fin hs;repeat first|exact Ql|exact Qh|apply Qb|apply Qk)
end
def jFnQ (x:Caps)(y:QCaps):Int→Option Value:=fun o=>(queFn y o).or (kitFn x o)
structure KOkQ (cf:Cfg)(n:Nat)(s:Haz×Are):Prop where
 k:KOk n s
 c:s.1.c=cf
theorem core_kokQ {c:Cfg}{L S N:Nat}{h:Haz}{a:Are}{m:Mch}(C:Jz (QM c) c L S N h a m):KOkQ c c.T.toNat (h,a):=
 ⟨⟨by rw[C.hc];exact C.ok,C.held,fun r hr=>by rw[C.hc];exact(C.hin r hr).2⟩,C.hc⟩
theorem queFn_no {x:QCaps}{o:Int}(h:¬(o=40∨o=41)):queFn x o=none:=by
 unfold queFn
 rw[if_neg (by omega),if_neg (by omega)]
theorem jFnQ_known (x:Caps)(y:QCaps)(o:Int):jFnQ x y o≠none↔(20≤o∧o≤25)∨o=40∨o=41:=by
 unfold jFnQ
 by_cases h:o=40∨o=41
 ·refine⟨fun _=>.inr h,fun _ => ?_⟩
  unfold queFn
  rcases h with rfl|rfl<;>simp
 ·rw[queFn_no h,Option.none_or]
  constructor
  ·intro hk
   refine .inl ?_
   by_cases hq:o<20∨25<o
   ·exact absurd (kitFn_none.2 hq) hk
   ·omega
  ·rintro(hk|hk)
   ·intro hq
    have:=kitFn_none.1 hq
    omega
   ·exact absurd hk h
theorem qkT_kit (bh ba:Nat)(cf:Cfg)(n:Nat)(x:Caps)(y:QCaps):KitOk (qkT bh ba cf (capR bh x*qcapR bh cf y)) (jFnQ x y) qTask (KOkQ cf n) n where
 func:=by
  intro op u hu
  unfold jFnQ at hu
  by_cases h:op=40∨op=41
  ·unfold queFn at hu
   rcases h with rfl|rfl
   ·simp at hu
    exact⟨_,_,_,hu.symm⟩
   ·simp at hu
    exact⟨_,_,_,hu.symm⟩
  ·rw[queFn_no h,Option.none_or]at hu
   exact(hzT_kit bh ba n x).func op u hu
 make:=by
  intro op u s t mv hK hop ht hthr hok
  subst hop
  have hcf:=hok.c
  subst hcf
  by_cases hs:mv.op=40∨mv.op=41
  ·have hlt:t<s.1.held.length:=by rw[hok.k.held];exact ht
   obtain⟨r,hr⟩:∃r,s.1.held[t]? = some r:=⟨_,Yd hlt⟩
   have hrd:s.1.held.getD t 0=r:=by rw[Yb,hr];rfl
   unfold qTask
   rw[hrd]
   unfold jFnQ queFn at hK
   rcases hs with e|e
   ·rw[e]at hK ⊢
    simp at hK
    subst hK
    rw[if_pos rfl]
    by_cases h0:r<0
    ·rw[if_pos h0]
     exact JG (AreR ba s.2*capR bh x) ((mk_put_no bh ba y s.1 t mv r hr h0).dyn (fun w=>by kernel_rfl)) (by simp only[qkT];ac_rfl) (fun v=>by simp only[madeR,qkT];ac_rfl)
    ·rw[if_neg h0]
     exact JG (AreR ba s.2*capR bh x) ((mk_put bh ba y s.1 t mv r hr (by omega)).dyn (fun w=>by kernel_rfl)) (by simp only[qkT];ac_rfl) (fun v=>by simp only[madeR,qkT];ac_rfl)
   ·rw[e]at hK ⊢
    simp at hK
    subst hK
    rw[if_neg (by omega),if_pos rfl]
    by_cases h0:r<0
    ·rw[if_pos h0]
     exact JG (AreR ba s.2*capR bh x) ((mk_get_no bh ba y s.1 t mv r hr h0).dyn (fun w=>by kernel_rfl)) (by simp only[qkT];ac_rfl) (fun v=>by simp only[madeR,qkT];ac_rfl)
    ·rw[if_neg h0]
     exact JG (AreR ba s.2*capR bh x) ((mk_get bh ba y s.1 t mv r hr (by omega)).dyn (fun w=>by kernel_rfl)) (by simp only[qkT];ac_rfl) (fun v=>by simp only[madeR,qkT];ac_rfl)
  ·unfold jFnQ at hK
   rw[queFn_no hs,Option.none_or]at hK
   have e0:qTask s t mv=(Qr s t mv).map .hz:=by unfold qTask;rw[if_neg (by omega),if_neg (by omega)]
   rw[e0]
   refine JG (qcapR bh s.1.c y) ((hzT_kit bh ba n x).make mv.op u s t mv hK rfl ht hthr hok.k) (by simp only[qkT,hzT];ac_rfl) (fun v => ?_)
   cases Qr s t mv with
   | none=>simp only[Option.map_none,madeR,qkT,hzT];ac_rfl
   | some q=>simp only[Option.map_some,madeR,qkT,hzT,quR];ac_rfl
end
section
set_option maxHeartbeats 4000000
attribute [local irreducible] Go.Calls Go.wpList
theorem word_first1 (c:Cfg)(h:c.Ok):Does Tryz.prog 55 #[c.v,.int .i64 1] emp (fun v=>ex fun s=>pu (v=.tuple #[s,.int .i64 0])*sl 79 1 ((Q9 c 1).map eU) s):=by
 intro O w F hs
 have hS:=Lh (word_size c h)
 have hb10:=ZD h 10
 have hA:=Lh (word_addr c h 10 (by omega) (by omega) 0 ⟨by omega,by omega,by show 0<c.Sl;have:=h.S1;omega⟩)
 rw[if_neg (by omega)]at hA
 obtain⟨hc1,hc2⟩:=base_cells h
 have hb14:=ZD h 14
 have hs1:=h.S1
 have hs2:=h.S2
 have n1:decide (1>c.Sl)=false:=by simp;omega
 obtain⟨W0,hW0⟩:∃W0:List Int,W0=List.replicate (base c 14).toNat 0:=⟨_,rfl⟩
 have hrep:List.replicate (base c 14).toNat (Value.int .u64 0).cells.toList=W0.map eU:=by rw[hW0,List.map_replicate];rfl
 have hlen:W0.length=(base c 14).toNat:=by rw[hW0];simp
 have hl0:0<W0.length:=by omega
 have hg0:(W0.map eU)[0]? = some (eU 0):=by rw[hW0];simp[List.getElem?_replicate];omega
 have hln0:0<(W0.map eU).length:=by simp;omega
 have hfin:∀W1,W1=(if 1<c.Sl then W0.set 0 2 else W0)→Q9 c 1=((QR W1 (base c 10) 1 (c.Sl.toNat-1-1)).set 3 1).set 4 1:=by
  rintro W1 rfl
  simp only[Q9]
  rw[if_pos (by omega),←hW0]
  rfl
 have hfin:=Lh hfin
 have hz:∀W1,W1=(if 1<c.Sl then W0.set 0 2 else W0)→W1.length=(base c 14).toNat:=by
  rintro W1 rfl
  split
  ·rw[List.length_set,hlen]
  ·exact hlen
 have hz:=Lh hz
 clear hW0
 by_cases hS2:1<c.Sl
 case' pos=>
  have n2:decide (1<c.Sl)=true:=by simp;omega
  obtain⟨W1,hW1,e0⟩:∃W1:List Int,W1=(if 1<c.Sl then W0.set 0 2 else W0)∧Hid ((List.map eU W0).set 0 ((eU 0).set 0 (Value.int IntKind.u64 2))=W1.map eU):=⟨_,rfl,Lh (by rw[if_pos hS2];simp[Yk])⟩
 case' neg=>
  have n2:decide (1<c.Sl)=false:=by simp;omega
  obtain⟨W1,hW1,e0⟩:∃W1:List Int,W1=(if 1<c.Sl then W0.set 0 2 else W0)∧Hid (List.map eU W0=W1.map eU):=⟨_,rfl,Lh (by rw[if_neg hS2])⟩
 all_goals(
  have hF1:=Lh (hfin.out W1 hW1)
  have hz1:=Lh (hz.out W1 hW1)
  clear hW1 hz hfin hS2
  go_enter Tryz.func55,Tryz.ntmps55
  (repeat'(first|((with_reducible apply wl_pick);((simp only[ev,Ue,Uf]);rfl);((simp only[cond_true,cond_false,ev,Ue,Uf]);rfl);(with_reducible exact QX);simp only[Uc,Uz])|(go_big_may;(first|((show wpList _ _ _ (Oper.mk (some 2) _ _ _ _ _::_) _ _);(with_reducible apply Zt hs);rfl;rfl;rfl;clear hs;intro w bC hs;simp only[Uc,Uz])|(first|((with_reducible apply Zb hs);exact Ii;rfl;(with_reducible repeat first|exact Qh|apply Qk);rfl;rfl;simp only[Uc,Uz])|((with_reducible apply Qy hs);exact Ii;rfl;(with_reducible repeat first|exact Qh|apply Qk);rfl;rfl;simp only[Uc,Uz])|((with_reducible apply QO hs);exact Ii;rfl;rfl;assumption;(with_reducible exact Qh);rfl;(assumption);exact Vb rfl;rfl;rfl;clear hs;intro w hs)|((with_reducible apply Qe hs);exact Ii;exact Ii;rfl;rfl;(with_reducible exact Qh);rfl;(assumption);rfl;intro b off hat;simp only[Uc,Uz]))|(((with_reducible apply wl_mk hs);exact Ii;exact Ii;rfl;rfl;rfl;rfl;(exact(Int.toNat_of_nonneg (by omega)).symm);omega;exact Vb rfl;rfl;clear hs;intro w v hs;simp only[Uc,Uz]);rw[hrep]at hs)|(go_at_call 83;((refine(hS.out).at hs (by (focus((repeat(with_reducible exact Qn));done))) ?_);clear hs;intro w hs;(try simp only[Em,Ma]at hs)))|(go_at_call 67;((refine(hA.out).at hs (by (focus((repeat(with_reducible exact Qn));done))) ?_);clear hs;intro w hs;(try simp only[Em,Ma]at hs)))))|go_guarded|go_step|(dsimp only)))
  rw[e0.out]at hs
  have hlW:∀n,(QR W1 (base c 10) 1 n).length=(base c 14).toNat:=fun n=>by rw[fillW_len];exact hz1.out
  clear hg0 hln0 hl0 hrep hlen e0
  go_loopw [11] (fun q wr=>∃s:Nat,(1≤s∧(s:Int)≤c.Sl∧(s=1∨(s:Int)+1≤c.Sl))∧q=.int .i64 (s:Int)∧Sat O wr (sl 79 1 ((QR W1 (base c 10) 1 (s-1)).map eU) v*(pt bC (.cells #[.int .i64 c.T,.int .i64 c.R,.int .i64 c.Hz,.int .i64 c.Rt,.int .i64 c.Ca,.int .i64 c.Sl,.int .i64 c.Bu] 23)*F))) (fun q _=>1025-(intOf q).toNat)
  case atStart=>exact⟨1,⟨by omega,by omega,.inl rfl⟩,rfl,by ((with_reducible apply Sat.fin hs);(focus((repeat(first|with_reducible exact Ql|with_reducible apply Qb|exact Qh));done)))⟩
  case round=>
   obtain⟨s,⟨k0,k1,k2⟩,rfl,hs⟩:=hrel
   have hl:=hlW (s-1)
   by_cases hkr:(s:Int)<c.Sl-1
   ·have hlt:decide ((s:Int)<c.Sl-1)=true:=by simpa using hkr
    have hix:base c 10+(s:Int)<((QR W1 (base c 10) 1 (s-1)).length:Int):=by rw[hl];omega
    have hi2:(base c 10+(s:Int)).toNat<(QR W1 (base c 10) 1 (s-1)).length:=by omega
    obtain⟨x,hx⟩:∃x,(QR W1 (base c 10) 1 (s-1))[(base c 10+(s:Int)).toNat]? = some x:=⟨_,Yd hi2⟩
    have hgx:((QR W1 (base c 10) 1 (s-1)).map eU)[(base c 10+(s:Int)).toNat]? = some (eU x):=by rw[Ym,hx];rfl
    have hi3:(base c 10+(s:Int)).toNat<((QR W1 (base c 10) 1 (s-1)).map eU).length:=by rw[List.length_map];exact hi2
    have hw3:((s:Int)+2)%18446744073709551616=(s:Int)+2:=by omega
    have e1:Hid ((List.map eU (QR W1 (base c 10) 1 (s-1))).set (base c 10+(s:Int)).toNat [Value.int IntKind.u64 ((s:Int)+2)]=(QR W1 (base c 10) 1 (s+1-1)).map eU):=Lh (by
     obtain⟨n,rfl⟩:∃n,s=n+1:=⟨s-1,by omega⟩
     simp only[Nat.add_sub_cancel,QR,Yk]
     rw[show((1+n:Nat):Int)=((n+1:Nat):Int) by omega,show((1+n+2:Nat):Int)=((n+1:Nat):Int)+2 by omega])
    have hK:=Lh (show 1≤s+1∧((s+1:Nat):Int)≤c.Sl∧(s+1=1∨((s+1:Nat):Int)+1≤c.Sl) by omega)
    have hKs:=Lh (show s<1024 by omega)
    (repeat'(first|(go_big_may;(first|((with_reducible apply Zb hs);exact Ii;rfl;(with_reducible repeat first|exact Qh|apply Qk);rfl;rfl;simp only[Uc,Uz])|((with_reducible apply QO hs);exact Ii;rfl;rfl;assumption;(with_reducible exact Qh);rfl;(assumption);exact Vb rfl;rfl;rfl;clear hs;intro w hs)|((with_reducible apply Jv hs);exact Ii;exact Ii;rfl;assumption;rfl;(with_reducible exact Qh);(exact(Int.toNat_of_nonneg (by omega)).symm);(assumption);rfl;simp only[Uc,Uz])|((with_reducible apply Qe hs);exact Ii;exact Ii;rfl;rfl;(with_reducible exact Qh);(exact(Int.toNat_of_nonneg (by omega)).symm);(assumption);rfl;intro b off hat;simp only[Uc,Uz])))|go_step))
    have e2:(List.map eU (QR W1 (base c 10) 1 (s-1))).set (base c 10+(s:Int)).toNat ((eU x).set 0 (Value.int IntKind.u64 ((s:Int)+2)))=(QR W1 (base c 10) 1 (s+1-1)).map eU:=e1.out
    (rw[e2]at hs)
    go_roundw
    case rel=>exact⟨s+1,hK.out,by simp,by ((with_reducible apply Sat.fin hs);(with_reducible exact Ql))⟩
    case measure=>have:=hKs.out;simp[intOf];omega
   ·have hlt:decide ((s:Int)<c.Sl-1)=false:=by simpa using hkr
    have hN:Hid (s-1=c.Sl.toNat-1-1):=Lh (by omega)
    have hl3:3<(QR W1 (base c 10) 1 (s-1)).length:=by omega
    have hl4:4<(QR W1 (base c 10) 1 (s-1)).length:=by omega
    obtain⟨y3,h3⟩:∃x,(QR W1 (base c 10) 1 (s-1))[3]? = some x:=⟨_,Yd hl3⟩
    obtain⟨y4,h4⟩:∃x,(QR W1 (base c 10) 1 (s-1))[4]? = some x:=⟨_,Yd hl4⟩
    have hg3:((QR W1 (base c 10) 1 (s-1)).map eU)[3]? = some (eU y3):=by rw[Ym,h3];rfl
    have hg4:(((QR W1 (base c 10) 1 (s-1)).map eU).set 3 [.int .u64 1])[4]? = some (eU y4):=by rw[Yf (by omega),Ym,h4];rfl
    have hm3:3<((QR W1 (base c 10) 1 (s-1)).map eU).length:=by rw[List.length_map];exact hl3
    have hm4:4<(((QR W1 (base c 10) 1 (s-1)).map eU).set 3 [.int .u64 1]).length:=by rw[List.length_set,List.length_map];exact hl4
    have e3:Hid ((((QR W1 (base c 10) 1 (s-1)).map eU).set 3 [.int .u64 1]).set 4 [.int .u64 1]=(Q9 c 1).map eU):=Lh (by
     rw[hF1.out,←hN.out,Yk,Yk])
    have e4:Hid ((((QR W1 (base c 10) 1 (s-1)).map eU).set 3 ((eU y3).set 0 (.int .u64 1))).set 4 ((eU y4).set 0 (.int .u64 1))=(Q9 c 1).map eU):=Lh e3.out
    clear hl3 hl4 h3 h4
    (repeat'(first|(go_big_may;(first|((with_reducible apply Zb hs);exact Ii;rfl;(with_reducible repeat first|exact Qh|apply Qk);rfl;rfl;simp only[Uc,Uz])|((with_reducible apply QO hs);exact Ii;rfl;rfl;assumption;(with_reducible exact Qh);rfl;(assumption);exact Vb rfl;rfl;rfl;clear hs;intro w hs)|((with_reducible apply Jv hs);exact Ii;exact Ii;rfl;assumption;rfl;(with_reducible exact Qh);rfl;(assumption);rfl;simp only[Uc,Uz])|((with_reducible apply Qe hs);exact Ii;exact Ii;rfl;rfl;(with_reducible exact Qh);rfl;(assumption);rfl;intro b off hat;simp only[Uc,Uz])))|go_step))
    (rw[e4.out]at hs)
    (go_ret2)
    refine⟨_,rfl,?_⟩
    simp only[ZG,Ma,Zz]
    exact⟨_,rfl,by ((with_reducible apply Sat.fin hs);(focus((repeat(first|with_reducible exact Ql|with_reducible apply Qb|exact Qh|with_reducible apply Qk));done)))⟩)
end
section
set_option maxHeartbeats 4000000
attribute [local irreducible] Go.Calls
def are1 (c:Cfg):Are:=⟨c,(List.replicate c.Sl.toNat ⟨0,-1⟩).set 0 ⟨3,-1⟩,List.replicate c.T.toNat []⟩
def slM (S n:Nat):List Slt:=if n=0 then slN S 0 else (slN S n).set 0 ⟨3,-1⟩
theorem slM_len {S n:Nat}(h:n≤S):(slM S n).length=S:=by
 unfold slM
 split
 ·exact slN_len (by omega)
 ·rw[List.length_set];exact slN_len h
theorem slM_get {S n:Nat}(h:n<S):(slM S n)[n]? = some ⟨0,0⟩:=by
 unfold slM
 split
 ·rename_i e;subst e;exact slN_get h
 ·rename_i e;rw[Yf (by omega)];exact slN_get h
theorem slM_set {S n:Nat}(h:n<S)(hn:n≠0):(slM S n).set n ⟨0,-1⟩=slM S (n+1):=by
 unfold slM
 rw[if_neg hn,if_neg (by omega),List.set_comm _ _ (by omega),slN_set h]
theorem slM_set0 {S:Nat}(h:0<S):(slM S 0).set 0 ⟨3,-1⟩=slM S (0+1):=by
 unfold slM
 rw[if_pos rfl,if_neg (by omega),←slN_set h,Yl]
theorem arena_new1 (c:Cfg)(h:c.Ok) :
  Does Tryz.prog 53 #[c.v,.int .i64 1] emp (fun u=>ex fun g=>pu (u=.tuple #[.pointer (some ⟨g,0,none⟩),.int .i64 0])*AreR g (are1 c)):=by
 intro O w F hs
 have hC:=Lh (word_check c h)
 have h1:=h.S1;have h2:=h.S2;have h3:=h.T1;have h4:=h.T2
 have n1:decide (1>c.Sl)=false:=by simp;omega
 go_enter Tryz.func53,Tryz.ntmps53
 go_wp2_with (first|(with_reducible first|apply NQ.mk|apply EQ.mk|exact Zg|apply Zj)|((with_reducible apply Zi);rfl;rfl)|((with_reducible refine Zn ?_ ?_);focus((with_reducible apply ZI);rfl;rfl))|(show Qd _ _ _;rfl)|((with_reducible apply Zb hs);exact Ii;rfl;(with_reducible repeat first|exact Qh|apply Qk);rfl;rfl;simp only[Uc,Uz])|((with_reducible apply Qy hs);exact Ii;rfl;(with_reducible repeat first|exact Qh|apply Qk);rfl;rfl;simp only[Uc,Uz])|((with_reducible apply Zt hs);rfl;rfl;rfl;clear hs;intro w b hs;simp only[Uc,Uz])|((with_reducible apply ZS hs);exact Ii;rfl;(with_reducible repeat first|exact Qh|apply Qk);rfl;simp only[Uc,Uz])|(((with_reducible apply wl_mk hs);exact Ii;exact Ii;rfl;rfl;rfl;rfl;(exact(Int.toNat_of_nonneg (by omega)).symm);omega;exact Vb rfl;rfl;clear hs;intro w v hs;simp only[Uc,Uz]);(obtain⟨_,_,rfl⟩:=QY hs);(simp only[List.length_replicate]at hs ⊢))|(first|((with_reducible refine plt_leaf ?_);(try simp only[Yi,Yj]))|((with_reducible refine plt_one ?_);(try simp only[Yi,Yj]))|((with_reducible refine plt_two ?_);(try simp only[Yi,Yj]))|((with_reducible apply te_eff);rfl)|(with_reducible refine Two.mk ?_ ?_))|((with_reducible refine wp_tree_sat (id:=6) (.two [0,1,2,4,5] 3 [0,4,5] (.one [] 6 [0,1,2] (.one [7] 8 [] (.leaf [9]))) 6 [0,1,2] (.one [] 3 [0,4,5] (.one [7] 8 [] (.leaf [9])))) hs rfl ?_ ?_);kernel_rfl;clear hs;intro w hs)|(go_at_call 82;((refine(hC.out).at hs (by (focus((repeat(with_reducible exact Qn));done))) ?_);clear hs;intro w hs;(try simp only[Em,Ma]at hs))))
 all_goals
  have e1:List.replicate c.Sl.toNat (Value.agg #[Value.int IntKind.i64 0,Value.int IntKind.i64 0]).cells.toList=(slM c.Sl.toNat 0).map Slt.e:=by unfold slM;rw[if_pos rfl];unfold slN;rw[List.replicate_zero,List.nil_append,List.map_replicate,Nat.sub_zero];rfl
  have e2:List.replicate c.T.toNat (Value.slice none 0 0).cells.toList=List.replicate c.T.toNat [.slice none 0 0]:=rfl
  rw[e1,e2]at hs
  replace hs:=nest_nil (E0:=3) (hs.pull (A:=sl 33 1 (List.replicate c.T.toNat [.slice none 0 0]) _) (by (with_reducible repeat first|exact Qh|apply Qk)))
  clear e1 e2
  go_loopw [36] (fun q wr=>∃(n:Nat) (v1 v2:Value),n≤c.Sl.toNat∧q=.int .i64 (n:Int)∧Sat O wr (pt b (.cells #[.int .i64 c.T,.int .i64 c.R,.int .i64 c.Hz,.int .i64 c.Rt,.int .i64 c.Ca,.int .i64 c.Sl,.int .i64 c.Bu,v1,v2] 160) *
   (sl 162 2 ((slM c.Sl.toNat n).map Slt.e) v1*(nest 33 3 (List.replicate c.T.toNat []) v2*F)))) (fun q _=>1025-(intOf q).toNat)
  case atStart=>exact⟨0,_,_,by omega,rfl,by (with_reducible apply Sat.fin hs;repeat first|exact Ql|exact Qh|apply Qb|apply Qk)⟩
  case round=>
   obtain⟨n,v1,v2,k1,rfl,hs⟩:=hrel
   by_cases hkr:n=c.Sl.toNat
   ·have hlt:decide ((n:Int)<(c.Sl.toNat:Int))=false:=by simp;omega
    go_wp2_with (fail)
    (go_ret2)
    refine⟨_,rfl,?_⟩
    simp only[ZG,Ma,Zz]
    refine⟨_,rfl,?_⟩
    have e3:slM c.Sl.toNat n=(are1 c).slots:=by unfold slM are1 slN;rw[hkr,if_neg (by omega)];simp
    rw[e3]at hs
    apply areR_mk
    ((with_reducible apply Sat.fin hs);(focus((repeat(first|with_reducible exact Ql|with_reducible exact Qh|with_reducible apply Qb|exact Qh));done)))
   ·have hlt:decide ((n:Int)<(c.Sl.toNat:Int))=true:=by simp;omega
    have hl:=slM_len (S:=c.Sl.toNat) (n:=n) (by omega)
    have hln:n<(slM c.Sl.toNat n).length:=by omega
    have hn0:decide ((n:Int)<0)=false:=by simp
    have hg:=slM_get (S:=c.Sl.toNat) (n:=n) (by omega)
    by_cases hn:n=0
    ·have hst0:(slM c.Sl.toNat n).set n ⟨3,-1⟩=slM c.Sl.toNat (n+1):=by rw[hn];exact slM_set0 (by omega)
     have hst0:=Lh hst0
     have hn1:decide ((n:Int)<1)=true:=by simp;omega
     have hg2:(((slM c.Sl.toNat n).map Slt.e).set n [.int .i64 0,.int .i64 (-1)])[n]? = some [.int .i64 0,.int .i64 (-1)]:=by rw[Ye (by simpa using hln)]
     have hln2:n<(((slM c.Sl.toNat n).map Slt.e).set n [.int .i64 0,.int .i64 (-1)]).length:=by simpa using hln
     generalize slM c.Sl.toNat n=X at hs hg hst0 hl hln hg2 hln2
     have hn7:=Lh hn
     clear h hn
     (repeat'(first|(go_big_may;(first|((with_reducible apply Zb hs);exact Ii;rfl;(with_reducible repeat first|exact Qh|apply Qk);rfl;rfl;simp only[Uc,Uz])|((with_reducible apply QO hs);exact Ii;rfl;rfl;assumption;(with_reducible exact Qh);rfl;(assumption);exact Vb rfl;rfl;rfl;clear hs;intro w hs)|((with_reducible apply wl_stSN (k:=0) hs);exact Ii;rfl;rfl;assumption;(with_reducible repeat first|exact Qh|apply Qk);(exact(Nat.add_zero _).symm);(exact Ze (by assumption));exact Vb rfl;rfl;rfl;rfl;rfl;clear hs;intro w hs;simp only[List.take_succ_cons,List.take_zero,List.drop_succ_cons,List.drop_zero,List.cons_append,List.nil_append,List.append_nil]at hs)|((with_reducible apply Jv hs);exact Ii;exact Ii;rfl;assumption;rfl;(with_reducible exact Qh);rfl;(assumption);rfl;simp only[Uc,Uz])|((with_reducible apply Qe hs);exact Ii;exact Ii;rfl;rfl;(with_reducible repeat first|exact Qh|apply Qk);rfl;(simp only[Wm,Ws,Wa,Wc,Wn,Wr]at *;omega);rfl;intro b off hat;simp only[Uc,Uz])))|go_step))
     have e5:((List.map Slt.e X).set n [Value.int IntKind.i64 0,Value.int IntKind.i64 (-1)]).set n ([Value.int IntKind.i64 0,Value.int IntKind.i64 (-1)].set 0 (Value.int IntKind.i64 3))=(slM c.Sl.toNat (n+1)).map Slt.e:=by
      rw[←hst0.out,Yk,Yl];rfl
     rw[e5]at hs
     go_roundw
     case rel=>exact⟨n+1,_,_,by omega,by simp,by (with_reducible apply Sat.fin hs;repeat first|exact Ql|exact Qh|apply Qb|apply Qk)⟩
     case measure=>simp[intOf];omega
    ·have hn1:decide ((n:Int)<1)=false:=by simp;omega
     have hst:=slM_set (S:=c.Sl.toNat) (n:=n) (by omega) hn
     generalize slM c.Sl.toNat n=X at hs hg hst hl hln
     have hst:=Lh hst
     clear h
     go_wp2_with (first|((with_reducible apply Zb hs);exact Ii;rfl;(with_reducible exact Qh);rfl;rfl;simp only[Uc,Uz])|((with_reducible apply wl_stSN (k:=0) hs);exact Ii;rfl;rfl;assumption;(with_reducible repeat first|exact Qh|apply Qk);(exact(Nat.add_zero _).symm);(exact Ze (by assumption));exact Vb rfl;rfl;rfl;rfl;rfl;clear hs;intro w hs;simp only[List.take_succ_cons,List.take_zero,List.drop_succ_cons,List.drop_zero,List.cons_append,List.nil_append,List.append_nil]at hs)|((with_reducible apply Qe hs);exact Ii;exact Ii;rfl;rfl;(with_reducible repeat first|exact Qh|apply Qk);rfl;(simp only[Wm,Ws,Wa,Wc,Wn,Wr]at *;omega);rfl;intro b off hat;simp only[Uc,Uz]))
     go_roundw
     case rel=>exact⟨n+1,_,_,by omega,by simp,by rw[←hst.out];((try simp only[Yh,Yi,Yj,Yk,Yl]);(try simp only[Yh,Yi,Yj,Yk,Yl]at hs);(with_reducible apply Sat.fin hs;repeat first|exact Ql|exact Qh|apply Qb|apply Qk))⟩
     case measure=>simp[intOf];omega
end
end Go.Proofs.YtefjbdajgakgpaaGreat
