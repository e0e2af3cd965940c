/-
  What a machine computes does not depend on where its parts stand in memory.
-/
import Derived.Test.YtefjbdajgakgpaaGreatAInv5
import Derived.Test.YtefjbdajgakgpaaGreatAGen
import Derived.Test.YtefjbdajgakgpaaGreatAQueU
import Derived.Test.YtefjbdajgakgpaaGreatAJoin
import Derived.Test.YtefjbdajgakgpaaGreatAInv
set_option linter.all false
namespace Go.Proofs.YtefjbdajgakgpaaGreat
open Go.RowKit Hp
set_option maxRecDepth 100000
set_option maxHeartbeats 1000000
section
attribute [local irreducible] Go.Calls
def Sea.er (s:Sea):Sea:={ s with task:=.nilIface }
def Mch.er (m:Mch):Mch:={ m with kit:=.nilIface,vs:=.nilIface,vc:=.nilIface,seats:=m.seats.map Sea.er }
section
variable {α β γ:Type}
def er3 (r:Bool×α×Mch×β):Bool×α×Mch×β:=(r.1,r.2.1,r.2.2.1.er,r.2.2.2)
def er4 (r:Bool×α×β×Mch×γ):Bool×α×β×Mch×γ:=(r.1,r.2.1,r.2.2.1,r.2.2.2.1.er,r.2.2.2.2)
def er2 (r:Bool×Mch×β):Bool×Mch×β:=(r.1,r.2.1.er,r.2.2)
theorem Jk {p:Prop}[Decidable p](x y:Bool×α×Mch×β):er3 (if p then x else y)=if p then er3 x else er3 y:=by split<;>rfl
theorem er4_ite {p:Prop}[Decidable p](x y:Bool×α×β×Mch×γ):er4 (if p then x else y)=if p then er4 x else er4 y:=by split<;>rfl
theorem er2_ite {p:Prop}[Decidable p](x y:Bool×Mch×β):er2 (if p then x else y)=if p then er2 x else er2 y:=by split<;>rfl
end
variable (h:Haz)(a:Are)(m:Mch)(i t:Nat)
theorem er_word (i:Nat):m.er.word i=m.word i:=rfl
theorem er_load (u:Int):m.er.load i u=(m.load i u).er:=rfl
theorem er_store (u z:Int):m.er.store i u z=(m.store i u z).er:=rfl
theorem er_swap (u o z:Int):m.er.swap i u o z=(m.swap i u o z).er:=rfl
theorem er_shift (s f t:Int):m.er.shift s f t=(m.shift s f t).er:=rfl
theorem er_point (c:Cll)(z:Int):m.er.point i c z=(m.point i c z).er:=rfl
theorem er_thread:m.er.thread=m.thread:=rfl
theorem er_now:m.er.now=m.now:=rfl
theorem er_answer (s:Sea)(k v:Int):m.er.answer t s.er k v=(m.answer t s k v).er:=by
 simp only[Mch.answer,Mch.er,Yk];rfl
theorem er_prep (now:Int)(s:Sea):m.er.prep t i now s.er=(m.prep t i now s).er:=by
 simp only[Mch.prep,Mch.er,Yk];rfl
theorem er_push (p:Psh):Zi a m.er p=er3 (Zi a m p):=by
 simp only[Zi,er_word,er_load,er_store,er_swap,er_shift,er_thread,Jk];rfl
theorem er_give (p:Psh):Zr a m.er p=er3 (Zr a m p):=by
 simp only[Zr,er_shift,er_thread,Jk];rfl
def er5 {α β γ:Type}(r:Bool×α×β×γ×Mch):Bool×α×β×γ×Mch:=(r.1,r.2.1,r.2.2.1,r.2.2.2.1,r.2.2.2.2.er)
theorem er5_ite {α β γ:Type}{p:Prop}[Decidable p](x y:Bool×α×β×γ×Mch):er5 (if p then x else y)=if p then er5 x else er5 y:=by split<;>rfl
theorem er_free (th:Int):∀(l:List Int) (g:Option Psh) (a:Are) (m:Mch),ZG th l g a m.er=er5 (ZG th l g a m)
 | [],g,a,m=>rfl
 | s::r,g,a,m=>by
  unfold ZG
  rw[er_give,er5_ite]
  simp only[er3]
  rw[er_free th r]
  rfl
theorem er_takeReady (k:Tak):Zj a m.er k=er3 (Zj a m k):=by
 simp only[Zj,takeGot,er_shift,er_thread,Jk];rfl
theorem er_take (k:Tak):Zp a m.er k=er3 (Zp a m k):=by
 simp only[Zp,takeGot,er_word,er_load,er_swap,er_shift,er_thread,Jk];rfl
theorem er_try (s:Scn):scanTry h m.er s=er2 (scanTry h m s):=by
 simp only[scanTry,er_word,er_load,er2_ite];rfl
theorem er_stake (s:Scn):Qw h m.er s=er3 (Qw h m s):=by
 simp only[Qw,er_word,er_swap,Jk];rfl
theorem er_look (s:Scn):QT h a m.er s=er4 (QT h a m s):=by
 have e1:(Jf h m.er s).1=(Jf h m s).1.er:=rfl
 have e2:(Jf h m.er s).2=(Jf h m s).2:=rfl
 unfold QT
 rw[e1,e2]
 dsimp only
 rw[er_free,er4_ite]
 rfl
theorem er_sgive (s:Scn)(p:Psh):Qx h a m.er s p=er3 (Qx h a m s p):=by
 simp only[Qx,er_push,Jk]
 simp only[er3,er_free];rfl
theorem er_scan (s:Scn):Zq h a m.er s=er4 (Zq h a m s):=by
 unfold Zq
 simp only[er4_ite]
 congr 1
 ·rw[er_try];rfl
 congr 1
 ·rw[er_stake];rfl
 congr 1
 congr 1
 ·exact er_look ..
 ·split
  ·rw[er_sgive];rfl
  ·rfl
theorem er_retire (r:Ret):Zv h a m.er r=er4 (Zv h a m r):=by
 simp only[Zv,er_shift,er_thread,er4_ite];rfl
theorem er_reg (s:Sea)(r:Reg):Z3 h m.er t s.er r=er3 (Z3 h m t s r):=by
 simp only[Z3,QK,er_word,er_load,er_swap,er_answer,Jk];rfl
theorem er_flush (p:Psh):ZF a m.er p=er3 (ZF a m p):=by
 simp only[ZF,er_push,Jk];rfl
theorem er_unr (u:Unr):Zz h a m.er u=er4 (Zz h a m u):=by
 unfold Zz
 simp only[er_word,er_store,er4_ite]
 congr 1
 congr 1
 ·split
  ·rfl
  ·simp only[er_scan,er4_ite];rfl
 congr 1
 split
 ·rfl
 ·simp only[er_flush];rfl
theorem er_read (c:Cll)(s:Sea)(r:Rdg):Z5 h m.er i t c s.er r=er2 (Z5 h m i t c s r):=by
 simp only[Z5,Qy,er_word,er_load,er_store,er_point,er_now,er_answer,er2_ite];rfl
theorem er_took (c:Cll)(s:Sea)(p:Pst)(k:Tak):ZS m.er i t c s.er p k=er2 (ZS m i t c s p k):=by
 simp only[ZS,er_point,er_now,er_answer,er2_ite];rfl
theorem er_postReady (c:Cll)(s:Sea)(p:Pst):ZL a m.er i t c s.er p=er3 (ZL a m i t c s p):=by
 simp only[ZL,er_takeReady,Jk]
 simp only[er3,er_took];rfl
theorem er_post (c:Cll)(s:Sea)(p:Pst):ZT h a m.er i t c s.er p=er4 (ZT h a m i t c s p):=by
 unfold ZT
 split
 ·rfl
 ·simp only[er4_ite,er_take,er_word]
  congr 1
  ·simp only[er3,er_took];rfl
  congr 1
  congr 1
  congr 1
  ·congr 1
   simp only[er_swap,Ji,er_point,er_answer,er_now,er_shift,er_thread,er_retire,er4_ite];rfl
  ·split
   ·rfl
   ·split
    ·rfl
    ·rw[er_scan];rfl
theorem er_rdy (s:Haz×Are)(c:Cll)(se:Sea)(k:Q3):Qz s m.er i t c se.er k=er3 (Qz s m i t c se k):=by
 cases k<;>first|rfl|(simp only[Qz,er_postReady];rfl)
theorem er_stp (s:Haz×Are)(c:Cll)(se:Sea)(k:Q3):QA s m.er i t c se.er k=er3 (QA s m i t c se k):=by
 cases k<;>first|rfl|(simp only[QA,er_reg,er_unr,er_read,er_post,er_scan];rfl)
theorem er_getC:getC m.er i=getC m i:=rfl
theorem er_getS:getS m.er t=(getS m t).er:=by
 simp only[getS,Mch.er,Yb,Ym]
 cases m.seats[t]? <;> rfl
theorem er_end (c:Cll)(s:Sea)(now:Int)(b:Bool):Qv m.er t i now c s.er b=(Qv m t i now c s b).er:=by
 unfold Qv
 split
 ·simp only[Mch.er,Yk];rfl
 ·rfl
theorem kitFn_none {x:Caps}{op:Int}:kitFn x op=none↔op<20∨25<op:=by
 unfold kitFn
 constructor
 ·intro h
  repeat(split at h;· cases h)
  omega
 ·intro h
  rw[if_neg (by omega),if_neg (by omega),if_neg (by omega),if_neg (by omega),if_neg (by omega),if_neg (by omega)]
end
section
attribute [local irreducible] Go.Calls
section
variable {τ:Type}(rdy stp:Haz×Are→Mch→Nat→Nat→Cll→Sea→τ→GR τ)
def gT:Tasks (Haz×Are) τ:=⟨fun _=>emp,fun _ _=>emp,rdy,stp,fun _ _ _ _=>True,fun _ _ _ _=>True⟩
def gEr (y:GW τ):GW τ:={ y with m:=y.m.er }
def gMove (known:Int→Bool)(mkr:Haz×Are→Nat→Mv→Option τ)(y:GW τ)(mv:Mv):GW τ:=
 if mv.thread<0∨(y.tasks.length:Int)≤mv.thread then y.tick
 else match y.tasks.getD mv.thread.toNat none with
  | none=>
   if mv.op=0 then y.tick
   else if known mv.op=false then y.tick
   else match mkr y.s mv.thread.toNat mv with
    | none=>y.tick
    | some k=>⟨y.s,ZN y.m mv.thread.toNat mv .nilIface .nilIface,y.tasks.set mv.thread.toNat (some k)⟩
  | some k=>
   if mv.op≠0 then y.tick
   else
    let se:=getS y.m mv.thread.toNat
    let r:=ZU (gT rdy stp) y.s y.tick.m se.last.toNat mv.thread.toNat (getC y.m se.last.toNat) se k y.m.moves
    ⟨r.1,r.2.1,y.tasks.set mv.thread.toNat r.2.2⟩
end
section
variable {τ:Type}{T:Tasks (Haz×Are) τ}{mkr:Haz×Are→Nat→Mv→Option τ}
structure ErOk (T:Tasks (Haz×Are) τ):Prop where
 rdy:∀s m i t c se k,T.rdy s m.er i t c se.er k=er3 (T.rdy s m i t c se k)
 stp:∀s m i t c se k,T.stp s m.er i t c se.er k=er3 (T.stp s m i t c se k)
theorem g_stepReady (H:ErOk T)(s:Haz×Are)(m:Mch)(i t:Nat)(c:Cll)(se:Sea)(k:τ)(now:Int):Zn (gT T.rdy T.stp) s m.er i t c se.er k now=er3 (Zn T s m i t c se k now):=by
 unfold Zn
 rw[Jk]
 congr 1
 ·rw[er_prep];exact H.rdy s _ i t c { se with ready:=true } k
 ·rw[er_prep];rfl
theorem g_stepMore (H:ErOk T)(i t:Nat)(r:GR τ):QR (gT T.rdy T.stp) i t (er3 r)=er3 (QR T i t r):=by
 unfold QR
 rw[Jk]
 congr 1
 simp only[er3,er_getC,er_getS]
 exact H.stp ..
theorem gMove_of (H:ErOk T){K:Int→Option Value}{known:Int→Bool}(hK:∀o,K o≠none↔known o=true){y y':GW τ}{mv:Mv}{b:Bool}(h:MoveTo T K mkr y mv b y'):gEr y'=gMove T.rdy T.stp known mkr (gEr y) mv:=by
 have key:∀(t:Nat) (o:Option τ),mv.thread=(t:Int)→y.tasks[t]? = some o→(gEr y).tasks.getD mv.thread.toNat none=o∧¬(mv.thread<0∨((gEr y).tasks.length:Int)≤mv.thread):=by
  intro t o ht hk
  have hl:=(List.getElem?_eq_some_iff.1 hk).1
  refine⟨?_,?_⟩
  ·rw[ht,Yo,Yb]
   show(y.tasks[t]?).getD none=o
   rw[hk];rfl
  ·show ¬(mv.thread<0∨(y.tasks.length:Int)≤mv.thread)
   omega
 cases h with
 | out h=>unfold gMove;rw[if_pos (by exact h)];rfl
 | idle t ht hop hk=>
  obtain⟨e,hn⟩:=key t _ ht hk
  unfold gMove
  rw[if_neg hn,e]
  simp only[]
  rw[if_pos hop]
  rfl
 | busy t k ht hop hk=>
  obtain⟨e,hn⟩:=key t _ ht hk
  unfold gMove
  rw[if_neg hn,e]
  simp only[]
  rw[if_pos hop]
  rfl
 | nokit t ht hop hk hKn=>
  obtain⟨e,hn⟩:=key t _ ht hk
  unfold gMove
  rw[if_neg hn,e]
  simp only[]
  rw[if_neg hop,if_pos (by cases hq:known mv.op with|false=>rfl|true=>exact absurd hKn ((hK _).2 hq))]
  rfl
 | refused t ht hop hk hKn hm=>
  obtain⟨e,hn⟩:=key t _ ht hk
  have hm2:mkr (gEr y).s mv.thread.toNat mv=none:=by rw[ht,Yo];exact hm
  unfold gMove
  rw[if_neg hn,e]
  simp only[]
  rw[if_neg hop,if_neg (by rw[(hK _).1 hKn];simp),hm2]
  rfl
 | begin_ t k v vc ht hop hk hKn hm=>
  obtain⟨e,hn⟩:=key t _ ht hk
  have hm2:mkr (gEr y).s mv.thread.toNat mv=some k:=by rw[ht,Yo];exact hm
  unfold gMove
  rw[if_neg hn,e]
  simp only[]
  rw[if_neg hop,if_neg (by rw[(hK _).1 hKn];simp),hm2]
  rw[ht,Yo]
  simp only[gEr,ZN,Mch.er,Yk]
  rfl
 | step t i c se k ht hop hk hse hl hc=>
  obtain⟨e,hn⟩:=key t _ ht hk
  unfold gMove
  rw[if_neg hn,e]
  simp only[]
  rw[if_neg (by simpa using hop)]
  have e1:getS (gEr y).m mv.thread.toNat=se.er:=by
   rw[ht,Yo]
   show getS y.m.er t=_
   rw[er_getS]
   simp[getS,Yb,hse]
  have e2:getC (gEr y).m se.er.last.toNat=c:=by
   show getC y.m.er se.last.toNat=c
   rw[hl,Yo,er_getC]
   simp[getC,Yb,hc]
  have e3:se.er.last.toNat=i:=by show se.last.toNat=i;omega
  rw[e1,e2,e3,ht,Yo]
  have e4:ZU (gT T.rdy T.stp) (gEr y).s (gEr y).tick.m i t c se.er k (gEr y).m.moves=((ZU T y.s y.tick.m i t c se k y.m.moves).1,(ZU T y.s y.tick.m i t c se k y.m.moves).2.1.er,(ZU T y.s y.tick.m i t c se k y.m.moves).2.2):=by
   have h1:=g_stepReady H y.s y.tick.m i t c se k y.m.moves
   have h2:=g_stepMore H i t (Zn T y.s y.tick.m i t c se k y.m.moves)
   rw[←h1]at h2
   unfold ZU
   simp only[]
   have h3:QR (gT T.rdy T.stp) i t (Zn (gT T.rdy T.stp) (gEr y).s (gEr y).tick.m i t c se.er k (gEr y).m.moves)=er3 (QR T i t (Zn T y.s y.tick.m i t c se k y.m.moves)):=h2
   rw[h3]
   simp only[er3,er_getC,er_getS,er_end];rfl
  simp only[e4]
  rfl
end
end
section
attribute [local irreducible] Go.Calls Go.wpList
structure QCaps where
 c1:Nat
 c4:Nat
def placeR (bh:Nat)(c:Cfg)(g:Nat):Zb:=pt g (.cells #[.pointer (some ⟨bh,0,none⟩),.int .i64 (adr c 4 0:Nat),.int .i64 (adr c 5 0:Nat),.int .i64 (base c 11),.int .i64 (base c 13)] 130)
def qcapR (bh:Nat)(c:Cfg)(x:QCaps):Zb:=Z7 bh x.c1*placeR bh c x.c4
def queFn (x:QCaps):Int→Option Value:=fun op=>
 if op=41 then some (.func (.func 70) #[] #[.pointer (some ⟨x.c1,0,none⟩),.pointer (some ⟨x.c4,0,none⟩)])
 else if op=40 then some (.func (.func 68) #[] #[.pointer (some ⟨x.c1,0,none⟩),.pointer (some ⟨x.c4,0,none⟩)]) else none
theorem qkit_mk {bh ba:Nat}{h:Haz}{a:Are}{v:Value}{O w:World}{F:Zb}{c1 c4:Nat}(hs:Sat O w (mp .i64 (queFn ⟨c1,c4⟩) v*(HazR bh ba h*(AreR ba a*(qcapR bh a.c ⟨c1,c4⟩*F))))):Sat O w ((ex fun x=>mp .i64 (queFn x) v*(HazR bh ba h*(AreR ba a*qcapR bh a.c x)))*F):=by
 simp only[ZA,Ma]
 exact⟨_,hs⟩
theorem que_kit (bh ba:Nat)(h:Haz)(a:Are)(hok:a.c.Ok) :
  Does Tryz.prog 27 #[.pointer (some ⟨bh,0,none⟩)] (HazR bh ba h*AreR ba a) (fun v=>ex fun x=>mp .i64 (queFn x) v*(HazR bh ba h*(AreR ba a*qcapR bh a.c x))):=by
 intro O w F hs
 simp only[Ma]at hs
 have hA:=Lh (que_arena bh ba h)
 have hG:=Lh (arena_config ba a)
 have hAd:∀r:Nat,1≤r→r≤13→r≠9→0<many a.c r→Zh Tryz.prog 67 #[a.c.v,.agg #[.int .i64 (r:Int),.int .i64 0,.int .i64 0]] emp (.tuple #[.int .i64 (base a.c r),.int .i64 0]) emp:=fun r h1 h2 h9 hm=>by
  have:=word_addr a.c hok r h1 h2 0 ⟨by omega,by omega,hm⟩
  rw[if_neg h9,Int.add_zero]at this
  exact this
 have e4:base a.c 4=((adr a.c 4 0:Nat):Int):=by have:=adr_eq hok 4 (i:=0) (by omega);omega
 have e5:base a.c 5=((adr a.c 5 0:Nat):Int):=by have:=adr_eq hok 5 (i:=0) (by omega);omega
 have hS:=hok.S1
 have h4:=hAd 4 (by omega) (by omega) (by omega) (by show(0:Int)<1;omega)
 have h5:=hAd 5 (by omega) (by omega) (by omega) (by show(0:Int)<1;omega)
 have h11:=hAd 11 (by omega) (by omega) (by omega) (by show 0<a.c.Sl;omega)
 have h13:=hAd 13 (by omega) (by omega) (by omega) (by show 0<a.c.Sl;omega)
 rw[e4]at h4
 rw[e5]at h5
 have H4:=Lh h4;have H5:=Lh h5;have H11:=Lh h11;have H13:=Lh h13
 clear hAd h4 h5 h11 h13 hok hS e4 e5
 go_enter Tryz.func27,Tryz.ntmps27
 (repeat'(first|(go_big_may;(first|(first|((with_reducible apply Za hs);exact Ii;rfl;(with_reducible repeat first|exact Qh|apply Qk);rfl;rfl;(simp only[Uc,Uz]))|((with_reducible apply Qg hs);exact Ii;rfl;(with_reducible repeat first|exact Qh|apply Qk);rfl;rfl;(simp only[Uc,Uz]))|((with_reducible apply Zt hs);exact Ii;rfl;rfl;(with_reducible exact Qh);(rfl);(exact Vb rfl);rfl;clear hs;intro w hs;simp only[Yg,Uc,Uz]at hs)|((with_reducible apply ZJ hs);exact Ii;rfl;rfl;(with_reducible exact Qh);rfl;rfl;rfl;rfl;clear hs;intro w hs)|((with_reducible apply Zu hs);exact Ii;rfl;clear hs;intro w b hs;(simp only[Uc,Uz]))|((with_reducible apply Zo hs);rfl;rfl;rfl;clear hs;intro w b hs;(simp only[Uc,Uz])))|(first|((with_reducible apply wl_mkmap hs);exact Ii;rfl;clear hs;intro w r hs;(simp only[Uc,Uz]))|((with_reducible apply wl_mi hs);exact Ii;rfl;rfl;rfl;(with_reducible exact Qh);rfl;clear hs;intro w hs))|(go_at_call 65;((refine(hA.out).at hs (by (with_reducible repeat first|exact Qh|apply Qk)) ?_);clear hs;intro w hs;(try simp only[Em,Ma]at hs)))|(go_at_call 66;((refine(hG.out).at hs (by (with_reducible repeat first|exact Qh|apply Qk)) ?_);clear hs;intro w hs;(try simp only[Em,Ma]at hs)))|(go_at_call 67;first|((refine(H4.out).at hs (by (focus((repeat(with_reducible exact Qn));done))) ?_);clear hs;intro w hs;(try simp only[Em,Ma]at hs))|((refine(H5.out).at hs (by (focus((repeat(with_reducible exact Qn));done))) ?_);clear hs;intro w hs;(try simp only[Em,Ma]at hs))|((refine(H11.out).at hs (by (focus((repeat(with_reducible exact Qn));done))) ?_);clear hs;intro w hs;(try simp only[Em,Ma]at hs))|((refine(H13.out).at hs (by (focus((repeat(with_reducible exact Qn));done))) ?_);clear hs;intro w hs;(try simp only[Em,Ma]at hs)))))|go_step|(dsimp only)))
 (go_ret)
 refine⟨_,rfl,?_⟩
 apply qkit_mk
 unfold qcapR Z7 placeR queFn
 simp only[Ma]
 ((with_reducible apply Sat.fin hs);(focus((repeat(first|with_reducible exact Ql|with_reducible exact Qh|with_reducible apply Qb|exact Qh|with_reducible apply Qk));done)))
section
variable (bh ba:Nat)(x:QCaps)(h:Haz)(a:Are)(t:Nat)(mv:Mv)
theorem mk_put_no (r:Int)(ht:h.held[t]? = some r)(r0:r<0):Does Tryz.prog 68 #[.int .i64 (t:Int),mv.v,.pointer (some ⟨x.c1,0,none⟩),.pointer (some ⟨x.c4,0,none⟩)] (HazR bh ba h*qcapR bh h.c x)
  (fun v=>pu (v=.nilIface)*(HazR bh ba h*qcapR bh h.c x)):=by
 intro O w F hs
 have hR:=Lh (QF bh ba h t r ht)
 have n1:decide (r<0)=true:=by simp;omega
 unfold qcapR Z7 at hs ⊢
 simp only[Ma]at hs ⊢
 go_enter Tryz.func68,Tryz.ntmps68
 (repeat'(first|(go_big_may;(first|(first|((with_reducible apply Za hs);exact Ii;rfl;(with_reducible repeat first|exact Qh|apply Qk);rfl;rfl;(simp only[Uc,Uz]))|((with_reducible apply Zo hs);rfl;rfl;rfl;clear hs;intro w b hs;(simp only[Uc,Uz])))|(go_at_call 69;((refine(hR.out).at hs (by (with_reducible repeat first|exact Qh|apply Qk)) ?_);clear hs;intro w hs;(try simp only[Em,Ma]at hs)))))|go_step|(dsimp only)))
 (go_ret)
 refine⟨_,rfl,?_⟩
 refine Zw.2 ⟨rfl,?_⟩
 ((with_reducible apply Sat.fin hs);(with_reducible repeat first|exact Ql|exact Qh|apply Qb|apply Qk))
theorem mk_get_no (r:Int)(ht:h.held[t]? = some r)(r0:r<0):Does Tryz.prog 70 #[.int .i64 (t:Int),mv.v,.pointer (some ⟨x.c1,0,none⟩),.pointer (some ⟨x.c4,0,none⟩)] (HazR bh ba h*qcapR bh h.c x)
  (fun v=>pu (v=.nilIface)*(HazR bh ba h*qcapR bh h.c x)):=by
 intro O w F hs
 have hR:=Lh (QF bh ba h t r ht)
 have n1:decide (r<0)=true:=by simp;omega
 unfold qcapR Z7 at hs ⊢
 simp only[Ma]at hs ⊢
 go_enter Tryz.func70,Tryz.ntmps70
 (repeat'(first|(go_big_may;(first|(first|((with_reducible apply Za hs);exact Ii;rfl;(with_reducible repeat first|exact Qh|apply Qk);rfl;rfl;(simp only[Uc,Uz]))|((with_reducible apply Zo hs);rfl;rfl;rfl;clear hs;intro w b hs;(simp only[Uc,Uz])))|(go_at_call 69;((refine(hR.out).at hs (by (with_reducible repeat first|exact Qh|apply Qk)) ?_);clear hs;intro w hs;(try simp only[Em,Ma]at hs)))))|go_step|(dsimp only)))
 (go_ret)
 refine⟨_,rfl,?_⟩
 refine Zw.2 ⟨rfl,?_⟩
 ((with_reducible apply Sat.fin hs);(with_reducible repeat first|exact Ql|exact Qh|apply Qb|apply Qk))
theorem mk_put (r:Int)(ht:h.held[t]? = some r)(r0:0≤r):Does Tryz.prog 68 #[.int .i64 (t:Int),mv.v,.pointer (some ⟨x.c1,0,none⟩),.pointer (some ⟨x.c4,0,none⟩)] (HazR bh ba h*qcapR bh h.c x)
  (fun v=>quR bh ba h.c (.put ⟨t,mv.arg,⟨t,1,0,0,0,false⟩,0,0,0,0,0⟩) v*(HazR bh ba h*qcapR bh h.c x)):=by
 intro O w F hs
 have hR:=Lh (QF bh ba h t r ht)
 have n1:decide (r<0)=false:=by simp;omega
 rw[quR_put0 rfl]
 unfold qcapR Z7 placeR at hs ⊢
 simp only[Ma]at hs ⊢
 go_enter Tryz.func68,Tryz.ntmps68
 (repeat'(first|(go_big_may;(first|(first|((with_reducible apply Za hs);exact Ii;rfl;(with_reducible repeat first|exact Qh|apply Qk);rfl;rfl;(simp only[Uc,Uz]))|((with_reducible apply Qg hs);exact Ii;rfl;(with_reducible repeat first|exact Qh|apply Qk);rfl;rfl;(simp only[Uc,Uz]))|((with_reducible apply Zo hs);rfl;rfl;rfl;clear hs;intro w b hs;(simp only[Uc,Uz])))|(go_at_call 69;((refine(hR.out).at hs (by (with_reducible repeat first|exact Qh|apply Qk)) ?_);clear hs;intro w hs;(try simp only[Em,Ma]at hs)))))|go_step|(dsimp only)))
 (go_ret)
 refine⟨_,rfl,?_⟩
 refine Jj.2 ⟨_,rfl,?_⟩
 unfold PtR0
 ((with_reducible apply Sat.fin hs);(with_reducible repeat first|exact Ql|exact Qh|apply Qb|apply Qk))
theorem mk_get (r:Int)(ht:h.held[t]? = some r)(r0:0≤r):Does Tryz.prog 70 #[.int .i64 (t:Int),mv.v,.pointer (some ⟨x.c1,0,none⟩),.pointer (some ⟨x.c4,0,none⟩)] (HazR bh ba h*qcapR bh h.c x)
  (fun v=>quR bh ba h.c (.get ⟨t,0,0,0,0,false,0,none,0,0,0⟩) v*(HazR bh ba h*qcapR bh h.c x)):=by
 intro O w F hs
 have hR:=Lh (QF bh ba h t r ht)
 have n1:decide (r<0)=false:=by simp;omega
 unfold qcapR Z7 placeR at hs ⊢
 simp only[Ma]at hs ⊢
 go_enter Tryz.func70,Tryz.ntmps70
 (repeat'(first|(go_big_may;(first|(first|((with_reducible apply Za hs);exact Ii;rfl;(with_reducible repeat first|exact Qh|apply Qk);rfl;rfl;(simp only[Uc,Uz]))|((with_reducible apply Qg hs);exact Ii;rfl;(with_reducible repeat first|exact Qh|apply Qk);rfl;rfl;(simp only[Uc,Uz]))|((with_reducible apply Zo hs);rfl;rfl;rfl;clear hs;intro w b hs;(simp only[Uc,Uz])))|(go_at_call 69;((refine(hR.out).at hs (by (with_reducible repeat first|exact Qh|apply Qk)) ?_);clear hs;intro w hs;(try simp only[Em,Ma]at hs)))))|go_step|(dsimp only)))
 (go_ret)
 refine⟨_,rfl,?_⟩
 refine Jj.2 ⟨_,rfl,?_⟩
 have hs:=rtr_none (bh:=bh) (ba:=ba) hs
 apply QC (vr:=.pointer none)
 ((with_reducible apply Sat.fin hs);(with_reducible repeat first|exact Ql|exact Qh|apply Qb|apply Qk))
end
def jFnQ (x:Caps)(y:QCaps):Int→Option Value:=fun o=>(queFn y o).or (kitFn x o)
structure KOkQ (cf:Cfg)(n:Nat)(s:Haz×Are):Prop where
 k:KOk n s
 c:s.1.c=cf
theorem core_kokQ {c:Cfg}{L S N:Nat}{h:Haz}{a:Are}{m:Mch}(C:Jd (QM c) c L S N h a m):KOkQ c c.T.toNat (h,a):=
 ⟨⟨by rw[C.hc];exact C.ok,C.held,fun r hr=>by rw[C.hc];exact(C.hin r hr).2⟩,C.hc⟩
theorem queFn_no {x:QCaps}{o:Int}(h:¬(o=40∨o=41)):queFn x o=none:=by
 unfold queFn
 rw[if_neg (by omega),if_neg (by omega)]
theorem jFnQ_known (x:Caps)(y:QCaps)(o:Int):jFnQ x y o≠none↔(20≤o∧o≤25)∨o=40∨o=41:=by
 unfold jFnQ
 by_cases h:o=40∨o=41
 ·refine⟨fun _=>.inr h,fun _ => ?_⟩
  unfold queFn
  rcases h with rfl|rfl<;>simp
 ·rw[queFn_no h,Option.none_or]
  constructor
  ·intro hk
   refine .inl ?_
   by_cases hq:o<20∨25<o
   ·exact absurd (kitFn_none.2 hq) hk
   ·omega
  ·rintro(hk|hk)
   ·intro hq
    have:=kitFn_none.1 hq
    omega
   ·exact absurd hk h
theorem qkT_kit (bh ba:Nat)(cf:Cfg)(n:Nat)(x:Caps)(y:QCaps):KitOk (qkT bh ba cf (capR bh x*qcapR bh cf y)) (jFnQ x y) qTask (KOkQ cf n) n where
 func:=by
  intro op u hu
  unfold jFnQ at hu
  by_cases h:op=40∨op=41
  ·unfold queFn at hu
   rcases h with rfl|rfl
   ·simp at hu
    exact⟨_,_,_,hu.symm⟩
   ·simp at hu
    exact⟨_,_,_,hu.symm⟩
  ·rw[queFn_no h,Option.none_or]at hu
   exact(hzT_kit bh ba n x).func op u hu
 make:=by
  intro op u s t mv hK hop ht hthr hok
  subst hop
  have hcf:=hok.c
  subst hcf
  by_cases hs:mv.op=40∨mv.op=41
  ·have hlt:t<s.1.held.length:=by rw[hok.k.held];exact ht
   obtain⟨r,hr⟩:∃r,s.1.held[t]? = some r:=⟨_,Yd hlt⟩
   have hrd:s.1.held.getD t 0=r:=by rw[Yb,hr];rfl
   unfold qTask
   rw[hrd]
   unfold jFnQ queFn at hK
   rcases hs with e|e
   ·rw[e]at hK ⊢
    simp at hK
    subst hK
    rw[if_pos rfl]
    by_cases h0:r<0
    ·rw[if_pos h0]
     exact Jl (AreR ba s.2*capR bh x) ((mk_put_no bh ba y s.1 t mv r hr h0).dyn (fun w=>by kernel_rfl)) (by simp only[qkT];ac_rfl) (fun v=>by simp only[madeR,qkT];ac_rfl)
    ·rw[if_neg h0]
     exact Jl (AreR ba s.2*capR bh x) ((mk_put bh ba y s.1 t mv r hr (by omega)).dyn (fun w=>by kernel_rfl)) (by simp only[qkT];ac_rfl) (fun v=>by simp only[madeR,qkT];ac_rfl)
   ·rw[e]at hK ⊢
    simp at hK
    subst hK
    rw[if_neg (by omega),if_pos rfl]
    by_cases h0:r<0
    ·rw[if_pos h0]
     exact Jl (AreR ba s.2*capR bh x) ((mk_get_no bh ba y s.1 t mv r hr h0).dyn (fun w=>by kernel_rfl)) (by simp only[qkT];ac_rfl) (fun v=>by simp only[madeR,qkT];ac_rfl)
    ·rw[if_neg h0]
     exact Jl (AreR ba s.2*capR bh x) ((mk_get bh ba y s.1 t mv r hr (by omega)).dyn (fun w=>by kernel_rfl)) (by simp only[qkT];ac_rfl) (fun v=>by simp only[madeR,qkT];ac_rfl)
  ·unfold jFnQ at hK
   rw[queFn_no hs,Option.none_or]at hK
   have e0:qTask s t mv=(Z6 s t mv).map .hz:=by unfold qTask;rw[if_neg (by omega),if_neg (by omega)]
   rw[e0]
   refine Jl (qcapR bh s.1.c y) ((hzT_kit bh ba n x).make mv.op u s t mv hK rfl ht hthr hok.k) (by simp only[qkT,hzT];ac_rfl) (fun v => ?_)
   cases Z6 s t mv with
   | none=>simp only[Option.map_none,madeR,qkT,hzT];ac_rfl
   | some q=>simp only[Option.map_some,madeR,qkT,hzT,quR];ac_rfl
end
end Go.Proofs.YtefjbdajgakgpaaGreat
