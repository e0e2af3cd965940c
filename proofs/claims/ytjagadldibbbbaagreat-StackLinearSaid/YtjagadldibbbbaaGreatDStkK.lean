/-
  machine.Join.
-/
import Derived.Test.YtjagadldibbbbaaGreatDRange
import Derived.Test.YtjagadldibbbbaaGreatDInv
import Derived.Test.YtjagadldibbbbaaGreatDInv5
import Derived.Test.YtjagadldibbbbaaGreatDGen
import Derived.Test.YtjagadldibbbbaaGreatDKit2
set_option linter.all false
namespace Go.Proofs.YtjagadldibbbbaaGreat
section
open Go.RowKit
namespace Hp
section
variable {P:Program}{ops:Array Oper}{Q:Exit→Act→World→Prop}{w:World}{rest:List Oper}{O:World}{S R:Zc}
variable {l:List Value}{ds:List Deferred}{T E ty:TypeId}{pos:String}{after:Array Edge}{gd:Option (Nat×Bool)}{d:Nat}{x y:Operand}{u v:Value}
theorem wl_bs2 {by_:Nat}(hs:Sat O w S)(h:SlcC P T E)(hE:ElC P E 1 by_)(hx:ev l x=some u)(hy:ev l y=some v)(hu:cel u=some #[u])(hv:cel v=some #[v])(hu1:u.oneCell'=true)(hv1:v.oneCell'=true)
  (hg:Region.wanted { dst:=some d,op:=.buildSlice T 2 #[(0,x),(1,y)],type:=ty,pos,after,guard:=gd } (yielded ops l.toArray)=true)
  (kk:∀w' b,Sat O w' (sl E 1 [[u],[v]] (.slice (some ⟨b,0,none⟩) 2 2)*S)→wpList P ops Q rest ⟨(l.set d (.slice (some ⟨b,0,none⟩) 2 2)).toArray,ds⟩ w') :
  wpList P ops Q ({ dst:=some d,op:=.buildSlice T 2 #[(0,x),(1,y)],type:=ty,pos,after,guard:=gd }::rest) ⟨l.toArray,ds⟩ w:=by
 have hinfo:=hE.info
 have hzero:=hE.zero
 cases hq:P.info? E with
 | none=>simp[hq]at hinfo
 | some inf=>
  cases hzz:inf.zero with
  | none=>simp[hq,hzz]at hzero
  | some zv=>
   simp[hq,hzz]at hinfo hzero
   have hcu:=cel_cells hu
   have hcv:=cel_cells hv
   have e1:=Zo (ds:=ds) hx
   have e2:=Zo (ds:=ds) hy
   refine Qz (v:=.slice (some ⟨w.heap.size,0,none⟩) 2 2) (w':=w.alloc (.cells #[u,v] E)) hg ?_ (ZW▸kk _ _ ?_)
   ·simp[execOp,e1,e2,Instr.buildSlice,run_underlying h.is,sizeOf,typeInfo,hq,hinfo.1,zeroValue,hzz,Instr.fill,hcu,hcv,newRow]
    rw[show Array.range 2 = #[0,1] from rfl]
    congr 2
    apply Array.ext'
    simp
   ·refine QA.2 ⟨⟨fun c hc' => ?_,by omega⟩,.inr ⟨w.heap.size,0,2,[],[],rfl,rfl,by simp,by simp,?_⟩⟩
    ·simp only[List.mem_cons,List.not_mem_nil,or_false]at hc'
     rcases hc' with rfl|rfl
     ·exact⟨rfl,by simp[hu1]⟩
     ·exact⟨rfl,by simp[hv1]⟩
    ·exact hs.alloc (.cells #[u,v] E)
end
end Hp
open Hp
set_option maxRecDepth 100000
set_option maxHeartbeats 1000000
attribute [local irreducible] Go.Calls Go.wpList
def kAcc (f1 f2:Int→Option Value)(k:Nat):Int→Option Value:=fun o=>if k=0 then none else if k=1 then f1 o else (f2 o).or (f1 o)
theorem join_at {f1 f2:Int→Option Value}{v1 v2:Value}{k:Nat}(hk:k<2):∃(f:Int→Option Value) (v:Value) (R:Zc),[[v1],[v2]][k]? = some [v]∧(∀o,kAcc f1 f2 (k+1) o=(f o).or (kAcc f1 f2 k o))∧mp .i64 f1 v1*mp .i64 f2 v2=mp .i64 f v*R:=by
 rcases(show k=0∨k=1 by omega) with rfl|rfl
 ·exact⟨f1,v1,_,rfl,fun o=>by unfold kAcc;simp,rfl⟩
 ·exact⟨f2,v2,mp .i64 f1 v1,rfl,fun o=>by unfold kAcc;simp,mul_comm' _ _⟩
theorem machine_join (v1 v2 vs:Value)(f1 f2:Int→Option Value) :
  Does Tryz.prog 28 #[vs] (sl 76 1 [[v1],[v2]] vs*(mp .i64 f1 v1*mp .i64 f2 v2)) (fun v=>mp .i64 (fun o=>(f2 o).or (f1 o)) v):=by
 intro O w F hs
 simp only[Ma]at hs
 obtain⟨a0,c0,rfl⟩:=ZU (hs.pull (A:=sl 76 1 [[v1],[v2]] vs) (by (with_reducible exact Qh)))
 simp only[List.length_cons,List.length_nil,Nat.zero_add,Nat.reduceAdd]at hs
 go_enter Tryz.func28,Tryz.ntmps28
 go_wp2_with (first|((with_reducible apply Zw hs);exact Ii;rfl;(with_reducible repeat first|exact Qh|apply Qk);rfl;(simp only[Uc,Uz]))|((with_reducible apply wl_mkmap hs);exact Ii;rfl;clear hs;intro w r hs;(simp only[Uc,Uz])))
 go_loopw [11] (fun q wr=>∃k:Nat,k≤2∧q=.int .i64 (k:Int)∧Sat O wr (mp .i64 (kAcc f1 f2 k) (.map (some r))*(sl 76 1 [[v1],[v2]] (.slice a0 2 c0)*(mp .i64 f1 v1*(mp .i64 f2 v2*F))))) (fun q _=>3-(intOf q).toNat)
 case atStart=>exact⟨0,by omega,rfl,hs⟩
 case round=>
  obtain⟨k,k1,rfl,hs⟩:=hrel
  by_cases hkr:k=2
  ·subst hkr
   have hlt:decide (((2:Nat):Int)<2)=false:=rfl
   go_wp2_with (fail)
   (go_ret)
   refine⟨_,rfl,?_⟩
   have e:kAcc f1 f2 2=fun o=>(f2 o).or (f1 o):=by funext o;unfold kAcc;simp
   rw[←e]
   ((with_reducible apply Sat.fin hs);(focus((repeat(first|with_reducible exact Ql|with_reducible apply Qb|exact Qh|with_reducible apply Qk));done)))
  ·have hk2:k<2:=by omega
   have hlt:decide ((k:Int)<2)=true:=by simp;omega
   have hlt2:decide (k<2)=true:=by simp;omega
   obtain⟨f,v,Rk,hv,hacc,hR⟩:=join_at (f1:=f1) (f2:=f2) (v1:=v1) (v2:=v2) hk2
   have hi:k<([[v1],[v2]]:List (List Value)).length:=by simp;omega
   have e9:mp .i64 f1 v1*(mp .i64 f2 v2*F)=mp .i64 f v*(Rk*F):=by rw[←Ma,hR,Ma]
   rw[e9]at hs
   clear e9
   have HA:=Lh hacc
   have HR:=Lh hR
   have HK:=Lh hkr
   clear hacc hR hkr
   go_wp2_with (first|(first|((with_reducible apply Zu hs);exact Ii;rfl;assumption;(with_reducible repeat first|exact Qh|apply Qk);rfl;(assumption);rfl;rfl;(simp only[Uc,Uz]))|((with_reducible apply ZP hs);exact Ii;exact Ii;rfl;rfl;(with_reducible repeat first|exact Qh|apply Qk);(rfl);(assumption);rfl;intro b off hat;(simp only[Uc,Uz])))|((with_reducible apply wl_range hs);exact Ii;rfl;(with_reducible repeat first|exact Qh|apply Qk);rfl;clear hs;intro w it cnt hs;(simp only[Uc,Uz])))
   go_loopg [] cnt (fun n wr=>∃(left:Int→Bool) (cur:Option (Int×Value)) (G:Int→Option Value),Hid (∀o,G o=if left o=true then kAcc f1 f2 k o else (f o).or (kAcc f1 f2 k o)) ∧
    Sat O wr (itm .i64 f v it left n cur*(mp .i64 G (.map (some r))*(sl 76 1 [[v1],[v2]] (.slice a0 2 c0)*(Rk*F)))))
   case atStart=>
    refine⟨_,none,kAcc f1 f2 k,Lh (fun o => ?_),by ((with_reducible apply Sat.fin hs);(with_reducible exact Ql))⟩
    cases hq:f o with
    | none=>simp
    | some u=>simp
   case round=>
    obtain⟨left,cur,G,hG,hs⟩:=hrel
    rcases run_itm_next (P:=Tryz.prog) hs 0 with⟨h0,h1,hr⟩|⟨k9,u,w9,n9,h1,h2,h3,hr,hs9⟩
    ·have e1:∀o,G o=kAcc f1 f2 (k+1) o:=fun o=>by rw[hG.out o,if_neg (by rw[h1 o];simp),HA.out o]
     have E1:=Lh (funext e1)
     have HN:=Lh hr
     clear h0 h1 hr e1 hG
     go_wp2_with ((with_reducible apply wl_nx);rfl;exact HN.out;rfl;(simp only[Uc,Uz]))
     rw[E1.out]at hs
     replace hs:=itm_end (hs.pull (A:=itm .i64 f v it left gk cur) (by (with_reducible exact Qh)))
     go_roundw
     case rel=>
      refine⟨k+1,by have:=HK.out;omega,by simp,?_⟩
      have e9:mp .i64 f1 v1*(mp .i64 f2 v2*F)=mp .i64 f v*(Rk*F):=by rw[←Ma,HR.out,Ma]
      rw[e9]
      ((with_reducible apply Sat.fin hs);(with_reducible repeat first|exact Ql|exact Qh|apply Qb|apply Qk))
     case measure=>simp[intOf];omega
    ·have e1:∀o,(if o=k9 then some u else G o)=if (left o && !decide (o=k9))=true then kAcc f1 f2 k o else (f o).or (kAcc f1 f2 k o):=fun o=>by
      rw[hG.out o]
      by_cases e:o=k9
      ·subst e
       simp[h2]
      ·simp[e]
     have E1:=Lh e1
     have HN:=Lh hr
     have H3:=Lh h3
     clear h1 h2 h3 hr e1 hG
     go_wp2_with (first|((with_reducible apply wl_mu hs);exact Ii;rfl;rfl;rfl;(with_reducible repeat first|exact Qh|apply Qk);rfl;clear hs;intro w hs)|((with_reducible apply wl_nx);rfl;exact HN.out;rfl;(clear hs;have hs:=hs9;clear hs9);(simp only[Uc,Uz]))|((with_reducible apply wl_entry hs);rfl;(with_reducible exact Qh);rfl;(simp only[Uc,Uz])))
     go_roundg n9
     case measure=>exact H3.out
     case rel=>exact⟨_,_,_,E1,by ((with_reducible apply Sat.fin hs);(with_reducible repeat first|exact Ql|exact Qh|apply Qb|apply Qk))⟩
end
section
open Go.RowKit Hp
set_option maxRecDepth 100000
set_option maxHeartbeats 1000000
attribute [local irreducible] Go.Calls
def Sea.er (s:Sea):Sea:={ s with task:=.nilIface }
def Mch.er (m:Mch):Mch:={ m with kit:=.nilIface,vs:=.nilIface,vc:=.nilIface,seats:=m.seats.map Sea.er }
section
variable {α β γ:Type}
def er3 (r:Bool×α×Mch×β):Bool×α×Mch×β:=(r.1,r.2.1,r.2.2.1.er,r.2.2.2)
def er4 (r:Bool×α×β×Mch×γ):Bool×α×β×Mch×γ:=(r.1,r.2.1,r.2.2.1,r.2.2.2.1.er,r.2.2.2.2)
def er2 (r:Bool×Mch×β):Bool×Mch×β:=(r.1,r.2.1.er,r.2.2)
theorem Jj {p:Prop}[Decidable p](x y:Bool×α×Mch×β):er3 (if p then x else y)=if p then er3 x else er3 y:=by split<;>rfl
theorem er4_ite {p:Prop}[Decidable p](x y:Bool×α×β×Mch×γ):er4 (if p then x else y)=if p then er4 x else er4 y:=by split<;>rfl
theorem er2_ite {p:Prop}[Decidable p](x y:Bool×Mch×β):er2 (if p then x else y)=if p then er2 x else er2 y:=by split<;>rfl
end
variable (h:Haz)(a:Are)(m:Mch)(i t:Nat)
theorem er_word (i:Nat):m.er.word i=m.word i:=rfl
theorem er_load (u:Int):m.er.load i u=(m.load i u).er:=rfl
theorem er_store (u z:Int):m.er.store i u z=(m.store i u z).er:=rfl
theorem er_swap (u o z:Int):m.er.swap i u o z=(m.swap i u o z).er:=rfl
theorem er_shift (s f t:Int):m.er.shift s f t=(m.shift s f t).er:=rfl
theorem er_point (c:Cll)(z:Int):m.er.point i c z=(m.point i c z).er:=rfl
theorem er_thread:m.er.thread=m.thread:=rfl
theorem er_now:m.er.now=m.now:=rfl
theorem er_answer (s:Sea)(k v:Int):m.er.answer t s.er k v=(m.answer t s k v).er:=by
 simp only[Mch.answer,Mch.er,Yk];rfl
theorem er_prep (now:Int)(s:Sea):m.er.prep t i now s.er=(m.prep t i now s).er:=by
 simp only[Mch.prep,Mch.er,Yk];rfl
theorem er_push (p:Psh):Za a m.er p=er3 (Za a m p):=by
 simp only[Za,er_word,er_load,er_store,er_swap,er_shift,er_thread,Jj];rfl
theorem er_give (p:Psh):Zs a m.er p=er3 (Zs a m p):=by
 simp only[Zs,er_shift,er_thread,Jj];rfl
def er5 {α β γ:Type}(r:Bool×α×β×γ×Mch):Bool×α×β×γ×Mch:=(r.1,r.2.1,r.2.2.1,r.2.2.2.1,r.2.2.2.2.er)
theorem er5_ite {α β γ:Type}{p:Prop}[Decidable p](x y:Bool×α×β×γ×Mch):er5 (if p then x else y)=if p then er5 x else er5 y:=by split<;>rfl
theorem er_free (th:Int):∀(l:List Int) (g:Option Psh) (a:Are) (m:Mch),ZK th l g a m.er=er5 (ZK th l g a m)
 | [],g,a,m=>rfl
 | s::r,g,a,m=>by
  unfold ZK
  rw[er_give,er5_ite]
  simp only[er3]
  rw[er_free th r]
  rfl
theorem er_takeReady (k:Tak):Zg a m.er k=er3 (Zg a m k):=by
 simp only[Zg,Jd,er_shift,er_thread,Jj];rfl
theorem er_take (k:Tak):Zj a m.er k=er3 (Zj a m k):=by
 simp only[Zj,Jd,er_word,er_load,er_swap,er_shift,er_thread,Jj];rfl
theorem er_try (s:Scn):Ji h m.er s=er2 (Ji h m s):=by
 simp only[Ji,er_word,er_load,er2_ite];rfl
theorem er_stake (s:Scn):QK h m.er s=er3 (QK h m s):=by
 simp only[QK,er_word,er_swap,Jj];rfl
theorem er_look (s:Scn):QW h a m.er s=er4 (QW h a m s):=by
 have e1:(Q9 h m.er s).1=(Q9 h m s).1.er:=rfl
 have e2:(Q9 h m.er s).2=(Q9 h m s).2:=rfl
 unfold QW
 rw[e1,e2]
 dsimp only
 rw[er_free,er4_ite]
 rfl
theorem er_sgive (s:Scn)(p:Psh):QL h a m.er s p=er3 (QL h a m s p):=by
 simp only[QL,er_push,Jj]
 simp only[er3,er_free];rfl
theorem er_scan (s:Scn):Zt h a m.er s=er4 (Zt h a m s):=by
 unfold Zt
 simp only[er4_ite]
 congr 1
 ·rw[er_try];rfl
 congr 1
 ·rw[er_stake];rfl
 congr 1
 congr 1
 ·exact er_look ..
 ·split
  ·rw[er_sgive];rfl
  ·rfl
theorem er_retire (r:Ret):Zv h a m.er r=er4 (Zv h a m r):=by
 simp only[Zv,er_shift,er_thread,er4_ite];rfl
theorem er_reg (s:Sea)(r:Reg):Qg h m.er t s.er r=er3 (Qg h m t s r):=by
 simp only[Qg,Qv,er_word,er_load,er_swap,er_answer,Jj];rfl
theorem er_flush (p:Psh):ZM a m.er p=er3 (ZM a m p):=by
 simp only[ZM,er_push,Jj];rfl
theorem er_unr (u:Unr):Zy h a m.er u=er4 (Zy h a m u):=by
 unfold Zy
 simp only[er_word,er_store,er4_ite]
 congr 1
 congr 1
 ·split
  ·rfl
  ·simp only[er_scan,er4_ite];rfl
 congr 1
 split
 ·rfl
 ·simp only[er_flush];rfl
theorem er_read (c:Cll)(s:Sea)(r:Rdg):Qo h m.er i t c s.er r=er2 (Qo h m i t c s r):=by
 simp only[Qo,Qq,er_word,er_load,er_store,er_point,er_now,er_answer,er2_ite];rfl
theorem er_took (c:Cll)(s:Sea)(p:Pst)(k:Tak):ZJ m.er i t c s.er p k=er2 (ZJ m i t c s p k):=by
 simp only[ZJ,er_point,er_now,er_answer,er2_ite];rfl
theorem er_postReady (c:Cll)(s:Sea)(p:Pst):ZQ a m.er i t c s.er p=er3 (ZQ a m i t c s p):=by
 simp only[ZQ,er_takeReady,Jj]
 simp only[er3,er_took];rfl
theorem er_post (c:Cll)(s:Sea)(p:Pst):Z0 h a m.er i t c s.er p=er4 (Z0 h a m i t c s p):=by
 unfold Z0
 split
 ·rfl
 ·simp only[er4_ite,er_take,er_word]
  congr 1
  ·simp only[er3,er_took];rfl
  congr 1
  congr 1
  congr 1
  ·congr 1
   simp only[er_swap,Jc,er_point,er_answer,er_now,er_shift,er_thread,er_retire,er4_ite];rfl
  ·split
   ·rfl
   ·split
    ·rfl
    ·rw[er_scan];rfl
theorem er_rdy (s:Haz×Are)(c:Cll)(se:Sea)(k:Qd):Qw s m.er i t c se.er k=er3 (Qw s m i t c se k):=by
 cases k<;>first|rfl|(simp only[Qw,er_postReady];rfl)
theorem er_stp (s:Haz×Are)(c:Cll)(se:Sea)(k:Qd):Z8 s m.er i t c se.er k=er3 (Z8 s m i t c se k):=by
 cases k<;>first|rfl|(simp only[Z8,er_reg,er_unr,er_read,er_post,er_scan];rfl)
theorem er_getC:getC m.er i=getC m i:=rfl
theorem er_getS:getS m.er t=(getS m t).er:=by
 simp only[getS,Mch.er,Yb,Ym]
 cases m.seats[t]? <;> rfl
theorem er_end (c:Cll)(s:Sea)(now:Int)(b:Bool):QU m.er t i now c s.er b=(QU m t i now c s b).er:=by
 unfold QU
 split
 ·simp only[Mch.er,Yk];rfl
 ·rfl
theorem kitFn_none {x:Caps}{op:Int}:kitFn x op=none↔op<20∨25<op:=by
 unfold kitFn
 constructor
 ·intro h
  repeat(split at h;· cases h)
  omega
 ·intro h
  rw[if_neg (by omega),if_neg (by omega),if_neg (by omega),if_neg (by omega),if_neg (by omega),if_neg (by omega)]
end
section
open Go.RowKit Hp
set_option maxRecDepth 100000
set_option maxHeartbeats 1000000
attribute [local irreducible] Go.Calls
section
variable {τ:Type}(rdy stp:Haz×Are→Mch→Nat→Nat→Cll→Sea→τ→GR τ)
def gT:Tasks (Haz×Are) τ:=⟨fun _=>emp,fun _ _=>emp,rdy,stp,fun _ _ _ _=>True,fun _ _ _ _=>True⟩
def gEr (y:GW τ):GW τ:={ y with m:=y.m.er }
def gMove (known:Int→Bool)(mkr:Haz×Are→Nat→Mv→Option τ)(y:GW τ)(mv:Mv):GW τ:=
 if mv.thread<0∨(y.tasks.length:Int)≤mv.thread then y.tick
 else match y.tasks.getD mv.thread.toNat none with
  | none=>
   if mv.op=0 then y.tick
   else if known mv.op=false then y.tick
   else match mkr y.s mv.thread.toNat mv with
    | none=>y.tick
    | some k=>⟨y.s,ZC y.m mv.thread.toNat mv .nilIface .nilIface,y.tasks.set mv.thread.toNat (some k)⟩
  | some k=>
   if mv.op≠0 then y.tick
   else
    let se:=getS y.m mv.thread.toNat
    let r:=Z5 (gT rdy stp) y.s y.tick.m se.last.toNat mv.thread.toNat (getC y.m se.last.toNat) se k y.m.moves
    ⟨r.1,r.2.1,y.tasks.set mv.thread.toNat r.2.2⟩
end
section
variable {τ:Type}{T:Tasks (Haz×Are) τ}{mkr:Haz×Are→Nat→Mv→Option τ}
structure ErOk (T:Tasks (Haz×Are) τ):Prop where
 rdy:∀s m i t c se k,T.rdy s m.er i t c se.er k=er3 (T.rdy s m i t c se k)
 stp:∀s m i t c se k,T.stp s m.er i t c se.er k=er3 (T.stp s m i t c se k)
theorem g_stepReady (H:ErOk T)(s:Haz×Are)(m:Mch)(i t:Nat)(c:Cll)(se:Sea)(k:τ)(now:Int):Zp (gT T.rdy T.stp) s m.er i t c se.er k now=er3 (Zp T s m i t c se k now):=by
 unfold Zp
 rw[Jj]
 congr 1
 ·rw[er_prep];exact H.rdy s _ i t c { se with ready:=true } k
 ·rw[er_prep];rfl
theorem g_stepMore (H:ErOk T)(i t:Nat)(r:GR τ):Q2 (gT T.rdy T.stp) i t (er3 r)=er3 (Q2 T i t r):=by
 unfold Q2
 rw[Jj]
 congr 1
 simp only[er3,er_getC,er_getS]
 exact H.stp ..
theorem gMove_of (H:ErOk T){K:Int→Option Value}{known:Int→Bool}(hK:∀o,K o≠none↔known o=true){y y':GW τ}{mv:Mv}{b:Bool}(h:MoveTo T K mkr y mv b y'):gEr y'=gMove T.rdy T.stp known mkr (gEr y) mv:=by
 have key:∀(t:Nat) (o:Option τ),mv.thread=(t:Int)→y.tasks[t]? = some o→(gEr y).tasks.getD mv.thread.toNat none=o∧¬(mv.thread<0∨((gEr y).tasks.length:Int)≤mv.thread):=by
  intro t o ht hk
  have hl:=(List.getElem?_eq_some_iff.1 hk).1
  refine⟨?_,?_⟩
  ·rw[ht,Yo,Yb]
   show(y.tasks[t]?).getD none=o
   rw[hk];rfl
  ·show ¬(mv.thread<0∨(y.tasks.length:Int)≤mv.thread)
   omega
 cases h with
 | out h=>unfold gMove;rw[if_pos (by exact h)];rfl
 | idle t ht hop hk=>
  obtain⟨e,hn⟩:=key t _ ht hk
  unfold gMove
  rw[if_neg hn,e]
  simp only[]
  rw[if_pos hop]
  rfl
 | busy t k ht hop hk=>
  obtain⟨e,hn⟩:=key t _ ht hk
  unfold gMove
  rw[if_neg hn,e]
  simp only[]
  rw[if_pos hop]
  rfl
 | nokit t ht hop hk hKn=>
  obtain⟨e,hn⟩:=key t _ ht hk
  unfold gMove
  rw[if_neg hn,e]
  simp only[]
  rw[if_neg hop,if_pos (by cases hq:known mv.op with|false=>rfl|true=>exact absurd hKn ((hK _).2 hq))]
  rfl
 | refused t ht hop hk hKn hm=>
  obtain⟨e,hn⟩:=key t _ ht hk
  have hm2:mkr (gEr y).s mv.thread.toNat mv=none:=by rw[ht,Yo];exact hm
  unfold gMove
  rw[if_neg hn,e]
  simp only[]
  rw[if_neg hop,if_neg (by rw[(hK _).1 hKn];simp),hm2]
  rfl
 | begin_ t k v vc ht hop hk hKn hm=>
  obtain⟨e,hn⟩:=key t _ ht hk
  have hm2:mkr (gEr y).s mv.thread.toNat mv=some k:=by rw[ht,Yo];exact hm
  unfold gMove
  rw[if_neg hn,e]
  simp only[]
  rw[if_neg hop,if_neg (by rw[(hK _).1 hKn];simp),hm2]
  rw[ht,Yo]
  simp only[gEr,ZC,Mch.er,Yk]
  rfl
 | step t i c se k ht hop hk hse hl hc=>
  obtain⟨e,hn⟩:=key t _ ht hk
  unfold gMove
  rw[if_neg hn,e]
  simp only[]
  rw[if_neg (by simpa using hop)]
  have e1:getS (gEr y).m mv.thread.toNat=se.er:=by
   rw[ht,Yo]
   show getS y.m.er t=_
   rw[er_getS]
   simp[getS,Yb,hse]
  have e2:getC (gEr y).m se.er.last.toNat=c:=by
   show getC y.m.er se.last.toNat=c
   rw[hl,Yo,er_getC]
   simp[getC,Yb,hc]
  have e3:se.er.last.toNat=i:=by show se.last.toNat=i;omega
  rw[e1,e2,e3,ht,Yo]
  have e4:Z5 (gT T.rdy T.stp) (gEr y).s (gEr y).tick.m i t c se.er k (gEr y).m.moves=((Z5 T y.s y.tick.m i t c se k y.m.moves).1,(Z5 T y.s y.tick.m i t c se k y.m.moves).2.1.er,(Z5 T y.s y.tick.m i t c se k y.m.moves).2.2):=by
   have h1:=g_stepReady H y.s y.tick.m i t c se k y.m.moves
   have h2:=g_stepMore H i t (Zp T y.s y.tick.m i t c se k y.m.moves)
   rw[←h1]at h2
   unfold Z5
   simp only[]
   have h3:Q2 (gT T.rdy T.stp) i t (Zp (gT T.rdy T.stp) (gEr y).s (gEr y).tick.m i t c se.er k (gEr y).m.moves)=er3 (Q2 T i t (Zp T y.s y.tick.m i t c se k y.m.moves)):=h2
   rw[h3]
   simp only[er3,er_getC,er_getS,er_end];rfl
  simp only[e4]
  rfl
end
end
section
open Go.RowKit Hp
set_option maxRecDepth 100000
set_option maxHeartbeats 1000000
attribute [local irreducible] Go.Calls Go.wpList
theorem haz_arena (bh ba:Nat)(h:Haz):Zk Tryz.prog 49 #[.pointer (some ⟨bh,0,none⟩)] (HazR bh ba h) (.pointer (some ⟨ba,0,none⟩)) (HazR bh ba h):=by
 intro O w F hs
 (obtain⟨vhh,vhl,hs⟩:=hazR.1 hs)
 go_enter Tryz.func49,Tryz.ntmps49
 go_wp2_with ((with_reducible apply Zb hs);exact Ii;rfl;(with_reducible exact Qh);rfl;rfl;(simp only[Uc,Uz]))
 (go_ret)
 refine⟨rfl,?_⟩
 (apply Zz;((try simp only[Yh,Yi,Yj,Yk,Yl]);(try simp only[Yh,Yi,Yj,Yk,Yl]at hs);((with_reducible apply Sat.fin hs);(with_reducible exact Ql))))
structure SCaps where
 c1:Nat
 c3:Nat
 c4:Nat
def acell (ba c:Nat):Zc:=pt c (.cells #[.pointer (some ⟨ba,0,none⟩)] 65)
abbrev begV (x:SCaps):Value:=.func (.func 50) #[] #[.pointer (some ⟨x.c1,0,none⟩),.pointer (some ⟨x.c3,0,none⟩)]
def bcell (x:SCaps):Zc:=pt x.c4 (.cells #[begV x] 142)
def scapR (bh ba:Nat)(x:SCaps):Zc:=Z2 bh x.c1*(acell ba x.c3*bcell x)
def stkFn (x:SCaps):Int→Option Value:=fun op=>
 if op=31 then some (.func (.func 53) #[] #[.pointer (some ⟨x.c1,0,none⟩),.pointer (some ⟨x.c4,0,none⟩)])
 else if op=30 then some (.func (.func 51) #[] #[.pointer (some ⟨x.c1,0,none⟩),.pointer (some ⟨x.c4,0,none⟩),.pointer (some ⟨x.c3,0,none⟩)]) else none
theorem skit_mk {bh ba:Nat}{h:Haz}{v:Value}{O w:World}{F:Zc}{c1 c3 c4:Nat}(hs:Sat O w (mp .i64 (stkFn ⟨c1,c3,c4⟩) v*(HazR bh ba h*(scapR bh ba ⟨c1,c3,c4⟩*F)))):Sat O w ((ex fun x=>mp .i64 (stkFn x) v*(HazR bh ba h*scapR bh ba x))*F):=by
 simp only[ZI,Ma]
 exact⟨_,hs⟩
theorem stk_kit (bh ba:Nat)(h:Haz) :
  Does Tryz.prog 30 #[.pointer (some ⟨bh,0,none⟩)] (HazR bh ba h) (fun v=>ex fun x=>mp .i64 (stkFn x) v*(HazR bh ba h*scapR bh ba x)):=by
 intro O w F hs
 have hA:=Lh (haz_arena bh ba h)
 go_enter Tryz.func30,Tryz.ntmps30
 go_wp2_with (first|(first|((with_reducible apply Zb hs);exact Ii;rfl;(with_reducible exact Qh);rfl;rfl;(simp only[Uc,Uz]))|((with_reducible apply ZA hs);exact Ii;rfl;rfl;(with_reducible exact Qh);(rfl);(exact Vb rfl);rfl;clear hs;intro w hs;simp only[Yg,Uc,Uz]at hs)|((with_reducible apply Zn hs);exact Ii;rfl;clear hs;intro w b hs;(simp only[Uc,Uz]))|((with_reducible apply Zr hs);rfl;rfl;rfl;clear hs;intro w b hs;(simp only[Uc,Uz])))|(first|((with_reducible apply wl_mkmap hs);exact Ii;rfl;clear hs;intro w r hs;(simp only[Uc,Uz]))|((with_reducible apply wl_mi hs);exact Ii;rfl;rfl;rfl;(with_reducible exact Qh);rfl;clear hs;intro w hs))|(go_at_call 49;((refine(hA.out).at hs (by (with_reducible repeat first|exact Qh|apply Qk)) ?_);clear hs;intro w hs;(try simp only[Em,Ma]at hs))))
 (go_ret)
 refine⟨_,rfl,?_⟩
 apply skit_mk
 unfold scapR Z2 acell bcell stkFn
 simp only[Ma]
 ((with_reducible apply Sat.fin hs);(focus((repeat(first|with_reducible exact Ql|with_reducible exact Qh|with_reducible apply Qb|exact Qh|with_reducible apply Qk));done)))
section
variable (bh ba:Nat)(x:SCaps)(h:Haz)(a:Are)(t:Nat)(mv:Mv)
theorem mk_beg:Zk Tryz.prog 50 #[.int .i64 (t:Int),.pointer (some ⟨x.c1,0,none⟩),.pointer (some ⟨x.c3,0,none⟩)] (Z2 bh x.c1*acell ba x.c3)
  (.agg #[.pointer (some ⟨bh,0,none⟩),.pointer (some ⟨ba,0,none⟩),.int .i64 (t:Int),.nilFunc]) (Z2 bh x.c1*acell ba x.c3):=by
 intro O w F hs
 unfold Z2 acell at hs ⊢
 simp only[Ma]at hs ⊢
 go_enter Tryz.func50,Tryz.ntmps50
 go_wp2_with (first|((with_reducible apply Zb hs);exact Ii;rfl;(with_reducible repeat first|exact Qh|apply Qk);rfl;rfl;(simp only[Uc,Uz]))|((with_reducible apply ZH hs);exact Ii;rfl;rfl;(with_reducible exact Qh);rfl;rfl;rfl;rfl;clear hs;intro w hs)|((with_reducible apply Zn hs);exact Ii;rfl;clear hs;intro w b hs;(simp only[Uc,Uz])))
 ((try simp only[Exit.inBlock,Exit.then]);(with_reducible apply bodyPost_ret);((with_reducible apply results_c);rfl;rfl;(with_reducible apply loadF hs);exact Ii;(with_reducible exact Qh);rfl;rfl))
 refine⟨rfl,?_⟩
 ((with_reducible apply Sat.fin hs);(with_reducible repeat first|exact Ql|exact Qh|apply Qb|apply Qk))
theorem beg_dyn:Dyn Tryz.prog (Qj (begV x) #[.int .i64 (t:Int)]) (Z2 bh x.c1*acell ba x.c3) (fun u=>pu (u=.agg #[.pointer (some ⟨bh,0,none⟩),.pointer (some ⟨ba,0,none⟩),.int .i64 (t:Int),.nilFunc])*(Z2 bh x.c1*acell ba x.c3)):=
 (mk_beg bh ba x t).dyn fun w=>by kernel_rfl
theorem mk_psh_no (r:Int)(ht:h.held[t]? = some r)(r0:r<0):Does Tryz.prog 51 #[.int .i64 (t:Int),mv.v,.pointer (some ⟨x.c1,0,none⟩),.pointer (some ⟨x.c4,0,none⟩),.pointer (some ⟨x.c3,0,none⟩)] (HazR bh ba h*(AreR ba a*scapR bh ba x))
  (fun v=>pu (v=.nilIface)*(HazR bh ba h*(AreR ba a*scapR bh ba x))):=by
 intro O w F hs
 have hR:=Lh (QT bh ba h t r ht)
 have n1:decide (r<0)=true:=by simp;omega
 unfold scapR Z2 at hs ⊢
 simp only[Ma]at hs ⊢
 go_enter Tryz.func51,Tryz.ntmps51
 go_wp2_with (first|(first|((with_reducible apply Zb hs);exact Ii;rfl;(with_reducible repeat first|exact Qh|apply Qk);rfl;rfl;(simp only[Uc,Uz]))|((with_reducible apply Zr hs);rfl;rfl;rfl;clear hs;intro w b hs;(simp only[Uc,Uz])))|(go_at_call 40;((refine(hR.out).at hs (by (with_reducible repeat first|exact Qh|apply Qk)) ?_);clear hs;intro w hs;(try simp only[Em,Ma]at hs))))
 (go_ret)
 refine⟨_,rfl,?_⟩
 refine Zx.2 ⟨rfl,?_⟩
 ((with_reducible apply Sat.fin hs);(with_reducible repeat first|exact Ql|exact Qh|apply Qb|apply Qk))
theorem mk_pop_no (r:Int)(ht:h.held[t]? = some r)(r0:r<0):Does Tryz.prog 53 #[.int .i64 (t:Int),mv.v,.pointer (some ⟨x.c1,0,none⟩),.pointer (some ⟨x.c4,0,none⟩)] (HazR bh ba h*(AreR ba a*scapR bh ba x))
  (fun v=>pu (v=.nilIface)*(HazR bh ba h*(AreR ba a*scapR bh ba x))):=by
 intro O w F hs
 have hR:=Lh (QT bh ba h t r ht)
 have n1:decide (r<0)=true:=by simp;omega
 unfold scapR Z2 at hs ⊢
 simp only[Ma]at hs ⊢
 go_enter Tryz.func53,Tryz.ntmps53
 go_wp2_with (first|(first|((with_reducible apply Zb hs);exact Ii;rfl;(with_reducible repeat first|exact Qh|apply Qk);rfl;rfl;(simp only[Uc,Uz]))|((with_reducible apply Zr hs);rfl;rfl;rfl;clear hs;intro w b hs;(simp only[Uc,Uz])))|(go_at_call 40;((refine(hR.out).at hs (by (with_reducible repeat first|exact Qh|apply Qk)) ?_);clear hs;intro w hs;(try simp only[Em,Ma]at hs))))
 (go_ret)
 refine⟨_,rfl,?_⟩
 refine Zx.2 ⟨rfl,?_⟩
 ((with_reducible apply Sat.fin hs);(with_reducible repeat first|exact Ql|exact Qh|apply Qb|apply Qk))
theorem mk_pop (r:Int)(ht:h.held[t]? = some r)(r0:0≤r):Does Tryz.prog 53 #[.int .i64 (t:Int),mv.v,.pointer (some ⟨x.c1,0,none⟩),.pointer (some ⟨x.c4,0,none⟩)] (HazR bh ba h*(AreR ba a*scapR bh ba x))
  (fun v=>stR bh ba (.pop ⟨t,0,0,0,false,none,0⟩) v*(HazR bh ba h*(AreR ba a*scapR bh ba x))):=by
 intro O w F hs
 have hR:=Lh (QT bh ba h t r ht)
 have n1:decide (r<0)=false:=by simp;omega
 have hB:=beg_dyn bh ba x t
 unfold Z2 at hB
 have HB:=Lh hB
 clear hB
 unfold scapR Z2 bcell at hs ⊢
 simp only[Ma]at hs ⊢
 go_enter Tryz.func53,Tryz.ntmps53
 go_wp2_with (first|(first|((with_reducible apply Zb hs);exact Ii;rfl;(with_reducible repeat first|exact Qh|apply Qk);rfl;rfl;(simp only[Uc,Uz]))|((with_reducible apply Zr hs);rfl;rfl;rfl;clear hs;intro w b hs;(simp only[Uc,Uz])))|(go_at_call 40;((refine(hR.out).at hs (by (with_reducible repeat first|exact Qh|apply Qk)) ?_);clear hs;intro w hs;(try simp only[Em,Ma]at hs)))|((with_reducible apply wl_val1 hs);rfl;rfl;exact HB.out;(with_reducible repeat first|exact Qh|apply Qb|apply Qk);rfl;clear hs;intro v w hs;simp only[Ma]at hs;(have hs9:=Zx.1 hs);clear hs;(obtain⟨rfl,hs⟩:=hs9);(simp only[Uc,Uz])))
 (go_ret)
 refine⟨_,rfl,?_⟩
 refine ifR_iff.2 ⟨_,rfl,?_⟩
 have hs:=rtr_none (bh:=bh) (ba:=ba) hs
 apply poR_mk (vr:=.pointer none) (fv:=.nilFunc) rfl
 ((with_reducible apply Sat.fin hs);(with_reducible repeat first|exact Ql|exact Qh|apply Qb|apply Qk))
theorem mk_psh (hsl:0<a.slots.length)(r:Int)(ht:h.held[t]? = some r)(r0:0≤r):Does Tryz.prog 51 #[.int .i64 (t:Int),mv.v,.pointer (some ⟨x.c1,0,none⟩),.pointer (some ⟨x.c4,0,none⟩),.pointer (some ⟨x.c3,0,none⟩)] (HazR bh ba h*(AreR ba a*scapR bh ba x))
  (fun v=>stR bh ba (.psh ⟨t,mv.arg,⟨t,1,0,0,0,false⟩,0,0,0⟩) v*(HazR bh ba h*(AreR ba a*scapR bh ba x))):=by
 intro O w F hs
 have hR:=Lh (QT bh ba h t r ht)
 have hT:=Lh (arena_take ba a (t:Int) hsl)
 have n1:decide (r<0)=false:=by simp;omega
 have hB:=beg_dyn bh ba x t
 unfold Z2 acell at hB
 have HB:=Lh hB
 clear hB
 unfold scapR Z2 acell bcell at hs ⊢
 simp only[Ma]at hs ⊢
 go_enter Tryz.func51,Tryz.ntmps51
 go_wp2_with (first|(first|(first|(with_reducible refine NQ.mk ?_)|((with_reducible apply Zh);rfl;rfl)|((with_reducible apply Zq);rfl)|(with_reducible refine EQ.mk ?_ ?_)|(first|(with_reducible exact Zf)|((with_reducible refine Zl ?_ ?_);(focus((with_reducible apply ZF);rfl;rfl))))|(with_reducible refine Zi ?_)|(show ZY _ _ _;rfl))|((with_reducible apply Zb hs);exact Ii;rfl;(with_reducible repeat first|exact Qh|apply Qk);rfl;rfl;(simp only[Uc,Uz]))|((with_reducible apply Zr hs);rfl;rfl;rfl;clear hs;intro w b hs;(simp only[Uc,Uz])))|(go_at_call 40;((refine(hR.out).at hs (by (with_reducible repeat first|exact Qh|apply Qk)) ?_);clear hs;intro w hs;(try simp only[Em,Ma]at hs)))|(go_at_call 52;((refine(hT.out).at hs (by (with_reducible repeat first|exact Qh|apply Qk)) ?_);clear hs;intro g w hs;(try simp only[Em,Ma]at hs)))|((with_reducible apply wl_val1 hs);rfl;rfl;exact HB.out;(with_reducible repeat first|exact Qh|apply Qb|apply Qk);rfl;clear hs;intro v w hs;simp only[Ma]at hs;(have hs9:=Zx.1 hs);clear hs;(obtain⟨rfl,hs⟩:=hs9);(simp only[Uc,Uz]))|((with_reducible refine Wp (id:=3) [.neu 0,.neu 1,.neu 3,.neu 4,.neu 5,.neu 6,.eff 2 [3,4,5,6],.eff 7 [3,4],.neu 8,.eff 9 [],.neu 10,.neu 11] hs rfl ?_ ?_);kernel_rfl;clear hs;intro w hs))
 (go_ret)
 refine⟨_,rfl,?_⟩
 refine ifR_iff.2 ⟨_,rfl,?_⟩
 apply puR_mk (gt:=g) (fv:=.nilFunc) rfl
 ((with_reducible apply Sat.fin hs);(with_reducible repeat first|exact Ql|exact Qh|apply Qb|apply Qk))
end
def jFn (x:Caps)(y:SCaps):Int→Option Value:=fun o=>(stkFn y o).or (kitFn x o)
structure KOkS (n:Nat)(s:Haz×Are):Prop where
 k:KOk n s
 sl:0<s.2.slots.length
theorem core_kok {c:Cfg}{L S N:Nat}{h:Haz}{a:Are}{m:Mch}(C:Core c L S N h a m):KOkS c.T.toNat (h,a):=by
 have hS:=C.ok.S1
 exact⟨⟨by rw[C.hc];exact C.ok,C.held,fun r hr=>by rw[C.hc];exact(C.hin r hr).2⟩,by show 0<a.slots.length;rw[C.slots];omega⟩
theorem stkFn_no {x:SCaps}{o:Int}(h:¬(o=30∨o=31)):stkFn x o=none:=by
 unfold stkFn
 rw[if_neg (by omega),if_neg (by omega)]
theorem jFn_known (x:Caps)(y:SCaps)(o:Int):jFn x y o≠none↔(20≤o∧o≤25)∨o=30∨o=31:=by
 unfold jFn
 by_cases h:o=30∨o=31
 ·refine⟨fun _=>.inr h,fun _ => ?_⟩
  unfold stkFn
  rcases h with rfl|rfl<;>simp
 ·rw[stkFn_no h,Option.none_or]
  constructor
  ·intro hk
   refine .inl ?_
   by_cases hq:o<20∨25<o
   ·exact absurd (kitFn_none.2 hq) hk
   ·omega
  ·rintro(hk|hk)
   ·intro hq
    have:=kitFn_none.1 hq
    omega
   ·exact absurd hk h
theorem skT_kit (bh ba n:Nat)(x:Caps)(y:SCaps):KitOk (skT bh ba (capR bh x*scapR bh ba y)) (jFn x y) sTask (KOkS n) n where
 func:=by
  intro op u hu
  unfold jFn at hu
  by_cases h:op=30∨op=31
  ·unfold stkFn at hu
   rcases h with rfl|rfl
   ·simp at hu
    exact⟨_,_,_,hu.symm⟩
   ·simp at hu
    exact⟨_,_,_,hu.symm⟩
  ·rw[stkFn_no h,Option.none_or]at hu
   exact(hzT_kit bh ba n x).func op u hu
 make:=by
  intro op u s t mv hK hop ht hthr hok
  subst hop
  by_cases hs:mv.op=30∨mv.op=31
  ·have hlt:t<s.1.held.length:=by rw[hok.k.held];exact ht
   obtain⟨r,hr⟩:∃r,s.1.held[t]? = some r:=⟨_,Yd hlt⟩
   have hrd:s.1.held.getD t 0=r:=by rw[Yb,hr];rfl
   have e0:sTask s t mv=stkTask s t mv:=by unfold sTask;rw[if_pos hs]
   rw[e0]
   unfold stkTask
   rw[hrd]
   unfold jFn stkFn at hK
   rcases hs with e|e
   ·rw[e]at hK ⊢
    simp at hK
    subst hK
    rw[if_pos rfl]
    by_cases h0:r<0
    ·rw[if_pos h0]
     exact Jk (capR bh x) ((mk_psh_no bh ba y s.1 s.2 t mv r hr h0).dyn (fun w=>by kernel_rfl)) (by simp only[skT];ac_rfl) (fun v=>by simp only[madeR,skT];ac_rfl)
    ·rw[if_neg h0]
     exact Jk (capR bh x) ((mk_psh bh ba y s.1 s.2 t mv hok.sl r hr (by omega)).dyn (fun w=>by kernel_rfl)) (by simp only[skT];ac_rfl) (fun v=>by simp only[madeR,skT];ac_rfl)
   ·rw[e]at hK ⊢
    simp at hK
    subst hK
    rw[if_neg (by omega),if_pos rfl]
    by_cases h0:r<0
    ·rw[if_pos h0]
     exact Jk (capR bh x) ((mk_pop_no bh ba y s.1 s.2 t mv r hr h0).dyn (fun w=>by kernel_rfl)) (by simp only[skT];ac_rfl) (fun v=>by simp only[madeR,skT];ac_rfl)
    ·rw[if_neg h0]
     exact Jk (capR bh x) ((mk_pop bh ba y s.1 s.2 t mv r hr (by omega)).dyn (fun w=>by kernel_rfl)) (by simp only[skT];ac_rfl) (fun v=>by simp only[madeR,skT];ac_rfl)
  ·unfold jFn at hK
   rw[stkFn_no hs,Option.none_or]at hK
   have e0:sTask s t mv=(Z9 s t mv).map .hz:=by unfold sTask;rw[if_neg hs]
   rw[e0]
   refine Jk (scapR bh ba y) ((hzT_kit bh ba n x).make mv.op u s t mv hK rfl ht hthr hok.k) (by simp only[skT,hzT];ac_rfl) (fun v => ?_)
   cases Z9 s t mv with
   | none=>simp only[Option.map_none,madeR,skT,hzT];ac_rfl
   | some q=>simp only[Option.map_some,madeR,skT,hzT,stR];ac_rfl
end
end Go.Proofs.YtjagadldibbbbaaGreat
