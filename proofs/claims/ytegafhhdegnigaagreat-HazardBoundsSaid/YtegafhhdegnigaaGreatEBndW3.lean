/-
  Behind any script a thread that makes all steps ends its call soon.
-/
import Derived.Test.YtegafhhdegnigaaGreatEAln2
import Derived.Test.YtegafhhdegnigaaGreatEInv5
import Derived.Test.YtegafhhdegnigaaGreatERun
import Derived.Test.YtegafhhdegnigaaGreatEAddr2
import Derived.BigQuiet
set_option linter.all false
namespace Go.Proofs.YtegafhhdegnigaaGreat
section
open Go.RowKit Hp
set_option maxRecDepth 100000
set_option maxHeartbeats 1000000
attribute [local irreducible] Go.Calls
def dropE (a:Int):List Int→List Int
 | []=>[]
 | x::l=>if x=a then dropE a l else x::dropE a l
theorem len_drop (a:Int):∀l:List Int,l.length=(dropE a l).length+l.count a
 | []=>rfl
 | x::l=>by
  have:=len_drop a l
  unfold dropE
  by_cases e:x=a
  ·subst e;rw[if_pos rfl,List.count_cons_self,List.length_cons];omega
  ·rw[if_neg e,List.count_cons_of_ne (by simpa using e),List.length_cons,List.length_cons];omega
theorem count_drop (a s:Int):∀l:List Int,(dropE a l).count s=if s=a then 0 else l.count s
 | []=>by simp[dropE]
 | x::l=>by
  have:=count_drop a s l
  unfold dropE
  by_cases e:x=a
  ·subst e
   rw[if_pos rfl,this]
   by_cases e2:s=x
   ·rw[if_pos e2,if_pos e2]
   ·rw[if_neg e2,if_neg e2,List.count_cons_of_ne (by simpa using Ne.symm e2)]
  ·rw[if_neg e,List.count_cons,List.count_cons,this]
   by_cases e2:s=a
   ·subst e2
    rw[if_pos rfl,if_pos rfl,if_neg (by simpa using e)]
   ·rw[if_neg e2,if_neg e2]
theorem len_counts:∀(n:Nat) (l:List Int),(∀s,l.count s≤if 0≤s∧s<(n:Int) then 1 else 0)→l.length≤n
 | 0,l,h=>by
  cases l with
  | nil=>simp
  | cons x l=>
   have:=h x
   rw[List.count_cons_self,if_neg (by omega)]at this
   omega
 | n+1,l,h=>by
  have h1:=len_drop (n:Int) l
  have h2:=len_counts n (dropE (n:Int) l) (fun s=>by
   rw[count_drop]
   have:=h s
   by_cases e:s=(n:Int)
   ·rw[if_pos e];omega
   ·rw[if_neg e]
    by_cases hs:0≤s∧s<(n:Int)
    ·rw[if_pos hs];rw[if_pos (by omega)]at this;exact this
    ·rw[if_neg hs];rw[if_neg (by omega)]at this;exact this)
  have h3:=h (n:Int)
  rw[if_pos (by omega)]at h3
  omega
section
variable {c:Cfg}{n:Nat}{y y':HW}{t:Nat}{pr:Int→Prop}{F:List Int}
theorem DI.at_most {k':Int}{l:List Int}(D:DI c pr F k' y)(hS:0≤c.Sl)(h:∀s,l.count s≤cnt2 y.s.1.lists s∨l.count s≤cnt2 (y.tasks.map tS) s):(l.length:Int)≤c.Sl:=by
 have:=len_counts c.Sl.toNat l (fun s=>by
  have ht:=D.gd.tot s
  have h2:=h s
  have e:(sx pr c y.s.1 y.s.2 y.m).lists=y.s.1.lists:=rfl
  rw[e]at ht
  unfold ind at ht
  by_cases hs:0≤s∧s<c.Sl
  ·rw[if_pos (by omega)]
   rw[if_pos hs]at ht
   omega
  ·rw[if_neg (by omega)]
   rw[if_neg hs]at ht
   omega)
 omega
theorem giveL_len (g:Option Psh)(l:List Int):l.length≤(giveL g l).length:=by
 unfold giveL
 split<;>simp
theorem DI.pend_le {k':Int}{k:Zz}{s:Scn}(D:DI c pr F k' y)(hS:0≤c.Sl)(hk:y.tasks[t]? = some (some k))(hs:scOf k=some s)(h5:s.stage=5):(s.pending.length:Int)≤c.Sl:=by
 have h1:=giveL_len s.give s.pending
 have h2:((giveL s.give s.pending).length:Int)≤c.Sl:=by
  refine D.at_most hS (fun z=>.inr ?_)
  have e:(y.tasks.map tS)[t]? = some (Go.Proofs.YtegafhhdegnigaaGreat.hS k):=by rw[Ym,hk];rfl
  refine Nat.le_trans ?_ (cnt2_get z e)
  unfold Go.Proofs.YtegafhhdegnigaaGreat.hS hP
  rw[hs,List.count_append]
  simp only[scnP,if_pos h5]
  omega
 omega
def alC (c:Cfg)(t:Nat)(y:HW)(k:Zz):Int:=coC c (y.m.word (adr c 1 0)) (y.m.word (adr c 2 0)) ((y.s.2.caches.getD t []).length:Int) k
theorem alC_bd {k':Int}{k:Zz}{se:Sea}(P:PI c n y)(D:DI c pr F k' y)(hk:y.tasks[t]? = some (some k))(hse:y.m.seats[t]? = some se)(hr:se.ready=true):1≤alC c t y k∧alC c t y k≤scB c+c.Hz+3*c.Ca+10:=by
 have hok:=P.core.ok
 have hS1:=hok.S1
 obtain⟨_,I⟩:=P.task t k se hk hse
 rw[hr]at I
 have hlt:=(List.getElem?_eq_some_iff.1 hk).1
 have htc:t<y.s.2.caches.length:=by rw[P.core.caches,←P.tasks];exact hlt
 have hy:y.s.2.caches[t]? = some (y.s.2.caches.getD t []):=by rw[Yb,Yd htc];rfl
 have hl:=P.core.clens _ (Yc hy)
 refine⟨co_1 hok I _ _,co_2 hok I hl (fun s hs => ?_) _ _⟩
 by_cases h5:s.stage=5
 ·exact D.pend_le (by omega) hk hs h5
 ·have hp:s.pending=[]:=by
   have key:ScI c s:=by
    cases k with
    | reg r=>cases hs
    | rdg r=>cases hs
    | clr r=>cases hs
    | scn z=>simp only[scOf,Option.some.injEq]at hs;subst hs;exact I.2.2 rfl
    | unr u=>
     obtain⟨_,_,J⟩:=I
     simp only[scOf]at hs
     split at hs
     ·rename_i h1
      obtain⟨z,e1,e2,_⟩:=J.scan h1
      rw[e1]at hs;cases hs;exact e2
     ·cases hs
    | pst p=>
     obtain⟨_,_,J1,J2⟩:=I
     simp only[scOf]at hs
     split at hs
     ·rename_i h1
      obtain⟨r,z,e1,e2,e3,_⟩:=(J1 rfl).ret h1
      rw[e1]at hs;simp only[e2]at hs;cases hs;exact e3
     ·cases hs
   refine key.pend ?_
   have:=key.stage
   omega
  rw[hp];simp;omega
def x0:Caps:=⟨0,0,0,0,0,0⟩
end
end
section
open Go.RowKit
namespace Hp
section
variable {P:Program}{ops:Array Oper}{Q:Exit→Act→World→Prop}{w:World}{rest:List Oper}{O:World}{S R A:Zd}
variable {l:List Value}{ds:List Deferred}{T ty E:TypeId}{pos:String}{after:Array Edge}{gd:Option (Nat×Bool)}{d:Nat}{x y:Operand}{i sz n:Nat}{dss:List (List Value)}{c:List Value}{v u:Value}{a:Addr}
end
end Hp
end
section
open Go.RowKit
namespace Hp
theorem wl_pass {P:Program}{ops:Array Oper}{Q:Exit→Act→World→Prop}{w:World}{rest:List Oper}{l:List Value}{ds:List Deferred}{d:Nat}{op:Op}{ty:TypeId}{pos:String}{after:Array Edge}{g:Nat×Bool}
  (hw:Region.wanted { dst:=some d,op:=op,type:=ty,pos,after,guard:=some g } (yielded ops l.toArray)=false) (kk:wpList P ops Q rest ⟨(l.set d undef).toArray,ds⟩ w) :
  wpList P ops Q ({ dst:=some d,op:=op,type:=ty,pos,after,guard:=some g }::rest) ⟨l.toArray,ds⟩ w:=by
 refine wpList_skip hw ?_
 have e:(Act.put ⟨l.toArray,ds⟩ (some d) undef:Act)=⟨(l.set d undef).toArray,ds⟩:=Z9
 show wpList P ops Q rest (Act.put ⟨l.toArray,ds⟩ (some d) undef) w
 rw[e];exact kk
theorem Z6 {P:Program}{ops:Array Oper}{Q:Exit→Act→World→Prop}{w:World}{rest:List Oper}{l:List Value}{ds:List Deferred}{d:Nat}{op:Op}{ty:TypeId}{pos:String}{after:Array Edge}{i:Nat}{b z:Bool}{o:Oper}{e:Nat}
  (ho:ops[i]? = some o) (hd:o.dst=some e) (hv:l[e]? = some (.bool z)) (hb:(z==b)=false) (kk:wpList P ops Q rest ⟨(l.set d undef).toArray,ds⟩ w) :
  wpList P ops Q ({ dst:=some d,op:=op,type:=ty,pos,after,guard:=some (i,b) }::rest) ⟨l.toArray,ds⟩ w:=by
 refine wl_pass ?_ kk
 have hv':l.toArray[e]? = some (.bool z):=by simpa using hv
 simp only[Region.wanted,yielded,ho,Option.bind_some,hd,hv']
 cases z<;>cases b<;>first|rfl|cases hb
theorem wl_pass3 {P:Program}{ops:Array Oper}{Q:Exit→Act→World→Prop}{w:World}{rest:List Oper}{l:List Value}{ds:List Deferred}{d:Nat}{op:Op}{ty:TypeId}{pos:String}{after:Array Edge}{i:Nat}{b:Bool}{o:Oper}{e:Nat}
  (ho:ops[i]? = some o) (hd:o.dst=some e) (hv:l[e]? = some undef) (kk:wpList P ops Q rest ⟨(l.set d undef).toArray,ds⟩ w) :
  wpList P ops Q ({ dst:=some d,op:=op,type:=ty,pos,after,guard:=some (i,b) }::rest) ⟨l.toArray,ds⟩ w:=by
 refine wl_pass ?_ kk
 have hv':l.toArray[e]? = some undef:=by simpa using hv
 simp only[Region.wanted,yielded,ho,Option.bind_some,hd,hv']
 cases b<;>rfl
theorem Z4 {P:Program}{ops:Array Oper}{Q:Exit→Act→World→Prop}{w:World}{rest:List Oper}{l:List Value}{ds:List Deferred}{d:Nat}{c x y:Operand}{ty:TypeId}{pos:String}{after:Array Edge}{gd:Option (Nat×Bool)}{z:Bool}{v:Value}
  (hc:ev l c=some (.bool z)) (hv:ev l (cond z x y)=some v)
  (hg:Region.wanted { dst:=some d,op:=.pick c x y,type:=ty,pos,after,guard:=gd } (yielded ops l.toArray)=true)
  (kk:wpList P ops Q rest ⟨(l.set d v).toArray,ds⟩ w) :
  wpList P ops Q ({ dst:=some d,op:=.pick c x y,type:=ty,pos,after,guard:=gd }::rest) ⟨l.toArray,ds⟩ w:=by
 refine QA (v:=v) (w':=w) hg ?_ (Z9▸kk)
 have h1:=Zs (ds:=ds) hc
 have h2:=Zs (ds:=ds) hv
 cases z<;>simp[execOp,h1,asBool]<;>simpa using h2
theorem ZG {d:Option Nat}{op:Op}{ty:TypeId}{pos:String}{after:Array Edge}{f:Nat→Option Bool}:Region.wanted { dst:=d,op:=op,type:=ty,pos,after,guard:=none } f=true:=rfl
theorem QJ {ops:Array Oper}{l:List Value}{d:Option Nat}{op:Op}{ty:TypeId}{pos:String}{after:Array Edge}{i:Nat}{b:Bool}{o:Oper}{e:Nat}
  (ho:ops[i]? = some o) (hd:o.dst=some e) (hv:l[e]? = some (.bool b)):Region.wanted { dst:=d,op:=op,type:=ty,pos,after,guard:=some (i,b) } (yielded ops l.toArray)=true:=by
 have hv':l.toArray[e]? = some (.bool b):=by simpa using hv
 simp only[Region.wanted,yielded,ho,Option.bind_some,hd,hv']
 cases b<;>rfl
end Hp
end
section
open Go.RowKit Hp
set_option maxHeartbeats 1000000 in
set_option maxRecDepth 100000 in
theorem config_yes (T R Hz Rt Ca Sl Bu:Int)(h:CfgOk T R Hz Rt Ca Sl Bu) :
  ZB Tryz.prog 87 #[.agg (cfgV T R Hz Rt Ca Sl Bu)] emp (.bool true) emp:=by
 intro O w F hs
 obtain⟨⟨a1,a2⟩,⟨b1,b2⟩,⟨c1,c2⟩,⟨d1,d2⟩,⟨e1,e2⟩,⟨f1,f2⟩,⟨g1,g2⟩⟩:=h
 go_enter Tryz.func87,Tryz.ntmps87
 simp only[List.append]
 go_wp2_with (first|((with_reducible apply Zc hs);exact Ii;rfl;(repeat(exact Qh));rfl;rfl;simp only[Uc,Uz])|((with_reducible apply Zv hs);rfl;rfl;rfl;clear hs;intro w b hs;simp only[Uc,Uz]))
 go_ret
 exact⟨rfl,hs.right⟩
set_option maxHeartbeats 4000000 in
set_option maxRecDepth 100000 in
theorem config_no (T R Hz Rt Ca Sl Bu:Int)(h:¬CfgOk T R Hz Rt Ca Sl Bu) :
  ZB Tryz.prog 87 #[.agg (cfgV T R Hz Rt Ca Sl Bu)] emp (.bool false) emp:=by
 intro O w F hs
 by_cases g0:1≤T
 case neg=>
  clear h
  have hd:decide (1≤T)=false:=by simpa using g0
  clear g0
  go_enter Tryz.func87,Tryz.ntmps87
  simp only[List.append]
  go_wp2_with (first|((with_reducible apply Zc hs);exact Ii;rfl;(repeat(exact Qh));rfl;rfl;simp only[Uc,Uz])|((with_reducible apply Zv hs);rfl;rfl;rfl;clear hs;intro w b hs;simp only[Uc,Uz]))
  go_ret
  exact⟨rfl,hs.right⟩
 by_cases g1:T≤16
 case neg=>
  clear h
  have hd:decide (T≤16)=false:=by simpa using g1
  clear g1
  go_enter Tryz.func87,Tryz.ntmps87
  simp only[List.append]
  go_wp2_with (first|((with_reducible apply Zc hs);exact Ii;rfl;(repeat(exact Qh));rfl;rfl;simp only[Uc,Uz])|((with_reducible apply Zv hs);rfl;rfl;rfl;clear hs;intro w b hs;simp only[Uc,Uz]))
  go_ret
  exact⟨rfl,hs.right⟩
 by_cases g2:1≤R
 case neg=>
  clear h
  have hd:decide (1≤R)=false:=by simpa using g2
  clear g2
  go_enter Tryz.func87,Tryz.ntmps87
  simp only[List.append]
  go_wp2_with (first|((with_reducible apply Zc hs);exact Ii;rfl;(repeat(exact Qh));rfl;rfl;simp only[Uc,Uz])|((with_reducible apply Zv hs);rfl;rfl;rfl;clear hs;intro w b hs;simp only[Uc,Uz]))
  go_ret
  exact⟨rfl,hs.right⟩
 by_cases g3:R≤16
 case neg=>
  clear h
  have hd:decide (R≤16)=false:=by simpa using g3
  clear g3
  go_enter Tryz.func87,Tryz.ntmps87
  simp only[List.append]
  go_wp2_with (first|((with_reducible apply Zc hs);exact Ii;rfl;(repeat(exact Qh));rfl;rfl;simp only[Uc,Uz])|((with_reducible apply Zv hs);rfl;rfl;rfl;clear hs;intro w b hs;simp only[Uc,Uz]))
  go_ret
  exact⟨rfl,hs.right⟩
 by_cases g4:3≤Hz
 case neg=>
  clear h
  have hd:decide (3≤Hz)=false:=by simpa using g4
  clear g4
  go_enter Tryz.func87,Tryz.ntmps87
  simp only[List.append]
  go_wp2_with (first|((with_reducible apply Zc hs);exact Ii;rfl;(repeat(exact Qh));rfl;rfl;simp only[Uc,Uz])|((with_reducible apply Zv hs);rfl;rfl;rfl;clear hs;intro w b hs;simp only[Uc,Uz]))
  go_ret
  exact⟨rfl,hs.right⟩
 by_cases g5:Hz≤8
 case neg=>
  clear h
  have hd:decide (Hz≤8)=false:=by simpa using g5
  clear g5
  go_enter Tryz.func87,Tryz.ntmps87
  simp only[List.append]
  go_wp2_with (first|((with_reducible apply Zc hs);exact Ii;rfl;(repeat(exact Qh));rfl;rfl;simp only[Uc,Uz])|((with_reducible apply Zv hs);rfl;rfl;rfl;clear hs;intro w b hs;simp only[Uc,Uz]))
  go_ret
  exact⟨rfl,hs.right⟩
 by_cases g6:1≤Rt
 case neg=>
  clear h
  have hd:decide (1≤Rt)=false:=by simpa using g6
  clear g6
  go_enter Tryz.func87,Tryz.ntmps87
  simp only[List.append]
  go_wp2_with (first|((with_reducible apply Zc hs);exact Ii;rfl;(repeat(exact Qh));rfl;rfl;simp only[Uc,Uz])|((with_reducible apply Zv hs);rfl;rfl;rfl;clear hs;intro w b hs;simp only[Uc,Uz]))
  go_ret
  exact⟨rfl,hs.right⟩
 by_cases g7:Rt≤1024
 case neg=>
  clear h
  have hd:decide (Rt≤1024)=false:=by simpa using g7
  clear g7
  go_enter Tryz.func87,Tryz.ntmps87
  simp only[List.append]
  go_wp2_with (first|((with_reducible apply Zc hs);exact Ii;rfl;(repeat(exact Qh));rfl;rfl;simp only[Uc,Uz])|((with_reducible apply Zv hs);rfl;rfl;rfl;clear hs;intro w b hs;simp only[Uc,Uz]))
  go_ret
  exact⟨rfl,hs.right⟩
 by_cases g8:0≤Ca
 case neg=>
  clear h
  have hd:decide (0≤Ca)=false:=by simpa using g8
  clear g8
  go_enter Tryz.func87,Tryz.ntmps87
  simp only[List.append]
  go_wp2_with (first|((with_reducible apply Zc hs);exact Ii;rfl;(repeat(exact Qh));rfl;rfl;simp only[Uc,Uz])|((with_reducible apply Zv hs);rfl;rfl;rfl;clear hs;intro w b hs;simp only[Uc,Uz]))
  go_ret
  exact⟨rfl,hs.right⟩
 by_cases g9:Ca≤64
 case neg=>
  clear h
  have hd:decide (Ca≤64)=false:=by simpa using g9
  clear g9
  go_enter Tryz.func87,Tryz.ntmps87
  simp only[List.append]
  go_wp2_with (first|((with_reducible apply Zc hs);exact Ii;rfl;(repeat(exact Qh));rfl;rfl;simp only[Uc,Uz])|((with_reducible apply Zv hs);rfl;rfl;rfl;clear hs;intro w b hs;simp only[Uc,Uz]))
  go_ret
  exact⟨rfl,hs.right⟩
 by_cases g10:1≤Sl
 case neg=>
  clear h
  have hd:decide (1≤Sl)=false:=by simpa using g10
  clear g10
  go_enter Tryz.func87,Tryz.ntmps87
  simp only[List.append]
  go_wp2_with (first|((with_reducible apply Zc hs);exact Ii;rfl;(repeat(exact Qh));rfl;rfl;simp only[Uc,Uz])|((with_reducible apply Zv hs);rfl;rfl;rfl;clear hs;intro w b hs;simp only[Uc,Uz]))
  go_ret
  exact⟨rfl,hs.right⟩
 by_cases g11:Sl≤1024
 case neg=>
  clear h
  have hd:decide (Sl≤1024)=false:=by simpa using g11
  clear g11
  go_enter Tryz.func87,Tryz.ntmps87
  simp only[List.append]
  go_wp2_with (first|((with_reducible apply Zc hs);exact Ii;rfl;(repeat(exact Qh));rfl;rfl;simp only[Uc,Uz])|((with_reducible apply Zv hs);rfl;rfl;rfl;clear hs;intro w b hs;simp only[Uc,Uz]))
  go_ret
  exact⟨rfl,hs.right⟩
 by_cases g12:1≤Bu
 case neg=>
  clear h
  have hd:decide (1≤Bu)=false:=by simpa using g12
  clear g12
  go_enter Tryz.func87,Tryz.ntmps87
  simp only[List.append]
  go_wp2_with (first|((with_reducible apply Zc hs);exact Ii;rfl;(repeat(exact Qh));rfl;rfl;simp only[Uc,Uz])|((with_reducible apply Zv hs);rfl;rfl;rfl;clear hs;intro w b hs;simp only[Uc,Uz]))
  go_ret
  exact⟨rfl,hs.right⟩
 by_cases g13:Bu≤64
 case neg=>
  clear h
  have hd:decide (Bu≤64)=false:=by simpa using g13
  clear g13
  go_enter Tryz.func87,Tryz.ntmps87
  simp only[List.append]
  go_wp2_with (first|((with_reducible apply Zc hs);exact Ii;rfl;(repeat(exact Qh));rfl;rfl;simp only[Uc,Uz])|((with_reducible apply Zv hs);rfl;rfl;rfl;clear hs;intro w b hs;simp only[Uc,Uz]))
  go_ret
  exact⟨rfl,hs.right⟩
 exact absurd ⟨⟨g0,g1⟩,⟨g2,g3⟩,⟨g4,g5⟩,⟨g6,g7⟩,⟨g8,g9⟩,⟨g10,g11⟩,⟨g12,g13⟩⟩ h
theorem ref_conf (c:Cfg)(h:c.Ok):ZB Tryz.prog 87 #[c.v] emp (.bool true) emp:=config_yes c.T c.R c.Hz c.Rt c.Ca c.Sl c.Bu (c.ok_iff.1 h)
theorem ref_conf_no (c:Cfg)(h:¬c.Ok):ZB Tryz.prog 87 #[c.v] emp (.bool false) emp:=config_no c.T c.R c.Hz c.Rt c.Ca c.Sl c.Bu (fun k=>h (c.ok_iff.2 k))
end
section
open Go.RowKit Hp
set_option maxRecDepth 100000
set_option maxHeartbeats 1000000
attribute [local irreducible] Go.Calls
theorem law_small:ZB Tryz.prog 68 #[] emp smallC.v emp:=by
 intro O w F hs
 go_enter Tryz.func68,Tryz.ntmps68
 go_wp2_with (first|((with_reducible apply ZR hs);exact Ii;rfl;rfl;(with_reducible exact Qh);rfl;rfl;rfl;rfl;clear hs;intro w hs)|((with_reducible apply Zw hs);exact Ii;rfl;clear hs;intro w b hs;(simp only[Uc,Uz])))
 ((try simp only[Exit.inBlock,Exit.then]);(with_reducible apply bodyPost_ret);((with_reducible apply results_c);rfl;rfl;(with_reducible apply loadF hs);exact Ii;(with_reducible exact Qh);rfl;rfl))
 exact⟨rfl,by ((with_reducible apply Sat.fin hs);(focus with_reducible (repeat first|exact Ql|exact Qn|apply Qb|apply Qk);done))⟩
theorem law_steps (v:Value)(ms:List Mv)(t:Int)(n:Nat)(hn:n≤65536)(hl:ms.length≤1000000) :
  Does Tryz.prog 32 #[v,.int .i64 t,.int .i64 (n:Int)] (sl 86 4 (ms.map Mv.e) v) (fun u=>sl 86 4 ((ms++Ji t n).map Mv.e) u):=by
 intro O w F hs
 go_enter Tryz.func32,Tryz.ntmps32
 go_wp2_with (fail)
 go_loopw [0,7] (fun u q wr=>∃k:Nat,k≤n∧q=.int .i64 (k:Int)∧Sat O wr (sl 86 4 ((ms++Ji t k).map Mv.e) u*F)) (fun _ q _=>65537-(intOf q).toNat)
 case atStart=>exact⟨0,by omega,rfl,by simp only[Ji,List.replicate_zero,List.append_nil];exact hs⟩
 case round=>
  obtain⟨k,k1,rfl,hs⟩:=hrel
  by_cases hkr:k=n
  ·subst hkr
   have hlt:decide ((k:Int)<(k:Int))=false:=by simp
   go_wp2_with (fail)
   (go_ret)
   exact⟨_,rfl,by ((with_reducible apply Sat.fin hs);(focus((repeat(first|with_reducible exact Ql|with_reducible apply Qb|exact Qh));done)))⟩
  ·have hlt:decide ((k:Int)<(n:Int))=true:=by simp;omega
   have hlt2:decide (k<n)=true:=by simp;omega
   go_wp2_with (first|((with_reducible apply wl_bs hs);exact Ii;exact Ii;rfl;rfl;rfl;rfl;(exact Vb rfl);rfl;clear hs;intro w v hs;(simp only[Uc,Uz]))|((with_reducible apply Jd hs);exact Ii;exact Ii;rfl;rfl;(focus with_reducible (repeat first|exact Qh|apply Qk);done);(with_reducible exact Qh);(simp only[Wm,Ws,Wa,Wc,Wn,Wr]at *;omega);(exact Vb rfl);rfl;clear hs;intro w v hs;(simp only[Uc,Uz])))
   have e:(ms++Ji t (k+1)).map Mv.e=(ms++Ji t k).map Mv.e++[[.int .i64 t,.int .i64 0,.int .i64 0,.int .i64 0]]:=by
    simp only[Ji,List.replicate_succ',Yh,Yi,Yj,List.append_assoc]
   go_roundw
   case rel=>exact⟨k+1,by omega,by simp,by rw[e];((with_reducible apply Sat.fin hs);(with_reducible repeat first|exact Ql|exact Qh|apply Qb|apply Qk))⟩
   case measure=>simp[intOf];omega
end
section
open Go.RowKit Hp
set_option maxRecDepth 100000
set_option maxHeartbeats 1000000
attribute [local irreducible] Go.Calls
theorem smallOk:smallC.Ok:=by constructor<;>decide
theorem aw_facts {y:HW}(h:awOk y=true):y.m.calls.length=5∧y.m.shifts.length=6∧y.m.mem.log.length=28 ∧
  (∃a1 a2 a3 a4 a5 a6 a7,y.m.calls[3]? = some ⟨a1,a2,a3,a4,a5,a6,a7,2,5⟩)∧(∃b1 b2 b3 b4 b5 b7 b8 b9,y.m.calls[4]? = some ⟨b1,b2,b3,b4,b5,32,b7,b8,b9⟩) ∧
  ∃d1 d2 d4,y.m.shifts[5]? = some ⟨d1,d2,0,d4,5⟩:=by
 unfold awOk at h
 simp only[Bool.and_eq_true,decide_eq_true_eq]at h
 obtain⟨⟨⟨⟨⟨h1,h2⟩,h3⟩,h4⟩,h5⟩,h6⟩:=h
 refine⟨h1,h2,h3,?_,?_,?_⟩
 ·split at h4
  ·rename_i c hc
   obtain⟨a1,a2,a3,a4,a5,a6,a7,a8,a9⟩:=c
   simp only[Bool.and_eq_true,decide_eq_true_eq]at h4
   obtain⟨rfl,rfl⟩:=h4
   exact⟨_,_,_,_,_,_,_,hc⟩
  ·cases h4
 ·split at h5
  ·rename_i c hc
   obtain⟨a1,a2,a3,a4,a5,a6,a7,a8,a9⟩:=c
   simp only[decide_eq_true_eq]at h5
   subst h5
   exact⟨_,_,_,_,_,_,_,_,hc⟩
  ·cases h5
 ·split at h6
  ·rename_i c hc
   obtain⟨a1,a2,a3,a4,a5⟩:=c
   simp only[Bool.and_eq_true,decide_eq_true_eq]at h6
   obtain⟨rfl,rfl⟩:=h6
   exact⟨_,_,_,hc⟩
  ·cases h6
abbrev aw1:List Mv:=[⟨0,20,0,0⟩]
abbrev aw2:List Mv:=(aw1++Ji 0 2)++[⟨0,22,5,0⟩]
abbrev aw3:List Mv:=(aw2++Ji 0 6)++[⟨1,20,0,0⟩]
abbrev aw4:List Mv:=(aw3++Ji 1 3)++[⟨1,23,0,0⟩]
abbrev aw5:List Mv:=(aw4++Ji 1 4)++[⟨0,22,6,0⟩]
set_option maxHeartbeats 4000000 in
theorem law_awake:ZB Tryz.prog 19 #[] emp (.bool true) emp:=by
 intro O w F hs
 have hS:=Lh law_small
 have h1:=Lh (fun v=>law_steps v aw1 0 2 (by omega) (by decide))
 have h2:=Lh (fun v=>law_steps v aw2 0 6 (by omega) (by decide))
 have h3:=Lh (fun v=>law_steps v aw3 1 3 (by omega) (by decide))
 have h4:=Lh (fun v=>law_steps v aw4 1 4 (by omega) (by decide))
 have h5:=Lh (fun v=>law_steps v aw5 0 13 (by omega) (by decide))
 have hP:=Lh (fun v=>haz_play_run smallC smallOk v (aw5++Ji 0 13) (by decide))
 obtain⟨l1,l2,l3,⟨a1,a2,a3,a4,a5,a6,a7,g3⟩,⟨b1,b2,b3,b4,b5,b7,b8,b9,g4⟩,d1,d2,d4,g5⟩:=aw_facts (show awOk (runE smallC (aw5++Ji 0 13))=true from aw_ok)
 generalize hyy:runE smallC (aw5++Ji 0 13)=y at l1 l2 l3 g3 g4 g5
 have hyy:=Lh hyy
 have lM:(List.map Mv.e (aw5++Ji 0 13)).length=33:=rfl
 have i3:3<(y.m.calls.map Cll.e).length:=by simp[l1]
 have i4:4<(y.m.calls.map Cll.e).length:=by simp[l1]
 have i5:5<(y.m.shifts.map Shf.e).length:=by simp[l2]
 go_enter Tryz.func19,Tryz.ntmps19
 go_wp2_with (first|(first|((with_reducible apply Zc hs);exact Ii;rfl;(with_reducible repeat first|exact Qh|apply Qk);rfl;rfl;(simp only[Uc,Uz]))|((with_reducible apply ZR hs);exact Ii;rfl;rfl;(with_reducible exact Qh);rfl;rfl;rfl;rfl;clear hs;intro w hs)|((with_reducible apply Zw hs);exact Ii;rfl;clear hs;intro w b hs;(simp only[Uc,Uz]))|((with_reducible apply Z7 hs);exact Ii;exact Ii;rfl;assumption;rfl;(with_reducible repeat first|exact Qh|apply Qk);(rfl);(assumption);rfl;(simp only[Uc,Uz]))|((with_reducible apply ZN hs);exact Ii;exact Ii;rfl;rfl;(with_reducible repeat first|exact Qh|apply Qk);(rfl);(assumption);rfl;intro b off hat;(simp only[Uc,Uz]))|((with_reducible apply Zp hs);exact Ii;rfl;(with_reducible repeat first|exact Qh|apply Qk);rfl;(simp only[Uc,Uz]))|((with_reducible apply wl_bs hs);exact Ii;exact Ii;rfl;rfl;rfl;rfl;(exact Vb rfl);rfl;clear hs;intro w v hs;(simp only[Uc,Uz]))|((with_reducible apply Jd hs);exact Ii;exact Ii;rfl;rfl;(focus with_reducible (repeat first|exact Qh|apply Qk);done);(with_reducible exact Qh);(simp only[Wm,Ws,Wa,Wc,Wn,Wr]at *;omega);(exact Vb rfl);rfl;clear hs;intro w v hs;(simp only[Uc,Uz])))|((with_reducible apply wl_ldN hs);exact Ii;rfl;(with_reducible repeat first|exact Qh|apply Qk);(simp only[List.size_toArray,List.length_cons,List.length_nil];omega);rfl;rfl;(simp only[Uc,Uz]))|((with_reducible apply Qu (i:=3) (k:=0) (c':=[.int .i64 a1,.int .i64 a2,.int .i64 a3,.int .i64 a4,.int .i64 a5,.int .i64 a6,.int .i64 a7,.int .i64 2,.int .i64 5]) hs);exact Ii;rfl;assumption;(with_reducible repeat first|exact Qh|apply Qk);rfl;(exact Ze (by assumption));(exact Vb rfl);rfl;rfl;(simp only[Uc,Uz]))|((with_reducible apply QI (i:=4) (k:=5) hs);exact Ii;rfl;assumption;(with_reducible repeat first|exact Qh|apply Qk);rfl;(exact Ze (by assumption));rfl;rfl;(simp only[Uc,Uz]))|((with_reducible apply QI (i:=5) (k:=4) hs);exact Ii;rfl;assumption;(with_reducible repeat first|exact Qh|apply Qk);rfl;(exact Ze (by assumption));rfl;rfl;(simp only[Uc,Uz]))|((with_reducible apply QI (i:=5) (k:=2) hs);exact Ii;rfl;assumption;(with_reducible repeat first|exact Qh|apply Qk);rfl;(exact Ze (by assumption));rfl;rfl;(simp only[Uc,Uz]))|(go_at_call 68;((refine(hS.out).at hs (by (focus((repeat(with_reducible exact Qn));done))) ?_);clear hs;intro w hs;(try simp only[Em,Ma]at hs)))|(go_at_call 32;((refine((h1.out _)).at hs (by (focus((repeat(first|exact Qh|with_reducible apply Qk));done))) ?_);clear hs;intro v w hs;(try simp only[Em,Ma]at hs)))|(go_at_call 32;((refine((h2.out _)).at hs (by (focus((repeat(first|exact Qh|with_reducible apply Qk));done))) ?_);clear hs;intro v w hs;(try simp only[Em,Ma]at hs)))|(go_at_call 32;((refine((h3.out _)).at hs (by (focus((repeat(first|exact Qh|with_reducible apply Qk));done))) ?_);clear hs;intro v w hs;(try simp only[Em,Ma]at hs)))|(go_at_call 32;((refine((h4.out _)).at hs (by (focus((repeat(first|exact Qh|with_reducible apply Qk));done))) ?_);clear hs;intro v w hs;(try simp only[Em,Ma]at hs)))|(go_at_call 32;((refine((h5.out _)).at hs (by (focus((repeat(exact Qh));done))) ?_);clear hs;intro v w hs;(try simp only[Em,Ma]at hs)))|(go_at_call 15;((refine((hP.out _)).at hs (by (with_reducible exact Qh)) ?_);clear hs;intro v w hs;(try simp only[Em,Ma]at hs));(unfold RunE RunR at hs);(simp only[ZM,Ma,ZH,hyy.out]at hs);(obtain⟨vr,rfl,vc,vt,vs,vw,rfl,hs⟩:=hs);(obtain⟨_,_,rfl⟩:=Qr (hs.pull (A:=sl 50 9 _ vc) (by (with_reducible exact Qh))));(obtain⟨_,_,rfl⟩:=Qr (hs.pull (A:=sl 138 7 _ vt) (by (with_reducible repeat first|exact Qh|apply Qk))));(obtain⟨_,_,rfl⟩:=Qr (hs.pull (A:=sl 127 5 _ vs) (by (with_reducible repeat first|exact Qh|apply Qk))));(obtain⟨_,_,rfl⟩:=Qr (hs.pull (A:=sl 57 1 _ vw) (by (with_reducible repeat first|exact Qh|apply Qk))));(obtain⟨_,_,rfl⟩:=Qr (hs.pull (A:=sl 86 4 _ v) (by (with_reducible repeat first|exact Qh|apply Qk))));(simp only[List.length_map,l1,l2,l3,lM]at hs ⊢)))
 (go_ret)
 exact⟨rfl,by ((with_reducible apply Sat.fin hs);(focus with_reducible (repeat first|exact Ql|exact Qn|apply Qb|apply Qk);done))⟩
end
section
open Go.RowKit Hp
set_option maxRecDepth 100000
set_option maxHeartbeats 1000000
attribute [local irreducible] Go.Calls
open Classical in
noncomputable def fitC (c:Cfg):Cfg:=if c.Ok then c else smallC
theorem fitC_ok (c:Cfg):(fitC c).Ok:=by
 unfold fitC
 split
 ·assumption
 ·exact smallOk
theorem fitM_len (mvs:List Mv):(mvs.take 65536).length≤65536:=by simp;omega
def fitR (c:Cfg)(mvs:List Mv)(A:Zd)(u:Value):Zd:=ex fun v=>pu (u=.tuple #[(fitC c).v,v]∧Rd A 4 ((mvs.take 65536).map Mv.e) v)*A
theorem law_fit (c:Cfg)(mvs:List Mv)(v:Value)(A:Zd)(hRd:Rd A 4 (mvs.map Mv.e) v) :
  Does Tryz.prog 30 #[c.v,v] A (fitR c mvs A):=by
 intro O w F hs
 have hS:=Lh law_small
 obtain⟨a0,c0,rfl⟩:=hRd.len
 have hRd':=hRd
 simp only[List.length_map]at hRd hs ⊢
 by_cases hl:65536<mvs.length
 ·have hR2:Rd A 4 ((mvs.take 65536).map Mv.e) (.slice a0 65536 c0):=by
   rw[List.map_take]
   have:=hRd'.resH (i:=65536) (by simp;omega)
   exact this
  have n1:decide ((mvs.length:Int)>65536)=true:=by simp;omega
  have n2:65536≤(mvs.map Mv.e).length:=by simp;omega
  have hRd:=Lh hRd
  clear hRd'
  by_cases hok:c.Ok
  ·have hC:=Lh (ref_conf c hok)
   have e:fitC c=c:=by unfold fitC;rw[if_pos hok]
   unfold fitR
   rw[e]
   go_enter Tryz.func30,Tryz.ntmps30
   go_wp2_with (first|(first|((with_reducible apply Z5 hs);exact Ii;rfl;(with_reducible repeat first|exact Qh|apply Qk);rfl;rfl;(simp only[Uc,Uz]))|((with_reducible apply ZR hs);exact Ii;rfl;rfl;(with_reducible exact Qh);rfl;rfl;rfl;rfl;clear hs;intro w hs)|((with_reducible apply Zw hs);exact Ii;rfl;clear hs;intro w b hs;(simp only[Uc,Uz]))|((with_reducible apply Zv hs);rfl;rfl;rfl;clear hs;intro w b hs;(simp only[Uc,Uz])))|(go_at_call 87;((refine(hC.out).at hs (by (focus((repeat(with_reducible exact Qn));done))) ?_);clear hs;intro w hs;(try simp only[Em,Ma]at hs)))|((with_reducible apply rd_reH (i:=65536) hRd.out);exact Ii;exact Ii;rfl;rfl;rfl;assumption;rfl;(simp only[Uc,Uz])))
   ((try simp only[Exit.inBlock,Exit.then]);(with_reducible apply bodyPost_ret);((with_reducible apply results_ct);rfl;rfl;(with_reducible apply loadF hs);exact Ii;(with_reducible exact Qh);rfl;rfl))
   refine⟨_,rfl,?_⟩
   simp only[ZM,Ma,ZH]
   exact⟨_,⟨rfl,hR2⟩,by ((with_reducible apply Sat.fin hs);(with_reducible repeat first|exact Ql|exact Qh|apply Qb|apply Qk))⟩
  ·have hC:=Lh (ref_conf_no c hok)
   have e:fitC c=smallC:=by unfold fitC;rw[if_neg hok]
   unfold fitR
   rw[e]
   go_enter Tryz.func30,Tryz.ntmps30
   go_wp2_with (first|(first|((with_reducible apply Z5 hs);exact Ii;rfl;(with_reducible repeat first|exact Qh|apply Qk);rfl;rfl;(simp only[Uc,Uz]))|((with_reducible apply ZR hs);exact Ii;rfl;rfl;(with_reducible repeat first|exact Qh|apply Qk);rfl;rfl;rfl;rfl;clear hs;intro w hs)|((with_reducible apply Zw hs);exact Ii;rfl;clear hs;intro w b hs;(simp only[Uc,Uz]))|((with_reducible apply Zv hs);rfl;rfl;rfl;clear hs;intro w b hs;(simp only[Uc,Uz])))|(go_at_call 68;((refine(hS.out).at hs (by (focus((repeat(with_reducible exact Qn));done))) ?_);clear hs;intro w hs;(try simp only[Em,Ma]at hs)))|(go_at_call 87;((refine(hC.out).at hs (by (focus((repeat(with_reducible exact Qn));done))) ?_);clear hs;intro w hs;(try simp only[Em,Ma]at hs)))|((with_reducible apply rd_reH (i:=65536) hRd.out);exact Ii;exact Ii;rfl;rfl;rfl;assumption;rfl;(simp only[Uc,Uz])))
   ((try simp only[Exit.inBlock,Exit.then]);(with_reducible apply bodyPost_ret);((with_reducible apply results_ct);rfl;rfl;(with_reducible apply loadF hs);exact Ii;(with_reducible exact Qh);rfl;rfl))
   refine⟨_,rfl,?_⟩
   simp only[ZM,Ma,ZH]
   exact⟨_,⟨rfl,hR2⟩,by ((with_reducible apply Sat.fin hs);(with_reducible repeat first|exact Ql|exact Qh|apply Qb|apply Qk))⟩
 ·have hR2:Rd A 4 ((mvs.take 65536).map Mv.e) (.slice a0 mvs.length c0):=by
   rw[List.take_of_length_le (by omega)]
   exact hRd
  have n1:decide ((mvs.length:Int)>65536)=false:=by simp;omega
  have hRd:=Lh hRd
  clear hRd'
  by_cases hok:c.Ok
  ·have hC:=Lh (ref_conf c hok)
   have e:fitC c=c:=by unfold fitC;rw[if_pos hok]
   unfold fitR
   rw[e]
   go_enter Tryz.func30,Tryz.ntmps30
   go_wp2_with (first|(first|((with_reducible apply Z5 hs);exact Ii;rfl;(with_reducible repeat first|exact Qh|apply Qk);rfl;rfl;(simp only[Uc,Uz]))|((with_reducible apply ZR hs);exact Ii;rfl;rfl;(with_reducible exact Qh);rfl;rfl;rfl;rfl;clear hs;intro w hs)|((with_reducible apply Zw hs);exact Ii;rfl;clear hs;intro w b hs;(simp only[Uc,Uz]))|((with_reducible apply Zv hs);rfl;rfl;rfl;clear hs;intro w b hs;(simp only[Uc,Uz])))|(go_at_call 87;((refine(hC.out).at hs (by (focus((repeat(with_reducible exact Qn));done))) ?_);clear hs;intro w hs;(try simp only[Em,Ma]at hs))))
   ((try simp only[Exit.inBlock,Exit.then]);(with_reducible apply bodyPost_ret);((with_reducible apply results_ct);rfl;rfl;(with_reducible apply loadF hs);exact Ii;(with_reducible exact Qh);rfl;rfl))
   refine⟨_,rfl,?_⟩
   simp only[ZM,Ma,ZH]
   exact⟨_,⟨rfl,hR2⟩,by ((with_reducible apply Sat.fin hs);(with_reducible repeat first|exact Ql|exact Qh|apply Qb|apply Qk))⟩
  ·have hC:=Lh (ref_conf_no c hok)
   have e:fitC c=smallC:=by unfold fitC;rw[if_neg hok]
   unfold fitR
   rw[e]
   go_enter Tryz.func30,Tryz.ntmps30
   go_wp2_with (first|(first|((with_reducible apply Z5 hs);exact Ii;rfl;(with_reducible repeat first|exact Qh|apply Qk);rfl;rfl;(simp only[Uc,Uz]))|((with_reducible apply ZR hs);exact Ii;rfl;rfl;(with_reducible repeat first|exact Qh|apply Qk);rfl;rfl;rfl;rfl;clear hs;intro w hs)|((with_reducible apply Zw hs);exact Ii;rfl;clear hs;intro w b hs;(simp only[Uc,Uz]))|((with_reducible apply Zv hs);rfl;rfl;rfl;clear hs;intro w b hs;(simp only[Uc,Uz])))|(go_at_call 68;((refine(hS.out).at hs (by (focus((repeat(with_reducible exact Qn));done))) ?_);clear hs;intro w hs;(try simp only[Em,Ma]at hs)))|(go_at_call 87;((refine(hC.out).at hs (by (focus((repeat(with_reducible exact Qn));done))) ?_);clear hs;intro w hs;(try simp only[Em,Ma]at hs))))
   ((try simp only[Exit.inBlock,Exit.then]);(with_reducible apply bodyPost_ret);((with_reducible apply results_ct);rfl;rfl;(with_reducible apply loadF hs);exact Ii;(with_reducible exact Qh);rfl;rfl))
   refine⟨_,rfl,?_⟩
   simp only[ZM,Ma,ZH]
   exact⟨_,⟨rfl,hR2⟩,by ((with_reducible apply Sat.fin hs);(with_reducible repeat first|exact Ql|exact Qh|apply Qb|apply Qk))⟩
end
section
open Go.RowKit Hp
set_option maxRecDepth 100000
set_option maxHeartbeats 1000000
attribute [local irreducible] Go.Calls
def mostC (c:Cfg):Int:=if c.Rt<c.R*c.Hz+1 then c.R*c.Hz+1 else c.Rt
def QR (c:Cfg):Int:=mostC c+(c.R-1)*(c.R*c.Hz)
theorem listed_b {c:Cfg}(hok:c.Ok):0≤QR c∧QR c≤4000:=by
 obtain⟨b1,b2,b8,b9,b10,b11,b12,b13,b14,rh,rh2⟩:=Qx hok
 have:=hok.Rt1
 have:=hok.Rt2
 have:=hok.R1
 have:=hok.R2
 have h1:(c.R-1)*(c.R*c.Hz)≤15*128:=Int.mul_le_mul (by omega) rh2 (by omega) (by omega)
 have h2:0≤(c.R-1)*(c.R*c.Hz):=Int.mul_nonneg (by omega) (by omega)
 unfold QR mostC
 split<;>omega
theorem law_listed (c:Cfg)(hok:c.Ok):ZB Tryz.prog 86 #[c.v] emp (.int .i64 (QR c)) emp:=by
 intro O w F hs
 have hb:=Qx hok
 have rh:=hb.rh
 have rh2:=hb.rh2
 have:=hok.Rt1
 have:=hok.Rt2
 have:=hok.R1
 have:=hok.R2
 have h1:(c.R-1)*(c.R*c.Hz)≤15*128:=Int.mul_le_mul (by omega) rh2 (by omega) (by omega)
 have h2:0≤(c.R-1)*(c.R*c.Hz):=Int.mul_nonneg (by omega) (by omega)
 have hw1:wrap64 (c.R*c.Hz)=c.R*c.Hz:=by unfold wrap64;omega
 have hw2:wrap64 (c.R*c.Hz+1)=c.R*c.Hz+1:=by unfold wrap64;omega
 have hw3:wrap64 (c.R-1)=c.R-1:=by unfold wrap64;omega
 have hw4:wrap64 ((c.R-1)*(c.R*c.Hz))=(c.R-1)*(c.R*c.Hz):=by unfold wrap64;omega
 clear hb
 by_cases hm:c.Rt<c.R*c.Hz+1
 ·have hd:decide (c.R*c.Hz+1>c.Rt)=true:=by simpa using hm
  have hw5:wrap64 (c.R*c.Hz+1+(c.R-1)*(c.R*c.Hz))=c.R*c.Hz+1+(c.R-1)*(c.R*c.Hz):=by unfold wrap64;omega
  have he:QR c=c.R*c.Hz+1+(c.R-1)*(c.R*c.Hz):=by unfold QR mostC;rw[if_pos hm]
  rw[he]
  clear he hm h1 h2 rh rh2
  go_enter Tryz.func86,Tryz.ntmps86
  (repeat'(first|(go_big_may;(first|((with_reducible apply Zc hs);exact Ii;rfl;(with_reducible exact Qh);rfl;rfl;(simp only[Uc,Uz]))|((with_reducible apply Zv hs);rfl;rfl;rfl;clear hs;intro w b hs;(simp only[Uc,Uz]))))|go_step))
  (go_ret)
  exact⟨by show Ending.returned (Value.int _ (wrap64 _))=_;rw[hw5],by ((with_reducible apply Sat.fin hs);(focus with_reducible (repeat first|exact Ql|exact Qn|apply Qb|apply Qk);done))⟩
 ·have hd:decide (c.R*c.Hz+1>c.Rt)=false:=by simpa using hm
  have hw5:wrap64 (c.Rt+(c.R-1)*(c.R*c.Hz))=c.Rt+(c.R-1)*(c.R*c.Hz):=by unfold wrap64;omega
  have he:QR c=c.Rt+(c.R-1)*(c.R*c.Hz):=by unfold QR mostC;rw[if_neg hm]
  rw[he]
  clear he hm h1 h2 rh rh2
  go_enter Tryz.func86,Tryz.ntmps86
  (repeat'(first|(go_big_may;(first|((with_reducible apply Zc hs);exact Ii;rfl;(with_reducible exact Qh);rfl;rfl;(simp only[Uc,Uz]))|((with_reducible apply Zv hs);rfl;rfl;rfl;clear hs;intro w b hs;(simp only[Uc,Uz]))))|go_step))
  (go_ret)
  exact⟨by show Ending.returned (Value.int _ (wrap64 _))=_;rw[hw5],by ((with_reducible apply Sat.fin hs);(focus with_reducible (repeat first|exact Ql|exact Qn|apply Qb|apply Qk);done))⟩
end
section
open Go.RowKit Hp
set_option maxRecDepth 100000
set_option maxHeartbeats 8000000
attribute [local irreducible] Go.Calls Go.wpList
theorem law_retired (c:Cfg)(hok:c.Ok):ZB Tryz.prog 27 #[c.v] emp (.int .i64 (c.R*QR c)) emp:=by
 intro O w F hs
 obtain⟨l1,l2⟩:=listed_b hok
 have hL:=Lh (law_listed c hok)
 have:=hok.R1
 have:=hok.R2
 generalize QR c=L at l1 l2 hL ⊢
 have h1:c.R*L≤16*4000:=Int.mul_le_mul (by omega) (by omega) (by omega) (by omega)
 have h2:0≤c.R*L:=Int.mul_nonneg (by omega) (by omega)
 have w1:wrap64 (c.R*L)=c.R*L:=by unfold wrap64;omega
 clear h1 h2 l1 l2
 go_enter Tryz.func27,Tryz.ntmps27
 (repeat'(first|(go_big_may;(first|(first|(first|(with_reducible refine NQ.mk ?_)|((with_reducible apply Zl);rfl;rfl)|((with_reducible apply ZF);rfl)|(with_reducible refine EQ.mk ?_ ?_)|(first|(with_reducible exact Zo)|((with_reducible refine ZJ ?_ ?_);(focus((with_reducible apply Qd);rfl;rfl))))|(with_reducible refine Zm ?_)|(show QD _ _ _;rfl))|((with_reducible apply Zc hs);exact Ii;rfl;(with_reducible exact Qh);rfl;rfl;(simp only[Uc,Uz]))|((with_reducible apply Z5 hs);exact Ii;rfl;(with_reducible exact Qh);rfl;rfl;(simp only[Uc,Uz]))|((with_reducible apply Zv hs);rfl;rfl;rfl;clear hs;intro w b hs;(simp only[Uc,Uz])))|(go_at_call 86;((refine(hL.out).at hs (by (focus((repeat(with_reducible exact Qn));done))) ?_);clear hs;intro w hs;(try simp only[Em,Ma]at hs)))|((with_reducible refine Wp (id:=1) [.neu 0,.neu 1,.neu 2,.eff 3 [0,1],.neu 4,.neu 5] hs rfl ?_ ?_);kernel_rfl;clear hs;intro w hs)))|go_step|(dsimp only)))
 (go_ret)
 exact⟨by show Ending.returned (Value.int _ (wrap64 _))=_;rw[w1],by ((with_reducible apply Sat.fin hs);(focus with_reducible (repeat first|exact Ql|exact Qn|apply Qb|apply Qk);done))⟩
def windowC (c:Cfg)(L:Int):Int:=c.T*((8*c.T+1+c.T*c.Ca+c.R*L+6)*(7*(c.Sl+c.T)+12)+(c.T+2)*(3*c.R+c.R*c.Hz+3*L)+3*(8*c.T+1+c.T*c.Ca+c.R*L)+3*c.Ca+2*c.R+c.Hz+43)+1
theorem law_window (c:Cfg)(hok:c.Ok):ZB Tryz.prog 28 #[c.v] emp (.int .i64 (windowC c (QR c))) emp:=by
 intro O w F hs
 obtain⟨l1,l2⟩:=listed_b hok
 have hL:=Lh (law_listed c hok)
 have hRt:=Lh (law_retired c hok)
 have hb:=Qx hok
 have rh:=hb.rh
 have rh2:=hb.rh2
 have:=hok.R1
 have:=hok.R2
 have:=hok.T1
 have:=hok.T2
 have:=hok.S1
 have:=hok.S2
 have:=hok.C1
 have:=hok.C2
 have:=hok.H1
 have:=hok.H2
 generalize QR c=L at l1 l2 hL hRt ⊢
 have a1:c.R*L≤16*4000:=Int.mul_le_mul (by omega) (by omega) (by omega) (by omega)
 have a2:0≤c.R*L:=Int.mul_nonneg (by omega) (by omega)
 have a3:c.T*c.Ca≤16*64:=Int.mul_le_mul (by omega) (by omega) (by omega) (by omega)
 have a4:0≤c.T*c.Ca:=Int.mul_nonneg (by omega) (by omega)
 have a5:(8*c.T+1+c.T*c.Ca+c.R*L+6)*(7*(c.Sl+c.T)+12)≤70000*8000:=Int.mul_le_mul (by omega) (by omega) (by omega) (by omega)
 have a6:0≤(8*c.T+1+c.T*c.Ca+c.R*L+6)*(7*(c.Sl+c.T)+12):=Int.mul_nonneg (by omega) (by omega)
 have a7:(c.T+2)*(3*c.R+c.R*c.Hz+3*L)≤18*12300:=Int.mul_le_mul (by omega) (by omega) (by omega) (by omega)
 have a8:0≤(c.T+2)*(3*c.R+c.R*c.Hz+3*L):=Int.mul_nonneg (by omega) (by omega)
 have a9:c.T*((8*c.T+1+c.T*c.Ca+c.R*L+6)*(7*(c.Sl+c.T)+12)+(c.T+2)*(3*c.R+c.R*c.Hz+3*L)+3*(8*c.T+1+c.T*c.Ca+c.R*L)+3*c.Ca+2*c.R+c.Hz+43)≤16*1000000000:=Int.mul_le_mul (by omega) (by omega) (by omega) (by omega)
 have a10:0≤c.T*((8*c.T+1+c.T*c.Ca+c.R*L+6)*(7*(c.Sl+c.T)+12)+(c.T+2)*(3*c.R+c.R*c.Hz+3*L)+3*(8*c.T+1+c.T*c.Ca+c.R*L)+3*c.Ca+2*c.R+c.Hz+43):=Int.mul_nonneg (by omega) (by omega)
 have w1:wrap64 (c.R*c.Hz)=c.R*c.Hz:=by unfold wrap64;omega
 have w2:wrap64 (8*c.T)=8*c.T:=by unfold wrap64;omega
 have w3:wrap64 (8*c.T+1)=8*c.T+1:=by unfold wrap64;omega
 have w4:wrap64 (c.T*c.Ca)=c.T*c.Ca:=by unfold wrap64;omega
 have w5:wrap64 (8*c.T+1+c.T*c.Ca)=8*c.T+1+c.T*c.Ca:=by unfold wrap64;omega
 have w6:wrap64 (8*c.T+1+c.T*c.Ca+c.R*L)=8*c.T+1+c.T*c.Ca+c.R*L:=by unfold wrap64;omega
 have w7:wrap64 (8*c.T+1+c.T*c.Ca+c.R*L+6)=8*c.T+1+c.T*c.Ca+c.R*L+6:=by unfold wrap64;omega
 have w8:wrap64 (c.Sl+c.T)=c.Sl+c.T:=by unfold wrap64;omega
 have w9:wrap64 (7*(c.Sl+c.T))=7*(c.Sl+c.T):=by unfold wrap64;omega
 have w10:wrap64 (7*(c.Sl+c.T)+12)=7*(c.Sl+c.T)+12:=by unfold wrap64;omega
 have w11:wrap64 ((8*c.T+1+c.T*c.Ca+c.R*L+6)*(7*(c.Sl+c.T)+12))=(8*c.T+1+c.T*c.Ca+c.R*L+6)*(7*(c.Sl+c.T)+12):=by unfold wrap64;omega
 have w12:wrap64 (c.T+2)=c.T+2:=by unfold wrap64;omega
 have w13:wrap64 (3*c.R)=3*c.R:=by unfold wrap64;omega
 have w14:wrap64 (3*c.R+c.R*c.Hz)=3*c.R+c.R*c.Hz:=by unfold wrap64;omega
 have w15:wrap64 (3*L)=3*L:=by unfold wrap64;omega
 have w16:wrap64 (3*c.R+c.R*c.Hz+3*L)=3*c.R+c.R*c.Hz+3*L:=by unfold wrap64;omega
 have w17:wrap64 ((c.T+2)*(3*c.R+c.R*c.Hz+3*L))=(c.T+2)*(3*c.R+c.R*c.Hz+3*L):=by unfold wrap64;omega
 have w18:wrap64 ((8*c.T+1+c.T*c.Ca+c.R*L+6)*(7*(c.Sl+c.T)+12)+(c.T+2)*(3*c.R+c.R*c.Hz+3*L))=(8*c.T+1+c.T*c.Ca+c.R*L+6)*(7*(c.Sl+c.T)+12)+(c.T+2)*(3*c.R+c.R*c.Hz+3*L):=by unfold wrap64;omega
 have w19:wrap64 (3*(8*c.T+1+c.T*c.Ca+c.R*L))=3*(8*c.T+1+c.T*c.Ca+c.R*L):=by unfold wrap64;omega
 have w20:wrap64 ((8*c.T+1+c.T*c.Ca+c.R*L+6)*(7*(c.Sl+c.T)+12)+(c.T+2)*(3*c.R+c.R*c.Hz+3*L)+3*(8*c.T+1+c.T*c.Ca+c.R*L))=(8*c.T+1+c.T*c.Ca+c.R*L+6)*(7*(c.Sl+c.T)+12)+(c.T+2)*(3*c.R+c.R*c.Hz+3*L)+3*(8*c.T+1+c.T*c.Ca+c.R*L):=by unfold wrap64;omega
 have w21:wrap64 (3*c.Ca)=3*c.Ca:=by unfold wrap64;omega
 have w22:wrap64 ((8*c.T+1+c.T*c.Ca+c.R*L+6)*(7*(c.Sl+c.T)+12)+(c.T+2)*(3*c.R+c.R*c.Hz+3*L)+3*(8*c.T+1+c.T*c.Ca+c.R*L)+3*c.Ca)=(8*c.T+1+c.T*c.Ca+c.R*L+6)*(7*(c.Sl+c.T)+12)+(c.T+2)*(3*c.R+c.R*c.Hz+3*L)+3*(8*c.T+1+c.T*c.Ca+c.R*L)+3*c.Ca:=by unfold wrap64;omega
 have w23:wrap64 (2*c.R)=2*c.R:=by unfold wrap64;omega
 have w24:wrap64 ((8*c.T+1+c.T*c.Ca+c.R*L+6)*(7*(c.Sl+c.T)+12)+(c.T+2)*(3*c.R+c.R*c.Hz+3*L)+3*(8*c.T+1+c.T*c.Ca+c.R*L)+3*c.Ca+2*c.R)=(8*c.T+1+c.T*c.Ca+c.R*L+6)*(7*(c.Sl+c.T)+12)+(c.T+2)*(3*c.R+c.R*c.Hz+3*L)+3*(8*c.T+1+c.T*c.Ca+c.R*L)+3*c.Ca+2*c.R:=by unfold wrap64;omega
 have w25:wrap64 ((8*c.T+1+c.T*c.Ca+c.R*L+6)*(7*(c.Sl+c.T)+12)+(c.T+2)*(3*c.R+c.R*c.Hz+3*L)+3*(8*c.T+1+c.T*c.Ca+c.R*L)+3*c.Ca+2*c.R+c.Hz)=(8*c.T+1+c.T*c.Ca+c.R*L+6)*(7*(c.Sl+c.T)+12)+(c.T+2)*(3*c.R+c.R*c.Hz+3*L)+3*(8*c.T+1+c.T*c.Ca+c.R*L)+3*c.Ca+2*c.R+c.Hz:=by unfold wrap64;omega
 have w26:wrap64 ((8*c.T+1+c.T*c.Ca+c.R*L+6)*(7*(c.Sl+c.T)+12)+(c.T+2)*(3*c.R+c.R*c.Hz+3*L)+3*(8*c.T+1+c.T*c.Ca+c.R*L)+3*c.Ca+2*c.R+c.Hz+43)=(8*c.T+1+c.T*c.Ca+c.R*L+6)*(7*(c.Sl+c.T)+12)+(c.T+2)*(3*c.R+c.R*c.Hz+3*L)+3*(8*c.T+1+c.T*c.Ca+c.R*L)+3*c.Ca+2*c.R+c.Hz+43:=by unfold wrap64;omega
 have w27:wrap64 (c.T*((8*c.T+1+c.T*c.Ca+c.R*L+6)*(7*(c.Sl+c.T)+12)+(c.T+2)*(3*c.R+c.R*c.Hz+3*L)+3*(8*c.T+1+c.T*c.Ca+c.R*L)+3*c.Ca+2*c.R+c.Hz+43))=c.T*((8*c.T+1+c.T*c.Ca+c.R*L+6)*(7*(c.Sl+c.T)+12)+(c.T+2)*(3*c.R+c.R*c.Hz+3*L)+3*(8*c.T+1+c.T*c.Ca+c.R*L)+3*c.Ca+2*c.R+c.Hz+43):=by unfold wrap64;omega
 have w28:wrap64 (c.T*((8*c.T+1+c.T*c.Ca+c.R*L+6)*(7*(c.Sl+c.T)+12)+(c.T+2)*(3*c.R+c.R*c.Hz+3*L)+3*(8*c.T+1+c.T*c.Ca+c.R*L)+3*c.Ca+2*c.R+c.Hz+43)+1)=c.T*((8*c.T+1+c.T*c.Ca+c.R*L+6)*(7*(c.Sl+c.T)+12)+(c.T+2)*(3*c.R+c.R*c.Hz+3*L)+3*(8*c.T+1+c.T*c.Ca+c.R*L)+3*c.Ca+2*c.R+c.Hz+43)+1:=by unfold wrap64;omega
 have he:windowC c L=c.T*((8*c.T+1+c.T*c.Ca+c.R*L+6)*(7*(c.Sl+c.T)+12)+(c.T+2)*(3*c.R+c.R*c.Hz+3*L)+3*(8*c.T+1+c.T*c.Ca+c.R*L)+3*c.Ca+2*c.R+c.Hz+43)+1:=rfl
 rw[he]
 clear he a1 a2 a3 a4 a5 a6 a7 a8 a9 a10 rh rh2 hb l1 l2
 go_enter Tryz.func28,Tryz.ntmps28
 (repeat'(first|(go_big_may;(first|(first|(first|(with_reducible refine NQ.mk ?_)|((with_reducible apply Zl);rfl;rfl)|((with_reducible apply ZF);rfl)|(with_reducible refine EQ.mk ?_ ?_)|(first|(with_reducible exact Zo)|((with_reducible refine ZJ ?_ ?_);(focus((with_reducible apply Qd);rfl;rfl))))|(with_reducible refine Zm ?_)|(show QD _ _ _;rfl))|((with_reducible apply Zc hs);exact Ii;rfl;(with_reducible exact Qh);rfl;rfl;(simp only[Uc,Uz]))|((with_reducible apply Z5 hs);exact Ii;rfl;(with_reducible exact Qh);rfl;rfl;(simp only[Uc,Uz]))|((with_reducible apply Zv hs);rfl;rfl;rfl;clear hs;intro w b hs;(simp only[Uc,Uz])))|(go_at_call 86;((refine(hL.out).at hs (by (focus((repeat(with_reducible exact Qn));done))) ?_);clear hs;intro w hs;(try simp only[Em,Ma]at hs)))|(go_at_call 27;((refine(hRt.out).at hs (by (focus((repeat(with_reducible exact Qn));done))) ?_);clear hs;intro w hs;(try simp only[Em,Ma]at hs)))|((with_reducible refine Wp (id:=2) (Paz (Pbz [.neu 10,.eff 11 [0,1,2,3,4,5,6,7,8,9],.neu 12,.neu 13])) hs rfl ?_ ?_);kernel_rfl;clear hs;intro w hs)|((with_reducible refine Wp (id:=3) (Paz (Pbz (Pcz [.neu 15,.neu 16,.neu 17,.neu 18,.neu 24,.neu 25,.neu 27,.neu 28,.neu 29,.neu 31,.neu 32,.neu 33,.neu 35,.neu 36,.eff 19 [0,1,2,3,4,5,6,7,8,9,10,11,12,13,14,15,16,17,24,25,27,28,29,31,32,33,35,36],.neu 20,.neu 21,.neu 22,.neu 23,.neu 26,.neu 30,.neu 34,.neu 37,.neu 38,.neu 39]))) hs rfl ?_ ?_);kernel_rfl;clear hs;intro w hs)))|go_step|(dsimp only)))
 (go_ret)
 exact⟨by show Ending.returned (Value.int _ (wrap64 _))=_;rw[w28],by ((with_reducible apply Sat.fin hs);(focus with_reducible (repeat first|exact Ql|exact Qn|apply Qb|apply Qk);done))⟩
end
end Go.Proofs.YtegafhhdegnigaaGreat
