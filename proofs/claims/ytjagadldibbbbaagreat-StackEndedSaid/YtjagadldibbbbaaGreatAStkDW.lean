/-
  A call of the stack that has ended has a point, and answers what such a call may.
-/
import Derived.Test.YtjagadldibbbbaaGreatAGen2
import Derived.Test.YtjagadldibbbbaaGreatARun
import Derived.Lib.Hide
set_option linter.all false
namespace Go.Proofs.YtjagadldibbbbaaGreat
section
open Go.RowKit Hp
set_option maxRecDepth 100000
set_option maxHeartbeats 1000000
attribute [local irreducible] Go.Calls
def EdE (cl:Cll):Prop:=(cl.op=30→0≤cl.point∧(cl.kind=1∨cl.kind=4))∧(cl.op=31→0≤cl.point∧(cl.kind=2∨cl.kind=3))
def EdB (_:Nat)(cl:Cll)(se:Sea):Qm→Prop
 | .hz _=>cl.op≠30∧cl.op≠31
 | .psh _=>cl.op=30
 | .pop p=>cl.op=31∧(p.stage=6∨p.stage=7→0≤cl.point)∧(p.stage=8→0≤cl.point∧se.kind=3)∧(p.stage=9→0≤cl.point∧se.kind=2)
section
variable {m:Mch}{i t:Nat}{c:Cll}{s:Sea}{h:Haz}{a:Are}
theorem cur_point (hc:ZD m i t c s)(z:Int):ZD (m.point i c z) i t { c with point:=z } s:=
 ⟨hc.cur,Ye (List.getElem?_eq_some_iff.1 hc.call).1,hc.seat⟩
theorem cur_answer (hc:ZD m i t c s)(k v:Int):ZD (m.answer t s k v) i t c { s with kind:=k,value:=v } :=
 ⟨hc.cur,hc.call,Ye (List.getElem?_eq_some_iff.1 hc.seat).1⟩
theorem cur_both (hc:ZD m i t c s)(z k v:Int):ZD ((m.point i c z).answer t s k v) i t { c with point:=z } { s with kind:=k,value:=v } :=
 cur_answer (cur_point hc z) k v
def EdH (i t:Nat)(b:Bool)(m:Mch)(k:Qm):Prop:=∃c s,ZD m i t c s∧(b=false→EdB t c s k)∧(b=true→EdE { c with kind:=s.kind })
theorem ed_frame {m':Mch}(hc:ZD m i t c s)(f:ZX i t c s m m')(b:Bool)(k k':HTask)(E:EdB t c s (.hz k)):EdH i t b m' (.hz k'):=by
 obtain⟨z,q,v,hc'⟩:=f.curIn hc
 exact⟨_,_,hc',fun _=>E,fun _=>⟨fun h=>absurd h E.1,fun h=>absurd h E.2⟩⟩
theorem ed_taken {p:Pu}(hc:ZD m i t c s)(hn:0≤m.now)(E:c.op=30):EdH i t (Z0 m i t c s p).1 (Z0 m i t c s p).2.1 (.psh (Z0 m i t c s p).2.2):=by
 unfold Z0
 split
 ·exact⟨_,_,cur_both hc m.now 4 0,fun hf=>(by cases hf),fun _=>⟨fun _=>⟨hn,.inr rfl⟩,fun(h:c.op=31)=>by omega⟩⟩
 ·exact⟨_,_,hc,fun _=>E,fun hf=>(by cases hf)⟩
theorem ed_rdy {k:Qm}(hc:ZD m i t c s)(hn:0≤m.now)(E:EdB t c s k):EdH i t (skReady (h,a) m i t c s k).1 (skReady (h,a) m i t c s k).2.2.1 (skReady (h,a) m i t c s k).2.2.2:=by
 cases k with
 | hz k=>exact ed_frame hc ((hzT_good 0 0 emp).fr (h,a) m i t c s k hc) _ k _ E
 | psh p=>
  simp only[skReady]
  unfold Qs
  simp only[]
  have hS:=ZR a m p.take
  split
  ·exact ed_taken (hS.curIn hc) (by rw[hS.now];exact hn) E
  ·rename_i hf
   exact⟨_,_,hS.curIn hc,fun _=>E,fun hf=>(by cases hf)⟩
 | pop p=>
  obtain⟨e1,_⟩:=E
  exact⟨_,_,hc,fun _=>⟨e1,fun hf=>by simp at hf,fun hf=>by simp at hf,fun hf=>by simp at hf⟩,fun hf=>(by cases hf)⟩
theorem ed_seen {p:Po}(hc:ZD m i t c s)(hn:0≤m.now)(E:c.op=31):EdH i t (Qc m i t c s p).1 (Qc m i t c s p).2.1 (.pop (Qc m i t c s p).2.2):=by
 unfold Qc
 split
 ·exact⟨_,_,hc,fun _=>⟨E,fun hf=>by simp at hf,fun hf=>by simp at hf,fun hf=>by simp at hf⟩,fun hf=>(by cases hf)⟩
 ·exact⟨_,_,cur_both hc m.now 3 0,fun _=>⟨E,fun hf=>by simp at hf,fun _=>⟨hn,rfl⟩,fun hf=>by simp at hf⟩,fun _=>⟨fun(h:c.op=30)=>by omega,fun _=>⟨hn,.inr rfl⟩⟩⟩
theorem ed_stp {k:Qm}(hc:ZD m i t c s)(hn:0≤m.now)(E:EdB t c s k)(ok:∀p,k=.pop p→PpI h.c p):EdH i t (skStep (h,a) m i t c s k).1 (skStep (h,a) m i t c s k).2.2.1 (skStep (h,a) m i t c s k).2.2.2:=by
 cases k with
 | hz k=>exact ed_frame hc ((hzT_good 0 0 emp).fs (h,a) m i t c s k hc) _ k _ E
 | psh p=>
  simp only[skStep]
  unfold puStep
  simp only[]
  have E:c.op=30:=E
  split
  ·unfold puTake
   simp only[]
   have hS:=same_take a m p.take
   split
   ·exact ed_taken (hS.curIn hc) (by rw[hS.now];exact hn) E
   ·exact⟨_,_,hS.curIn hc,fun _=>E,fun hf=>(by cases hf)⟩
  ·split
   ·exact⟨_,_,(ZE ..).curIn hc,fun _=>E,fun hf=>(by cases hf)⟩
   ·split
    ·exact⟨_,_,(Zv ..).curIn hc,fun _=>E,fun hf=>(by cases hf)⟩
    ·split
     ·exact⟨_,_,(ZE ..).curIn hc,fun _=>E,fun hf=>(by cases hf)⟩
     ·split
      ·unfold puDone
       exact⟨_,_,cur_answer ((Qp ..).curIn (cur_point ((ZO m _ _ _ _).curIn hc) m.now)) 1 0,fun hf=>(by cases hf),fun _=>⟨fun _=>⟨hn,.inl rfl⟩,fun(h:c.op=31)=>by omega⟩⟩
      ·exact⟨_,_,(ZO ..).curIn hc,fun _=>E,fun hf=>(by cases hf)⟩
 | pop p=>
  have hst:=(ok p rfl).stage
  have hrt:=(ok p rfl).ret
  clear ok
  simp only[skStep]
  unfold QD
  simp only[]
  obtain⟨e1,e2,e3,e4⟩:=E
  split
  ·exact ed_seen ((Zv m _ _).curIn hc) hn e1
  ·split
   ·exact⟨_,_,(ZE ..).curIn hc,fun _=>⟨e1,fun hf=>by simp at hf,fun hf=>by simp at hf,fun hf=>by simp at hf⟩,fun hf=>(by cases hf)⟩
   ·split
    ·split
     ·exact⟨_,_,(Zv ..).curIn hc,fun _=>⟨e1,fun hf=>by simp at hf,fun hf=>by simp at hf,fun hf=>by simp at hf⟩,fun hf=>(by cases hf)⟩
     ·exact ed_seen ((Zv m _ _).curIn hc) hn e1
    ·split
     ·exact⟨_,_,(Zv ..).curIn hc,fun _=>⟨e1,fun hf=>by simp at hf,fun hf=>by simp at hf,fun hf=>by simp at hf⟩,fun hf=>(by cases hf)⟩
     ·split
      ·split
       ·exact⟨_,_,(Qp ..).curIn (cur_point ((ZO m _ _ _ _).curIn hc) m.now),fun _=>⟨e1,fun _=>hn,fun hf=>by simp at hf,fun hf=>by simp at hf⟩,fun hf=>(by cases hf)⟩
       ·exact⟨_,_,(ZO ..).curIn hc,fun _=>⟨e1,fun hf=>by simp at hf,fun hf=>by simp at hf,fun hf=>by simp at hf⟩,fun hf=>(by cases hf)⟩
      ·split
       ·rename_i h6
        exact⟨_,_,(Zv ..).curIn hc,fun _=>⟨e1,fun _=>e2 (.inl h6),fun hf=>by simp at hf,fun hf=>by simp at hf⟩,fun hf=>(by cases hf)⟩
       ·split
        ·rename_i h7
         exact⟨_,_,(same_retire ..).curIn (cur_answer ((ZE m _ _ _).curIn hc) 2 p.value),fun _=>⟨e1,fun hf=>by simp at hf,fun hf=>by simp at hf,fun _=>⟨e2 (.inr h7),rfl⟩⟩,fun _=>⟨fun(h:c.op=30)=>by omega,fun _=>⟨e2 (.inr h7),.inl rfl⟩⟩⟩
        ·split
         ·rename_i h8
          obtain⟨g1,g2⟩:=e3 h8
          exact⟨_,_,(ZE ..).curIn hc,fun hf=>(by cases hf),fun _=>⟨fun(h:c.op=30)=>by omega,fun _=>⟨g1,.inr g2⟩⟩⟩
         ·have h9:p.stage=9:=by clear hrt;omega
          obtain⟨r,sc,q1,q2,_⟩:=hrt h9
          obtain⟨g1,g2⟩:=e4 h9
          rw[q1]
          simp only[q2]
          exact⟨_,_,(same_scan ..).curIn hc,fun _=>⟨e1,fun(hf:p.stage=6∨p.stage=7)=>by clear hrt;omega,fun(hf:p.stage=8)=>by clear hrt;omega,fun _=>⟨g1,g2⟩⟩,fun _=>⟨fun(h:c.op=30)=>by omega,fun _=>⟨g1,.inl g2⟩⟩⟩
end
def EdJ (_:Nat)(y:GW Qm):Prop:=RunG EdB EdE y
theorem ZD.same {m:Mch}{i t:Nat}{c c':Cll}{s s':Sea}(h:ZD m i t c s)(h':ZD m i t c' s'):c'=c∧s'=s:=by
 have h1:=h.call
 have h2:=h.seat
 rw[h'.call]at h1
 rw[h'.seat]at h2
 cases h1;cases h2
 exact⟨rfl,rfl⟩
theorem ed_start (c:Cfg)(km:Nat)(vs:Value):EdJ 0 (gst0 Qm c km vs):=by
 refine⟨?_,fun cl hcl=>by simp[gst0,mch0]at hcl⟩
 intro t k se hk
 simp only[gst0,List.getElem?_replicate]at hk
 split at hk<;>simp at hk
theorem sTask_op {s:Haz×Are}{t:Nat}{mv:Mv}{k:Qm}(h:sTask s t mv=some k):match k with
  | .hz _=>mv.op≠30∧mv.op≠31
  | .psh p=>mv.op=30∧p.value=mv.arg
  | .pop p=>mv.op=31∧p.stage=0:=by
 unfold sTask at h
 split at h
 ·unfold stkTask at h
  split at h
  ·rename_i e
   split at h
   ·cases h
   ·cases h
    exact⟨e,rfl⟩
  ·split at h
   ·rename_i e
    split at h
    ·cases h
    ·cases h
     exact⟨e,rfl⟩
   ·cases h
 ·rename_i hn
  cases hq:Qg s t mv with
  | none=>rw[hq]at h;cases h
  | some q=>
   rw[hq]at h
   cases h
   exact⟨fun e=>hn (.inl e),fun e=>hn (.inr e)⟩
theorem ed_ok (c:Cfg)(bh ba:Nat)(CX:Za):JG (skT bh ba CX) sTask (SI c) c sOps EdJ:=by
 refine⟨fun n y _ _ R=>R.tick,?_,?_⟩
 ·intro n y mv t k v vc hn P R ht htT hop hk hm
  refine R.begin ht hk (P.tasks.trans P.seats.symm) ?_
  have:=sTask_op hm
  cases k with
  | hz k=>exact this
  | psh p=>exact this.1
  | pop p=>
   obtain⟨e1,e2⟩:=this
   exact⟨e1,fun hf=>by rw[e2]at hf;omega,fun hf=>by rw[e2]at hf;omega,fun hf=>by rw[e2]at hf;omega⟩
 ·intro n y t i cl se k r1 r2 hn P G P' R
  obtain⟨z,q,v,O⟩:=G.out P
  obtain⟨i0,cl0,a1,a2,a3,a4,E⟩:=R.busy t k se G.hk G.hse
  have hi0:i0=i:=by have:=G.hl;omega
  subst hi0
  have hcl:cl0=cl:=by have:=G.hc;rw[a2]at this;cases this;rfl
  subst hcl
  have hlt:=(List.getElem?_eq_some_iff.1 G.hse).1
  have hci:ZD (QJ y t i0 se) i0 t cl0 { se with ready:=true }:=⟨rfl,G.hc,by simp[QJ,Mch.prep,Wst.tick,hlt]⟩
  have hmv:y.m.moves=(n:Int):=P.moves
  have E0:EdB t cl0 { se with ready:=true } k:=E
  have H1:EdH i0 t r1.1 r1.2.2.1 r1.2.2.2:=by
   rcases G.rdy with⟨_,e⟩|⟨_,e⟩
   ·rw[e]
    exact ed_rdy hci (by show 0≤y.m.moves;omega) E0
   ·rw[e]
    exact⟨_,_,hci,fun _=>E0,fun hf=>(by cases hf)⟩
  have H2:EdH i0 t r2.1 r2.2.2.1 r2.2.2.2:=by
   rcases G.stp with⟨_,e⟩|⟨hb,z1,q1,v1,hcu,e⟩
   ·rw[e];exact H1
   ·obtain⟨c',s',hc',hB,_⟩:=H1
    obtain⟨rfl,rfl⟩:=hc'.same hcu
    rw[e]
    have hnow:r1.2.2.1.now=(n:Int):=by rw[G.h1.frame.now];exact hmv
    refine ed_stp (h:=r1.2.1.1) (a:=r1.2.1.2) hcu (by rw[hnow];omega) (hB hb) (fun p hp => ?_)
    have hI:=G.h1.fin hb
    rw[hp]at hI
    have:=hI.2.2 rfl
    rw[G.h1.core.hc]
    exact this
  obtain⟨c',s',hc',hB,hE⟩:=H2
  obtain⟨rfl,rfl⟩:=O.cur.same hc'
  exact R.step P G O hB (fun hb=>hE hb)
end
section
open Go.RowKit
namespace Hp
end Hp
end
section
open Go.RowKit
namespace Hp
section
variable {P:Program}{ops:Array Oper}{Q:Exit→Act→World→Prop}{w:World}{rest:List Oper}{l:List Value}{ds:List Deferred}{T T' ty:TypeId}{pos:String}{after:Array Edge}{gd:Option (Nat×Bool)}{d:Nat}{x y:Operand}{K:IntKind}{a b:Int}{r:Bool}
end
end Hp
end
section
open Go.RowKit Hp
set_option maxRecDepth 100000
set_option maxHeartbeats 4000000
attribute [local irreducible] Go.Calls Go.wpList
theorem ed_cases {x2 x6 x7 x8:Int}(h:x6 ≠ -1→0≤x6∧(x2=30→0≤x7∧(x8=1∨x8=4))∧(x2=31→0≤x7∧(x8=2∨x8=3))) :
  decide (x6<0)=true∨(decide (x6<0)=false∧decide (x7<0)=false∧(x2=30∧x8=1∨x2=30∧x8=4∨x2=31∧x8=2∨x2=31∧x8=3))∨(decide (x6<0)=false∧(x2==30)=false∧(x2==31)=false):=by
 by_cases h6:x6<0
 ·exact .inl (by simpa using h6)
 ·obtain⟨h0,h1,h2⟩:=h (by omega)
  by_cases e:x2=30
  ·obtain⟨g1,g2⟩:=h1 e
   exact .inr (.inl ⟨by simp;omega,by simp;omega,by omega⟩)
  ·by_cases e2:x2=31
   ·obtain⟨g1,g2⟩:=h2 e2
    exact .inr (.inl ⟨by simp;omega,by simp;omega,by omega⟩)
   ·exact .inr (.inr ⟨by simp;omega,by simpa using e,by simpa using e2⟩)
theorem stack_ended (c:Cfg)(mvs:List Mv)(v:Value)(A:Za)(hRd:Rd A 4 (mvs.map Mv.e) v):Ze Tryz.prog 4 #[c.v,v] A (.bool true) A:=by
 intro O w F hs
 have hAw:=Lh law_awake
 by_cases hfit:SFit c mvs
 ·have hF:=Lh (law_fits c mvs v hfit A hRd)
  have hP:=Lh (law_played c mvs hfit v EdJ (ed_start c) (ed_ok c) A hRd)
  obtain⟨a0,c0,rfl⟩:=hRd.len
  simp only[List.length_map]at hF hP hs ⊢
  have hN2:=hfit.2
  clear hRd hfit
  generalize mvs.length=N at *
  have hN2:=Lh hN2
  have hQ:Hid (∀y:GW Qm,PG (SI c) c N y∧EdJ N y→∀x∈y.m.calls,x.end_ ≠ -1→0≤x.end_∧EdE x):=Lh (fun y hy=>hy.2.ended)
  obtain⟨d1,d2,d3,d4,d5,d6,d7⟩:=c
  go_enter Tryz.func4,Tryz.ntmps4
  go_wp2_with (first|(first|((with_reducible apply ZZ hs);exact Ii;rfl;(with_reducible repeat first|exact Qh|apply Qk);rfl;rfl;(simp only[Uc,Uz]))|((with_reducible apply ZJ hs);exact Ii;rfl;rfl;(with_reducible exact Qh);rfl;rfl;rfl;rfl;clear hs;intro w hs)|((with_reducible apply Zr hs);exact Ii;rfl;clear hs;intro w b hs;(simp only[Uc,Uz]))|((with_reducible apply Zm hs);rfl;rfl;rfl;clear hs;intro w b hs;(simp only[Uc,Uz])))|(go_at_call 8;((refine(hF.out).at hs (by (with_reducible repeat first|exact Qh|apply Qk)) ?_);clear hs;intro w hs;(try simp only[Em,Ma]at hs)))|(go_at_call 10;((refine(hP.out).at hs (by (with_reducible exact Qh)) ?_);clear hs;intro v w hs;(try simp only[Em,Ma]at hs));(unfold playedR RunR at hs);(simp only[ZB,Ma,Zw]at hs);(obtain⟨y,vr,⟨hy,rfl⟩,vc,vt,vs,vw,rfl,hs⟩:=hs);(obtain⟨a1,k1,rfl⟩:=Z8 (hs.pull (A:=sl 42 9 _ vc) (by (with_reducible exact Qh))));(obtain⟨a2,k2,rfl⟩:=Z8 (hs.pull (A:=sl 49 7 _ vt) (by (with_reducible repeat first|exact Qh|apply Qk))));(obtain⟨a3,k3,rfl⟩:=Z8 (hs.pull (A:=sl 52 5 _ vs) (by (with_reducible repeat first|exact Qh|apply Qk))));(obtain⟨a4,k4,rfl⟩:=Z8 (hs.pull (A:=sl 47 1 _ vw) (by (with_reducible repeat first|exact Qh|apply Qk))));(simp only[List.length_map]at hs ⊢)))
  have hq:=hQ.out y hy
  have hlc:y.m.calls.length<4294967296:=by have:=hy.1.calls;have:=hN2.out;omega
  clear hQ hP hF hy
  generalize y.m.calls=cs at hs hq hlc ⊢
  generalize y.m.mem.log=lg at hs ⊢
  generalize y.m.shifts=sh at hs ⊢
  generalize y.m.mem.words=ws at hs ⊢
  have hq:=Lh hq
  go_loopw [7] (fun q wr=>∃k:Nat,k≤cs.length∧q=.int .i64 (k:Int)∧Sat O wr (pt b (.cells #[.slice a1 cs.length k1,.slice a2 lg.length k2,.slice a3 sh.length k3,.slice a4 ws.length k4] 32)*(sl 42 9 (cs.map Cll.e) (.slice a1 cs.length k1)*(A*F)))) (fun q _=>cs.length+1-(intOf q).toNat)
  case atStart=>exact⟨0,by omega,rfl,by ((with_reducible apply Sat.fin hs);(with_reducible repeat first|exact Ql|exact Qh|apply Qb|apply Qk))⟩
  case round=>
   obtain⟨k,kl,rfl,hs⟩:=hrel
   by_cases hkr:k=cs.length
   ·subst hkr
    have hlt:decide ((cs.length:Int)<(cs.length:Int))=false:=by simp
    have hlt2:decide (cs.length<cs.length)=false:=by simp
    go_wp2_with (first|((with_reducible apply Zc hs);exact Ii;rfl;(with_reducible exact Qh);rfl;rfl;(simp only[Uc,Uz]))|((with_reducible apply ZF hs);exact Ii;rfl;(with_reducible repeat first|exact Qh|apply Qk);rfl;(simp only[Uc,Uz])))
    (go_ret)
    exact⟨rfl,by ((with_reducible apply Sat.fin hs);(with_reducible repeat first|exact Ql|exact Qh|apply Qb|apply Qk))⟩
   ·have hkl:k<cs.length:=by omega
    have hlt:decide ((k:Int)<(cs.length:Int))=true:=by simp;omega
    have hlt2:decide (k<cs.length)=true:=by simp;omega
    have hkw:k+1<4294967296:=by omega
    obtain⟨x,hx⟩:∃x,cs[k]? = some x:=⟨_,Yd hkl⟩
    have hX:=ed_cases (hq.out x (Yc hx))
    obtain⟨x1,x2,x3,x4,x5,x6,x7,x8,x9⟩:=x
    have hg:(cs.map Cll.e)[k]? = some [.int .i64 x1,.int .i64 x2,.int .i64 x3,.int .i64 x4,.int .i64 x5,.int .i64 x6,.int .i64 x7,.int .i64 x8,.int .i64 x9]:=by simp[hx]
    have hil:k<(cs.map Cll.e).length:=by simpa using hkl
    have HK:=Lh hkl
    clear hkr hkl hx
    simp only[]at hX
    rcases hX with h6|⟨h6,h7,⟨rfl,rfl⟩|⟨rfl,rfl⟩|⟨rfl,rfl⟩|⟨rfl,rfl⟩⟩|⟨h6,h2,h3⟩
    all_goals
     go_wp2_with (first|((with_reducible apply Zc hs);exact Ii;rfl;(with_reducible exact Qh);rfl;rfl;(simp only[Uc,Uz]))|((with_reducible apply ZJ hs);exact Ii;rfl;rfl;(with_reducible exact Qh);rfl;rfl;rfl;rfl;clear hs;intro w hs)|((with_reducible apply Zr hs);exact Ii;rfl;clear hs;intro w b hs;(simp only[Uc,Uz]))|((with_reducible apply wl_ldSN (k:=0) hs);exact Ii;rfl;assumption;(with_reducible repeat first|exact Qh|apply Qk);(exact(Nat.add_zero _).symm);(assumption);(exact Vb rfl);rfl;rfl;(simp only[Uc,Uz]))|((with_reducible apply ZW hs);exact Ii;exact Ii;rfl;rfl;(with_reducible repeat first|exact Qh|apply Qk);(rfl);(assumption);rfl;intro b off hat;(simp only[Uc,Uz]))|((with_reducible apply ZF hs);exact Ii;rfl;(with_reducible repeat first|exact Qh|apply Qk);rfl;(simp only[Uc,Uz])))
     go_roundw
     case rel=>exact⟨k+1,by have:=HK.out;omega,by simp,by ((with_reducible apply Sat.fin hs);(with_reducible repeat first|exact Ql|exact Qh|apply Qb|apply Qk))⟩
     case measure=>have:=HK.out;simp[intOf];omega
 ·have hF:=Lh (law_fits_no c mvs v hfit A hRd)
  obtain⟨a0,c0,rfl⟩:=hRd.len
  simp only[List.length_map]at hF hs ⊢
  clear hRd hfit
  obtain⟨d1,d2,d3,d4,d5,d6,d7⟩:=c
  go_enter Tryz.func4,Tryz.ntmps4
  go_wp2_with (first|(first|((with_reducible apply ZZ hs);exact Ii;rfl;(with_reducible exact Qh);rfl;rfl;(simp only[Uc,Uz]))|((with_reducible apply Zm hs);rfl;rfl;rfl;clear hs;intro w b hs;(simp only[Uc,Uz])))|(go_at_call 8;((refine(hF.out).at hs (by (with_reducible repeat first|exact Qh|apply Qk)) ?_);clear hs;intro w hs;(try simp only[Em,Ma]at hs)))|(go_at_call 9;((refine(hAw.out).at hs (by (focus((repeat(with_reducible exact Qn));done))) ?_);clear hs;intro w hs;(try simp only[Em,Ma]at hs))))
  (go_ret)
  exact⟨rfl,by ((with_reducible apply Sat.fin hs);(with_reducible repeat first|exact Ql|exact Qh|apply Qb|apply Qk))⟩
end
end Go.Proofs.YtjagadldibbbbaaGreat
