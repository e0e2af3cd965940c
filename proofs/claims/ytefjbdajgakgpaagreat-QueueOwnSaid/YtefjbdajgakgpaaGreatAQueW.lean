/-
  What the queue's calls keep.
-/
import Derived.Test.YtefjbdajgakgpaaGreatAMach2
import Derived.Test.YtefjbdajgakgpaaGreatAGenM2
import Derived.Test.YtefjbdajgakgpaaGreatAInv5
import Derived.Test.YtefjbdajgakgpaaGreatANew3
import Derived.Lib.Hide
set_option linter.all false
namespace Go.Proofs.YtefjbdajgakgpaaGreat
section
open Go.RowKit Hp
set_option maxRecDepth 100000
set_option maxHeartbeats 1000000
attribute [local irreducible] Go.Calls
def qTask (s:Haz×Are)(t:Nat)(mv:Mv):Option Qe:=
 if mv.op=40 then (if s.1.held.getD t 0<0 then none else some (.put ⟨t,mv.arg,⟨t,1,0,0,0,false⟩,0,0,0,0,0⟩))
 else if mv.op=41 then (if s.1.held.getD t 0<0 then none else some (.get ⟨t,0,0,0,0,false,0,none,0,0,0⟩))
 else (Z6 s t mv).map .hz
def QM (c:Cfg)(ws:List Int):Prop:=(1≤ws.getD (adr c 4 0) 0∧ws.getD (adr c 4 0) 0≤c.Sl)∧(1≤ws.getD (adr c 5 0) 0∧ws.getD (adr c 5 0) 0≤c.Sl)
structure PtI (c:Cfg)(p:Pt):Prop where
 stage:1≤p.stage∧p.stage≤11
 tk:p.stage=1→TkI c p.take
 slot:p.stage≠1→0≤p.slot∧p.slot<c.Sl
 t:5≤p.stage→1≤p.t∧p.t≤c.Sl
 n:p.stage=11→1≤p.n∧p.n≤c.Sl
structure GtI (c:Cfg)(g:Gt):Prop where
 stage:1≤g.stage∧g.stage≤12
 h0:2≤g.stage→1≤g.h0∧g.h0≤c.Sl
 t:5≤g.stage→g.stage≤8→1≤g.t∧g.t≤c.Sl
 n:6≤g.stage→g.stage≤10→1≤g.n∧g.n≤c.Sl
 cl:g.stage≤10→g.cleared=0
 cl1:g.stage=11→0≤g.cleared∧g.cleared≤1
 ret:g.stage=12→∃r sc,g.retire=some r∧r.scan=some sc∧ScI c sc∧sc.thread=g.thread
def qZ (c:Cfg)(hd k:Int):Int:=((base c 9+hd*c.Hz+k).toNat:Int)
def QI (c:Cfg):GI Qe:=fun t rdy hd ca k=>match k with
 | .hz k=>TI c t rdy hd ca k
 | .put p=>p.thread=(t:Int)∧0≤hd∧(rdy=false→p.take=⟨t,1,0,0,0,false⟩∧p.stage=0)∧(rdy=true→PtI c p∧p.hz=qZ c hd 0)
 | .get g=>g.thread=(t:Int)∧0≤hd∧(rdy=false→g.cleared=0∧g.stage=0)∧(rdy=true→GtI c g∧g.hz0=qZ c hd 0∧g.hz1=qZ c hd 1)
section
variable {c:Cfg}{L S N:Nat}{h:Haz}{a:Are}{m:Mch}
theorem base45 (c:Cfg):base c 4=3∧base c 5=4:=by constructor<;>simp[base,many]
theorem wok_q {c:Cfg}(hc:c.Ok){k:Int}(hk:k=base c 4∨k=base c 5)(u:Int):WOk c k u:=by
 have hb:=bases hc
 obtain⟨b1,b2,b8,b9,b10,b11,b12,b13,b14,rh,rh2,b3⟩:=hb
 obtain⟨q1,q2⟩:=base45 c
 have:=hc.S1
 have:=hc.R1
 refine⟨fun h => ?_,fun h => ?_,fun h h2 => ?_,fun h h2 => ?_,fun h => ?_,fun h h2 => ?_⟩<;>omega
theorem wok_q4 {c:Cfg}(hc:c.Ok)(u:Int):WOk c (adr c 4 0:Nat) u:=wok_q hc (.inl (by have:=Jc hc 4 (Int.le_refl 0);omega)) u
theorem wok_q5 {c:Cfg}(hc:c.Ok)(u:Int):WOk c (adr c 5 0:Nat) u:=wok_q hc (.inr (by have:=Jc hc 5 (Int.le_refl 0);omega)) u
theorem QM.head (q:QM c m.mem.words):1≤m.word (adr c 4 0)∧m.word (adr c 4 0)≤c.Sl:=q.1
theorem QM.tail (q:QM c m.mem.words):1≤m.word (adr c 5 0)∧m.word (adr c 5 0)≤c.Sl:=q.2
theorem Core.linkW (k:Core c L S N h a m){s:Int}(h0:0≤s)(h1:s<c.Sl):0≤m.word (adr c 13 s)∧m.word (adr c 13 s)≤c.Sl:=by
 have hok:=k.ok
 have e:=Jc hok 13 h0
 have hb:=bases hok
 have:=hb.b14
 have:=hok.R1
 exact(k.word (i:=adr c 13 s) (by omega)).link (by omega) (by omega)
theorem qHz_eq {c:Cfg}{h:Haz}(hc:h.c=c){t:Nat}{th k:Int}(e:th=(t:Int)):(qHz h th k:Int)=qZ c (h.held.getD t 0) k:=by
 unfold qHz qZ
 rw[e,hc,Yo]
theorem ptTaken_core {i t:Nat}{x:Cll}{se:Sea}{p:Pt}(C:Core c L S N h a m)(hk:Zg p.take = -1∨(0≤Zg p.take∧Zg p.take<c.Sl)) :
  Core c L S N h a (Z4 m i t x se p).2.1∧(Z4 m i t x se p).2.2.thread=p.thread∧(Z4 m i t x se p).2.1.used=m.used∧(Z4 m i t x se p).2.1.mem.words=m.mem.words∧((Z4 m i t x se p).1=false→PtI c (Z4 m i t x se p).2.2):=by
 unfold Z4
 split
 ·exact⟨(C.point ..).answer ..,rfl,rfl,rfl,fun hf=>(by cases hf)⟩
 ·exact⟨C,rfl,rfl,rfl,fun _=>⟨by simp,fun hf=>by simp at hf,fun _=>⟨by simp only[];omega,by simp only[];omega⟩,fun hf=>by simp at hf,fun hf=>by simp at hf⟩⟩
structure PtS (c:Cfg)(L S N:Nat)(t:Nat)(h:Haz)(a:Are)(r:Bool×Are×Mch×Pt):Prop where
 core:Core c L S N h r.2.1 r.2.2.1
 caches:∀j,j≠t→r.2.1.caches[j]? = a.caches[j]?
 thr:r.2.2.2.thread=(t:Int)
 fin:r.1=false→PtI c r.2.2.2
theorem ptReady_core {i t:Nat}{x:Cll}{se:Sea}{p:Pt}(C:Core c L S N h a m)(ht:(t:Int)<c.T)(hu:p.thread=(t:Int))(hp:p.take=⟨t,1,0,0,0,false⟩) :
  PtS c L (S+1) N t h a (ZR h a m i t x se p)∧(ZR h a m i t x se p).2.2.1.used=m.used∧(ZR h a m i t x se p).2.2.1.mem.words=m.mem.words:=by
 have hu2:∀(x:Tak),(Zj a m x).2.2.1.used=m.used∧(Zj a m x).2.2.1.mem.words=m.mem.words:=by
  intro x;unfold Zj;simp only[];split<;>exact⟨rfl,rfl⟩
 have hR:=takeReady_core (k:=⟨(t:Int),1,0,0,0,false⟩) C (by simp only[];omega) (by simp only[];omega)
 have hu2:=hu2 ⟨(t:Int),1,0,0,0,false⟩
 unfold ZR
 rw[hp]
 simp only[]
 generalize Zj a m ⟨(t:Int),1,0,0,0,false⟩=r at hR hu2 ⊢
 obtain⟨r1,r2,r3,r4⟩:=r
 rcases hR with e|⟨e1,e2,e3,e4⟩
 ·cases e
  simp only[Yn,if_false]
  refine⟨⟨C.mono (by omega) (by omega) (by omega),fun _ _=>rfl,hu,fun _=>⟨by simp,fun _=>⟨.inl rfl,rfl,fun hf=>absurd rfl hf,fun hf=>by simp at hf⟩,fun hf=>absurd rfl hf,fun hf=>by simp at hf,fun hf=>by simp at hf⟩⟩,by first|trivial|exact⟨rfl,rfl⟩⟩
 ·simp only[]at e1 e2 e3 e4 hu2
  subst e1
  simp only[if_true]
  obtain⟨f1,f2,f3,f5,f4⟩:=ptTaken_core (i:=i) (t:=t) (x:=x) (se:=se) (p:={ p with take:=r4,stage:=1,hz:=(qHz h p.thread 0:Int) }) e2 (.inr e3)
  exact⟨⟨f1,fun j hj=>e4 j (by simpa using hj),f2.trans hu,f4⟩,f3.trans hu2.1,f5.trans hu2.2⟩
theorem ptStep_core {i t:Nat}{x:Cll}{se:Sea}{p:Pt}(C:Core c L S N h a m)(Q:QM c m.mem.words)(ht:(t:Int)<c.T)(hu:p.thread=(t:Int))(hd:0≤h.held.getD t 0)(I:PtI c p):PtS c (L+1) (S+1) N t h a (Qu h a m i t x se p):=by
 have hok:=C.ok
 have hc:=C.hc
 have hq:=Q.tail
 have hS1:=hok.S1
 obtain⟨hr1,_⟩:=C.hget ht
 have hza:=hz_adr hok hd hr1 (Int.le_refl 0) (by have:=hok.H1;omega)
 have hb9:=(ZB hok 9).1
 have hwh:∀u:Int,0≤u∧u≤c.Sl→WOk c (qHz h p.thread 0:Nat) u:=fun u hu2=>by
  unfold qHz
  rw[hu,hc,Yo]
  exact wok_hz hok (by omega) (by omega) hu2
 obtain⟨i1,i2,i3,i4,i5⟩:=I
 unfold Qu
 rw[hc]
 simp only[]
 by_cases s1:p.stage=1
 ·rw[if_pos s1]
  obtain⟨e1,e2,e3,e4⟩:=take_core C (i2 s1)
  unfold ptTake
  simp only[]
  generalize Zp a m p.take=r at e1 e2 e3 e4 ⊢
  split
  ·obtain⟨f1,f2,f3,f5,f4⟩:=ptTaken_core (i:=i) (t:=t) (x:=x) (se:=se) (p:={ p with take:=r.2.2.2 }) e1 e3
   exact⟨f1,fun j _=>by rw[e4],f2.trans hu,f4⟩
  ·rename_i hf
   exact⟨e1,fun j _=>by rw[e4],hu,fun _=>⟨by simp[s1],fun _=>e2 (by simpa using hf),fun hf=>absurd s1 hf,fun hf=>by simp only[s1]at hf;omega,fun hf=>by simp only[s1]at hf;omega⟩⟩
 rw[if_neg s1]
 obtain⟨g1,g2⟩:=i3 s1
 have hsl:∀st:Int,st≠1→0≤p.slot∧p.slot<c.Sl:=fun _ _=>⟨g1,g2⟩
 by_cases s2:p.stage=2
 ·rw[if_pos s2]
  exact⟨(C.store _ _ _ (wok_value hok g1 g2 _)).mono (by omega) (by omega) (by omega),fun _ _=>rfl,hu,fun _=>⟨by simp,fun hf=>by simp at hf,fun _=>⟨g1,g2⟩,fun hf=>by simp at hf,fun hf=>by simp at hf⟩⟩
 rw[if_neg s2]
 by_cases s3:p.stage=3
 ·rw[if_pos s3]
  exact⟨(C.store _ _ _ (wok_link hok g1 g2 (by omega))).mono (by omega) (by omega) (by omega),fun _ _=>rfl,hu,fun _=>⟨by simp,fun hf=>by simp at hf,fun _=>⟨g1,g2⟩,fun hf=>by simp at hf,fun hf=>by simp at hf⟩⟩
 rw[if_neg s3]
 by_cases s4:p.stage=4
 ·rw[if_pos s4]
  exact⟨(C.load _ _).mono (by omega) (by omega) (by omega),fun _ _=>rfl,hu,fun _=>⟨by simp,fun hf=>by simp at hf,fun _=>⟨g1,g2⟩,fun _=>hq,fun hf=>by simp at hf⟩⟩
 rw[if_neg s4]
 have hT:=i4 (by omega)
 by_cases s5:p.stage=5
 ·rw[if_pos s5]
  exact⟨(C.store _ _ _ (hwh _ ⟨by omega,hT.2⟩)).mono (by omega) (by omega) (by omega),fun _ _=>rfl,hu,fun _=>⟨by simp,fun hf=>by simp at hf,fun _=>⟨g1,g2⟩,fun _=>hT,fun hf=>by simp at hf⟩⟩
 rw[if_neg s5]
 by_cases s6:p.stage=6
 ·rw[if_pos s6]
  refine⟨(C.load _ _).mono (by omega) (by omega) (by omega),fun _ _=>rfl,?_,fun _ => ?_⟩
  ·simp only[];split<;>exact hu
  ·simp only[]
   split
   ·exact⟨by simp,fun hf=>by simp at hf,fun _=>⟨g1,g2⟩,fun _=>hT,fun hf=>by simp at hf⟩
   ·exact⟨by simp,fun hf=>by simp at hf,fun _=>⟨g1,g2⟩,fun _=>hq,fun hf=>by simp at hf⟩
 rw[if_neg s6]
 have hl:=C.linkW (s:=p.t-1) (by omega) (by omega)
 by_cases s7:p.stage=7
 ·rw[if_pos s7]
  refine⟨(C.load _ _).mono (by omega) (by omega) (by omega),fun _ _=>rfl,?_,fun _ => ?_⟩
  ·simp only[];split<;>exact hu
  ·simp only[]
   split
   ·exact⟨by simp,fun hf=>by simp at hf,fun _=>⟨g1,g2⟩,fun _=>hT,fun _=>⟨by simp only[];omega,by simp only[];omega⟩⟩
   ·exact⟨by simp,fun hf=>by simp at hf,fun _=>⟨g1,g2⟩,fun _=>hT,fun hf=>by simp at hf⟩
 rw[if_neg s7]
 by_cases s8:p.stage=8
 ·rw[if_pos s8]
  have K:=C.swap (adr c 13 (p.t-1)) (m.word (adr c 13 (p.t-1))) 0 (p.slot+1) (wok_link hok (by omega) (by omega) (by omega))
  split
  ·exact⟨(((K.point i x _).mshift _ _ _).ashift _ _ _).mono (by omega) (by omega) (by omega),fun _ _=>rfl,hu,fun _=>⟨by simp,fun hf=>by simp at hf,fun _=>⟨g1,g2⟩,fun _=>hT,fun hf=>by simp at hf⟩⟩
  ·exact⟨K.mono (by omega) (by omega) (by omega),fun _ _=>rfl,hu,fun _=>⟨by simp,fun hf=>by simp at hf,fun _=>⟨g1,g2⟩,fun hf=>by simp at hf,fun hf=>by simp at hf⟩⟩
 rw[if_neg s8]
 by_cases s9:p.stage=9
 ·rw[if_pos s9]
  exact⟨(C.swap (adr c 5 0) (m.word (adr c 5 0)) p.t (p.slot+1) (wok_q5 hok _)).mono (by omega) (by omega) (by omega),fun _ _=>rfl,hu,fun _=>⟨by simp,fun hf=>by simp at hf,fun _=>⟨g1,g2⟩,fun _=>hT,fun hf=>by simp at hf⟩⟩
 rw[if_neg s9]
 by_cases s10:p.stage=10
 ·rw[if_pos s10]
  exact⟨((C.store _ _ _ (hwh 0 (by omega))).answer _ _ _ _).mono (by omega) (by omega) (by omega),fun _ _=>rfl,hu,fun hf=>(by cases hf)⟩
 rw[if_neg s10]
 exact⟨(C.swap (adr c 5 0) (m.word (adr c 5 0)) p.t p.n (wok_q5 hok _)).mono (by omega) (by omega) (by omega),fun _ _=>rfl,hu,fun _=>⟨by simp,fun hf=>by simp at hf,fun _=>⟨g1,g2⟩,fun hf=>by simp at hf,fun hf=>by simp at hf⟩⟩
end
end
section
open Go.RowKit
namespace Hp
theorem wl_pass {P:Program}{ops:Array Oper}{Q:Exit→Act→World→Prop}{w:World}{rest:List Oper}{l:List Value}{ds:List Deferred}{d:Nat}{op:Op}{ty:TypeId}{pos:String}{after:Array Edge}{g:Nat×Bool}
  (hw:Region.wanted { dst:=some d,op:=op,type:=ty,pos,after,guard:=some g } (yielded ops l.toArray)=false) (kk:wpList P ops Q rest ⟨(l.set d undef).toArray,ds⟩ w) :
  wpList P ops Q ({ dst:=some d,op:=op,type:=ty,pos,after,guard:=some g }::rest) ⟨l.toArray,ds⟩ w:=by
 refine wpList_skip hw ?_
 have e:(Act.put ⟨l.toArray,ds⟩ (some d) undef:Act)=⟨(l.set d undef).toArray,ds⟩:=ZK
 show wpList P ops Q rest (Act.put ⟨l.toArray,ds⟩ (some d) undef) w
 rw[e];exact kk
theorem QH {P:Program}{ops:Array Oper}{Q:Exit→Act→World→Prop}{w:World}{rest:List Oper}{l:List Value}{ds:List Deferred}{d:Nat}{op:Op}{ty:TypeId}{pos:String}{after:Array Edge}{i:Nat}{b z:Bool}{o:Oper}{e:Nat}
  (ho:ops[i]? = some o) (hd:o.dst=some e) (hv:l[e]? = some (.bool z)) (hb:(z==b)=false) (kk:wpList P ops Q rest ⟨(l.set d undef).toArray,ds⟩ w) :
  wpList P ops Q ({ dst:=some d,op:=op,type:=ty,pos,after,guard:=some (i,b) }::rest) ⟨l.toArray,ds⟩ w:=by
 refine wl_pass ?_ kk
 have hv':l.toArray[e]? = some (.bool z):=by simpa using hv
 simp only[Region.wanted,yielded,ho,Option.bind_some,hd,hv']
 cases z<;>cases b<;>first|rfl|cases hb
theorem Q5 {P:Program}{ops:Array Oper}{Q:Exit→Act→World→Prop}{w:World}{rest:List Oper}{l:List Value}{ds:List Deferred}{d:Nat}{c x y:Operand}{ty:TypeId}{pos:String}{after:Array Edge}{gd:Option (Nat×Bool)}{z:Bool}{v:Value}
  (hc:ev l c=some (.bool z)) (hv:ev l (cond z x y)=some v)
  (hg:Region.wanted { dst:=some d,op:=.pick c x y,type:=ty,pos,after,guard:=gd } (yielded ops l.toArray)=true)
  (kk:wpList P ops Q rest ⟨(l.set d v).toArray,ds⟩ w) :
  wpList P ops Q ({ dst:=some d,op:=.pick c x y,type:=ty,pos,after,guard:=gd }::rest) ⟨l.toArray,ds⟩ w:=by
 refine Qa (v:=v) (w':=w) hg ?_ (ZK▸kk)
 have h1:=Zk (ds:=ds) hc
 have h2:=Zk (ds:=ds) hv
 cases z<;>simp[execOp,h1,asBool]<;>simpa using h2
theorem Qc {d:Option Nat}{op:Op}{ty:TypeId}{pos:String}{after:Array Edge}{f:Nat→Option Bool}:Region.wanted { dst:=d,op:=op,type:=ty,pos,after,guard:=none } f=true:=rfl
theorem want_some {ops:Array Oper}{l:List Value}{d:Option Nat}{op:Op}{ty:TypeId}{pos:String}{after:Array Edge}{i:Nat}{b:Bool}{o:Oper}{e:Nat}
  (ho:ops[i]? = some o) (hd:o.dst=some e) (hv:l[e]? = some (.bool b)):Region.wanted { dst:=d,op:=op,type:=ty,pos,after,guard:=some (i,b) } (yielded ops l.toArray)=true:=by
 have hv':l.toArray[e]? = some (.bool b):=by simpa using hv
 simp only[Region.wanted,yielded,ho,Option.bind_some,hd,hv']
 cases b<;>rfl
end Hp
end
section
open Go.RowKit
namespace Hp
section
variable {P:Program}{ops:Array Oper}{Q:Exit→Act→World→Prop}{w:World}{rest:List Oper}{l:List Value}{ds:List Deferred}{T T' ty:TypeId}{pos:String}{after:Array Edge}{gd:Option (Nat×Bool)}{d:Nat}{x y:Operand}{K:IntKind}{a b:Int}{r:Bool}
end
end Hp
end
section
open Go.RowKit Hp
set_option maxRecDepth 100000
set_option maxHeartbeats 1000000
attribute [local irreducible] Go.Calls Go.wpList
theorem que_slot (u v:Int)(h0:0≤u)(h1:u≤2147483647)(hv:u-1=v):Zh Tryz.prog 145 #[.int .u64 u] emp (.int .i64 v) emp:=by
 intro O w F hs
 subst hv
 have hl:=Lh (Q6 u h0 h1)
 go_enter Tryz.func145,Tryz.ntmps145
 (repeat'(first|(go_big_may;(go_at_call 156;((refine(hl.out).at hs (by (with_reducible exact Qh)) ?_);clear hs;intro w hs;(try simp only[Em,Ma]at hs))))|go_step|(dsimp only)))
 (go_ret)
 exact⟨rfl,by ((with_reducible apply Sat.fin hs);(focus with_reducible (repeat first|exact Ql|exact Qn|apply Qb);done))⟩
theorem que_arena (bh ba:Nat)(h:Haz):Zh Tryz.prog 65 #[.pointer (some ⟨bh,0,none⟩)] (HazR bh ba h) (.pointer (some ⟨ba,0,none⟩)) (HazR bh ba h):=by
 intro O w F hs
 (obtain⟨vhh,vhl,hs⟩:=hazR.1 hs)
 go_enter Tryz.func65,Tryz.ntmps65
 go_wp2_with ((with_reducible apply Za hs);exact Ii;rfl;(with_reducible exact Qh);rfl;rfl;(simp only[Uc,Uz]))
 (go_ret)
 refine⟨rfl,?_⟩
 (apply Zy;((try simp only[Yh,Yi,Yj,Yk,Yl]);(try simp only[Yh,Yi,Yj,Yk,Yl]at hs);((with_reducible apply Sat.fin hs);(with_reducible exact Ql))))
def ptAt (st:Int):Int:=if st=0 then 0 else st-1
abbrev ptC (gp bh gt:Nat)(c:Cfg)(own:Int)(p:Pt):Zb:=pt gp (.cells #[.pointer (some ⟨bh,0,none⟩),.int .i64 (adr c 4 0:Nat),.int .i64 (adr c 5 0:Nat),.int .i64 (base c 11),.int .i64 (base c 13),.int .i64 p.thread,.int .i64 p.value,.int .i64 (ptAt p.stage),.pointer (some ⟨gt,0,none⟩),.int .u64 own,.int .u64 p.t,.int .u64 p.n,.int .i64 p.hz] 142)
def PtR (gp bh ba:Nat)(c:Cfg)(p:Pt):Zb:=ex fun gt=>ex fun(own:Int)=>pu (2≤p.stage→own=p.slot+1∧Zg p.take=p.slot)*(ptC gp bh gt c own p*TakR gt ba p.take)
theorem ptR {O w:World}{gp bh ba:Nat}{c:Cfg}{p:Pt}{R:Zb}:Sat O w (PtR gp bh ba c p*R)↔∃gt own,(2≤p.stage→own=p.slot+1∧Zg p.take=p.slot)∧Sat O w (ptC gp bh gt c own p*(TakR gt ba p.take*R)):=by
 unfold PtR
 simp only[ZA,Ma,Zw]
theorem Jh {O w:World}{gp bh ba gt:Nat}{own:Int}{c:Cfg}{p:Pt}{R:Zb}(h1:2≤p.stage→own=p.slot+1∧Zg p.take=p.slot)(hs:Sat O w (ptC gp bh gt c own p*(TakR gt ba p.take*R))):Sat O w (PtR gp bh ba c p*R):=ptR.2 ⟨_,_,h1,hs⟩
attribute [irreducible] PtR
def PtR0 (gp bh:Nat)(c:Cfg)(p:Pt):Zb:=pt gp (.cells #[.pointer (some ⟨bh,0,none⟩),.int .i64 (adr c 4 0:Nat),.int .i64 (adr c 5 0:Nat),.int .i64 (base c 11),.int .i64 (base c 13),.int .i64 p.thread,.int .i64 p.value,.int .i64 0,.pointer none,.int .u64 0,.int .u64 p.t,.int .u64 p.n,.int .i64 0] 142)
theorem pt_taken (gp bh ba d bx bm:Nat)(cf:Cfg)(m:Mch)(i t:Nat)(c:Cll)(s:Sea)(p:Pt)(hk:Zg p.take = -1∨(0≤Zg p.take∧Zg p.take≤2147483646))(hst:p.stage=1)(hcur:ZO m i t c s) :
  Zh Tryz.prog 139 #[.pointer (some ⟨gp,0,none⟩),.pointer (some ⟨d,0,none⟩)] (PtR gp bh ba cf p*DkR d bx bm m) (.bool (Z4 m i t c s p).1)
   (PtR gp bh ba cf (Z4 m i t c s p).2.2*DkR d bx bm (Z4 m i t c s p).2.1):=by
 intro O w F hs
 simp only[Ma]at hs
 obtain⟨p1,p2,p3,p4,p5,p6,p7,p8⟩:=p
 obtain⟨gt,own,ho,hs⟩:=ptR.1 hs
 simp only[]at hs hst hk
 subst hst
 have hN:=Lh (desk_now d bx bm m)
 have hP:=Lh (Jb d bx bm m i t c m.now hcur.cur hcur.call)
 have hA:=Lh (Qd d bx bm (m.point i c m.now) i t s 4 0 hcur.cur hcur.seat)
 have hS:=take_slot gt ba p3
 unfold Z4
 change Zh _ _ _ _ (.int .i64 (Zg p3)) _ at hS
 simp only[]
 generalize hE:Zg p3=sl0 at hS hk ⊢
 have HS:=Lh hS
 have HE:=Lh hE
 clear hcur hS ho hE
 by_cases hu:sl0<0
 ·have hd:decide (sl0<0)=true:=by simpa using hu
  simp only[if_pos hu]
  clear hu hk
  go_enter Tryz.func139,Tryz.ntmps139
  (repeat'(first|(go_big_may;(first|((with_reducible apply Za hs);exact Ii;rfl;(with_reducible exact Qh);rfl;rfl;(simp only[Uc,Uz]))|(go_at_call 142;((refine(HS.out).at hs (by (with_reducible repeat first|exact Qh|apply Qk)) ?_);clear hs;intro w hs;(try simp only[Em,Ma]at hs)))|(go_at_call 148;((refine(hN.out).at hs (by (with_reducible repeat first|exact Qh|apply Qk)) ?_);clear hs;intro w hs;(try simp only[Em,Ma]at hs)))|(go_at_call 147;((refine(hP.out).at hs (by (with_reducible exact Qh)) ?_);clear hs;intro w hs;(try simp only[Em,Ma]at hs)))|(go_at_call 150;((refine(hA.out).at hs (by (with_reducible exact Qh)) ?_);clear hs;intro w hs;(try simp only[Em,Ma]at hs)))))|go_step|(dsimp only)))
  (go_ret)
  refine⟨rfl,?_⟩
  simp only[Ma]
  apply Jh (gt:=gt) (own:=own) (fun hf=>by simp at hf)
  ((with_reducible apply Sat.fin hs);(with_reducible repeat first|exact Ql|exact Qh|apply Qb|apply Qk))
 ·have hd:decide (sl0<0)=false:=by simpa using hu
  have hL:=Lh (word_link sl0 (by omega) (by omega))
  simp only[if_neg hu]
  clear hu hk
  go_enter Tryz.func139,Tryz.ntmps139
  (repeat'(first|(go_big_may;(first|(first|((with_reducible apply Za hs);exact Ii;rfl;(with_reducible repeat first|exact Qh|apply Qk);rfl;rfl;(simp only[Uc,Uz]))|((with_reducible apply Zt hs);exact Ii;rfl;rfl;(with_reducible repeat first|exact Qh|apply Qk);(rfl);(exact Vb rfl);rfl;clear hs;intro w hs;simp only[Yg,Uc,Uz]at hs))|(go_at_call 142;((refine(HS.out).at hs (by (with_reducible repeat first|exact Qh|apply Qk)) ?_);clear hs;intro w hs;(try simp only[Em,Ma]at hs)))|(go_at_call 153;((refine(hL.out).at hs (by (focus((repeat(with_reducible exact Qn));done))) ?_);clear hs;intro w hs;(try simp only[Em,Ma]at hs)))))|go_step|(dsimp only)))
  (go_ret)
  refine⟨rfl,?_⟩
  simp only[Ma]
  apply Jh (gt:=gt) (own:=sl0+1) (fun _=>⟨rfl,HE.out⟩)
  ((with_reducible apply Sat.fin hs);(focus((repeat(first|with_reducible exact Ql|with_reducible apply Qb|exact Qh));done)))
theorem takeReady_slot {a:Are}{m:Mch}{k:Tak}{N:Int}(hin:∀z∈a.caches.getD k.thread.toNat [],0≤z∧z<N)(hr:(Zj a m k).1=true):0≤Zg (Zj a m k).2.2.2∧Zg (Zj a m k).2.2.2<N:=by
 unfold Zj at hr ⊢
 simp only[]at hr ⊢
 by_cases h0:(a.caches.getD k.thread.toNat []).length=0
 ·rw[if_pos h0]at hr;cases hr
 ·rw[if_neg h0]
  generalize a.caches.getD k.thread.toNat []=x at hin h0 ⊢
  have hlt:x.length-1<x.length:=by omega
  have hm:x.getD (x.length-1) 0∈x:=by
   rw[Yb,Yd hlt];simp
  exact hin _ hm
theorem pt_ready (gp bh ba d bx bm:Nat)(h:Haz)(a:Are)(m:Mch)(i t:Nat)(c:Cll)(s:Sea)(p:Pt)(hz:HazOk h a m)(t0:0≤p.thread)(t1:p.thread<h.c.T)(hd:0≤h.held.getD p.thread.toNat 0)(hp:p.take=⟨p.thread,1,0,0,0,false⟩)(hcur:ZO m i t c s) :
  Zh Tryz.prog 135 #[.pointer (some ⟨gp,0,none⟩),.pointer (some ⟨d,0,none⟩)] (PtR0 gp bh h.c p*(HazR bh ba h*(AreR ba a*DkR d bx bm m))) (.bool (ZR h a m i t c s p).1)
   (PtR gp bh ba h.c (ZR h a m i t c s p).2.2.2*(HazR bh ba h*(AreR ba (ZR h a m i t c s p).2.1*DkR d bx bm (ZR h a m i t c s p).2.2.1))):=by
 intro O w F hs
 simp only[Ma]at hs
 obtain⟨p1,p2,p3,p4,p5,p6,p7,p8⟩:=p
 simp only[]at t0 t1 hd hp
 obtain⟨tn,rfl⟩:=Int.eq_ofNat_of_zero_le t0
 obtain⟨x,hx,hxl,hin⟩:=hz.cache t0 t1
 obtain⟨r,hr,_,hr1⟩:=hz.hold t0 t1
 rw[Yo]at hx hr hd
 have hrd:h.held.getD tn 0=r:=by rw[Yb,hr];rfl
 rw[hrd]at hd
 have hOk:h.c.Ok:=hz.c▸hz.ok.c
 have hS2:=hOk.S2
 have hH1:=hOk.H1
 have hsh:=hz.sh
 have hsl:0<a.slots.length:=by rw[hz.ok.slots,←hz.c];have:=hOk.S1;omega
 have hAd:=haz_addr bh ba h hOk tn r 0 hr hd hr1 (by omega) (by omega)
 have hza:=hz_adr hOk hd hr1 (k:=0) (by omega) (by omega)
 have hb9:=(ZB hOk 9).1
 have e9:base h.c 9+r*h.c.Hz+0=((qHz h tn 0:Nat):Int):=by
  unfold qHz
  rw[Yo,hrd]
  omega
 rw[e9]at hAd
 have HAd:=Lh hAd
 have hG:=Lh (que_arena bh ba h)
 have hT:=Lh (arena_take ba a (tn:Int) hsl)
 have hR:=fun g=>take_ready g ba d bx bm a m ⟨tn,1,0,0,0,false⟩ tn x rfl hx rfl hin (by omega) (by omega)
 have hc0:=(Z8 a m ⟨tn,1,0,0,0,false⟩).curIn hcur
 have hsl2:(Zj a m ⟨tn,1,0,0,0,false⟩).1=true→0≤Zg (Zj a m ⟨tn,1,0,0,0,false⟩).2.2.2∧Zg (Zj a m ⟨tn,1,0,0,0,false⟩).2.2.2<(a.slots.length:Int):=fun hq=>takeReady_slot (N:=(a.slots.length:Int)) (fun z hzz=>hin z (by simp only[Yo]at hzz;rw[Yb,hx]at hzz;exact hzz)) hq
 have hlen:(a.slots.length:Int)≤2147483646:=by rw[hz.ok.slots,←hz.c];omega
 subst hp
 unfold PtR0 at hs
 unfold ZR
 simp only[]at hs ⊢
 clear hz hx hxl hin hsh hcur t0 t1 hr hd hrd hr1 hS2 hH1 hsl hAd hza hb9 e9 hOk
 generalize Zj a m ⟨tn,1,0,0,0,false⟩=q at hR hc0 hsl2 ⊢
 obtain⟨q1,q2,q3,q4⟩:=q
 simp only[]at hR hc0 hsl2 ⊢
 generalize ((qHz h tn 0:Nat):Int)=Z at HAd ⊢
 cases q1 with
 | true=>
  obtain⟨b0,b1⟩:=hsl2 rfl
  have hK:=pt_taken gp bh ba d bx bm h.c q3 i t c s ⟨tn,p2,q4,p4,p5,p6,1,Z⟩ (.inr ⟨b0,by simp only[];omega⟩) rfl hc0
  generalize Z4 q3 i t c s ⟨tn,p2,q4,p4,p5,p6,1,Z⟩=qq at hK ⊢
  obtain⟨k1,k2,k3⟩:=qq
  have HR:=Lh hR;have HK:=Lh hK;clear hR hK hc0 hsl2 hlen b0 b1
  simp only[if_true]
  go_enter Tryz.func135,Tryz.ntmps135
  (repeat'(first|((with_reducible apply Q5);((simp only[ev,Ue,Uf]);rfl);((simp only[cond_true,cond_false,ev,Ue,Uf]);rfl);(with_reducible exact Qc);(simp only[Uc,Uz]))|(go_big_may;(first|(first|(first|(with_reducible refine NQ.mk ?_)|((with_reducible apply Zd);rfl;rfl)|((with_reducible apply Zm);rfl)|(with_reducible refine EQ.mk ?_ ?_)|(first|(with_reducible exact Zf)|((with_reducible refine Zl ?_ ?_);(focus((with_reducible apply ZC);rfl;rfl))))|(with_reducible refine Ze ?_)|(show ZW _ _ _;rfl))|((with_reducible apply Za hs);exact Ii;rfl;(with_reducible repeat first|exact Qh|apply Qk);rfl;rfl;(simp only[Uc,Uz]))|((with_reducible apply Zt hs);exact Ii;rfl;rfl;(with_reducible repeat first|exact Qh|apply Qk);(rfl);(exact Vb rfl);rfl;clear hs;intro w hs;simp only[Yg,Uc,Uz]at hs))|(go_at_call 91;((refine(HAd.out).at hs (by (with_reducible repeat first|exact Qh|apply Qk)) ?_);clear hs;intro w hs;(try simp only[Em,Ma]at hs)))|(go_at_call 65;((refine(hG.out).at hs (by (with_reducible repeat first|exact Qh|apply Qk)) ?_);clear hs;intro w hs;(try simp only[Em,Ma]at hs)))|(go_at_call 137;((refine(hT.out).at hs (by (with_reducible repeat first|exact Qh|apply Qk)) ?_);clear hs;intro g w hs;(try simp only[Em,Ma]at hs)))|(go_at_call 138;((refine((HR.out g)).at hs (by (with_reducible repeat first|exact Qh|apply Qb|apply Qk)) ?_);clear hs;intro w hs;(try simp only[Em,Ma]at hs)))|(go_at_call 139;(replace hs:=Jh (p:=⟨tn,p2,q4,p4,p5,p6,1,Z⟩) (gt:=g) (own:=0) (fun hf=>by simp at hf) (hs.fin (by (focus((repeat(first|with_reducible exact Ql|with_reducible apply Qb|exact Qh|with_reducible apply Qk));done)))));((refine(HK.out).at hs (by (with_reducible repeat first|exact Qh|apply Qb|apply Qk)) ?_);clear hs;intro w hs;(try simp only[Em,Ma]at hs)))|((with_reducible refine Wp (id:=1) (Paz (Pbz [.neu 11,.neu 12,.eff 10 [0,11,12],.neu 13,.eff 14 []])) hs rfl ?_ ?_);kernel_rfl;clear hs;intro w hs)|((with_reducible refine Wp (id:=2) (Paz [.neu 5,.neu 7,.neu 8,.neu 9,.neu 10,.eff 6 [0,7,8,9,10],.eff 11 [0],.neu 12,.neu 13,.eff 14 []]) hs rfl ?_ ?_);kernel_rfl;clear hs;intro w hs)))|go_guarded|go_step|(dsimp only)))
  (go_ret)
  refine⟨by simp,?_⟩
  simp only[Ma]
  ((with_reducible apply Sat.fin hs);(with_reducible repeat first|exact Ql|exact Qh|apply Qb|apply Qk))
 | false=>
  have HR:=Lh hR;clear hR hc0 hsl2 hlen
  simp only[Yn,if_false]
  go_enter Tryz.func135,Tryz.ntmps135
  (repeat'(first|(((with_reducible apply QH);rfl;rfl;((simp only[ev,Ue,Uf]);rfl);rfl;(simp only[Uc,Uz]));(repeat((with_reducible apply QH);rfl;rfl;((simp only[ev,Ue,Uf]);rfl);rfl;(simp only[Uc,Uz]))))|((with_reducible apply Q5);((simp only[ev,Ue,Uf]);rfl);((simp only[cond_true,cond_false,ev,Ue,Uf]);rfl);(with_reducible exact Qc);(simp only[Uc,Uz]))|(go_big_may;(first|(first|(first|(with_reducible refine NQ.mk ?_)|((with_reducible apply Zd);rfl;rfl)|((with_reducible apply Zm);rfl)|(with_reducible refine EQ.mk ?_ ?_)|(first|(with_reducible exact Zf)|((with_reducible refine Zl ?_ ?_);(focus((with_reducible apply ZC);rfl;rfl))))|(with_reducible refine Ze ?_)|(show ZW _ _ _;rfl))|((with_reducible apply Za hs);exact Ii;rfl;(with_reducible repeat first|exact Qh|apply Qk);rfl;rfl;(simp only[Uc,Uz]))|((with_reducible apply Zt hs);exact Ii;rfl;rfl;(with_reducible repeat first|exact Qh|apply Qk);(rfl);(exact Vb rfl);rfl;clear hs;intro w hs;simp only[Yg,Uc,Uz]at hs))|(go_at_call 91;((refine(HAd.out).at hs (by (with_reducible repeat first|exact Qh|apply Qk)) ?_);clear hs;intro w hs;(try simp only[Em,Ma]at hs)))|(go_at_call 65;((refine(hG.out).at hs (by (with_reducible repeat first|exact Qh|apply Qk)) ?_);clear hs;intro w hs;(try simp only[Em,Ma]at hs)))|(go_at_call 137;((refine(hT.out).at hs (by (with_reducible repeat first|exact Qh|apply Qk)) ?_);clear hs;intro g w hs;(try simp only[Em,Ma]at hs)))|(go_at_call 138;((refine((HR.out g)).at hs (by (with_reducible repeat first|exact Qh|apply Qb|apply Qk)) ?_);clear hs;intro w hs;(try simp only[Em,Ma]at hs)))|((with_reducible refine Wp (id:=1) (Paz (Pbz [.neu 11,.neu 12,.eff 10 [0,11,12],.neu 13,.eff 14 []])) hs rfl ?_ ?_);kernel_rfl;clear hs;intro w hs)|((with_reducible refine Wp (id:=2) (Paz [.neu 5,.neu 7,.neu 8,.neu 9,.neu 10,.eff 6 [0,7,8,9,10],.eff 11 [0],.neu 12,.neu 13,.eff 14 []]) hs rfl ?_ ?_);kernel_rfl;clear hs;intro w hs)))|go_step|(dsimp only)))
  (go_ret)
  refine⟨by simp,?_⟩
  simp only[Ma]
  apply Jh (gt:=g) (own:=0) (fun hf=>by simp at hf)
  ((with_reducible apply Sat.fin hs);(focus((repeat(first|with_reducible exact Ql|with_reducible exact Qh|with_reducible apply Qb|exact Qh|with_reducible apply Qk));done)))
end
end Go.Proofs.YtefjbdajgakgpaaGreat
