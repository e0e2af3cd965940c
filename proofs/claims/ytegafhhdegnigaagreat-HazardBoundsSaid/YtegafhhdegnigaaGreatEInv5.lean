/-
  Small effects keep what is recorded in order.
-/
import Derived.Test.YtegafhhdegnigaaGreatEHist
import Derived.Test.YtegafhhdegnigaaGreatETypes
import Derived.Test.YtegafhhdegnigaaGreatEInv
import Derived.Test.YtegafhhdegnigaaGreatERun
set_option linter.all false
namespace Go.Proofs.YtegafhhdegnigaaGreat
section
open Go.RowKit Hp
set_option maxRecDepth 100000
set_option maxHeartbeats 1000000
attribute [local irreducible] Go.Calls
def rep1 (ws:List Int)(e:Acc):Option (List Int):=
 if 0≤e.addr∧e.addr<ws.length then
  if e.kind=1 then (if e.old=0∧e.new=0∧e.saw=ws.getD e.addr.toNat 0 then some ws else none)
  else if e.kind=2 then (if e.old=0∧e.saw=0 then some (ws.set e.addr.toNat e.new) else none)
  else if e.kind=3 then (if e.saw=ws.getD e.addr.toNat 0 then some (if e.saw=e.old then ws.set e.addr.toNat e.new else ws) else none)
  else none
 else none
def rep (ws:List Int):List Acc→Option (List Int)
 | []=>some ws
 | e::r=>(rep1 ws e).bind fun ws'=>rep ws' r
theorem rep_append (ws:List Int)(l r:List Acc):rep ws (l++r)=(rep ws l).bind fun ws'=>rep ws' r:=by
 induction l generalizing ws with
 | nil=>rfl
 | cons e l ih=>
  simp only[List.cons_append,rep]
  cases rep1 ws e with
  | none=>rfl
  | some ws'=>exact ih ws'
theorem rep_snoc (ws:List Int)(l:List Acc)(e:Acc){ws1 ws2:List Int}(h:rep ws l=some ws1)(h2:rep1 ws1 e=some ws2):rep ws (l++[e])=some ws2:=by
 rw[rep_append,h]
 simp only[Option.bind_some,rep,h2]
def shf1 (sl:List Slt)(x:Shf):Option (List Slt):=
 if (0≤x.slot∧x.slot<sl.length)∧(0≤x.to∧x.to≤5)∧x.fr=(sl.getD x.slot.toNat ⟨0,0⟩).state then some (sl.set x.slot.toNat ⟨x.to,if x.to=0∨x.to=3 then -1 else x.thread⟩) else none
def shfs (sl:List Slt):List Shf→Option (List Slt)
 | []=>some sl
 | e::r=>(shf1 sl e).bind fun sl'=>shfs sl' r
theorem shfs_append (sl:List Slt)(l r:List Shf):shfs sl (l++r)=(shfs sl l).bind fun sl'=>shfs sl' r:=by
 induction l generalizing sl with
 | nil=>rfl
 | cons e l ih=>
  simp only[List.cons_append,shfs]
  cases shf1 sl e with
  | none=>rfl
  | some sl'=>exact ih sl'
theorem shfs_snoc (sl:List Slt)(l:List Shf)(e:Shf){s1 s2:List Slt}(h:shfs sl l=some s1)(h2:shf1 s1 e=some s2):shfs sl (l++[e])=some s2:=by
 rw[shfs_append,h]
 simp only[Option.bind_some,shfs,h2]
structure Hist (c:Cfg)(a:Are)(m:Mch):Prop where
 mv:m.mem.move=m.now
 ac:a.c=c
 slots:(a.slots.length:Int)=c.Sl
 lsort:m.mem.log.Pairwise (fun x y=>x.move<y.move)
 lle:∀e∈m.mem.log,e.move≤m.now
 llt:m.used=false→∀e∈m.mem.log,e.move<m.now
 lth:∀e∈m.mem.log,e.move=m.now→e.thread=m.thread
 lrep:rep (Jg c 0) m.mem.log=some m.mem.words
 ssort:m.shifts.Pairwise (fun x y=>x.move≤y.move∧(x.move=y.move→x.thread=y.thread))
 sle:∀e∈m.shifts,e.move≤m.now
 sth:∀e∈m.shifts,e.move=m.now→e.thread=m.thread
 cross:∀e∈m.shifts,∀x∈m.mem.log,x.move=e.move→x.thread=e.thread
 srep:shfs (are0 c).slots m.shifts=some a.slots
theorem pw_snoc {α:Type}{R:α→α→Prop}{l:List α}{x:α}(h:l.Pairwise R)(hx:∀y∈l,R y x):(l++[x]).Pairwise R:=by
 rw[List.pairwise_append]
 exact⟨h,by simp,fun a ha b hb=>by simp at hb;subst hb;exact hx a ha⟩
section
variable {i t:Nat}{c:Cfg}{h:Haz}{a:Are}{m m':Mch}
theorem Hist.acc (H:Hist c a m)(hu:m.used=false){e:Acc}{ws:List Int}{ah:List Int}(hm:e.move=m.mem.move)(ht:e.thread=m.thread)(hr:rep1 m.mem.words e=some ws) :
  Hist c a { m with used:=true,mem:={ m.mem with words:=ws,log:=m.mem.log++[e],ahead:=ah } }:=by
 obtain⟨q1,q2,q3,q4,q5,q6,q7,q8,q9,q10,q11,q12,q13⟩:=H
 have hl:=q6 hu
 refine⟨q1,q2,q3,pw_snoc q4 (fun y hy=>by rw[hm,q1];exact hl y hy),?_,fun hf=>(by cases hf),?_,rep_snoc _ _ _ q8 hr,q9,q10,q11,?_,q13⟩
 ·intro x hx
  rcases List.mem_append.1 hx with hx|hx
  ·exact q5 x hx
  ·simp at hx;subst hx;show x.move≤m.now;omega
 ·intro x hx hxe
  rcases List.mem_append.1 hx with hx|hx
  ·exact q7 x hx hxe
  ·simp at hx;subst hx;exact ht
 ·intro s hs x hx hxe
  rcases List.mem_append.1 hx with hx|hx
  ·exact q12 s hs x hx hxe
  ·simp at hx;subst hx
   rw[ht,q11 s hs (by omega)]
theorem word_getD (m:Mch)(j:Nat):m.mem.words.getD j 0=m.word j:=rfl
theorem Hist.load (H:Hist c a m){j:Nat}(hu:m.used=false)(hj:j<m.mem.words.length):Hist c a (m.load j (m.word j)):=by
 refine H.acc hu rfl rfl ?_
 simp only[rep1]
 rw[if_pos ⟨by omega,by omega⟩,if_pos True.intro,Yo,if_pos ⟨True.intro,True.intro,rfl⟩]
theorem Hist.store (H:Hist c a m){j:Nat}{z:Int}(hu:m.used=false)(hj:j<m.mem.words.length):Hist c a (m.store j (m.word j) z):=by
 refine H.acc hu rfl rfl ?_
 simp only[rep1]
 rw[if_pos ⟨by omega,by omega⟩,if_neg (by omega),if_pos True.intro,Yo,if_pos ⟨True.intro,True.intro⟩]
theorem Hist.swap (H:Hist c a m){j:Nat}{o z:Int}(hu:m.used=false)(hj:j<m.mem.words.length):Hist c a (m.swap j (m.word j) o z):=by
 refine H.acc hu rfl rfl ?_
 simp only[rep1]
 rw[if_pos ⟨by omega,by omega⟩,if_neg (by omega),if_neg (by omega),if_pos True.intro,Yo,if_pos (word_getD m j).symm]
theorem Hist.shift (H:Hist c a m){s to:Int}(s0:0≤s)(s1:s<a.c.Sl)(t0:0≤to)(t5:to≤5) :
  Hist c (a.shift s.toNat m.thread to) (m.shift s (a.slots.getD s.toNat ⟨0,0⟩).state to):=by
 obtain⟨q1,q2,q3,q4,q5,q6,q7,q8,q9,q10,q11,q12,q13⟩:=H
 refine⟨q1,q2,by simp only[Are.shift,List.length_set];exact q3,q4,q5,q6,q7,q8,pw_snoc q9 (fun y hy=>⟨q10 y hy,q11 y hy⟩),?_,?_,?_,shfs_snoc _ _ _ q13 ?_⟩
 ·intro x hx
  rcases List.mem_append.1 hx with hx|hx
  ·exact q10 x hx
  ·simp at hx;subst hx;exact Int.le_refl _
 ·intro x hx hxe
  rcases List.mem_append.1 hx with hx|hx
  ·exact q11 x hx hxe
  ·simp at hx;subst hx;rfl
 ·intro x hx y hy hye
  rcases List.mem_append.1 hx with hx|hx
  ·exact q12 x hx y hy hye
  ·simp at hx;subst hx;exact q7 y hy hye
 ·simp only[shf1]
  rw[if_pos ⟨⟨s0,by rw[q3,←q2];exact s1⟩,⟨t0,t5⟩,True.intro⟩]
  rfl
theorem Hist.of (H:Hist c a m)(h1:m'.mem=m.mem)(h2:m'.now=m.now)(h3:m'.thread=m.thread)(h4:m'.shifts=m.shifts)(h5:m'.used=m.used):Hist c a m':=by
 obtain⟨q1,q2,q3,q4,q5,q6,q7,q8,q9,q10,q11,q12,q13⟩:=H
 refine⟨by rw[h1,h2];exact q1,q2,q3,by rw[h1];exact q4,by rw[h1,h2];exact q5,by rw[h1,h2,h5];exact q6,by rw[h1,h2,h3];exact q7,by rw[h1];exact q8,by rw[h4];exact q9,by rw[h4,h2];exact q10,by rw[h4,h2,h3];exact q11,by rw[h4,h1];exact q12,by rw[h4];exact q13⟩
theorem Hist.evo {x y:St3}(E:Evo i t x y):Hist c x.2.1 x.2.2→Hist c y.2.1 y.2.2:=by
 induction E with
 | refl=>exact id
 | trans _ _ ih1 ih2=>exact fun H=>ih2 (ih1 H)
 | load j hu hj=>exact fun H=>H.load hu hj
 | store j z hu hj=>exact fun H=>H.store hu hj
 | swap j o z hu hj=>exact fun H=>H.swap hu hj
 | shift s to s0 s1 t0 t5=>exact fun H=>H.shift s0 s1 t0 t5
 | point cl z _ _ _=>exact fun H=>H.of rfl rfl rfl rfl rfl
 | answer se k v _ _ _ _=>exact fun H=>H.of rfl rfl rfl rfl rfl
 | haz=>exact id
 | cache cs=>exact fun H=>⟨H.mv,H.ac,H.slots,H.lsort,H.lle,H.llt,H.lth,H.lrep,H.ssort,H.sle,H.sth,H.cross,H.srep⟩
structure Told (i t:Nat)(cl:Cll)(m:Mch):Prop where
 call:∃z,m.calls[i]? = some { cl with point:=z }∧(z=cl.point∨cl.begin_<z∧z≤m.now)
 seat:∃se,m.seats[t]? = some se∧1≤se.kind∧se.kind≤6∧(se.kind≠2→se.value=0)
theorem Told.evo {cl:Cll}{x y:St3}(E:Evo i t x y):Told i t cl x.2.2→Told i t cl y.2.2∧y.2.2.now=x.2.2.now:=by
 induction E with
 | refl=>exact fun H=>⟨H,rfl⟩
 | trans _ _ ih1 ih2=>intro H;obtain⟨a1,a2⟩:=ih1 H;obtain⟨b1,b2⟩:=ih2 a1;exact⟨b1,b2.trans a2⟩
 | load j hu hj=>exact fun H=>⟨⟨H.call,H.seat⟩,rfl⟩
 | store j z hu hj=>exact fun H=>⟨⟨H.call,H.seat⟩,rfl⟩
 | swap j o z hu hj=>exact fun H=>⟨⟨H.call,H.seat⟩,rfl⟩
 | shift s to s0 s1 t0 t5=>exact fun H=>⟨⟨H.call,H.seat⟩,rfl⟩
 | @point h a m cl' z' hc hz hn=>
  intro H
  obtain⟨⟨z,hz1,hz2⟩,hse⟩:=H
  simp only[]at hz1 hz2 hse
  rw[hz1]at hc
  cases hc
  have hlt:=(List.getElem?_eq_some_iff.1 hz1).1
  refine⟨⟨⟨z',?_,.inr ⟨hz,hn⟩⟩,hse⟩,rfl⟩
  simp only[Mch.point,Ye hlt]
 | @answer h a m se k v hs k1 k6 hv=>
  intro H
  have hlt:=(List.getElem?_eq_some_iff.1 hs).1
  refine⟨⟨H.call,⟨{ se with kind:=k,value:=v },?_,k1,k6,hv⟩⟩,rfl⟩
  simp only[Mch.answer,Ye hlt]
 | haz=>exact fun H=>⟨H,rfl⟩
 | cache cs=>exact fun H=>⟨H,rfl⟩
theorem evo_move {x y:St3}(E:Evo i t x y):y.2.2.mem.move=x.2.2.mem.move∧y.2.2.now=x.2.2.now:=by
 induction E with
 | trans _ _ ih1 ih2=>exact⟨ih2.1.trans ih1.1,ih2.2.trans ih1.2⟩
 | _=>exact⟨rfl,rfl⟩
theorem evo_log {x y:St3}(E:Evo i t x y):∃l,y.2.2.mem.log=x.2.2.mem.log++l∧∀e∈l,e.move=x.2.2.mem.move:=by
 induction E with
 | refl x=>exact⟨[],by simp,by simp⟩
 | trans E1 _ ih1 ih2=>
  obtain⟨l1,a1,a2⟩:=ih1
  obtain⟨l2,b1,b2⟩:=ih2
  refine⟨l1++l2,by rw[b1,a1,List.append_assoc],fun e he => ?_⟩
  rcases List.mem_append.1 he with he|he
  ·exact a2 e he
  ·rw[b2 e he,(evo_move E1).1]
 | load j _ _=>exact⟨_,rfl,fun e he=>by simp at he;subst he;rfl⟩
 | store j z _ _=>exact⟨_,rfl,fun e he=>by simp at he;subst he;rfl⟩
 | swap j o z _ _=>exact⟨_,rfl,fun e he=>by simp at he;subst he;rfl⟩
 | _=>exact⟨[],(List.append_nil _).symm,by simp⟩
theorem evo_shifts {x y:St3}(E:Evo i t x y):∃l,y.2.2.shifts=x.2.2.shifts++l∧∀e∈l,e.move=x.2.2.now:=by
 induction E with
 | refl x=>exact⟨[],by simp,by simp⟩
 | trans E1 _ ih1 ih2=>
  obtain⟨l1,a1,a2⟩:=ih1
  obtain⟨l2,b1,b2⟩:=ih2
  refine⟨l1++l2,by rw[b1,a1,List.append_assoc],fun e he => ?_⟩
  rcases List.mem_append.1 he with he|he
  ·exact a2 e he
  ·rw[b2 e he,(evo_move E1).2]
 | shift s to _ _ _ _=>exact⟨_,rfl,fun e he=>by simp at he;subst he;rfl⟩
 | _=>exact⟨[],(List.append_nil _).symm,by simp⟩
end
end
section
open Go.RowKit
namespace Hp
structure Rd (A:Zd)(sz:Nat)(css:List (List Value))(v:Value):Prop where
 at_:(css=[]∧v=.slice none 0 0)∨∃a cap,css.length≤cap∧v=.slice (some a) css.length cap
 wf:∀c∈css,c.length=sz
 get:∀(O w:World) (F:Zd),Sat O w (A*F)→∀a n cap,v=.slice (some a) n cap→∀i c,css[i]? = some c→∀j x,c[j]? = some x→w.cell? ((a.add (i*sz)).add j)=some x
structure RAt (v:Value)(a:Addr):Prop where
 is:∃n cap,v=.slice (some a) n cap
section
variable {P:Program}{ops:Array Oper}{Q:Exit→Act→World→Prop}{w:World}{rest:List Oper}{O:World}{S R A:Zd}
variable {l:List Value}{ds:List Deferred}{T ty E:TypeId}{pos:String}{after:Array Edge}{gd:Option (Nat×Bool)}{d:Nat}{x y:Operand}{i sz n:Nat}{css:List (List Value)}{c:List Value}{v:Value}{a:Addr}
theorem Rd.len (h:Rd A sz css v):∃a cap,v=.slice a css.length cap:=by
 rcases h.at_ with⟨h1,h2⟩|⟨a,cap,_,h1⟩
 ·subst h1;exact⟨none,0,h2⟩
 ·exact⟨_,_,h1⟩
theorem wl_ir {kd:IntKind}{z:Int}{by_:Nat}(hr:Rd A sz css v)(h:SlcC P T E)(hE:ElC P E sz by_)(hx:ev l x=some v)(hy:ev l y=some (.int kd z))(hz:z=(i:Int))(hi:i<css.length)
  (hg:Region.wanted { dst:=some d,op:=.indexAddr T x y,type:=ty,pos,after,guard:=gd } (yielded ops l.toArray)=true)
  (kk:∀a,RAt v a→wpList P ops Q rest ⟨(l.set d (.pointer (some (a.add (i*sz))))).toArray,ds⟩ w) :
  wpList P ops Q ({ dst:=some d,op:=.indexAddr T x y,type:=ty,pos,after,guard:=gd }::rest) ⟨l.toArray,ds⟩ w:=by
 rcases hr.at_ with⟨h1,_⟩|⟨a,cap,_,e⟩
 ·subst h1;simp at hi
 refine QA (v:=.pointer (some (a.add (i*sz)))) hg ?_ (Z9▸kk a ⟨_,_,e⟩)
 have h1:(0:Int)≤z∧z<(css.length:Int):=by omega
 have h2:z.toNat=i:=by omega
 subst e
 simp only[execOp,Zs hx,Zs hy,Instr.indexAt,asIntOf,Sem.run_bind,Sem.run_pure,Result.andThen_ok,run_underlying h.is,if_pos h1,h2,Qz hE.size]
theorem wl_lr (hs:Sat O w S)(hr:Rd A sz css v)(h:AggC P T sz)(ha:RAt v a)(hx:ev l x=some (.pointer (some (a.add (i*sz)))))(hp:Pull S A R)(hi:css[i]? = some c)
  (hg:Region.wanted { dst:=some d,op:=.load T x,type:=ty,pos,after,guard:=gd } (yielded ops l.toArray)=true)
  (kk:wpList P ops Q rest ⟨(l.set d (.agg c.toArray)).toArray,ds⟩ w):wpList P ops Q ({ dst:=some d,op:=.load T x,type:=ty,pos,after,guard:=gd }::rest) ⟨l.toArray,ds⟩ w:=by
 refine QA (v:=.agg c.toArray) hg ?_ (Z9▸kk)
 obtain⟨n,cap,e⟩:=ha.is
 have hl:=hr.wf c (Yc hi)
 have:=run_loadCells_list (P:=P) (w:=w) (a.add (i*sz)) c (fun j x hj=>hr.get O w R (hs.pull hp) a n cap e i c hi j x hj)
 rw[hl]at this
 simp only[execOp,Zs hx,Instr.loadAt,Instr.sureAddr,loadVar,Sem.run_bind,Sem.run_pure,Result.andThen_ok,run_isAgg h.agg,Qz h.size,if_true,this]
theorem rd_reH {kd:IntKind}{zz:Int}{by_:Nat}(hr:Rd A sz css v)(h:SlcC P T E)(hE:ElC P E sz by_)(hx:ev l x=some v)(hy:ev l y=some (.int kd zz))(hz:zz=(i:Int))(hi:i≤css.length)
  (hg:Region.wanted { dst:=some d,op:=.slice T x none (some y) none,type:=ty,pos,after,guard:=gd } (yielded ops l.toArray)=true)
  (kk:wpList P ops Q rest ⟨(l.set d (resH v i)).toArray,ds⟩ w) :
  wpList P ops Q ({ dst:=some d,op:=.slice T x none (some y) none,type:=ty,pos,after,guard:=gd }::rest) ⟨l.toArray,ds⟩ w:=by
 refine QA (v:=resH v i) hg ?_ (Z9▸kk)
 have h2:zz.toNat=i:=by omega
 rcases hr.at_ with⟨hc,hv⟩|⟨a,cap,g2,hv⟩
 ·subst hv;subst hc
  have hi0:i=0:=by simpa using hi
  have hz0:zz=0:=by omega
  subst hi0;subst hz0
  simp[execOp,Zs hx,Zs hy,Instr.sliceAt,Instr.slice,Instr.sliceBounds,Instr.sliceBound,asIntOf,run_underlying h.is,Qz hE.size,resH]
 ·subst hv
  have h1:(0:Int)≤zz∧zz≤(cap:Int):=by omega
  simp[execOp,Zs hx,Zs hy,Instr.sliceAt,Instr.slice,Instr.sliceBounds,Instr.sliceBound,asIntOf,run_underlying h.is,Qz hE.size,resH,h1,h2,Addr.add]
theorem Rd.resH (h:Rd A sz css v)(hi:i≤css.length):Rd A sz (css.take i) (Hp.resH v i):=by
 have hl:(css.take i).length=i:=by simp;omega
 refine⟨?_,fun c hc=>h.wf c (List.mem_of_mem_take hc),?_⟩
 ·rcases h.at_ with⟨h1,h2⟩|⟨a,cap,hc,h1⟩
  ·subst h1;subst h2
   have:i=0:=by simpa using hi
   subst this
   exact .inl ⟨rfl,rfl⟩
  ·subst h1
   exact .inr ⟨a,cap,by rw[hl];omega,by rw[hl];rfl⟩
 ·intro O w F hs a n cap e j c hj
  rcases h.at_ with⟨h1,h2⟩|⟨a',cap',hc,h1⟩
  ·subst h1;simp at hj
  ·subst h1
   injection e with e _ _
   injection e with e
   subst e
   refine h.get O w F hs a' _ _ rfl j c ?_
   rw[List.getElem?_take]at hj
   split at hj
   ·exact hj
   ·cases hj
end
theorem rd_pt {b off cap:Nat}{cs:List Value}{E:TypeId}{fr:Nat×Nat}{sz:Nat}{css:List (List Value)}{pre post:List Value}(hcs:cs=pre++css.flatten++post)(hpre:pre.length=off)(hw:∀c∈css,c.length=sz)(hpos:0<sz)(hcap:css.length≤cap) :
  Rd (pt b (.cells cs.toArray E fr)) sz css (.slice (some ⟨b,off,none⟩) css.length cap):=by
 refine⟨.inr ⟨_,_,hcap,rfl⟩,hw,?_⟩
 intro O w F hs a n cap' e i c hi j x hj
 injection e with e1 e2 e3
 injection e1 with e1
 subst e1
 have hb:=hs.block
 have hflen:∀css:List (List Value),(∀c∈css,c.length=sz)→∀i c,css[i]? = some c→∃L Rr,css.flatten=L++c++Rr∧L.length=i*sz:=by
  intro css hw i c hi
  obtain⟨h1,h2⟩:=split_at hi
  refine⟨(css.take i).flatten,(css.drop (i+1)).flatten,?_,?_⟩
  ·conv=>lhs;rw[h1]
   simp
  ·have:∀l:List (List Value),(∀c∈l,c.length=sz)→l.flatten.length=l.length*sz:=by
    intro l hl
    induction l with
    | nil=>simp
    | cons c r ih=>
     simp only[List.flatten_cons,List.length_append,List.length_cons,Nat.add_mul,Nat.one_mul]
     rw[ih (fun x hx=>hl x (by simp[hx])),hl c (by simp)];omega
   rw[this _ (fun c hc=>hw c (List.mem_of_mem_take hc)),h2]
 obtain⟨L,Rr,g1,g2⟩:=hflen css hw i c hi
 have hjl:=(List.getElem?_eq_some_iff.1 hj).1
 rw[Addr.add_lit,Addr.add_mid]
 rw[cell_of_row w b (off+i*sz+j) cs.toArray E fr hb]
 have e2:cs=(pre++L)++(c++(Rr++post)):=by rw[hcs,g1];simp
 show cs.toArray[off+i*sz+j]? = some x
 rw[List.getElem?_toArray,e2,List.getElem?_append_right (by simp[hpre,g2]),List.getElem?_append_left (by simp[hpre,g2];omega)]
 have:off+i*sz+j-(pre++L).length=j:=by simp[hpre,g2]
 rw[this];exact hj
end Hp
end
section
open Go.RowKit Hp
set_option maxRecDepth 100000
set_option maxHeartbeats 1000000
attribute [local irreducible] Go.Calls
theorem base14_le {c:Cfg}(h:c.Ok):base c 14≤8192:=by
 have e1:base c 14=base c 13+c.Sl:=rfl
 have e2:base c 13=base c 12+c.Sl:=rfl
 have e3:base c 12=base c 11+c.Sl:=rfl
 have e4:base c 11=base c 10+c.Sl:=rfl
 have e5:base c 10=base c 9+c.R*c.Hz:=rfl
 have e6:base c 9=base c 8+c.R:=rfl
 have e7:base c 8=base c 7+c.Bu:=rfl
 have e8:base c 7=6:=by simp[base,many]
 have:=h.rh.2
 have:=h.R2;have:=h.B2;have:=h.S2
 omega
abbrev HW:=Wst (Haz×Are) Zz
def wst0 (c:Cfg)(km:Nat)(vs:Value):HW:=⟨(haz0 c,are0 c),mch0 c.T.toNat (Jg c 0) (.map (some km)) vs,List.replicate c.T.toNat none⟩
theorem tsk_nones {τ:Type}{R:τ→Value→Zd}{O w:World}{F:Zd}(hs:Sat O w F):∀n,Sat O w (tskR R (List.replicate n none) (List.replicate n sea0)*F)
 | 0=>by simp only[List.replicate_zero,tskR,Em];exact hs
 | n+1=>by
  simp only[List.replicate_succ,tskR,Ma,ZH]
  exact⟨trivial,tsk_nones hs n⟩
theorem wr0_eq {g ba bx bm:Nat}{CX:Zd}{K:Int→Option Value}{c:Cfg}{km:Nat}{vs:Value}:WR (hzT g ba CX) bx bm K (wst0 c km vs) =
  MchR bx bm (mch0 c.T.toNat (Jg c 0) (.map (some km)) vs)*(mp .i64 K (.map (some km))*(HazR g ba (haz0 c)*(AreR ba (are0 c)*(CX*tskR (htR g ba) (List.replicate c.T.toNat none) (List.replicate c.T.toNat sea0))))):=by
 unfold WR
 simp only[hzT,Ma,wst0]
 rfl
def playR (J:HW→Prop)(u:Value):Zd:=ex fun x=>ex fun v=>pu (J x∧u=.tuple #[v,.int .i64 0])*RunR x.m.calls x.m.mem.log x.m.shifts x.m.mem.words v
theorem haz_play_long (c:Cfg)(h:c.Ok)(v:Value)(mvs:List Mv)(hl:65536<mvs.length)(A:Zd)(hRd:Rd A 4 (mvs.map Mv.e) v):ZB Tryz.prog 15 #[c.v,v] A (.tuple #[.agg #[.slice none 0 0,.slice none 0 0,.slice none 0 0,.slice none 0 0],.int .i64 3]) A:=by
 intro O w F hs
 have hA:=Lh (arena_new c h)
 obtain⟨a0,c0,rfl⟩:=hRd.len
 simp only[List.length_map]at hRd hs ⊢
 have hRd:=Lh hRd
 have n1:decide ((mvs.length:Int)>65536)=true:=by simp;omega
 go_enter Tryz.func15,Tryz.ntmps15
 go_wp2_with (first|(first|((with_reducible apply Z5 hs);exact Ii;rfl;(with_reducible repeat first|exact Qh|apply Qk);rfl;rfl;(simp only[Uc,Uz]))|((with_reducible apply ZR hs);exact Ii;rfl;rfl;(with_reducible repeat first|exact Qh|apply Qk);rfl;rfl;rfl;rfl;clear hs;intro w hs)|((with_reducible apply Zw hs);exact Ii;rfl;clear hs;intro w b hs;(simp only[Uc,Uz]))|((with_reducible apply Zv hs);rfl;rfl;rfl;clear hs;intro w b hs;(simp only[Uc,Uz])))|(go_at_call 33;((refine(hA.out).at hs (by (focus((repeat(with_reducible exact Qn));done))) ?_);clear hs;intro v w hs;(try simp only[Em,Ma]at hs));(simp only[ZM,Ma,ZH]at hs);(obtain⟨ba,rfl,hs⟩:=hs)))
 ((try simp only[Exit.inBlock,Exit.then]);(with_reducible apply bodyPost_ret);((with_reducible apply results_ct);rfl;rfl;(with_reducible apply loadF hs);exact Ii;(with_reducible exact Qh);rfl;rfl))
 exact⟨rfl,by ((with_reducible apply Sat.fin hs);(with_reducible repeat first|exact Ql|exact Qh|apply Qb|apply Qk))⟩
set_option maxHeartbeats 4000000 in
theorem haz_playR (c:Cfg)(h:c.Ok)(v:Value)(mvs:List Mv)(hl:mvs.length≤65536)(J:Nat→HW→Prop)(hn:c.T.toNat≤16)
  (J0:∀km vs,J 0 (wst0 c km vs))
  (Jm:∀bh ba x k y mv,mvs[k]? = some mv→J k y→MayMove (hzT bh ba (capR bh x)) (KOk c.T.toNat) c.T.toNat y mv)
  (Js:∀bh ba x k y mv b y',mvs[k]? = some mv→J k y→Jn (hzT bh ba (capR bh x)) (kitFn x) ZW y mv b y'→J (k+1) y')
  (Jr:∀y,J mvs.length y→y.m.calls.length<4294967296∧y.m.shifts.length<4294967296∧y.m.mem.words.length<4294967296∧y.m.mem.log.length<4294967295∧0<y.m.seats.length) (A:Zd) (hRd:Rd A 4 (mvs.map Mv.e) v) :
  Does Tryz.prog 15 #[c.v,v] A (fun u=>playR (J mvs.length) u*A):=by
 intro O w F hs
 have hA:=Lh (arena_new c h)
 have hF:=Lh (word_first0 c h)
 have hH:=Lh (fun ba=>hazard_new ba (are0 c) h)
 have hK:=Lh (fun bh ba=>haz_kit bh ba (haz0 c))
 have hM:=machine_new c.T.toNat
 have hT1:=h.T1
 have hT2:=h.T2
 have hTn:((c.T.toNat:Nat):Int)=c.T:=Int.toNat_of_nonneg (by omega)
 have hbl:=base14_le h
 rw[hTn]at hM
 have hM:=Lh (fun v km=>hM v km (Jg c 0) (by omega) (by omega) (by rw[firstW_len];omega))
 obtain⟨a0,c0,rfl⟩:=hRd.len
 simp only[List.length_map]at hRd hs ⊢
 have hRd:=Lh hRd
 have n1:decide ((mvs.length:Int)>65536)=false:=by simp;omega
 have J0:=Lh J0
 have Jm:=Lh Jm
 have Js:=Lh Js
 have Jr:=Lh Jr
 go_enter Tryz.func15,Tryz.ntmps15
 go_wp2_with (first|(first|(first|(with_reducible refine NQ.mk ?_)|((with_reducible apply Zl);rfl;rfl)|((with_reducible apply ZF);rfl)|(with_reducible refine EQ.mk ?_ ?_)|(first|(with_reducible exact Zo)|((with_reducible refine ZJ ?_ ?_);(focus((with_reducible apply Qd);rfl;rfl))))|(with_reducible refine Zm ?_)|(show QD _ _ _;rfl))|((with_reducible apply Zc hs);exact Ii;rfl;(with_reducible repeat first|exact Qh|apply Qk);rfl;rfl;(simp only[Uc,Uz]))|((with_reducible apply Z5 hs);exact Ii;rfl;(with_reducible repeat first|exact Qh|apply Qk);rfl;rfl;(simp only[Uc,Uz]))|((with_reducible apply Zw hs);exact Ii;rfl;clear hs;intro w b hs;(simp only[Uc,Uz]))|((with_reducible apply Zv hs);rfl;rfl;rfl;clear hs;intro w b hs;(simp only[Uc,Uz])))|(go_at_call 33;((refine(hA.out).at hs (by (focus((repeat(with_reducible exact Qn));done))) ?_);clear hs;intro v w hs;(try simp only[Em,Ma]at hs));(simp only[ZM,Ma,ZH]at hs);(obtain⟨ba,rfl,hs⟩:=hs))|(go_at_call 61;((refine(hF.out).at hs (by (focus((repeat(with_reducible exact Qn));done))) ?_);clear hs;intro v w hs;(try simp only[Em,Ma]at hs));(simp only[ZM,Ma,ZH]at hs);(obtain⟨vw,rfl,hs⟩:=hs))|(go_at_call 37;((refine((hH.out ba)).at hs (by (with_reducible repeat first|exact Qh|apply Qk)) ?_);clear hs;intro g w hs;(try simp only[Em,Ma]at hs)))|(go_at_call 40;((refine((hK.out g ba)).at hs (by (focus((repeat(exact Qh));done))) ?_);clear hs;intro v w hs;(try simp only[Em,Ma]at hs));(simp only[ZM,Ma]at hs);(obtain⟨x,hs⟩:=hs);(obtain⟨km,rfl⟩:=mp_some hs))|(go_at_call 38;((refine((hM.out vw km)).at hs (by (with_reducible repeat first|exact Qh|apply Qk)) ?_);clear hs;intro v w hs;(try simp only[Em,Ma]at hs));(simp only[ZM,Ma,ZH]at hs);(obtain⟨bx,bm,vs,rfl,hs⟩:=hs))|((with_reducible refine Wp (id:=7) [.neu 0,.neu 1,.neu 2,.neu 3,.eff 4 [0,1,2],.eff 5 [0,1,2],.eff 6 [],.neu 7,.neu 8,.neu 9,.neu 10,.neu 11] hs rfl ?_ ?_);kernel_rfl;clear hs;intro w hs))
 replace hs:=tsk_nones (R:=htR g ba) hs c.T.toNat
 have hs2:Sat O w (WR (hzT g ba (capR g x)) bx bm (kitFn x) (wst0 c km vs)*(pt b (.cells #[.slice none 0 0,.slice none 0 0,.slice none 0 0,.slice none 0 0] 32)*(A*F))):=by
  rw[wr0_eq]
  simp only[Ma]
  ((with_reducible apply Sat.fin hs);(with_reducible repeat first|exact Ql|exact Qh|apply Qb|apply Qk))
 clear hs
 have hs:=hs2
 clear hs2
 have hGood:=Lh (hzT_good g ba (capR g x))
 have hKO:=Lh (hzT_kit g ba c.T.toNat x)
 have hJ0:=J0.out km vs
 go_loopw [12,47] (fun _ q wr=>∃(n:Nat) (y:HW),n≤mvs.length∧q=.int .i64 (n:Int)∧J n y∧Sat O wr (WR (hzT g ba (capR g x)) bx bm (kitFn x) y*(pt b (.cells #[.slice none 0 0,.slice none 0 0,.slice none 0 0,.slice none 0 0] 32)*(A*F)))) (fun _ q _=>65537-(intOf q).toNat)
 case atStart=>exact⟨0,_,by omega,rfl,hJ0,hs⟩
 case round=>
  obtain⟨n,y,k1,rfl,hJ,hs⟩:=hrel
  by_cases hkr:n=mvs.length
  ·subst hkr
   obtain⟨r1,r2,r3,r4,r5⟩:=Jr.out y hJ
   have hR:=Lh (mach_run bx bm y.m r5 r1 r2 r3 r4)
   unfold WR at hs
   simp only[Ma]at hs
   have hlt:decide ((mvs.length:Int)<(mvs.length:Int))=false:=by simp
   have hJ:=Lh hJ
   go_wp2_with (first|((with_reducible apply ZR hs);exact Ii;rfl;rfl;(with_reducible repeat first|exact Qh|apply Qk);rfl;rfl;rfl;rfl;clear hs;intro w hs)|(go_at_call 44;((refine(hR.out).at hs (by (with_reducible exact Qh)) ?_);clear hs;intro v w hs;(try simp only[Em,Ma]at hs));(unfold RunR at hs);(simp only[ZM,Ma,ZH]at hs);(obtain⟨rc,rt,rs,rw_,rfl,hs⟩:=hs);(obtain⟨_,_,rfl⟩:=Qr (hs.pull (A:=sl 50 9 _ rc) (by (with_reducible exact Qh))));(obtain⟨_,_,rfl⟩:=Qr (hs.pull (A:=sl 138 7 _ rt) (by (with_reducible repeat first|exact Qh|apply Qk))));(obtain⟨_,_,rfl⟩:=Qr (hs.pull (A:=sl 127 5 _ rs) (by (with_reducible repeat first|exact Qh|apply Qk))));(obtain⟨_,_,rfl⟩:=Qr (hs.pull (A:=sl 57 1 _ rw_) (by (with_reducible repeat first|exact Qh|apply Qk))));(simp only[List.length_map]at hs ⊢)))
   ((try simp only[Exit.inBlock,Exit.then]);(with_reducible apply bodyPost_ret);((with_reducible apply results_ct);rfl;rfl;(with_reducible apply loadF hs);exact Ii;(with_reducible exact Qh);rfl;rfl))
   refine⟨_,rfl,?_⟩
   unfold playR RunR
   simp only[ZM,Ma,ZH]
   refine⟨y,_,⟨hJ.out,rfl⟩,_,_,_,_,rfl,?_⟩
   ((with_reducible apply Sat.fin hs);(with_reducible repeat first|exact Ql|exact Qh|apply Qb|apply Qk))
  ·have hlt:decide ((n:Int)<(mvs.length:Int))=true:=by simp;omega
   have hlt2:decide (n<mvs.length)=true:=by simp;omega
   have hln:n<(mvs.map Mv.e).length:=by simp;omega
   obtain⟨mv,hmv⟩:∃mv,mvs[n]? = some mv:=⟨_,Yd (by omega)⟩
   have hgv:(mvs.map Mv.e)[n]? = some (Mv.e mv):=by simp[hmv]
   have hD:=Lh (move_any (bx:=bx) (bm:=bm) hGood.out hKO.out y mv (Jm.out g ba x n y mv hmv hJ))
   have hJ:=Lh hJ
   go_wp2_with (first|(first|((with_reducible apply Z5 hs);exact Ii;rfl;(with_reducible exact Qh);rfl;rfl;(simp only[Uc,Uz]))|((with_reducible apply ZR hs);exact Ii;rfl;rfl;(with_reducible exact Qh);rfl;rfl;rfl;rfl;clear hs;intro w hs)|((with_reducible apply Zw hs);exact Ii;rfl;clear hs;intro w b hs;(simp only[Uc,Uz])))|((with_reducible apply wl_ir hRd.out);exact Ii;exact Ii;rfl;rfl;(rfl);(assumption);rfl;intro ao hat;(simp only[Uc,Uz]))|((with_reducible apply wl_lr hs hRd.out);exact Ii;assumption;rfl;(with_reducible repeat first|exact Qh|apply Qk);(assumption);rfl;(simp only[Uc,Uz]))|(go_at_call 41;((refine(hD.out).at hs (by (with_reducible repeat first|exact Qh|apply Qk)) ?_);clear hs;intro v w hs;(try simp only[Em,Ma]at hs));(replace hs:=moved_iff.1 hs);(obtain⟨bb,y',⟨rfl,hmt⟩,hs⟩:=hs)))
   go_roundw
   case rel=>exact⟨n+1,y',by omega,by simp,Js.out g ba x n y mv bb y' hmv hJ.out hmt,by ((with_reducible apply Sat.fin hs);(with_reducible repeat first|exact Ql|exact Qh|apply Qb|apply Qk))⟩
   case measure=>simp[intOf];omega
theorem does_sl {P:Program}{f:FuncId}{args:Array Value}{E:TypeId}{sz:Nat}{css:List (List Value)}{v:Value}{B:Value→Zd}(h:∀A,Rd A sz css v→Does P f args A (fun u=>B u*A)) :
  Does P f args (sl E sz css v) (fun u=>B u*sl E sz css v):=by
 intro O w F hs
 obtain⟨hw,⟨rfl,rfl,hs1⟩|⟨b,off,cap,pre,post,rfl,h1,h2,h3,hs1⟩⟩:=QK.1 hs
 ·have hR:Rd emp sz [] (.slice none 0 0):=⟨.inl ⟨rfl,rfl⟩,by simp,by simp⟩
  refine(h emp hR O w F (hs1.cast (Em _).symm)).mono ?_
  rintro e w' ⟨u,he,hs'⟩
  refine⟨u,he,?_⟩
  have hs2:Sat O w' (B u*F):=hs'.cast (by simp only[mul_emp])
  exact(sl_nil (E:=E) hs2 hw.pos).cast (by ac_rfl)
 ·have hR:Rd (pt b (.cells (pre++css.flatten++post).toArray E)) sz css (.slice (some ⟨b,off,none⟩) css.length cap):=rd_pt rfl h1 (fun c hc=>(hw.wf c hc).1) hw.pos h2
  refine(h _ hR O w F hs1).mono ?_
  rintro e w' ⟨u,he,hs'⟩
  refine⟨u,he,?_⟩
  have hs2:Sat O w' (pt b (.cells (pre++css.flatten++post).toArray E)*(B u*F)):=hs'.cast (by ac_rfl)
  exact(QK.2 ⟨hw,.inr ⟨b,off,cap,pre,post,rfl,h1,h2,h3,hs2⟩⟩).cast (by ac_rfl)
end
section
open Go.RowKit Hp
set_option maxRecDepth 100000
set_option maxHeartbeats 1000000
attribute [local irreducible] Go.Calls
section
variable {c:Cfg}{L S N:Nat}{h:Haz}{a:Are}{m:Mch}
theorem okr_of {t:Nat}{k:Zz}(C:Core c L S N h a m)(hu:m.used=false)(hL:L<4294967296)(hS:S<1000000000)(hN:N<1000000)(ht:(t:Int)<c.T)(I:TI c t false (h.held.getD t 0) (a.caches.getD t []) k):htOkr (h,a) m t k:=by
 have hz:=C.haz hu hL hS hN
 have hc:=C.hc
 cases k with
 | pst p=>obtain⟨i1,_⟩:=I;exact⟨hz,by omega,by rw[hc];omega⟩
 | scn s=>obtain⟨i1,i2,_⟩:=I;obtain⟨r0,r1,_⟩:=i2 rfl;exact⟨hz,r0,by rw[hc];exact r1⟩
 | reg r=>trivial
 | unr r=>trivial
 | rdg r=>trivial
 | clr r=>trivial
theorem oks_of {t:Nat}{k:Zz}(C:Core c L S N h a m)(hu:m.used=false)(hL:L<4294967296)(hS:S<1000000000)(hN:N<1000000)(ht:(t:Int)<c.T)(I:TI c t true (h.held.getD t 0) (a.caches.getD t []) k):htOks (h,a) m t k:=by
 have hz:=C.haz hu hL hS hN
 have hc:=C.hc
 have hok:=C.ok
 have hS2:=hok.S2
 have hC2:=hok.C2
 cases k with
 | reg r=>obtain⟨i1,i2,i3⟩:=I;exact⟨hz,by omega,by rw[hc];omega,i2,by rw[hc];exact i3⟩
 | unr u=>
  obtain⟨i1,i2,i3,i4,i5,i6⟩:=I
  refine⟨hz,by omega,by rw[hc];omega,by rw[i1];simpa using i2,i3,by rw[hc];exact i4,fun h1 => ?_,fun h2 => ?_⟩
  ·obtain⟨s,e1,e2,e3⟩:=i5 h1
   have F:=scan_core C e2 hN
   have g:=F.core.cget (t:=u.thread) (by omega) (by omega)
   exact⟨s,e1,e2.ok C hu hL hS hN,_,g.1,by have:=g.2.1;omega⟩
  ·obtain⟨p,e1,e2,e3,e4⟩:=i6 h2
   have g:=C.cget (t:=u.thread) (by omega) (by omega)
   exact⟨p,e1,e2.pok C hu hL hS,e3,_,g.1,by have:=g.2.1;omega,by rw[i1];simpa using e4⟩
 | pst p=>
  obtain⟨i1,i2,i3,_⟩:=I
  obtain⟨⟨k,hk,k0,k1⟩,j2,j3,j4⟩:=i3 rfl
  refine⟨k,hz,by omega,by rw[hc];omega,by rw[i1];simpa using i2,hk,j2,fun h0 => ?_,fun h1 => ?_,fun h3=>by rw[hc];exact j3 h3,fun h3 => ?_,fun h4 => ?_⟩
  ·have e:=(take_core C (k0 h0)).2.2.1
   show TakeOk a m k∧Zh (Zi a m k).2.2.2≤2147483646 ∧ -1≤Zh (Zi a m k).2.2.2
   exact⟨(k0 h0).ok C hu hL hS hN,by omega,by omega⟩
  ·have:=k1 (by omega)
   rw[hc];exact⟨this.1,this.2.1⟩
  ·have:=k1 (by omega)
   rw[hc];omega
  ·obtain⟨r,sc,e1,e2,e3,e4⟩:=j4 h4
   exact⟨r,sc,e1,e2,e3.ok C hu hL hS hN⟩
 | rdg r=>
  obtain⟨i1,i2,i3,i4⟩:=I
  have hb:=Qx hok
  have hb9:=(ZS hok 9).1
  refine⟨hz,i3,by omega,?_,fun h3=>(i4 (by omega)).1,fun h3=>by rw[hc];exact(i4 (by omega)).2⟩
  rw[C.words]
  obtain⟨b1,b2,b8,b9,b10,b11,b12,b13,b14,rh,rh2⟩:=hb
  have:=hok.S1
  omega
 | clr ad=>
  obtain⟨i1,i2⟩:=I
  have hb:=Qx hok
  have hl:=C.log
  have ha:=C.ahead
  refine⟨hu,?_,by omega,by omega⟩
  rw[C.words]
  obtain⟨b1,b2,b8,b9,b10,b11,b12,b13,b14,rh,rh2⟩:=hb
  have:=hok.S1
  omega
 | scn s=>exact(I.2.2 rfl).ok C hu hL hS hN
theorem QM.trans {i t:Nat}{cl:Cll}{s:Sea}{m0 m1 m2:Mch}{z k v:Int}(f:QM i t cl s m0 m1)(g:QM i t { cl with point:=z } { s with kind:=k,value:=v } m1 m2):QM i t cl s m0 m2:=by
 obtain⟨z1,hz1⟩:=f.calls
 obtain⟨k1,v1,hk1⟩:=f.seats
 obtain⟨z2,hz2⟩:=g.calls
 obtain⟨k2,v2,hk2⟩:=g.seats
 exact⟨g.cur.trans f.cur,g.vs.trans f.vs,g.vc.trans f.vc,g.kit.trans f.kit,g.moves.trans f.moves,g.now.trans f.now,g.thread.trans f.thread,
  ⟨z2,by rw[hz2,hz1,Yl]⟩,⟨k2,v2,by rw[hk2,hk1,Yl]⟩⟩
structure MoreI (c:Cfg)(L S N:Nat)(i t:Nat)(cl:Cll)(se:Sea)(h:Haz)(a:Are)(m:Mch)(r:Bool×(Haz×Are)×Mch×Zz):Prop extends StI c L S N t h a r where
 frame:QM i t cl se m r.2.2.1
theorem rdy_more {bh ba:Nat}{CX:Zd}{i t:Nat}{cl:Cll}{se:Sea}{k:Zz}{now:Int}(C:Core c L S N h a m)(hN:N<1000000)(ht:(t:Int)<c.T)(hc:m.calls[i]? = some cl)(hs:t<m.seats.length)
  (I:TI c t se.ready (h.held.getD t 0) (a.caches.getD t []) k) :
  MoreI c L (S+1) N i t cl { se with ready:=true } h a (m.prep t i now se) (Zb (hzT bh ba CX) (h,a) m i t cl se k now)∧(Zb (hzT bh ba CX) (h,a) m i t cl se k now).2.2.1.used=false:=by
 have C0:Core c L S N h a (m.prep t i now se):=C.of rfl rfl rfl rfl
 have hci:QS (m.prep t i now se) i t cl { se with ready:=true }:=⟨rfl,hc,by simp[Mch.prep,hs]⟩
 unfold Zb
 split
 ·rename_i hf
  rw[hf]at I
  obtain⟨⟨e1,e2,e3⟩,e4⟩:=ready_core (i:=i) (t:=t) (cl:=cl) (se:={ se with ready:=true }) C0 ht I
  exact⟨⟨⟨e1,e2,e3⟩,(hzT_good bh ba CX).fr _ _ _ _ _ _ _ hci⟩,e4⟩
 ·rename_i hf
  have hf:se.ready=true:=by simpa using hf
  rw[hf]at I
  exact⟨⟨⟨C0.mono (by omega) (by omega) (by omega),.refl ..,fun _=>I⟩,(Same.refl _).frame hci⟩,rfl⟩
theorem more_core {bh ba:Nat}{CX:Zd}{i t:Nat}{cl:Cll}{se:Sea}{k:Zz}{now:Int}(C:Core c L S N h a m)(hN:N<1000000)(ht:(t:Int)<c.T)(hc:m.calls[i]? = some cl)(hs:t<m.seats.length)
  (I:TI c t se.ready (h.held.getD t 0) (a.caches.getD t []) k) :
  MoreI c (L+1) (S+67) (N+1) i t cl { se with ready:=true } h a (m.prep t i now se) (ZQ (hzT bh ba CX) i t (Zb (hzT bh ba CX) (h,a) m i t cl se k now)):=by
 obtain⟨⟨⟨r1,r2,r3⟩,r4⟩,_⟩:=rdy_more (bh:=bh) (ba:=ba) (CX:=CX) (now:=now) C hN ht hc hs I
 have hci:QS (m.prep t i now se) i t cl { se with ready:=true }:=⟨rfl,hc,by simp[Mch.prep,hs]⟩
 generalize Zb (hzT bh ba CX) (h,a) m i t cl se k now=r at r1 r2 r3 r4 ⊢
 unfold ZQ
 split
 ·rename_i hf
  obtain⟨z,kk,vv,hcc⟩:=r4.curIn hci
  obtain⟨e1,e2,e3⟩:=step_core (i:=i) (t:=t) (x:=getC r.2.2.1 i) (se:=getS r.2.2.1 t) r1 hN ht (r3 hf)
  have fs:=(hzT_good bh ba CX).fs r.2.1 _ i t _ _ r.2.2.2 hcc
  rw[←hcc.getC,←hcc.getS]at fs
  refine⟨⟨e1,⟨fun j hj=>(e2.held j hj).trans (r2.held j hj),fun j hj=>(e2.caches j hj).trans (r2.caches j hj)⟩,e3⟩,?_⟩
  rw[hcc.getC,hcc.getS]at fs
  have:=r4.trans fs
  rw[←hcc.getC,←hcc.getS]at this
  exact this
 ·exact⟨⟨r1.mono (by omega) (by omega) (by omega),r2,r3⟩,r4⟩
end
structure PI (c:Cfg)(n:Nat)(y:HW):Prop where
 cur:y.m.cur=none
 moves:y.m.moves=(n:Int)
 core:Core c n (100*n) n y.s.1 y.s.2 y.m
 tasks:y.tasks.length=c.T.toNat
 seats:y.m.seats.length=c.T.toNat
 calls:y.m.calls.length≤n
 task:∀(t:Nat) (k:Zz) (se:Sea),y.tasks[t]? = some (some k)→y.m.seats[t]? = some se→(∃i:Nat,se.last=(i:Int)∧i<y.m.calls.length)∧TI c t se.ready (y.s.1.held.getD t 0) (y.s.2.caches.getD t []) k
theorem PI.may {c:Cfg}{n:Nat}{y:HW}{bh ba:Nat}{CX:Zd}(P:PI c n y)(hn:n<65536)(mv:Mv):MayMove (hzT bh ba CX) (KOk c.T.toNat) c.T.toNat y mv:=by
 obtain⟨p1,p2,p3,p4,p5,p6,p7⟩:=P
 have hok:=p3.ok
 have hT1:=hok.T1
 refine⟨p1,by omega,by omega,by omega,p4,p5,⟨by rw[p3.hc];exact hok,p3.held,fun r hr=>by rw[p3.hc];exact(p3.hin r hr).2⟩,by omega,?_⟩
 intro t k se ht hop hk hse
 obtain⟨⟨i,e1,e2⟩,I⟩:=p7 t k se hk hse
 have hlt:=(List.getElem?_eq_some_iff.1 hse).1
 have htT:(t:Int)<c.T:=by omega
 have C0:Core c n (100*n) n y.s.1 y.s.2 (y.tick.m.prep t i y.m.moves se):=p3.of rfl rfl rfl rfl
 have C1:Core c n (100*n) n y.s.1 y.s.2 y.tick.m:=p3.of rfl rfl rfl rfl
 refine⟨i,_,e1,Yd e2,fun hf => ?_,fun hf => ?_⟩
 ·rw[hf]at I
  exact okr_of C0 rfl (by omega) (by omega) (by omega) htT I
 ·obtain⟨⟨⟨r1,r2,r3⟩,_⟩,r5⟩:=rdy_more (bh:=bh) (ba:=ba) (CX:=CX) (i:=i) (cl:=y.m.calls[i]) (now:=y.m.moves) C1 (by omega) htT (Yd e2) hlt I
  exact oks_of r1 r5 (by omega) (by omega) (by omega) htT (r3 hf)
theorem PI.tick {c:Cfg}{n:Nat}{y:HW}(P:PI c n y):PI c (n+1) y.tick:=by
 obtain⟨p1,p2,p3,p4,p5,p6,p7⟩:=P
 exact⟨p1,by simp only[Wst.tick];omega,(p3.mono (by omega) (by omega) (by omega)).of rfl rfl rfl rfl,p4,p5,by simp only[Wst.tick];omega,p7⟩
theorem TI.others {c:Cfg}{t j:Nat}{b:Bool}{h h':Haz}{a a':Are}{k:Zz}(hj:j≠t)(f:Fr t h h' a a')(I:TI c j b (h.held.getD j 0) (a.caches.getD j []) k):TI c j b (h'.held.getD j 0) (a'.caches.getD j []) k:=by
 rw[Yb,Yb]at I ⊢
 rw[f.held j hj,f.caches j hj]
 exact I
theorem PI.move {c:Cfg}{n:Nat}{y y':HW}{bh ba:Nat}{CX:Zd}{K:Int→Option Value}{mv:Mv}{b:Bool}(P:PI c n y)(hn:n<65536)(h:Jn (hzT bh ba CX) K ZW y mv b y'):PI c (n+1) y':=by
 cases h with
 | out=>exact P.tick
 | idle=>exact P.tick
 | busy=>exact P.tick
 | nokit=>exact P.tick
 | refused=>exact P.tick
 | step t i cl se k ht hop hk hse hl hc=>
  obtain⟨p1,p2,p3,p4,p5,p6,p7⟩:=P
  have hok:=p3.ok
  have hlt:=(List.getElem?_eq_some_iff.1 hse).1
  have htT:(t:Int)<c.T:=by omega
  obtain⟨_,I⟩:=p7 t k se hk hse
  have C1:Core c n (100*n) n y.s.1 y.s.2 y.tick.m:=p3.of rfl rfl rfl rfl
  have hci:QS (y.tick.m.prep t i y.m.moves se) i t cl { se with ready:=true }:=⟨rfl,hc,by simp[Mch.prep,Wst.tick,hlt]⟩
  obtain⟨⟨e1,e2,e3⟩,e4⟩:=more_core (bh:=bh) (ba:=ba) (CX:=CX) (now:=y.m.moves) C1 (by omega) htT hc hlt I
  have hsd:y.s=(y.s.1,y.s.2):=rfl
  unfold Qi
  rw[hsd]
  simp only[]
  generalize ZQ (hzT bh ba CX) i t (Zb (hzT bh ba CX) (y.s.1,y.s.2) y.tick.m i t cl se k y.m.moves)=r at e1 e2 e3 e4 ⊢
  obtain⟨z,kk,vv,hcc⟩:=e4.curIn hci
  obtain⟨z1,hz1⟩:=e4.calls
  obtain⟨k1,v1,hk1⟩:=e4.seats
  have hcl:r.2.2.1.calls.length=y.m.calls.length:=by rw[hz1];simp[Mch.prep,Wst.tick]
  have hsl:r.2.2.1.seats.length=y.m.seats.length:=by rw[hk1];simp[Mch.prep,Wst.tick]
  have hmv:r.2.2.1.moves=y.m.moves+1:=e4.moves
  have hsS:∀j,j≠t→r.2.2.1.seats[j]? = y.m.seats[j]? := by
   intro j hj
   rw[hk1,Zx hj]
   simp only[Mch.prep,Wst.tick]
   rw[Zx hj]
  rw[hcc.getC,hcc.getS]
  by_cases hb:r.1=true
  ·simp only[ZC,if_pos hb]
   refine⟨rfl,by show r.2.2.1.moves=_;omega,(e1.mono (by omega) (by omega) (by omega)).of rfl rfl rfl rfl,by simp[p4],by simp[hsl,p5],by simp;omega,?_⟩
   intro j kj sj hkj hsj
   simp only[]at hkj hsj
   by_cases hj:j=t
   ·subst hj
    rw[Ye (by omega)]at hkj
    simp at hkj
   ·rw[Zx hj]at hkj hsj
    rw[hsS j hj]at hsj
    obtain⟨⟨i',q1,q2⟩,q3⟩:=p7 j kj sj hkj hsj
    exact⟨⟨i',q1,by simp;omega⟩,q3.others hj e2⟩
  ·simp only[ZC,if_neg hb]
   refine⟨rfl,by show r.2.2.1.moves=_;omega,(e1.mono (by omega) (by omega) (by omega)).of rfl rfl rfl rfl,by simp[p4],by simp[hsl,p5],by simp;omega,?_⟩
   intro j kj sj hkj hsj
   simp only[]at hkj hsj
   by_cases hj:j=t
   ·subst hj
    rw[Ye (by omega)]at hkj
    simp at hkj
    subst hkj
    rw[hcc.seat]at hsj
    cases hsj
    exact⟨⟨i,hl,by have:=(List.getElem?_eq_some_iff.1 hc).1;simp only[];omega⟩,e3 (by simpa using hb)⟩
   ·rw[Zx hj]at hkj
    rw[hsS j hj]at hsj
    obtain⟨⟨i',q1,q2⟩,q3⟩:=p7 j kj sj hkj hsj
    exact⟨⟨i',q1,by simp only[];omega⟩,q3.others hj e2⟩
 | begin_ t k v vc ht hop hk hKn hmk=>
  obtain⟨p1,p2,p3,p4,p5,p6,p7⟩:=P
  have hlt:=(List.getElem?_eq_some_iff.1 hk).1
  have htT:(t:Int)<c.T:=by have:=p3.ok.T1;omega
  refine⟨p1,by simp only[ZD];omega,(p3.mono (by omega) (by omega) (by omega)).of rfl rfl rfl rfl,by simp[p4],by simp[ZD,p5],by simp[ZD];omega,?_⟩
  intro j kj sj hkj hsj
  simp only[ZD]at hkj hsj
  by_cases hj:j=t
  ·subst hj
   rw[Ye (by omega)]at hkj hsj
   cases hkj
   cases hsj
   exact⟨⟨_,rfl,by simp[ZD]⟩,made_inv p3 htT hmk _⟩
  ·rw[Zx hj]at hkj hsj
   obtain⟨⟨i',q1,q2⟩,q3⟩:=p7 j kj sj hkj hsj
   exact⟨⟨i',q1,by simp[ZD];omega⟩,q3⟩
/-! ## the beginning -/
theorem fill_wok {c:Cfg}(hok:c.Ok){ws:List Int}(hw:∀(k:Nat) (u:Int),ws[k]? = some u→WOk c k u):∀n:Nat,(n:Int)+1≤c.Sl→∀(k:Nat) (u:Int),(QU ws (base c 10) 0 n)[k]? = some u→WOk c k u
 | 0,_,k,u,h=>hw k u h
 | n+1,hn,k,u,h=>by
  simp only[QU]at h
  have hb:=(ZS hok 10).1
  by_cases hk:(base c 10+((0+n:Nat):Int)).toNat=k
  ·subst hk
   rw[List.getElem?_set_self']at h
   cases hg:(QU ws (base c 10) 0 n)[(base c 10+((0+n:Nat):Int)).toNat]? with
   | none=>rw[hg]at h;simp at h
   | some w=>
    rw[hg]at h;simp at h;subst h
    have:=wok_next hok (i:=((0+n:Nat):Int)) (by omega) (u:=((n:Int)+2)) ⟨by omega,by omega⟩
    simpa[adr] using this
  ·rw[Yf hk]at h
   exact fill_wok hok hw n (by omega) k u h
theorem first_wok {c:Cfg}(hok:c.Ok)(k:Nat)(u:Int)(h:(Jg c 0)[k]? = some u):WOk c k u:=by
 have hS1:=hok.S1
 simp only[Jg]at h
 rw[if_neg (by omega),if_pos (by show((0:Nat):Int)<c.Sl;omega)]at h
 refine fill_wok hok ?_ (c.Sl.toNat-1-0) (by omega) k u h
 intro k u h
 by_cases hk:k=0
 ·subst hk
  have h0:u=1:=by
   rw[List.getElem?_set_self']at h
   cases hg:(List.replicate (base c 14).toNat (0:Int))[0]? with
   | none=>rw[hg]at h;simp at h
   | some w=>rw[hg]at h;simp at h;exact h.symm
  subst h0
  have:=wok_head hok (u:=1) ⟨by omega,by omega,by omega⟩
  simpa[adr,base] using this
 ·rw[Yf (by omega)]at h
  have h0:u=0:=by
   have:=Yc h
   exact(List.mem_replicate.1 this).2
  subst h0
  exact⟨fun _=>⟨by omega,by omega,by omega⟩,fun _=>⟨by omega,by omega⟩,fun _ _=>⟨by omega,by omega⟩,fun _ _=>⟨by omega,by omega⟩⟩
theorem tot_nils:∀n,tot (List.replicate n [])=0
 | 0=>rfl
 | n+1=>by simp only[List.replicate_succ,tot,tot_nils n,List.length_nil]
theorem PI.start {c:Cfg}(hok:c.Ok)(km:Nat)(vs:Value):PI c 0 (wst0 c km vs):=by
 have h1:=hok.R1
 have h2:=hok.C1
 refine⟨rfl,rfl,⟨hok,rfl,rfl,firstW_len c 0,first_wok hok,by simp[wst0,mch0],by simp[wst0,mch0],by simp[wst0,mch0],by simp[wst0,are0],by simp[wst0,haz0],?_,by simp[wst0,haz0],by simp[wst0,haz0,tot_nils],?_,by simp[wst0,are0],?_,?_⟩,by simp[wst0],by simp[wst0,mch0],by simp[wst0,mch0],?_⟩
 ·intro r hr
  have:=(List.mem_replicate.1 hr).2
  subst this
  omega
 ·intro l hl z hz
  have:=(List.mem_replicate.1 hl).2
  subst this
  simp at hz
 ·intro x hx
  have:=(List.mem_replicate.1 hx).2
  subst this
  simpa using h2
 ·intro x hx z hz
  have:=(List.mem_replicate.1 hx).2
  subst this
  simp at hz
 ·intro t k se hk
  simp only[wst0,List.getElem?_replicate]at hk
  split at hk<;>simp at hk
end
end Go.Proofs.YtegafhhdegnigaaGreat
