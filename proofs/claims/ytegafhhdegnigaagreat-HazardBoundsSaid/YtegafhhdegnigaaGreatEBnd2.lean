/-
  HazardCell: which steps write neither the cell nor a value.
-/
import Derived.Test.YtegafhhdegnigaaGreatERec
import Derived.Test.YtegafhhdegnigaaGreatEOpen
import Derived.Test.YtegafhhdegnigaaGreatEBndW3
set_option linter.all false
namespace Go.Proofs.YtegafhhdegnigaaGreat
open Go.RowKit Hp
set_option maxRecDepth 100000
set_option maxHeartbeats 1000000
attribute [local irreducible] Go.Calls
section
def Qt (c:Cfg)(m m':Mch):Prop:=∀j:Nat,(j=adr c 2 0∨base c 11≤(j:Int))→m'.word j=m.word j
section
variable {t:Nat}{c:Cfg}{L S N:Nat}{h:Haz}{a:Are}{m m' m'':Mch}
theorem Qt.refl (m:Mch):Qt c m m:=fun _ _=>rfl
theorem Qt.trans (h1:Qt c m m')(h2:Qt c m' m''):Qt c m m'':=fun j hj=>(h2 j hj).trans (h1 j hj)
theorem Qt.of (h:m'.mem.words=m.mem.words):Qt c m m':=fun j _=>by unfold Mch.word;rw[h]
theorem Qt.set {A:Nat}{z:Int}(h:m'.mem.words=m.mem.words.set A z)(h1:A≠adr c 2 0)(h2:(A:Int)<base c 11):Qt c m m':=fun j hj=>by
 unfold Mch.word
 rw[h]
 simp only[Yb]
 rw[Yf (by rcases hj with e|e<;>omega)]
theorem Qt.load (j:Nat):Qt c m (m.load j (m.word j)):=.of rfl
theorem Qt.store {A:Nat}(z:Int)(h1:A≠adr c 2 0)(h2:(A:Int)<base c 11):Qt c m (m.store A (m.word A) z):=.set rfl h1 h2
theorem Qt.swap {A:Nat}(o z:Int)(h1:A≠adr c 2 0)(h2:(A:Int)<base c 11):Qt c m (m.swap A (m.word A) o z):=by
 by_cases e:m.word A=o
 ·exact .set (z:=z) (by simp only[Mch.swap];rw[if_pos e]) h1 h2
 ·exact .of (by simp only[Mch.swap];rw[if_neg e])
theorem low (hc:c.Ok){r:Nat}{z:Int}(h1:r=1∧z=0∨r=8∧z<c.R∨r=9∧z<c.R*c.Hz∨r=10∧z<c.Sl)(h0:0≤z):adr c r z≠adr c 2 0∧((adr c r z:Nat):Int)<base c 11:=by
 have e:=QP hc r h0
 have e2:=QP hc 2 (Int.le_refl 0)
 obtain⟨b1,b2,b8,b9,b10,b11,b12,b13,b14,rh,rh2⟩:=Qx hc
 have:=hc.S1
 have:=hc.R1
 rcases h1 with⟨rfl,_⟩|⟨rfl,_⟩|⟨rfl,_⟩|⟨rfl,_⟩<;>omega
theorem qt_push {p:Psh}(k:Core c L S N h a m)(I:PInv c p):Qt c m (Za a m p).2.2.1:=by
 obtain⟨p1,p2,p3,p4⟩:=I
 have hac:=k.ac
 have h1:=low k.ok (r:=1) (z:=0) (.inl ⟨rfl,rfl⟩) (by omega)
 have h2:=low k.ok (r:=10) (.inr (.inr (.inr ⟨rfl,p2⟩))) p1
 unfold Za
 rw[hac]
 split
 ·exact .load _
 ·split
  ·exact .store _ h2.1 h2.2
  ·simp only[]
   split
   ·exact(Qt.swap _ _ h1.1 h1.2).trans (.of rfl)
   ·exact .swap _ _ h1.1 h1.2
theorem qt_free (th:Int):∀(pend:List Int) (g:Option Psh) (a:Are) (m:Mch),Qt c m (Zu th pend g a m).2.2.2.2
 | [],g,a,m=>.refl _
 | s::r,g,a,m=>by
  unfold Zu
  unfold Zy
  simp only[]
  split
  ·simp only[Yn,if_false]
   exact .refl _
  ·simp only[if_true]
   exact(Qt.of rfl).trans (qt_free th r _ _ _)
theorem qt_scan {s:Scn}(C:Core c L S N h a m)(I:ScI c s):Qt c m (Zf h a m s).2.2.2.1:=by
 have hok:=C.ok
 have hac:=C.ac
 have hb:=Qx hok
 obtain rfl:=C.hc
 obtain⟨i1,i2,i3,i4,i5,i6,i7,i8,i9⟩:=I
 unfold Zf
 by_cases s0:s.stage=0
 ·rw[if_pos s0]
  unfold QH
  simp only[]
  split<;>exact .load _
 rw[if_neg s0]
 by_cases s1:s.stage=1
 ·rw[if_pos s1]
  obtain⟨a0,a1,a2⟩:=i6 (by omega)
  have h1:=low hok (r:=8) (.inr (.inl ⟨rfl,a1⟩)) a0
  unfold Qm
  simp only[]
  split
  ·exact(Qt.swap _ _ h1.1 h1.2).trans (.of rfl)
  ·exact .swap _ _ h1.1 h1.2
 rw[if_neg s1]
 by_cases s2:s.stage=2
 ·rw[if_pos s2]
  obtain⟨a0,a1,a2⟩:=i6 (by omega)
  have h1:=low hok (r:=8) (.inr (.inl ⟨rfl,a1⟩)) a0
  exact .store _ h1.1 h1.2
 rw[if_neg s2]
 by_cases s3:s.stage=3
 ·rw[if_pos s3]
  unfold Qo
  dsimp only
  split
  ·exact .load _
  ·simp only[Z2,Qf]
   exact(Qt.load _).trans (qt_free _ _ _ _ _)
 rw[if_neg s3]
 obtain⟨p,p1,p2,p3,p4⟩:=i9 (by omega)
 rw[p1]
 simp only[]
 have hq:=qt_push C p2
 unfold Qp
 simp only[]
 split
 ·exact hq.trans (qt_free _ _ _ _ _)
 ·exact hq
theorem qt_takeReady {k:Tak}:Qt c m (Zk a m k).2.2.1:=by
 unfold Zk
 simp only[]
 split
 ·exact .refl _
 ·exact .of rfl
theorem qt_take {k:Tak}(C:Core c L S N h a m)(T:TkI c k):Qt c m (Zi a m k).2.2.1:=by
 have hok:=C.ok
 have hac:=C.ac
 have h1:=low hok (r:=1) (z:=0) (.inl ⟨rfl,rfl⟩) (by omega)
 unfold Zi
 rw[hac]
 split
 ·exact .load _
 ·split
  ·exact .load _
  ·simp only[]
   split
   ·exact(Qt.swap _ _ h1.1 h1.2).trans (.of rfl)
   ·exact .swap _ _ h1.1 h1.2
theorem Qt.mv (hc:c.Ok)(q:Qt c m m'):(mv c m').cell=(mv c m).cell∧∀s,(Go.Proofs.YtegafhhdegnigaaGreat.mv c m').val s=(Go.Proofs.YtegafhhdegnigaaGreat.mv c m).val s:=by
 refine⟨q _ (.inl rfl),fun s => ?_⟩
 simp only[Go.Proofs.YtegafhhdegnigaaGreat.mv]
 split
 ·rename_i hs
  have e:=QP hc 11 hs.1
  exact q _ (.inr (by omega))
 ·rfl
end
end
section
inductive RdO (c:Cfg) (m:Mch) (i t:Nat) (cl:Cll) (se:Sea) (r:Rdg) (q:Bool×Mch×Rdg):Prop where
 | on (h1:q.1=false) (h2:q.2.1.calls=m.calls) (h3:q.2.1.seats=m.seats) (h4:q.2.2.stage≠3)
 | saw (h1:q.1=false) (h2:q.2.1.calls=m.calls) (h3:q.2.1.seats=m.seats) (h4:q.2.2.stage=3) (h5:q.2.2.point=m.now) (h6:q.2.2.w=(mv c m).cell) (h7:1≤q.2.2.w)
 | empty (h1:q.1=true) (h2:q.2.1.calls=m.calls.set i { cl with point:=m.now }) (h3:q.2.1.seats=m.seats.set t { se with kind:=3,value:=0 }) (h4:(mv c m).cell=0)
 | got (h0:r.stage=3) (h1:q.1=true) (h2:q.2.1.calls=m.calls.set i { cl with point:=r.point }) (h3:q.2.1.seats=m.seats.set t { se with kind:=2,value:=wrap64 ((mv c m).val (r.w-1)) })
inductive PsO (c:Cfg) (m:Mch) (i t:Nat) (cl:Cll) (se:Sea) (p:Pst) (b:Bool) (m':Mch) (p':Pst):Prop where
 | on (h1:(mv c m').cell=(mv c m).cell) (h2:∀s,(mv c m').val s=(mv c m).val s∨p.stage=1∧s=p.link-1) (h3:m'.calls=m.calls) (h4:m'.seats=m.seats) (h5:p'.value=p.value) (h6:b=false→(p'.stage=4↔p.stage=4)) (h7:b=true→p.stage=4)
 | full (h0:p.stage=0) (h1:b=true) (h2:(mv c m').cell=(mv c m).cell) (h3:∀s,(mv c m').val s=(mv c m).val s) (h4:m'.calls=m.calls.set i { cl with point:=m.now }) (h5:m'.seats=m.seats.set t { se with kind:=4,value:=0 })
 | post (h0:p.stage=3) (h2:(mv c m').cell=p.link) (h3:∀s,(mv c m').val s=(mv c m).val s) (h4:m'.calls=m.calls.set i { cl with point:=m.now }) (h5:m'.seats=m.seats.set t { se with kind:=1,value:=0 }) (h6:p'.value=p.value) (h7:b=false→p'.stage=4)
section
variable {t i:Nat}{c:Cfg}{L S N:Nat}{h:Haz}{a:Are}{m m' m'':Mch}{cl:Cll}{se:Sea}
theorem rdo_saw {r:Rdg}{u:Int}{m0:Mch}(h1:m'.calls=m.calls)(h2:m'.seats=m.seats)(h3:m'.now=m.now)(hu:u=(mv c m).cell):RdO c m i t cl se r (Z8 m' i t cl se r u):=by
 unfold Z8
 split
 ·rename_i e
  exact .empty rfl (by simp only[Mch.point,Mch.answer,h1,h3]) (by simp only[Mch.point,Mch.answer,h2]) (by rw[←hu];exact e)
 ·exact .on rfl h1 h2 (by show(1:Int)≠3;omega)
theorem rdo_read {r:Rdg}(C:Core c L S N h a m)(I:RdI c r):RdO c m i t cl se r (ZT h m i t cl se r):=by
 have hc:=C.hc
 obtain⟨i1,i2,i3,i4⟩:=I
 unfold ZT
 rw[hc]
 simp only[]
 split
 ·exact rdo_saw (m0:=m) rfl rfl rfl rfl
 ·split
  ·exact .on rfl rfl rfl (by show(2:Int)≠3;omega)
  ·split
   ·split
    ·rename_i h0 h1 h2 h3
     exact .saw rfl rfl rfl rfl rfl (by show r.w=m.word _;rw[h3]) (i4 h0).1
    ·exact rdo_saw (m0:=m) rfl rfl rfl rfl
   ·rename_i h0 h1 h2
    have hw:=i4 h0
    refine .got (by omega) rfl rfl ?_
    have e:(mv c m).val (r.w-1)=m.word (adr c 11 (r.w-1)):=by
     simp only[mv];rw[if_pos (by omega)]
    simp only[Mch.answer,Mch.point,e]
    rfl
theorem pso_took {p p0:Pst}{k:Tak}(hm:Same m m')(hq:Qt c m m')(hok:c.Ok)(hp:p0.stage=0)(h0:p.stage=0)(hv:p.value=p0.value) :
  PsO c m i t cl se p0 (ZE m' i t cl se p k).1 (ZE m' i t cl se p k).2.1 (ZE m' i t cl se p k).2.2:=by
 obtain⟨q1,q2⟩:=hq.mv hok
 unfold ZE
 split
 ·refine .full hp rfl (by rw[←q1];rfl) (fun s=>by rw[←q2];rfl) ?_ ?_
  ·simp only[Mch.point,Mch.answer,hm.calls,hm.now]
  ·simp only[Mch.point,Mch.answer,hm.seats]
 ·exact .on q1 (fun s=>.inl (q2 s)) hm.calls hm.seats hv (fun _=>by rw[hp];simp) (fun h=>by cases h)
theorem pso_ready {p:Pst}(hok:c.Ok)(hp:p.stage=0):PsO c m i t cl se p (Zq a m i t cl se p).1 (Zq a m i t cl se p).2.2.1 (Zq a m i t cl se p).2.2.2:=by
 unfold Zq
 simp only[]
 have hs:=QQ a m ⟨p.thread,1,0,0,0,false⟩
 have hq:Qt c m _:=qt_takeReady (a:=a) (k:=⟨p.thread,1,0,0,0,false⟩)
 obtain⟨q1,q2⟩:=hq.mv hok
 split
 ·exact pso_took hs hq hok hp hp rfl
 ·exact .on q1 (fun s=>.inl (q2 s)) hs.calls hs.seats rfl (fun _=>Iff.rfl) (fun h=>by cases h)
theorem pso_done {p:Pst}{sl0:Int}(hok:c.Ok)(hlt:adr c 2 0<m.mem.words.length)(h0:p.stage=3)(hw:m.word (adr c 2 0)=p.saw) :
  PsO c m i t cl se p (ZY h a (m.swap (adr c 2 0) (m.word (adr c 2 0)) p.saw p.link) i t cl se p sl0).1 (ZY h a (m.swap (adr c 2 0) (m.word (adr c 2 0)) p.saw p.link) i t cl se p sl0).2.2.2.1 (ZY h a (m.swap (adr c 2 0) (m.word (adr c 2 0)) p.saw p.link) i t cl se p sl0).2.2.2.2:=by
 have hwd:(m.swap (adr c 2 0) (m.word (adr c 2 0)) p.saw p.link).mem.words=m.mem.words.set (adr c 2 0) p.link:=by simp only[Mch.swap];rw[if_pos hw]
 have hmv:=mv_cell (m:=m) (m':=m.swap (adr c 2 0) (m.word (adr c 2 0)) p.saw p.link) hok hwd hlt
 have key:∀m',Same ((m.swap (adr c 2 0) (m.word (adr c 2 0)) p.saw p.link).point i cl (m.swap (adr c 2 0) (m.word (adr c 2 0)) p.saw p.link).now |>.answer t se 1 0) m'→m'.mem.words=(m.swap (adr c 2 0) (m.word (adr c 2 0)) p.saw p.link).mem.words→∀(b:Bool) (p':Pst),p'.value=p.value→(b=false→p'.stage=4)→PsO c m i t cl se p b m' p':=by
  intro m' hs he b p' hv hb
  have e:mv c m'={ mv c m with cell:=p.link }:=by rw[←hmv];exact QW he
  exact .post h0 (by rw[e]) (fun s=>by rw[e]) (by rw[hs.calls];rfl) (by rw[hs.seats];rfl) hv hb
 unfold ZY
 simp only[]
 split
 ·exact key _ (QL ..) rfl _ _ rfl (fun h=>by cases h)
 ·refine key _ (((QL ..).trans (QL ..)).trans (same_retire ..)) ?_ _ _ rfl (fun _=>rfl)
  unfold ZA
  simp only[]
  split<;>rfl
theorem pso_post {p:Pst}(C:Core c L S N h a m)(I:PoI c p):PsO c m i t cl se p (Zj h a m i t cl se p).1 (Zj h a m i t cl se p).2.2.2.1 (Zj h a m i t cl se p).2.2.2.2:=by
 have hok:=C.ok
 have hc:=C.hc
 obtain⟨⟨k,hk,k0,k1⟩,i2,i3,i4⟩:=I
 have e2:=QP hok 2 (Int.le_refl 0)
 have hlt:adr c 2 0<m.mem.words.length:=C.lt (by
  obtain⟨b1,b2,b8,b9,b10,b11,b12,b13,b14,rh,rh2⟩:=Qx hok
  have:=hok.S1
  have:=hok.R1
  omega)
 unfold Zj
 rw[hk,hc]
 simp only[]
 by_cases s0:p.stage=0
 ·rw[if_pos s0]
  have hq:=qt_take C (k0 s0)
  have hs:=same_take a m k
  obtain⟨q1,q2⟩:=hq.mv hok
  split
  ·exact pso_took hs hq hok s0 s0 rfl
  ·exact .on q1 (fun s=>.inl (q2 s)) hs.calls hs.seats rfl (fun _=>Iff.rfl) (fun h=>by cases h)
 rw[if_neg s0]
 by_cases s1:p.stage=1
 ·rw[if_pos s1]
  obtain⟨g1,g2,g3⟩:=k1 (.inl s1)
  have e:Zh k=p.link-1:=by omega
  have hA:=QP hok 11 g1
  obtain⟨b1,b2,b8,b9,b10,b11,b12,b13,b14,rh,rh2⟩:=Qx hok
  have:=hok.S1
  have:=hok.R1
  have hw:=fun j=>word_set (m:=m) (m':=m.store (adr c 11 (Zh k)) (m.word (adr c 11 (Zh k))) (p.value%18446744073709551616)) (A:=adr c 11 (Zh k)) (z:=p.value%18446744073709551616) rfl (C.lt (by omega)) j
  refine .on ?_ (fun s => ?_) rfl rfl rfl (fun _=>by rw[s1];simp) (fun h=>by cases h)
  ·show Mch.word _ _=Mch.word _ _
   rw[hw,if_neg (by omega)]
  ·by_cases es:s=p.link-1
   ·exact .inr ⟨s1,es⟩
   ·left
    simp only[mv]
    split
    ·rename_i hs
     have:=QP hok 11 hs.1
     rw[hw,if_neg (by omega)]
    ·rfl
 rw[if_neg s1]
 by_cases s2:p.stage=2
 ·rw[if_pos s2]
  exact .on rfl (fun s=>.inl rfl) rfl rfl rfl (fun _=>by rw[s2];simp) (fun h=>by cases h)
 rw[if_neg s2]
 by_cases s3:p.stage=3
 ·rw[if_pos s3]
  split
  ·rename_i hw
   exact pso_done hok hlt s3 hw
  ·rename_i hw
   have e:mv c (m.swap (adr c 2 0) (m.word (adr c 2 0)) p.saw p.link)=mv c m:=QW (by simp only[Mch.swap];rw[if_neg hw])
   exact .on (by rw[e]) (fun s=>.inl (by rw[e])) rfl rfl rfl (fun _=>by rw[s3];simp) (fun h=>by cases h)
 rw[if_neg s3]
 have s4:p.stage=4:=by rcases i2 with h|h|h|h|h<;>first|exact absurd h s0|exact absurd h s1|exact absurd h s2|exact absurd h s3|exact h
 obtain⟨r,sc,e1,e2,e3,e4⟩:=i4 s4
 rw[e1]
 simp only[e2]
 obtain⟨q1,q2⟩:=(qt_scan C e3).mv hok
 have hs:=same_scan h a m sc
 exact .on q1 (fun s=>.inl (q2 s)) hs.calls hs.seats rfl (fun _=>Iff.rfl) (fun _=>s4)
end
end
section
def IsP (x:Cll):Prop:=x.op=22∧x.kind≠4∧0≤x.point
def CellAt (cs:List Cll)(p:Int):Option Int→Prop
 | none=>∀x∈cs,IsP x→p≤x.point
 | some v=>∃x∈cs,IsP x∧x.point<p∧wrap64 x.arg=v∧∀z∈cs,IsP z→z.point<p→z.point≤x.point
section
variable {cs:List Cll}{i:Nat}{cl cl':Cll}{p n:Int}{o:Option Int}
theorem CellAt.post (hc:cs[i]? = some cl)(h1:IsP cl')(h2:cl'.point=n)(h:∀x∈cs,IsP x→x.point<n):CellAt (cs.set i cl') (n+1) (some (wrap64 cl'.arg)):=by
 have hlt:=(List.getElem?_eq_some_iff.1 hc).1
 refine⟨cl',Yc (Ye hlt),h1,by omega,rfl,fun z hz hp _ => ?_⟩
 rcases ZZ hz with rfl|⟨j,_,hj⟩
 ·omega
 ·have:=h z (Yc hj) hp;omega
end
section
variable {c:Cfg}{n:Nat}{y y':HW}
theorem pt_lt (R:Q4 c n y){x:Cll}(hx:x∈y.m.calls):x.point<n:=by
 have h1:=(R.cl x hx).p
 omega
end
end
section
structure JOk2 (c:Cfg)(J:Nat→(Int→Prop)→HW→Prop):Prop where
 start:∀km vs,J 0 (fun _=>False) (wst0 c km vs)
 tick:∀n pr y,n<65536→PI c n y→Q4 c n y→(∃F,DI c pr F n y)→J n pr y→J (n+1) pr y.tick
 beg:∀n pr y mv t k v vc,n<65536→PI c n y→Q4 c n y→(∃F,DI c pr F n y)→J n pr y→mv.thread=((t:Nat):Int)→(t:Int)<c.T→mv.op≠0→y.tasks[t]? = some none→20≤mv.op∧mv.op≤25→ZW y.s t mv=some k→J (n+1) pr ⟨y.s,ZD y.m t mv v vc,y.tasks.set t (some k)⟩
 step:∀n pr F y t i cl se k Z Y r1 pr1 F1 r2 pr2 F2,n<65536→PI c n y→Q4 c n y→DI c pr F n y→StepO c n pr F y t i cl se k Z Y r1 pr1 F1 r2 pr2 F2→Q4 c ((n+1:Nat):Int) (Qg y t i r2)→J n pr y→J (n+1) pr2 (Qg y t i r2)
section
variable {c:Cfg}{n:Nat}{y y':HW}
theorem KI.move2 {J:Nat→(Int→Prop)→HW→Prop}(hJ:JOk2 c J){bh ba:Nat}{CX:Zd}{x:Caps}{mv:Mv}{b:Bool}(k:KI c J n y)(hn:n<65536)(hM:Jn (hzT bh ba CX) (kitFn x) ZW y mv b y'):KI c J (n+1) y':=by
 obtain⟨P,R,pr,F,D,j⟩:=k
 have R':=R.move P hn hM
 refine⟨P.move hn hM,R',?_⟩
 rcases move_open P R D hn hM with⟨rfl,D'⟩|⟨t,k,v,vc,h1,h2,h3,h4,h5,h6,rfl,D'⟩|⟨t,i,cl,se,k,Z,Y,r1,pr1,F1,r2,pr2,F2,h1,h2,h3,rfl,D'⟩
 ·exact⟨pr,F,D',hJ.tick n pr y hn P R ⟨F,D⟩ j⟩
 ·exact⟨pr,F,D',hJ.beg n pr y mv t k v vc hn P R ⟨F,D⟩ j h1 h2 h3 h4 (kitFn_op h5) h6⟩
 ·exact⟨pr2,F2,D',hJ.step n pr F y t i cl se k Z Y r1 pr1 F1 r2 pr2 F2 hn P R D h3 R' j⟩
theorem arg_move {J:Nat→(Int→Prop)→HW→Prop}{bh ba:Nat}{CX:Zd}{x:Caps}{mv:Mv}{b:Bool}(k:KI c J n y)(hn:n<65536)(hM:Jn (hzT bh ba CX) (kitFn x) ZW y mv b y'):∀z∈y'.m.calls,(∃u∈y.m.calls,u.arg=z.arg)∨z.arg=mv.arg:=by
 obtain⟨P,R,pr,F,D,j⟩:=k
 intro z hz
 rcases move_open P R D hn hM with⟨rfl,D'⟩|⟨t,k,v,vc,h1,h2,h3,h4,h5,h6,rfl,D'⟩|⟨t,i,cl,se,k,Z,Y,r1,pr1,F1,r2,pr2,F2,h1,h2,SO,rfl,D'⟩
 ·exact .inl ⟨z,hz,rfl⟩
 ·simp only[ZD]at hz
  rcases List.mem_append.1 hz with hz|hz
  ·exact .inl ⟨z,hz,rfl⟩
  ·simp at hz;subst hz;exact .inr rfl
 ·obtain⟨w,g1,g2,g3,g4⟩:=SO.h2.getC SO.hc
  have hc:=Yc SO.hc
  left
  simp only[Qg,ZC]at hz
  split at hz
  ·simp only[g2,g1,Yl]at hz
   rcases ZZ hz with rfl|⟨j,_,hj⟩
   ·exact⟨cl,hc,rfl⟩
   ·exact⟨z,Yc hj,rfl⟩
  ·simp only[g2]at hz
   rcases ZZ hz with rfl|⟨j,_,hj⟩
   ·exact⟨cl,hc,rfl⟩
   ·exact⟨z,Yc hj,rfl⟩
theorem ki_ex2 {J:Nat→(Int→Prop)→HW→Prop}(hok:c.Ok)(hJ:JOk2 c J)(mvs:List Mv)(hl:mvs.length≤65536):∃y,Beh c mvs y∧KI c J mvs.length y∧∀z∈y.m.calls,∃mv∈mvs,z.arg=mv.arg:=by
 have:∀k,k≤mvs.length→∃y,Beh c (mvs.take k) y∧KI c J k y∧∀z∈y.m.calls,∃mv∈mvs,z.arg=mv.arg:=by
  intro k
  induction k with
  | zero=>
   intro _
   refine⟨wst0 c 0 .nilIface,⟨by simpa using PI.start hok 0 .nilIface,by simpa using Q4.start hok 0 .nilIface,?_⟩,⟨PI.start hok 0 .nilIface,Q4.start hok 0 .nilIface,_,_,DI.start hok 0 .nilIface,hJ.start 0 .nilIface⟩,fun z hz => ?_⟩
   ·simp only[List.take_zero];show _=e0 c;simp only[e0,Wst.er,wst0,Mch.er,mch0]
   ·have hz:z∈([]:List Cll):=hz
    simp at hz
  | succ k ih=>
   intro hk
   obtain⟨y,⟨P,R,e⟩,Kx,hA⟩:=ih (by omega)
   have hlk:(mvs.take k).length=k:=by simp;omega
   have hlk1:(mvs.take (k+1)).length=k+1:=by simp;omega
   rw[hlk]at P R
   obtain⟨mv,hmv⟩:∃mv,mvs[k]? = some mv:=⟨_,Yd (by omega)⟩
   obtain⟨b,y',hm⟩:=move_total P 0 0 emp ⟨0,0,0,0,0,0⟩ mv
   refine⟨y',⟨by rw[hlk1];exact P.move (by omega) hm,by rw[hlk1];exact R.move P (by omega) hm,by rw[runE_take hmv,←e];exact(moveE_of hm).1⟩,Kx.move2 hJ (by omega) hm,fun z hz => ?_⟩
   rcases arg_move Kx (by omega) hm z hz with⟨u,h1,h2⟩|h
   ·obtain⟨m,h3,h4⟩:=hA u h1
    exact⟨m,h3,by rw[←h2];exact h4⟩
   ·exact⟨mv,Yc hmv,h⟩
 obtain⟨y,h,k⟩:=this mvs.length (Nat.le_refl _)
 rw[List.take_length]at h
 exact⟨y,h,k⟩
theorem StepO.other {pr:Int→Prop}{F:List Int}{t i:Nat}{cl:Cll}{se:Sea}{k:Zz}{Z Y:Int→Nat}{r1:RT}{pr1:Int→Prop}{F1:List Int}{r2:RT}{pr2:Int→Prop}{F2:List Int}
  (SO:StepO c n pr F y t i cl se k Z Y r1 pr1 F1 r2 pr2 F2) (R:Q4 c n y) {t' i':Nat} {k':Zz} {se':Sea} {cl2:Cll} (hj:t'≠t) (h1:(Qg y t i r2).tasks[t']? = some (some k')) (h2:(Qg y t i r2).m.seats[t']? = some se') (h3:se'.last=(i':Int)) (h4:(Qg y t i r2).m.calls[i']? = some cl2) :
  y.tasks[t']? = some (some k')∧y.m.seats[t']? = some se'∧y.m.calls[i']? = some cl2:=by
 obtain⟨z,g1,g2,g3,g4⟩:=SO.h2.getC SO.hc
 obtain⟨q,v,s1,s2,s3,s4⟩:=SO.h2.getS SO.hse
 simp only[Qg]at h1 h2 h4
 rw[Zx hj]at h1
 have hs2:y.m.seats[t']? = some se':=by
  unfold ZC at h2
  split at h2
  ·simp only[]at h2
   rw[Zx hj,s2,Zx hj]at h2;exact h2
  ·simp only[]at h2
   rw[s2,Zx hj]at h2;exact h2
 obtain⟨i2,cl3,w1,w2,w3,w4,_⟩:=R.busy t' k' se' h1 hs2
 have:i'=i2:=by omega
 subst this
 have hne:i'≠i:=by
  rintro rfl
  rw[SO.hc]at w2;cases w2
  have:=SO.thr;omega
 refine⟨h1,hs2,?_⟩
 unfold ZC at h4
 split at h4
 ·simp only[]at h4
  rw[Zx hne,g2,Zx hne]at h4;exact h4
 ·simp only[]at h4
  rw[g2,Zx hne]at h4;exact h4
theorem StepO.self {pr:Int→Prop}{F:List Int}{t i:Nat}{cl:Cll}{se:Sea}{k:Zz}{Z Y:Int→Nat}{r1:RT}{pr1:Int→Prop}{F1:List Int}{r2:RT}{pr2:Int→Prop}{F2:List Int}
  (SO:StepO c n pr F y t i cl se k Z Y r1 pr1 F1 r2 pr2 F2) {k':Zz} {se':Sea} (h1:(Qg y t i r2).tasks[t]? = some (some k')) (h2:(Qg y t i r2).m.seats[t]? = some se'):se'.last=(i:Int)∧kd k'=kd k:=by
 obtain⟨q,v,s1,s2,s3,s4⟩:=SO.h2.getS SO.hse
 have htk:=(List.getElem?_eq_some_iff.1 SO.hk).1
 simp only[Qg]at h1 h2
 rw[Ye htk]at h1
 by_cases hb:r2.1=true
 ·rw[if_pos hb]at h1;cases h1
 ·rw[if_neg hb]at h1
  cases h1
  unfold ZC at h2
  rw[if_neg hb]at h2
  simp only[]at h2
  rw[s3]at h2
  cases h2
  exact⟨SO.hl,SO.h2.kd⟩
theorem StepO.call {pr:Int→Prop}{F:List Int}{t i:Nat}{cl:Cll}{se:Sea}{k:Zz}{Z Y:Int→Nat}{r1:RT}{pr1:Int→Prop}{F1:List Int}{r2:RT}{pr2:Int→Prop}{F2:List Int}
  (SO:StepO c n pr F y t i cl se k Z Y r1 pr1 F1 r2 pr2 F2):∃(z q v:Int),r2.2.2.1.calls=y.m.calls.set i { cl with point:=z }∧(z=cl.point∨cl.begin_<z∧z≤n)∧r2.2.2.1.seats=y.m.seats.set t { se with ready:=true,kind:=q,value:=v } ∧
   (r2.1=true→(Qg y t i r2).m.calls=y.m.calls.set i { cl with point:=z,end_:=y.m.moves,kind:=q,value:=v })∧(r2.1=false→(Qg y t i r2).m.calls=y.m.calls.set i { cl with point:=z }∧(Qg y t i r2).m.seats=y.m.seats.set t { se with ready:=true,kind:=q,value:=v }) ∧
   mv c (Qg y t i r2).m=mv c r2.2.2.1:=by
 obtain⟨z,g1,g2,g3,g4⟩:=SO.h2.getC SO.hc
 obtain⟨q,v,s1,s2,s3,s4⟩:=SO.h2.getS SO.hse
 refine⟨z,q,v,g2,g4,s2,fun hb => ?_,fun hb => ?_,QW ?_⟩
 ·show(ZC _ _ _ _ _ _ _).calls=_
  unfold ZC
  rw[if_pos hb]
  simp only[g1,s1,g2,Yl]
 ·have:(Qg y t i r2).m={ r2.2.2.1 with cur:=none }:=by
   show ZC _ _ _ _ _ _ _=_
   unfold ZC
   rw[if_neg (by rw[hb];simp)]
  rw[this]
  exact⟨g2,s2⟩
 ·show(ZC _ _ _ _ _ _ _).mem.words=_
  unfold ZC
  split<;>rfl
end
end
section
def sumT (f:Nat→Int):Nat→Int
 | 0=>0
 | n+1=>sumT f n+f n
theorem sumT_le {f g:Nat→Int}:∀ {n:Nat},(∀j,j<n→f j≤g j)→sumT f n≤sumT g n
 | 0,_=>Int.le_refl _
 | n+1,h=>by
  have:=sumT_le (n:=n) fun j hj=>h j (by omega)
  have:=h n (by omega)
  simp only[sumT];omega
theorem sumT_const (z:Int):∀n:Nat,sumT (fun _=>z) n=n*z
 | 0=>by simp[sumT]
 | n+1=>by
  have:=sumT_const z n
  simp only[sumT,this]
  rw[show((n+1:Nat):Int)=(n:Int)+1 by omega,Int.add_mul,Int.one_mul]
theorem sumT_one {f g:Nat→Int}{t:Nat}{d e:Int}(he:0≤e):∀ {n:Nat},t<n→f t≤g t-d→(∀j,j<n→j≠t→f j≤g j+e)→sumT f n≤sumT g n-d+(n-1)*e
 | 0,h,_,_=>by omega
 | n+1,h,h1,h2=>by
  simp only[sumT]
  have e1:(((n+1:Nat):Int)-1)*e=(n:Int)*e:=by congr 1;omega
  rw[e1]
  by_cases ht:t=n
  ·subst ht
   have h3:∀m:Nat,m≤t→sumT f m≤sumT g m+m*e:=by
    intro m
    induction m with
    | zero=>intro _;simp[sumT]
    | succ m ih=>
     intro hm
     have a1:=ih (by omega)
     have a2:=h2 m (by omega) (by omega)
     simp only[sumT]
     rw[show((m+1:Nat):Int)=(m:Int)+1 by omega,Int.add_mul,Int.one_mul]
     omega
   have:=h3 t (Nat.le_refl _)
   omega
  ·have a1:=sumT_one he (n:=n) (by omega) h1 fun j hj hne=>h2 j (by omega) hne
   have a2:=h2 n (by omega) (by omega)
   have a3:((n:Int)-1)*e=n*e-e:=by rw[Int.sub_mul,Int.one_mul]
   omega
section
variable {c:Cfg}
theorem psC_any (p:Psh)(u v:Int):psC u p≤psC v p+3:=by
 unfold psC
 split
 ·omega
 ·split<;>split<;>split<;>omega
theorem tkC_any (p:Tak)(u v:Int):tkC u p≤tkC v p+3:=by
 unfold tkC
 split
 ·omega
 ·split<;>split<;>split<;>omega
theorem scC_any (s:Scn)(u v:Int):scC c u s≤scC c v s+3:=by
 unfold scC
 repeat' split
 all_goals try omega
 unfold giC
 split
 ·rename_i p _
  have:=psC_any p u v;omega
 ·omega
theorem soC_any (o:Option Scn)(u v:Int):soC c u o≤soC c v o+3:=by
 cases o with
 | none=>simp only[soC];omega
 | some s=>exact scC_any s u v
theorem coC_any (k:Zz)(ca u v u' v':Int):coC c u v ca k≤coC c u' v' ca k+3:=by
 cases k with
 | reg r=>simp only[coC];omega
 | clr r=>simp only[coC];omega
 | scn s=>exact scC_any s u u'
 | rdg r=>
  simp only[coC,rdC]
  repeat' split
  all_goals omega
 | unr r=>
  simp only[coC,unC]
  have h1:=soC_any (c:=c) r.scan u u'
  have h2:poC u r.flush≤poC u' r.flush+3:=by
   cases r.flush with
   | none=>simp only[poC];omega
   | some p=>exact psC_any p u u'
  repeat' split
  all_goals omega
 | pst p=>
  simp only[coC,ptC]
  have h1:toC u p.take≤toC u' p.take+3:=by
   cases p.take with
   | none=>simp only[toC];omega
   | some p=>exact tkC_any p u u'
  have h2:roC c u p.retire≤roC c u' p.retire+3:=by
   cases p.retire with
   | none=>simp only[roC];omega
   | some r=>exact soC_any r.scan u u'
  repeat' split
  all_goals omega
theorem Gd.len_le {n:Int}{Z Y:Int→Nat}{F:List Int}{x:Sx}{K L:List Int}(G:Gd c n Z Y F x K L)(hS:0≤c.Sl){l:List Int}(h:∀s,l.count s≤cnt2 x.lists s∨l.count s≤K.count s):(l.length:Int)≤c.Sl:=by
 have:=len_counts c.Sl.toNat l (fun s=>by
  have ht:=G.tot s
  have h2:=h s
  have e:(0≤s∧s<((c.Sl.toNat:Nat):Int))↔(0≤s∧s<c.Sl):=by omega
  by_cases hs:0≤s∧s<c.Sl
  ·rw[ind_pos hs]at ht;rw[if_pos (e.2 hs)];omega
  ·rw[Ja hs]at ht;rw[if_neg (fun h=>hs (e.1 h))];omega)
 omega
theorem Gd.lists_le {n:Int}{Z Y:Int→Nat}{F:List Int}{x:Sx}{K L:List Int}(G:Gd c n Z Y F x K L)(hS:0≤c.Sl)(r:Nat):((x.lists.getD r []).length:Int)≤c.Sl:=by
 refine G.len_le hS (fun s=>.inl ?_)
 rw[Yb]
 cases e:x.lists[r]? with
 | none=>simp
 | some l=>exact cnt2_get s e
theorem Gd.pend_le {n:Int}{Z Y:Int→Nat}{F:List Int}{x:Sx}{k:Zz}{L:List Int}(G:Gd c n Z Y F x (hS k) L)(hS0:0≤c.Sl){s:Scn}(hs:scOf k=some s)(h5:s.stage=5):(s.pending.length:Int)≤c.Sl:=by
 have h1:=giveL_len s.give s.pending
 have h2:((giveL s.give s.pending).length:Int)≤c.Sl:=by
  refine G.len_le hS0 (fun z=>.inr ?_)
  have e:hS k=hO k++giveL s.give s.pending:=by
   unfold Go.Proofs.YtegafhhdegnigaaGreat.hS hP
   rw[hs]
   simp only[scnP,if_pos h5]
  rw[e,List.count_append]
  omega
 omega
theorem sci_of {t:Nat}{hd:Int}{ca:List Int}{k:Zz}{s:Scn}(I:TI c t true hd ca k)(hs:scOf k=some s):ScI c s:=by
 cases k with
 | reg r=>cases hs
 | rdg r=>cases hs
 | clr r=>cases hs
 | scn z=>simp only[scOf,Option.some.injEq]at hs;subst hs;exact I.2.2 rfl
 | unr u=>
  obtain⟨_,_,J⟩:=I
  simp only[scOf]at hs
  split at hs
  ·rename_i h1
   obtain⟨z,e1,e2,_⟩:=J.scan h1
   rw[e1]at hs;cases hs;exact e2
  ·cases hs
 | pst p=>
  obtain⟨_,_,J1,J2⟩:=I
  simp only[scOf]at hs
  split at hs
  ·rename_i h1
   obtain⟨r,z,e1,e2,e3,_⟩:=(J1 rfl).ret h1
   rw[e1]at hs;simp only[e2]at hs;cases hs;exact e3
  ·cases hs
end
end
end Go.Proofs.YtegafhhdegnigaaGreat
