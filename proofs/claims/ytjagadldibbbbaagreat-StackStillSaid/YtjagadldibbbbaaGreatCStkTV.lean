/-
  At the beginning all slots are on the free list.
-/
import Derived.Test.YtjagadldibbbbaaGreatCStkT
import Derived.Test.YtjagadldibbbbaaGreatCStkE
import Derived.Test.YtjagadldibbbbaaGreatCRun
import Derived.Lib.Hide
set_option linter.all false
namespace Go.Proofs.YtjagadldibbbbaaGreat
section
open Go.RowKit Hp
set_option maxRecDepth 100000
set_option maxHeartbeats 1000000
attribute [local irreducible] Go.Calls
theorem fill_ge {ws:List Int}{b:Int}(hb:0≤b):∀(n:Nat) (i:Nat),(∀k:Nat,k<n→(i:Int)≠b+k)→(fillW ws b 0 n).getD i 0=ws.getD i 0
 | 0,i,_=>rfl
 | n+1,i,h=>by
  simp only[fillW,Yb]
  have h1:=h n (by omega)
  rw[ZY (by omega),←Yb,←Yb]
  exact fill_ge hb n i fun k hk=>h k (by omega)
theorem fill_lt {ws:List Int}{b:Int}(hb:0≤b):∀(n:Nat) (k:Nat),k<n→(b+k).toNat<ws.length→(fillW ws b 0 n).getD (b+k).toNat 0=(k:Int)+2
 | 0,k,h,_=>by omega
 | n+1,k,h,hl=>by
  simp only[fillW,Yb]
  by_cases e:k=n
  ·subst e
   rw[show 0+k=k by omega,Ye (by rw[fillW_len];exact hl)]
   simp
  ·rw[ZY (by omega),←Yb]
   exact fill_lt hb n k (by omega) hl
def seqF (k:Int):Nat→List Int
 | 0=>[]
 | n+1=>k::seqF (k+1) n
theorem seqF_count (s:Int):∀(n:Nat) (k:Int),(seqF k n).count s=ind (k≤s∧s<k+n)
 | 0,k=>by rw[ind_neg (by omega)];rfl
 | n+1,k=>by
  simp only[seqF,List.count_cons,seqF_count s n (k+1)]
  by_cases e:k=s
  ·subst e
   rw[ind_neg (by omega),ind_pos (by omega)];simp
  ·have:(k==s)=false:=by simpa using e
   rw[this]
   by_cases h:k+1≤s∧s<k+1+n
   ·rw[ind_pos h,ind_pos (by omega)];rfl
   ·rw[ind_neg h,ind_neg (by omega)];rfl
theorem seqF_mem {s:Int}:∀ {n:Nat} {k:Int},s∈seqF k n→k≤s∧s<k+n
 | 0,k,h=>by simp[seqF]at h
 | n+1,k,h=>by
  rcases List.mem_cons.1 h with rfl|h
  ·omega
  ·have:=seqF_mem h;omega
theorem seqF_chain {nx:Int→Int}{E:Int}(h1:∀s,0≤s→s+1<E→nx s=s+2)(h2:nx (E-1)=0):∀(n:Nat) (k:Int),0≤k→k+n=E→0<n→Chain nx (k+1) (seqF k n)
 | 0,k,_,_,h=>by omega
 | n+1,k,k0,he,_=>by
  refine⟨rfl,k0,?_⟩
  cases n with
  | zero=>
   have:k=E-1:=by omega
   show Chain nx (nx k) []
   rw[this,h2];rfl
  | succ n=>
   rw[h1 k k0 (by omega),show k+2=(k+1)+1 by omega]
   exact seqF_chain h1 h2 (n+1) (k+1) (by omega) (by omega) (by omega)
theorem mv0 {c:Cfg}(hok:c.Ok){m:Mch}(hw:m.mem.words=firstW c 0) :
  (mv c m).hd=1∧(mv c m).cell=0∧(mv c m).top=0∧(∀s,0≤s→s+1<c.Sl→(mv c m).nx s=s+2)∧(mv c m).nx (c.Sl-1)=0∧(∀r,(mv c m).act r=0)∧∀j,(mv c m).hz j=0:=by
 have hS:=hok.S1
 have hR:=hok.R1
 obtain⟨b1,b2,b8,b9,b10,b11,b12,b13,b14,rh,rh2,b3⟩:=Qp hok
 obtain⟨a1,a2,a3,a8,a9,a10,a11,a13⟩:=adrs hok
 have hl:0<(base c 14).toNat:=by omega
 have hwd:∀i:Nat,m.word i=(fillW ((List.replicate (base c 14).toNat (0:Int)).set 0 1) (base c 10) 0 (c.Sl.toNat-1)).getD i 0:=by
  intro i
  unfold Mch.word
  rw[hw]
  simp only[firstW]
  rw[if_neg (by omega),if_pos (by show((0:Nat):Int)<c.Sl;omega)]
  rfl
 have hz:∀i:Nat,i≠0→((List.replicate (base c 14).toNat (0:Int)).set 0 1).getD i 0=0:=by
  intro i hi
  rw[Yb,ZY hi,List.getElem?_replicate]
  split<;>rfl
 have h0:∀i:Nat,i≠0→((i:Int)<base c 10∨base c 10+c.Sl≤i+1)→m.word i=0:=by
  intro i hi hi2
  rw[hwd i,fill_ge (by omega) _ _ (fun k hk=>by omega)]
  exact hz i hi
 refine⟨?_,?_,?_,?_,?_,?_,?_⟩
 ·show m.word (adr c 1 0)=1
  have:adr c 1 0=0:=by omega
  rw[this,hwd 0,fill_ge (by omega) _ _ (fun k hk=>by omega)]
  rw[Yb,Ye (by simp;omega)];rfl
 ·show m.word (adr c 2 0)=0
  exact h0 _ (by omega) (.inl (by omega))
 ·show m.word (adr c 3 0)=0
  exact h0 _ (by omega) (.inl (by omega))
 ·intro s s0 s1
  rw[nx_at s0 (by omega)]
  have e:adr c 10 s=(base c 10+(s.toNat:Int)).toNat:=by unfold adr;congr 1;omega
  rw[hwd,e,fill_lt (by omega) _ _ (by omega) (by simp;omega)]
  omega
 ·rw[nx_at (by omega) (by omega)]
  have:=a10 (c.Sl-1) (by omega)
  exact h0 _ (by omega) (.inr (by omega))
 ·intro r
  show(if 0≤r∧r<c.R then m.word (adr c 8 r) else 0)=0
  split
  ·rename_i h
   have:=a8 r h.1
   exact h0 _ (by omega) (.inl (by omega))
  ·rfl
 ·intro r
  show(if 0≤r∧r<c.R*c.Hz then m.word (adr c 9 r) else 0)=0
  split
  ·rename_i h
   have:=a9 r h.1
   exact h0 _ (by omega) (.inl (by omega))
  ·rfl
theorem kcnt2_none (f:Option Zt→List Int)(f0:f none=[])(n:Nat)(s:Int):cnt2 ((List.replicate n (none:Option Zt)).map f) s=0:=by
 rw[List.map_replicate,f0];exact cnt2_nils s n
theorem DK.start {c:Cfg}(hok:c.Ok)(km:Nat)(vs:Value):DK c [] (fun _=>False) (seqF 0 c.Sl.toNat) (0:Nat) (gst0 Zt c km vs):=by
 have hS:=hok.S1
 obtain⟨w1,w2,w2',w3,w4,w5,w6⟩:=mv0 hok (m:=(gst0 Zt c km vs).m) rfl
 have hsl:∀s,0≤s→s<c.Sl→(are0 c).sl s=⟨0,-1⟩:=by
  intro s s0 s1
  unfold Are.sl are0
  rw[if_pos s0]
  simp only[Yb,List.getElem?_replicate]
  rw[if_pos (by omega)];rfl
 have hTS:∀s,cnt2 ((gst0 Zt c km vs).tasks.map kSo) s=0:=fun s=>kcnt2_none kSo rfl _ s
 have hTL:∀s,cnt2 ((gst0 Zt c km vs).tasks.map kLo) s=0:=fun s=>kcnt2_none kLo rfl _ s
 have hno:∀(t:Nat) (k:Zt),(gst0 Zt c km vs).tasks[t]? = some (some k)→False:=by
  intro t k hk
  simp only[gst0,List.getElem?_replicate]at hk
  split at hk<;>simp at hk
 refine⟨⟨?_,?_,?_,?_,?_,?_,?_,?_,?_,?_,?_,fun j hf=>hf.elim,?_,fun s hs=>by simp[sx]at hs,w2'⟩,fun t k hk=>(hno t k hk).elim,fun t k se hk=>(hno t k hk).elim⟩
 ·intro s
  rw[hTS,seqF_count]
  show _+cnt2 (List.replicate c.T.toNat []) s+0+0+ind (0≤s∧(mv c (gst0 Zt c km vs).m).cell=s+1)+cnt2 (List.replicate c.R.toNat []) s+0=_
  rw[cnt2_nils,cnt2_nils,w2,ind_neg (p:=0≤s∧(0:Int)=s+1) (by omega)]
  by_cases h:0≤s∧s<c.Sl
  ·rw[ind_pos h,ind_pos (p:=0≤s∧s<0+(c.Sl.toNat:Int)) (by omega)]
  ·rw[ind_neg h,ind_neg (p:=0≤s∧s<0+(c.Sl.toNat:Int)) (by omega)]
 ·intro s hs
  have:=seqF_mem hs
  show((are0 c).sl s).state=0
  rw[hsl s (by omega) (by omega)]
 ·intro t y hy s hs
  have:y=[]:=(List.mem_replicate.1 (Yc hy)).2
  subst this;simp at hs
 ·intro s s0 h
  have h:(mv c (gst0 Zt c km vs).m).cell=s+1:=h
  omega
 ·intro l hl s hs
  have:l=[]:=(List.mem_replicate.1 hl).2
  subst this;simp at hs
 ·intro s hs
  rw[hTS]at hs;omega
 ·show Chain (mv c (gst0 Zt c km vs).m).nx ((mv c (gst0 Zt c km vs).m).hd%4294967296) _
  rw[w1]
  exact seqF_chain w3 w4 c.Sl.toNat 0 (by omega) (by omega) (by omega)
 ·show 0≤(mv c (gst0 Zt c km vs).m).hd;omega
 ·show(mv c (gst0 Zt c km vs).m).hd / 4294967296≤_;omega
 ·intro r r0 r1
  rw[hTL]
  show(((List.replicate c.T.toNat (-1:Int)).count r+0+0:Nat):Int)=(mv c (gst0 Zt c km vs).m).act r
  rw[w5]
  have:(List.replicate c.T.toNat (-1:Int)).count r=0:=List.count_eq_zero.2 (fun h=>by have:=(List.mem_replicate.1 h).2;omega)
  omega
 ·intro r r0 r1
  exact .inl (w5 r)
 ·intro j j0 j1 h
  have h:1≤(mv c (gst0 Zt c km vs).m).hz j:=h
  rw[w6]at h;omega
end
section
open Go.RowKit Hp
set_option maxRecDepth 100000
set_option maxHeartbeats 1000000
attribute [local irreducible] Go.Calls
def StA (c:Cfg)(sh:List Shf)(e:Acc):Prop:=e.kind≠1→∀s,0≤s→s<c.Sl→e.addr=base c 11+s∨e.addr=base c 13+s →
 stF (sh.filter (fun d=>decide (d.move<e.move))) (fun _=>0) s=2∨∃d∈sh,d.move=e.move∧d.slot=s∧d.to=2
structure StJ (c:Cfg)(n:Int)(lg:List Acc)(sh:List Shf)(a:Are):Prop where
 lsort:lg.Pairwise (fun x z=>x.move≤z.move)
 llt:∀e∈lg,e.move<n
 ssort:sh.Pairwise (fun x z=>x.move≤z.move)
 slt:∀d∈sh,d.move<n
 srng:∀d∈sh,0≤d.slot∧d.slot<c.Sl
 stt:∀s,stF sh (fun _=>0) s=(a.sl s).state
 main:∀e∈lg,StA c sh e
section
variable {c:Cfg}{n:Int}{a a1 a2:Are}{m0 m1 m2:Mch}
theorem StJ.mono {lg:List Acc}{sh:List Shf}(J:StJ c n lg sh a){n':Int}(h:n≤n'):StJ c n' lg sh a:=
 ⟨J.lsort,fun e he=>by have:=J.llt e he;omega,J.ssort,fun e he=>by have:=J.slt e he;omega,J.srng,J.stt,J.main⟩
theorem pairwise_new {α:Type}{f:α→Int}{l es:List α}(h:l.Pairwise (fun x z=>f x≤f z))(h1:∀x∈l,f x<n)(h2:∀x∈es,f x=n):(l++es).Pairwise (fun x z=>f x≤f z):=by
 refine List.pairwise_append.2 ⟨h,?_,fun x hx z hz=>by rw[h2 z hz];have:=h1 x hx;omega⟩
 refine List.pairwise_iff_getElem.2 fun i j hi hj _ => ?_
 rw[h2 _ (List.getElem_mem hi),h2 _ (List.getElem_mem hj)]
 exact Int.le_refl _
theorem filter_none {α:Type}{p:α→Bool}{l es:List α}(h:∀x∈es,p x=false):(l++es).filter p=l.filter p:=by
 have hb:es.filter p=[]:=List.filter_eq_nil_iff.2 (fun z hz=>by rw[h z hz];simp)
 rw[List.filter_append,hb,List.append_nil]
theorem StJ.move (J:StJ c n m0.mem.log m0.shifts a)(hm:m0.mem.move=n)(hn:m0.now=n)(A:Wd c (Wq c a) a m0 a1 m1)(B:Wd c (Wq c a1) a1 m1 a2 m2):StJ c (n+1) m2.mem.log m2.shifts a2:=by
 obtain⟨⟨es,l1,l2⟩,⟨ds,s1,s2,s3⟩,p1,p2⟩:=A
 obtain⟨⟨fs,k1,k2⟩,⟨gs,t1,t2,t3⟩,q1,q2⟩:=B
 have hl:m2.mem.log=m0.mem.log++(es++fs):=by rw[k1,l1,List.append_assoc]
 have hs:m2.shifts=m0.shifts++(ds++gs):=by rw[t1,s1,List.append_assoc]
 have he:∀e∈es++fs,e.move=n:=by
  intro e he
  rcases List.mem_append.1 he with he|he
  ·exact(l2 e he).1.trans hm
  ·exact(k2 e he).1.trans (p1.trans hm)
 have hd:∀d∈ds++gs,d.move=n∧0≤d.slot∧d.slot<c.Sl:=by
  intro d hd
  rcases List.mem_append.1 hd with hd|hd
  ·exact⟨(s2 d hd).1.trans hn,(s2 d hd).2⟩
  ·exact⟨(t2 d hd).1.trans (p2.trans hn),(t2 d hd).2⟩
 have ha1:(fun s=>(a1.sl s).state)=stF ds (fun s=>(a.sl s).state):=funext s3
 have ha:stF m0.shifts (fun _=>0)=(fun s=>(a.sl s).state):=funext J.stt
 rw[hl,hs]
 refine⟨pairwise_new J.lsort J.llt he,?_,pairwise_new J.ssort J.slt (fun d h=>(hd d h).1),?_,?_,?_,?_⟩
 ·intro e h
  rcases List.mem_append.1 h with h|h
  ·have:=J.llt e h;omega
  ·rw[he e h];omega
 ·intro e h
  rcases List.mem_append.1 h with h|h
  ·have:=J.slt e h;omega
  ·rw[(hd e h).1];omega
 ·intro e h
  rcases List.mem_append.1 h with h|h
  ·exact J.srng e h
  ·exact(hd e h).2
 ·intro s
  rw[stF_app,stF_app,ha,t3 s,ha1]
 ·intro e h hk s h0 h1 hA
  rcases List.mem_append.1 h with h|h
  ·rcases J.main e h hk s h0 h1 hA with q|⟨d,q1,q2⟩
   ·left
    rw[filter_none fun d hd'=>by have:=(hd d hd').1;have:=J.llt e h;rw[decide_eq_false_iff_not];omega]
    exact q
   ·exact .inr ⟨d,List.mem_append_left _ q1,q2⟩
  ·have hen:=he e h
   have key:(a.sl s).state=2∨∃d∈ds++gs,d.slot=s∧d.to=2:=by
    rcases List.mem_append.1 h with h|h
    ·exact .inl ((l2 e h).2 hk s h0 h1 hA)
    ·have:=(k2 e h).2 hk s h0 h1 hA
     rw[s3 s]at this
     rcases stF_two this with q|⟨d,q1,q2⟩
     ·exact .inl q
     ·exact .inr ⟨d,List.mem_append_left _ q1,q2⟩
   rcases key with q|⟨d,q1,q2,q3⟩
   ·left
    rw[hen,filter_none fun d hd'=>by have:=(hd d hd').1;rw[decide_eq_false_iff_not];omega]
    rw[List.filter_eq_self.2 fun d hd'=>by have:=J.slt d hd';rw[decide_eq_true_eq];exact this]
    rw[J.stt s];exact q
   ·exact .inr ⟨d,List.mem_append_right _ q1,by rw[hen];exact(hd d q1).1,q2,q3⟩
end
structure TtJ (c:Cfg)(n:Nat)(y:GW Zt):Prop where
 own:∃(stk:List Int) (pr:Int→Prop) (F:List Int),DK c stk pr F n y
 rm:RmJ c n y
 st:StJ c n y.m.mem.log y.m.shifts y.s.2
theorem st_start {c:Cfg}(hok:c.Ok)(km:Nat)(vs:Value):TtJ c 0 (gst0 Zt c km vs):=by
 refine⟨⟨_,_,_,DK.start hok km vs⟩,rm_start c km vs,⟨by simp[gst0,mch0],fun e he=>by simp[gst0,mch0]at he,by simp[gst0,mch0],fun e he=>by simp[gst0,mch0]at he,fun e he=>by simp[gst0,mch0]at he,fun s => ?_,fun e he=>by simp[gst0,mch0]at he⟩⟩
 show(0:Int)=((are0 c).sl s).state
 unfold Are.sl are0
 split
 ·simp only[Yb,List.getElem?_replicate]
  split<;>rfl
 ·rfl
theorem st_ok (c:Cfg)(bh ba:Nat)(CX:Zb):JG (skT bh ba CX) sTask (SI c) c sOps (TtJ c):=by
 refine⟨?_,?_,?_⟩
 ·rintro n y hn P ⟨⟨stk,pr,F,D⟩,R,S⟩
  exact⟨⟨stk,pr,F,D.tick⟩,(rm_ok c bh ba CX).tick n y hn P R,S.mono (by omega)⟩
 ·rintro n y mv t k v vc hn P ⟨⟨stk,pr,F,D⟩,R,S⟩ ht htT hop hk hm
  exact⟨⟨stk,pr,F,D.begin P htT hk hm⟩,(rm_ok c bh ba CX).beg n y mv t k v vc hn P R ht htT hop hk hm,S.mono (by omega)⟩
 ·rintro n y t i cl se k r1 r2 hn P G P' ⟨⟨stk,pr,F,D⟩,R,S⟩
  have R':=(rm_ok c bh ba CX).step n y t i cl se k r1 r2 hn P G P' R
  obtain⟨Z,Y,F0,pr1,F1,pr2,F2,hZ,g0,d0,g1,d1,rl1,rl2,D'⟩:=(D.step hn P G).ex
  refine⟨⟨_,_,_,D'⟩,R',?_⟩
  obtain⟨z,q,v,O⟩:=G.out P
  obtain⟨i0,cl0,a1,a2,a3,a4,hb,hp⟩:=R.run.busy t k se G.hk G.hse
  have hi0:i0=i:=by have:=G.hl;omega
  subst hi0
  have hcl:cl0=cl:=by have:=G.hc;rw[a2]at this;cases this;rfl
  subst hcl
  have hlt:=(List.getElem?_eq_some_iff.1 G.hse).1
  have hci:ZP (Qm y t i0 se) i0 t cl0 { se with ready:=true }:=⟨rfl,G.hc,by simp[Qm,Mch.prep,Wst.tick,hlt]⟩
  have hmv:y.m.moves=(n:Int):=P.moves
  have hnow0:(Qm y t i0 se).now=(n:Int):=hmv
  have W1:Wd c (Wq c y.s.2) y.s.2 (Qm y t i0 se) r1.2.1.2 r1.2.2.1∧hzP cl0.begin_ n r1.2.2.2:=by
   rcases G.rdy with⟨hf,e⟩|⟨_,e⟩
   ·have hI:=G.i0
    rw[hf]at hI
    obtain⟨_,_,N3⟩:=rm_rdy (i:=i0) (cl:=cl0) (se:={ se with ready:=true }) G.c0 G.htT hI hci (by rw[hnow0];exact hb) (by rw[hnow0];exact hp)
    rw[hnow0]at N3
    rw[e]
    exact⟨sk_wd_rdy G.c0 G.htT hI hci (by rw[hnow0];exact hb),N3⟩
   ·rw[e]
    exact⟨wd_mem rfl rfl rfl,hp⟩
  obtain⟨W1,hp1⟩:=W1
  have hnow1:r1.2.2.1.now=(n:Int):=by rw[G.h1.frame.now];exact hmv
  have W2:Wd c (Wq c r1.2.1.2) r1.2.1.2 r1.2.2.1 r2.2.1.2 r2.2.2.1:=by
   rcases G.stp with⟨hb1,e⟩|⟨hb1,z1,q1,v1,hcu,e⟩
   ·rw[e]
    exact wd_mem rfl rfl rfl
   ·have hI:=G.h1.fin hb1
    have X:=sk_wd (i:=i0) (cl:={ cl0 with point:=z1 }) (se:={ se with ready:=true,kind:=q1,value:=v1 }) G.h1.core G.htT hI (d1 hb1) hcu (by rw[hnow1];exact hb) (by rw[hnow1];exact hp1) G.used1
    have e':r2=QN (r1.2.1.1,r1.2.1.2) r1.2.2.1 i0 t { cl0 with point:=z1 } { se with ready:=true,kind:=q1,value:=v1 } r1.2.2.2:=e
    rw[←e']at X
    exact X
  have S':=StJ.move (m0:=Qm y t i0 se) S hmv hnow0 W1 W2
  rw[O.mem,O.shifts]
  exact S'.mono (by omega)
end
section
open Go.RowKit
namespace Hp
theorem wl_pass {P:Program}{ops:Array Oper}{Q:Exit→Act→World→Prop}{w:World}{rest:List Oper}{l:List Value}{ds:List Deferred}{d:Nat}{op:Op}{ty:TypeId}{pos:String}{after:Array Edge}{g:Nat×Bool}
  (hw:Region.wanted { dst:=some d,op:=op,type:=ty,pos,after,guard:=some g } (yielded ops l.toArray)=false) (kk:wpList P ops Q rest ⟨(l.set d undef).toArray,ds⟩ w) :
  wpList P ops Q ({ dst:=some d,op:=op,type:=ty,pos,after,guard:=some g }::rest) ⟨l.toArray,ds⟩ w:=by
 refine wpList_skip hw ?_
 have e:(Act.put ⟨l.toArray,ds⟩ (some d) undef:Act)=⟨(l.set d undef).toArray,ds⟩:=ZQ
 show wpList P ops Q rest (Act.put ⟨l.toArray,ds⟩ (some d) undef) w
 rw[e];exact kk
theorem QU {P:Program}{ops:Array Oper}{Q:Exit→Act→World→Prop}{w:World}{rest:List Oper}{l:List Value}{ds:List Deferred}{d:Nat}{op:Op}{ty:TypeId}{pos:String}{after:Array Edge}{i:Nat}{b z:Bool}{o:Oper}{e:Nat}
  (ho:ops[i]? = some o) (hd:o.dst=some e) (hv:l[e]? = some (.bool z)) (hb:(z==b)=false) (kk:wpList P ops Q rest ⟨(l.set d undef).toArray,ds⟩ w) :
  wpList P ops Q ({ dst:=some d,op:=op,type:=ty,pos,after,guard:=some (i,b) }::rest) ⟨l.toArray,ds⟩ w:=by
 refine wl_pass ?_ kk
 have hv':l.toArray[e]? = some (.bool z):=by simpa using hv
 simp only[Region.wanted,yielded,ho,Option.bind_some,hd,hv']
 cases z<;>cases b<;>first|rfl|cases hb
theorem wl_pick {P:Program}{ops:Array Oper}{Q:Exit→Act→World→Prop}{w:World}{rest:List Oper}{l:List Value}{ds:List Deferred}{d:Nat}{c x y:Operand}{ty:TypeId}{pos:String}{after:Array Edge}{gd:Option (Nat×Bool)}{z:Bool}{v:Value}
  (hc:ev l c=some (.bool z)) (hv:ev l (cond z x y)=some v)
  (hg:Region.wanted { dst:=some d,op:=.pick c x y,type:=ty,pos,after,guard:=gd } (yielded ops l.toArray)=true)
  (kk:wpList P ops Q rest ⟨(l.set d v).toArray,ds⟩ w) :
  wpList P ops Q ({ dst:=some d,op:=.pick c x y,type:=ty,pos,after,guard:=gd }::rest) ⟨l.toArray,ds⟩ w:=by
 refine Qv (v:=v) (w':=w) hg ?_ (ZQ▸kk)
 have h1:=Zl (ds:=ds) hc
 have h2:=Zl (ds:=ds) hv
 cases z<;>simp[execOp,h1,asBool]<;>simpa using h2
theorem Q2 {d:Option Nat}{op:Op}{ty:TypeId}{pos:String}{after:Array Edge}{f:Nat→Option Bool}:Region.wanted { dst:=d,op:=op,type:=ty,pos,after,guard:=none } f=true:=rfl
end Hp
end
section
open Go.RowKit
namespace Hp
section
variable {P:Program}{ops:Array Oper}{Q:Exit→Act→World→Prop}{w:World}{rest:List Oper}{l:List Value}{ds:List Deferred}{T T' ty:TypeId}{pos:String}{after:Array Edge}{gd:Option (Nat×Bool)}{d:Nat}{x y:Operand}{K:IntKind}{a b:Int}{r:Bool}
end
end Hp
end
section
open Go.RowKit Hp
set_option maxRecDepth 100000
set_option maxHeartbeats 4000000
attribute [local irreducible] Go.Calls Go.wpList
def stL (sh:List Shf)(S0 k:Nat):List Int:=(List.range S0).map fun(s:Nat)=>stF (sh.take k) (fun _=>0) (s:Int)
theorem stL_get {sh:List Shf}{S0 k s:Nat}(h:s<S0):(stL sh S0 k)[s]? = some (stF (sh.take k) (fun _=>0) (s:Int)):=by
 simp[stL,h]
theorem stL_len (sh:List Shf)(S0 k:Nat):(stL sh S0 k).length=S0:=by simp[stL]
theorem stL_next {sh:List Shf}{S0 k s:Nat}{d:Shf}(h:sh[k]? = some d)(hs:d.slot=(s:Int)):stL sh S0 (k+1)=(stL sh S0 k).set s d.to:=by
 unfold stL
 apply List.ext_getElem?
 intro j
 by_cases hj:j<S0
 ·rw[Ym,List.getElem?_range hj,List.getElem?_set]
  simp only[Option.map_some]
  rw[List.take_add_one,h,stF_app]
  show some (if (j:Int)=d.slot then d.to else _)=_
  rw[hs]
  by_cases e1:s=j
  ·subst e1
   simp[hj]
  ·rw[if_neg (by omega),if_neg e1,Ym,List.getElem?_range hj]
   rfl
 ·rw[List.getElem?_eq_none (by simp;omega),List.getElem?_eq_none (by simp;omega)]
theorem take_filter {sh:List Shf}{k:Nat}{v:Int}(hs:sh.Pairwise (fun x z=>x.move≤z.move))(h1:∀d∈sh.take k,d.move<v)(h2:∀d,sh[k]? = some d→¬d.move<v):sh.filter (fun d=>decide (d.move<v))=sh.take k:=by
 have hc:sh=sh.take k++sh.drop k:=(List.take_append_drop k sh).symm
 have hd:∀d∈sh.drop k,¬d.move<v:=by
  intro d hd
  obtain⟨i,hi⟩:=List.getElem?_of_mem hd
  rw[List.getElem?_drop]at hi
  obtain⟨hl,rfl⟩:=List.getElem?_eq_some_iff.1 hi
  have hk:k<sh.length:=by omega
  have:=h2 sh[k] (Yd hk)
  by_cases e:i=0
  ·subst e;exact this
  ·have:=List.pairwise_iff_getElem.1 hs k (k+i) hk hl (by omega)
   omega
 rw[congrArg (List.filter _) hc,List.filter_append,List.filter_eq_self.2 (fun d h=>by rw[decide_eq_true_eq];exact h1 d h),List.filter_eq_nil_iff.2 (fun d h=>by rw[decide_eq_true_eq];exact hd d h),List.append_nil]
structure Tkn (sh:List Shf)(k:Nat)(mv s:Int)(i:Nat):Prop where
 le:k≤i
 all:∀j,k≤j→j≤i→∃d,sh[j]? = some d∧d.move=mv
 at_:∃d,sh[i]? = some d∧d.slot=s∧d.to=2
theorem tkn_of {sh:List Shf}{k:Nat}{v s:Int}(hs:sh.Pairwise (fun x z=>x.move≤z.move))(h1:∀d∈sh.take k,d.move<v)(h2:∀d,sh[k]? = some d→¬d.move<v)(h:∃d∈sh,d.move=v∧d.slot=s∧d.to=2):∃i,Tkn sh k v s i:=by
 obtain⟨d,hd,d1,d2,d3⟩:=h
 obtain⟨i,hi⟩:=List.getElem?_of_mem hd
 obtain⟨hl,hi'⟩:=List.getElem?_eq_some_iff.1 hi
 have hki:k≤i:=by
  by_cases e:k≤i
  ·exact e
  ·have hm:d∈sh.take k:=Yc (i:=i) (by rw[List.getElem?_take,if_pos (by omega)];exact hi)
   have:=h1 d hm
   omega
 refine⟨i,hki,fun j j1 j2 => ?_,d,hi,d2,d3⟩
 have hjl:j<sh.length:=by omega
 refine⟨sh[j],Yd hjl,?_⟩
 have a1:sh[j].move≤v:=by
  by_cases e:j=i
  ·subst e;rw[hi'];omega
  ·have:=List.pairwise_iff_getElem.1 hs j i hjl hl (by omega)
   rw[hi']at this;omega
 have a2:¬sh[j].move<v:=by
  have h0:=h2 sh[k] (Yd (by omega))
  by_cases e:j=k
  ·subst e;exact h0
  ·have:=List.pairwise_iff_getElem.1 hs k j (by omega) hjl (by omega)
   omega
 omega
theorem st_case {V LK:Int}{S0:Nat}(h1:V+S0≤LK)(x:Int) :
  (decide (x≥V)=false∧decide (x≥LK)=false) ∨
  (decide (x≥V)=true∧decide (x<V+S0)=false∧decide (x≥LK)=false) ∨
  (decide (x≥V)=true∧decide (x<V+S0)=false∧decide (x≥LK)=true∧decide (x<LK+S0)=false) ∨
  (∃s:Nat,s<S0∧x=V+s∧decide (x≥V)=true∧decide (x<V+S0)=true∧decide (x≥LK)=false) ∨
  (∃s:Nat,s<S0∧x=LK+s∧decide (x≥V)=true∧decide (x<V+S0)=false∧decide (x≥LK)=true∧decide (x<LK+S0)=true):=by
 simp only[decide_eq_false_iff_not,decide_eq_true_eq]
 by_cases a1:x≥V
 ·by_cases a2:x<V+S0
  ·exact .inr (.inr (.inr (.inl ⟨(x-V).toNat,by omega,by omega,a1,a2,by omega⟩)))
  ·by_cases a3:x≥LK
   ·by_cases a4:x<LK+S0
    ·exact .inr (.inr (.inr (.inr ⟨(x-LK).toNat,by omega,by omega,a1,a2,a3,a4⟩)))
    ·exact .inr (.inr (.inl ⟨a1,a2,a3,a4⟩))
   ·exact .inr (.inl ⟨a1,a2,a3⟩)
 ·exact .inl ⟨a1,by omega⟩
theorem law_taken (sh:List Shf)(u:Value)(hl:sh.length<4294967296)(k i:Nat)(mv s:Int)(T:Tkn sh k mv s i) :
  Zk Tryz.prog 14 #[u,.int .i64 (k:Int),.int .i64 mv,.int .i64 s] (sl 52 5 (sh.map Shf.e) u) (.bool true) (sl 52 5 (sh.map Shf.e) u):=by
 intro O w F hs
 obtain⟨a1,c1,rfl⟩:=Qi hs
 simp only[List.length_map]at hs ⊢
 obtain⟨t1,t2,t3⟩:=T
 replace t2:=Lh t2
 replace t3:=Lh t3
 go_enter Tryz.func14,Tryz.ntmps14
 (repeat'(go_step))
 go_loopw [9] (fun q wr=>∃j:Nat,k≤j∧j≤i∧q=.int .i64 (j:Int)∧Sat O wr (sl 52 5 (sh.map Shf.e) (.slice a1 sh.length c1)*F)) (fun q _=>i+1-(intOf q).toNat)
 case atStart=>exact⟨k,by omega,by omega,rfl,by ((with_reducible apply Sat.fin hs);(with_reducible exact Ql))⟩
 case round=>
  obtain⟨j,j1,j2,rfl,hs⟩:=hrel
  obtain⟨d,hd,hm⟩:=t2.out j j1 j2
  have hjl:=(List.getElem?_eq_some_iff.1 hd).1
  have hlt:decide ((j:Int)<(sh.length:Int))=true:=by simp;omega
  have hlt2:decide (j<sh.length)=true:=by simp;omega
  have hjn:j<(sh.map Shf.e).length:=by simpa using hjl
  have hcase:((d.slot==s)=false∧j≠i)∨(d.slot=s∧(d.to==2)=false∧j≠i)∨(d.slot=s∧d.to=2):=by
   by_cases e1:d.slot=s
   ·by_cases e2:d.to=2
    ·exact .inr (.inr ⟨e1,e2⟩)
    ·refine .inr (.inl ⟨e1,by simpa using e2,?_⟩)
     rintro rfl
     obtain⟨d',h1,h2,h3⟩:=t3.out
     rw[hd]at h1;cases h1;exact e2 h3
   ·refine .inl ⟨by simpa using e1,?_⟩
    rintro rfl
    obtain⟨d',h1,h2,h3⟩:=t3.out
    rw[hd]at h1;cases h1;exact e1 h2
  obtain⟨x1,x2,x3,x4,x5⟩:=d
  have hgv:(sh.map Shf.e)[j]? = some (Shf.e ⟨x1,x2,x3,x4,x5⟩):=by rw[Ym,hd];rfl
  simp only[]at hm hcase
  subst hm
  have hi32:i<4294967296:=by
   obtain⟨d',h1,h2,h3⟩:=t3.out
   have:=(List.getElem?_eq_some_iff.1 h1).1
   omega
  clear hd hjl
  rcases hcase with⟨n1,hne⟩|⟨rfl,n1,hne⟩|⟨rfl,rfl⟩
  ·(repeat'(first|(((with_reducible apply QU);rfl;rfl;((simp only[ev,Ue,Uf]);rfl);rfl;(simp only[Uc,Uz]));(repeat((with_reducible apply QU);rfl;rfl;((simp only[ev,Ue,Uf]);rfl);rfl;(simp only[Uc,Uz]))))|((with_reducible apply wl_pick);((simp only[ev,Ue,Uf]);rfl);((simp only[cond_true,cond_false,ev,Ue,Uf]);rfl);(with_reducible exact Q2);(simp only[Uc,Uz]))|(go_big_may;(first|((with_reducible apply wl_ldS hs);exact Ii;rfl;assumption;(with_reducible exact Qh);rfl;(assumption);rfl;rfl;(simp only[Uc,Uz]))|((with_reducible apply Zu hs);exact Ii;rfl;assumption;(with_reducible exact Qh);rfl;(assumption);rfl;rfl;(simp only[Uc,Uz]))|((with_reducible apply QZ hs);exact Ii;exact Ii;rfl;assumption;rfl;(with_reducible exact Qh);(rfl);(assumption);rfl;(simp only[Uc,Uz]))|((with_reducible apply ZS hs);exact Ii;exact Ii;rfl;rfl;(with_reducible exact Qh);(rfl);(assumption);rfl;intro b off hat;(simp only[Uc,Uz]))|((with_reducible apply ZC hs);exact Ii;rfl;(with_reducible exact Qh);rfl;(simp only[Uc,Uz]))))|go_guarded|go_step))
   go_roundw
   case rel=>exact⟨j+1,by omega,by omega,by simp,by ((with_reducible apply Sat.fin hs);(with_reducible exact Ql))⟩
   case measure=>simp[intOf];omega
  ·(repeat'(first|((with_reducible apply wl_pick);((simp only[ev,Ue,Uf]);rfl);((simp only[cond_true,cond_false,ev,Ue,Uf]);rfl);(with_reducible exact Q2);(simp only[Uc,Uz]))|(go_big_may;(first|((with_reducible apply wl_ldS hs);exact Ii;rfl;assumption;(with_reducible exact Qh);rfl;(assumption);rfl;rfl;(simp only[Uc,Uz]))|((with_reducible apply Zu hs);exact Ii;rfl;assumption;(with_reducible exact Qh);rfl;(assumption);rfl;rfl;(simp only[Uc,Uz]))|((with_reducible apply QZ hs);exact Ii;exact Ii;rfl;assumption;rfl;(with_reducible exact Qh);(rfl);(assumption);rfl;(simp only[Uc,Uz]))|((with_reducible apply ZS hs);exact Ii;exact Ii;rfl;rfl;(with_reducible exact Qh);(rfl);(assumption);rfl;intro b off hat;(simp only[Uc,Uz]))|((with_reducible apply ZC hs);exact Ii;rfl;(with_reducible exact Qh);rfl;(simp only[Uc,Uz]))))|go_guarded|go_step))
   go_roundw
   case rel=>exact⟨j+1,by omega,by omega,by simp,by ((with_reducible apply Sat.fin hs);(with_reducible exact Ql))⟩
   case measure=>simp[intOf];omega
  ·(repeat'(first|((with_reducible apply wl_pick);((simp only[ev,Ue,Uf]);rfl);((simp only[cond_true,cond_false,ev,Ue,Uf]);rfl);(with_reducible exact Q2);(simp only[Uc,Uz]))|(go_big_may;(first|((with_reducible apply wl_ldS hs);exact Ii;rfl;assumption;(with_reducible exact Qh);rfl;(assumption);rfl;rfl;(simp only[Uc,Uz]))|((with_reducible apply Zu hs);exact Ii;rfl;assumption;(with_reducible exact Qh);rfl;(assumption);rfl;rfl;(simp only[Uc,Uz]))|((with_reducible apply QZ hs);exact Ii;exact Ii;rfl;assumption;rfl;(with_reducible exact Qh);(rfl);(assumption);rfl;(simp only[Uc,Uz]))|((with_reducible apply ZS hs);exact Ii;exact Ii;rfl;rfl;(with_reducible exact Qh);(rfl);(assumption);rfl;intro b off hat;(simp only[Uc,Uz]))|((with_reducible apply ZC hs);exact Ii;rfl;(with_reducible exact Qh);rfl;(simp only[Uc,Uz]))))|go_guarded|go_step))
   (go_ret)
   exact⟨rfl,by ((with_reducible apply Sat.fin hs);(with_reducible exact Ql))⟩
end
end Go.Proofs.YtjagadldibbbbaaGreat
