/-
  What small effects add to the log, and which words they leave.
-/
import Derived.Test.YtefjbdajgakgpaaGreatAEvq
import Derived.Test.YtefjbdajgakgpaaGreatAQueU
import Derived.Test.YtefjbdajgakgpaaGreatANew3
set_option linter.all false
namespace Go.Proofs.YtefjbdajgakgpaaGreat
open Go.RowKit Hp
set_option maxRecDepth 100000
set_option maxHeartbeats 1000000
attribute [local irreducible] Go.Calls
section
structure Nt (Q:Nat→Prop)(m m':Mch):Prop where
 log:∃es,m'.mem.log=m.mem.log++es∧∀e∈es,e.thread=m.thread∧∃j:Nat,e.addr=(j:Int)∧Q j
 word:∀j,¬Q j→m'.word j=m.word j
 thread:m'.thread=m.thread
 len:m'.mem.words.length=m.mem.words.length
section
variable {Q:Nat→Prop}{m m' m'':Mch}
theorem Nt.refl (Q:Nat→Prop)(m:Mch):Nt Q m m:=⟨⟨[],by simp,by simp⟩,fun _ _=>rfl,rfl,rfl⟩
theorem Nt.trans (A:Nt Q m m')(B:Nt Q m' m''):Nt Q m m'':=by
 obtain⟨⟨es,a1,a2⟩,a3,a4,a5⟩:=A
 obtain⟨⟨fs,b1,b2⟩,b3,b4,b5⟩:=B
 refine⟨⟨es++fs,by rw[b1,a1,List.append_assoc],fun e he => ?_⟩,fun j hj=>(b3 j hj).trans (a3 j hj),b4.trans a4,b5.trans a5⟩
 rcases List.mem_append.1 he with h|h
 ·exact a2 e h
 ·rw[←a4];exact b2 e h
theorem Nt.of (h1:m'.mem=m.mem)(h2:m'.thread=m.thread):Nt Q m m' :=
 ⟨⟨[],by rw[h1];simp,by simp⟩,fun _ _=>by unfold Mch.word;rw[h1],h2,by rw[h1]⟩
theorem nt_load (j:Nat)(hQ:Q j)(u:Int):Nt Q m (m.load j u):=
 ⟨⟨[_],rfl,fun e he=>by rw[List.mem_singleton.1 he];exact⟨rfl,j,rfl,hQ⟩⟩,fun _ _=>rfl,rfl,rfl⟩
theorem nt_word_set {m:Mch}{j k:Nat}{z:Int}(h:k≠j):(m.mem.words.set j z).getD k 0=m.word k:=by
 unfold Mch.word
 rw[Yb,Yb,Yf (Ne.symm h)]
theorem nt_store (j:Nat)(hQ:Q j)(u z:Int):Nt Q m (m.store j u z):=
 ⟨⟨[_],rfl,fun e he=>by rw[List.mem_singleton.1 he];exact⟨rfl,j,rfl,hQ⟩⟩,fun k hk=>nt_word_set (fun e=>hk (e▸hQ)),rfl,by simp[Mch.store]⟩
theorem nt_swap (j:Nat)(hQ:Q j)(u o z:Int):Nt Q m (m.swap j u o z):=by
 refine⟨⟨[_],rfl,fun e he=>by rw[List.mem_singleton.1 he];exact⟨rfl,j,rfl,hQ⟩⟩,fun k hk => ?_,rfl,?_⟩
 ·by_cases h:u=o
  ·have e:(m.swap j u o z).word k=(m.mem.words.set j z).getD k 0:=by unfold Mch.word Mch.swap;simp only[if_pos h]
   rw[e]
   exact nt_word_set (fun e=>hk (e▸hQ))
  ·unfold Mch.word Mch.swap
   simp only[if_neg h]
 ·simp only[Mch.swap]
  split<;>simp
theorem evq_nt {i t:Nat}{x y:St3}(E:EvQ Q i t x y):Nt Q x.2.2 y.2.2:=by
 induction E with
 | refl x=>exact Nt.refl ..
 | trans _ _ a b=>exact a.trans b
 | load j _ h=>exact nt_load j h.2 _
 | store j z _ h=>exact nt_store j h.2 _ _
 | swap j o z _ h=>exact nt_swap j h.2 _ _ _
 | shift=>exact Nt.of rfl rfl
 | point=>exact Nt.of rfl rfl
 | answer=>exact Nt.of rfl rfl
 | haz=>exact Nt.refl ..
 | cache=>exact Nt.refl ..
end
end
section
def hzQ (b now:Int):Qe→Prop
 | .hz k=>RdP b now k
 | _=>True
theorem rdp_mono {b n n':Int}{k:Q3}(h:RdP b n k)(hn:n≤n'):RdP b n' k:=by
 cases k with
 | rdg r=>exact fun h3=>⟨(h h3).1,by have:=(h h3).2;omega⟩
 | _=>exact trivial
theorem hzQ_mono {b n n':Int}{k:Qe}(h:hzQ b n k)(hn:n≤n'):hzQ b n' k:=by
 cases k with
 | hz k=>exact rdp_mono h hn
 | _=>exact trivial
theorem rdp_made {s:Haz×Are}{t:Nat}{mv:Mv}{k:Q3}{b n:Int}(h:Z6 s t mv=some k):RdP b n k:=by
 unfold Z6 at h
 repeat' split at h
 all_goals first
  | (cases h;done)
  | (cases h;exact trivial)
  | (cases h;exact fun h3=>by simp at h3)
theorem qTask_made {s:Haz×Are}{t:Nat}{mv:Mv}{k:Qe}(h:qTask s t mv=some k):(mv.op=40∧k=.put ⟨t,mv.arg,⟨t,1,0,0,0,false⟩,0,0,0,0,0⟩)∨(mv.op=41∧k=.get ⟨t,0,0,0,0,false,0,none,0,0,0⟩)∨(mv.op≠40∧mv.op≠41∧∃q,k=.hz q∧Z6 s t mv=some q):=by
 unfold qTask at h
 by_cases h40:mv.op=40
 ·rw[if_pos h40]at h
  split at h
  ·cases h
  ·cases h;exact .inl ⟨h40,rfl⟩
 ·rw[if_neg h40]at h
  by_cases h41:mv.op=41
  ·rw[if_pos h41]at h
   split at h
   ·cases h
   ·cases h;exact .inr (.inl ⟨h41,rfl⟩)
  ·rw[if_neg h41]at h
   cases hq:Z6 s t mv with
   | none=>rw[hq]at h;cases h
   | some q=>rw[hq]at h;cases h;exact .inr (.inr ⟨h40,h41,q,rfl,rfl⟩)
theorem hzQ_made {s:Haz×Are}{t:Nat}{mv:Mv}{k:Qe}{b n:Int}(h:qTask s t mv=some k):hzQ b n k:=by
 rcases qTask_made h with⟨_,e⟩|⟨_,e⟩|⟨_,_,q,e,hq⟩
 ·subst e;trivial
 ·subst e;trivial
 ·subst e;exact rdp_made hq
def qQ (c:Cfg)(j:Nat):Prop:=j≠adr c 4 0∧j≠adr c 5 0
section
variable {c:Cfg}{L S N:Nat}{h:Haz}{a:Are}{m m':Mch}{i t:Nat}{cl:Cll}{se:Sea}
theorem q_qok (hc:c.Ok):QOk c (qQ c):=⟨fun j hj=>by
 have e4:=Jc hc 4 (Int.le_refl 0)
 have e5:=Jc hc 5 (Int.le_refl 0)
 obtain⟨q4,q5⟩:=base45 c
 obtain⟨b1,b2,b8,b9,b10,b11,b12,b13,b14,rh,rh2,b3⟩:=bases hc
 have h2:=hj.2
 exact⟨fun e=>by subst e;omega,fun e=>by subst e;omega⟩⟩
theorem lq_q (hc:c.Ok){j:Nat}(h:HzA c j):qQ c j:=(q_qok hc).q j h
theorem val_q (hc:c.Ok){r:Nat}(hr:r=11∨r=13){i:Int}(h0:0≤i):qQ c (adr c r i):=by
 have e1:=Jc hc r h0
 have e4:=Jc hc 4 (Int.le_refl 0)
 have e5:=Jc hc 5 (Int.le_refl 0)
 obtain⟨q4,q5⟩:=base45 c
 have:=hc.S1
 have:=hc.R1
 obtain⟨b1,b2,b8,b9,b10,b11,b12,b13,b14,rh,rh2,b3⟩:=bases hc
 rcases hr with rfl|rfl<;>exact⟨fun e=>by omega,fun e=>by omega⟩
theorem hz_q (C:Core c L S N h a m)(ht:(t:Int)<c.T){th k:Int}(hu:th=(t:Int))(hd:0≤h.held.getD t 0)(k0:0≤k)(k1:k≤1):qQ c (qHz h th k):=by
 have hok:=C.ok
 obtain⟨hr1,_⟩:=C.hget ht
 have hza:=hz_adr hok hd hr1 k0 (by have:=hok.H1;omega)
 have:qHz h th k=(base c 9+h.held.getD t 0*c.Hz+k).toNat:=by
  unfold qHz
  rw[hu,C.hc,Yo]
 rw[this]
 exact lq_q hok (hz_lq hok hza.1 hza.2)
theorem QM.nt (q:QM c m.mem.words)(N:Nt (qQ c) m m'):QM c m'.mem.words:=by
 have h4:m'.word (adr c 4 0)=m.word (adr c 4 0):=N.word _ (fun h=>h.1 rfl)
 have h5:m'.word (adr c 5 0)=m.word (adr c 5 0):=N.word _ (fun h=>h.2 rfl)
 unfold Mch.word at h4 h5
 unfold QM
 rw[h4,h5]
 exact q
theorem getD_set_or {l:List Int}{i j:Nat}{z:Int}:(l.set i z).getD j 0=z∨(l.set i z).getD j 0=l.getD j 0:=by
 rw[Yb,Yb,List.getElem?_set]
 split
 ·split
  ·exact .inl rfl
  ·rename_i h1 h2
   subst h1
   exact .inr (by rw[List.getElem?_eq_none (by omega)])
 ·exact .inr rfl
theorem QM.swap (q:QM c m.mem.words)(j:Nat)(u o z:Int)(hz:1≤z∧z≤c.Sl):QM c (m.swap j u o z).mem.words:=by
 have e:(m.swap j u o z).mem.words=if u=o then m.mem.words.set j z else m.mem.words:=rfl
 rw[e]
 split
 ·obtain⟨q1,q2⟩:=q
  refine⟨?_,?_⟩
  ·rcases getD_set_or (l:=m.mem.words) (i:=j) (j:=adr c 4 0) (z:=z) with h|h<;>rw[h]<;>first|exact hz|exact q1
  ·rcases getD_set_or (l:=m.mem.words) (i:=j) (j:=adr c 5 0) (z:=z) with h|h<;>rw[h]<;>first|exact hz|exact q2
 ·exact q
theorem QM.mem (q:QM c m.mem.words)(e:m'.mem=m.mem):QM c m'.mem.words:=by rw[e];exact q
theorem qm_stp {k:Qe}(C:Jd (QM c) c L S N h a m)(hN:N<1000000)(ht:(t:Int)<c.T)(I:QI c t true (h.held.getD t 0) (a.caches.getD t []) k)(hci:ZO m i t cl se)(hb:cl.begin_<m.now)(hp:hzQ cl.begin_ m.now k)(hu:m.used=false) :
  QM c (qkStep (h,a) m i t cl se k).2.2.1.mem.words:=by
 have hok:=C.ok
 haveI:=q_qok hok
 have hc:=C.hc
 have q:=C.mw
 cases k with
 | hz k=>exact q.nt (evq_nt (evq_stp (Q:=qQ c) (i:=i) C.toCore ht I hci.call hci.seat hb hp hu (fun r hr h3=>by
   subst hr
   have I:RdI c r:=I
   have:=I.w (by omega)
   exact val_q hok (.inl rfl) (by omega)) (fun p hp' h1=>by
   subst hp'
   have I:=I.2.2.1 rfl
   obtain⟨kk,hkk,_,k1⟩:=I.take
   obtain⟨g1,g2,g3⟩:=k1 (.inl h1)
   exact val_q hok (.inl rfl) (by omega))))
 | put p=>
  obtain⟨i1,i2,i3,i4⟩:=I
  obtain⟨⟨j1,j2,j3,j4,j5⟩,_⟩:=i4 rfl
  have hZ:=hz_q (th:=p.thread) (k:=0) C.toCore ht i1 i2 (by omega) (by omega)
  simp only[qkStep]
  unfold Qu
  rw[hc]
  simp only[]
  by_cases s1:p.stage=1
  ·rw[if_pos s1]
   have Ev:=evq_nt (evq_take (Q:=qQ c) (i:=i) (t:=t) C.toCore (j2 s1) hu)
   have hm:(ptTake a m i t cl se p).2.2.1.mem=(Zp a m p.take).2.2.1.mem:=by
    unfold ptTake
    simp only[]
    split
    ·unfold Z4;split<;>rfl
    ·rfl
   exact(q.nt Ev).mem hm
  rw[if_neg s1]
  obtain⟨g1,g2⟩:=j3 s1
  by_cases s2:p.stage=2
  ·rw[if_pos s2];exact q.nt (nt_store (Q:=qQ c) _ (val_q hok (.inl rfl) g1) _ _)
  rw[if_neg s2]
  by_cases s3:p.stage=3
  ·rw[if_pos s3];exact q.nt (nt_store (Q:=qQ c) _ (val_q hok (.inr rfl) g1) _ _)
  rw[if_neg s3]
  by_cases s4:p.stage=4
  ·rw[if_pos s4];exact q
  rw[if_neg s4]
  have hT:=j4 (by omega)
  by_cases s5:p.stage=5
  ·rw[if_pos s5];exact q.nt (nt_store (Q:=qQ c) _ hZ _ _)
  rw[if_neg s5]
  by_cases s6:p.stage=6
  ·rw[if_pos s6];exact q
  rw[if_neg s6]
  by_cases s7:p.stage=7
  ·rw[if_pos s7];exact q
  rw[if_neg s7]
  by_cases s8:p.stage=8
  ·rw[if_pos s8]
   split
   ·exact(q.nt (nt_swap (Q:=qQ c) _ (val_q hok (.inr rfl) (show 0≤p.t-1 by omega)) _ 0 (p.slot+1))).mem rfl
   ·exact q.nt (nt_swap (Q:=qQ c) _ (val_q hok (.inr rfl) (show 0≤p.t-1 by omega)) _ _ _)
  rw[if_neg s8]
  by_cases s9:p.stage=9
  ·rw[if_pos s9];exact q.swap _ _ _ _ ⟨by omega,by omega⟩
  rw[if_neg s9]
  by_cases s10:p.stage=10
  ·rw[if_pos s10];exact(q.nt (nt_store (Q:=qQ c) _ hZ _ 0)).mem rfl
  rw[if_neg s10]
  exact q.swap _ _ _ _ (j5 (by omega))
 | get p=>
  obtain⟨i1,i2,i3,i4⟩:=I
  obtain⟨⟨j1,j2,j3,j4,j5,j6,j7⟩,_⟩:=i4 rfl
  have j7:=Lh j7
  have hZ:∀k,0≤k→k≤1→qQ c (qHz h p.thread k):=fun k k0 k1=>hz_q C.toCore ht i1 i2 k0 k1
  simp only[qkStep]
  unfold Qt
  rw[hc]
  simp only[]
  by_cases s1:p.stage=1
  ·rw[if_pos s1];exact q
  rw[if_neg s1]
  by_cases s2:p.stage=2
  ·rw[if_pos s2];exact q.nt (nt_store (Q:=qQ c) _ (hZ 0 (by omega) (by omega)) _ _)
  rw[if_neg s2]
  by_cases s3:p.stage=3
  ·rw[if_pos s3];exact q
  rw[if_neg s3]
  by_cases s4:p.stage=4
  ·rw[if_pos s4];exact q
  rw[if_neg s4]
  by_cases s5:p.stage=5
  ·rw[if_pos s5]
   split
   ·exact q
   ·exact q
  rw[if_neg s5]
  by_cases s6:p.stage=6
  ·rw[if_pos s6];exact q.nt (nt_store (Q:=qQ c) _ (hZ 1 (by omega) (by omega)) _ _)
  rw[if_neg s6]
  by_cases s7:p.stage=7
  ·rw[if_pos s7];exact q
  rw[if_neg s7]
  by_cases s8:p.stage=8
  ·rw[if_pos s8];exact q.swap _ _ _ _ (j4 (by omega) (by omega))
  rw[if_neg s8]
  by_cases s9:p.stage=9
  ·rw[if_pos s9];exact q
  rw[if_neg s9]
  by_cases s10:p.stage=10
  ·rw[if_pos s10]
   have hn:=j4 (by omega) (by omega)
   split
   ·exact(q.swap (adr c 4 0) (m.word (adr c 4 0)) p.h0 p.n hn).mem rfl
   ·exact q.swap _ _ _ _ hn
  rw[if_neg s10]
  by_cases s11:p.stage=11
  ·rw[if_pos s11]
   have hcl:=j6 s11
   have Q0:QM c (m.store (qHz h p.thread p.cleared) (m.word (qHz h p.thread p.cleared)) 0).mem.words:=q.nt (nt_store (Q:=qQ c) _ (hZ _ (by omega) (by omega)) _ _)
   unfold gtEnd
   simp only[]
   split
   ·exact Q0
   ·split
    ·exact Q0
    ·refine Q0.mem ?_
     simp only[]
     unfold Zv
     simp only[]
     split<;>rfl
  rw[if_neg s11]
  have s12:p.stage=12:=by omega
  obtain⟨r,sc,e1,e2,e3,e4⟩:=j7.out s12
  rw[e1]
  simp only[e2]
  exact q.nt (evq_nt (evq_scan (Q:=qQ c) (i:=i) (t:=t) C.toCore e3 hu))
end
end
section
def begQ (n:Int)(_:Nat)(cl:Cll)(_:Sea)(k:Qe):Prop:=cl.begin_<n∧hzQ cl.begin_ n k
theorem begQ_mono {n n':Int}(hn:n≤n')(t:Nat)(cl:Cll)(se:Sea)(k:Qe)(h:begQ n t cl se k):begQ n' t cl se k:=⟨by have:=h.1;omega,hzQ_mono h.2 hn⟩
section
variable {τ:Type}{y:GW τ}
theorem RunG.mono {B B':Nat→Cll→Sea→τ→Prop}{E:Cll→Prop}(R:RunG B E y)(h:∀t cl se k,B t cl se k→B' t cl se k):RunG B' E y:=by
 refine⟨fun t k se hk hse => ?_,R.ended⟩
 obtain⟨i,cl,a1,a2,a3,a4,a5⟩:=R.busy t k se hk hse
 exact⟨i,cl,a1,a2,a3,a4,h _ _ _ _ a5⟩
end
theorem hzQ_rdy {h:Haz}{a:Are}{m:Mch}{i t:Nat}{cl cl':Cll}{se:Sea}{k:Qe}(hp:hzQ cl.begin_ m.now k):hzQ cl.begin_ m.now (qkReady (h,a) m i t cl' se k).2.2.2:=by
 cases k with
 | hz k=>exact rdp_rdy (cl:=cl) hp
 | _=>trivial
theorem hzQ_stp {h:Haz}{a:Are}{m:Mch}{i t:Nat}{cl cl':Cll}{se:Sea}{k:Qe}(hb:cl.begin_<m.now)(hp:hzQ cl.begin_ m.now k):hzQ cl.begin_ m.now (qkStep (h,a) m i t cl' se k).2.2.2:=by
 cases k with
 | hz k=>exact rdp_stp hb hp
 | _=>trivial
structure QB (n:Nat)(y:GW Qe):Prop where
 run:RunG (begQ n) (fun _=>True) y
structure QStp (c:Cfg)(T:Tasks (Haz×Are) Qe)(n:Nat)(y:GW Qe)(t i:Nat)(cl:Cll)(se:Sea)(k:Qe)(r1 r2:GR Qe):Prop where
 beg:cl.begin_<n
 hp:hzQ cl.begin_ n k
 hp1:hzQ cl.begin_ n r1.2.2.2
 hp2:hzQ cl.begin_ n r2.2.2.2
 end1:cl.end_ = -1
 thr:cl.thread=(t:Int)
 ci:ZO (QD y t i se) i t cl { se with ready:=true }
 now0:(QD y t i se).now=(n:Int)
 now1:r1.2.2.1.now=(n:Int)
section
variable {c:Cfg}{bh ba:Nat}{CX:Zb}{n:Nat}{y:GW Qe}{t i:Nat}{cl:Cll}{se:Sea}{k:Qe}{r1 r2:GR Qe}
theorem QB.stp (R:QB n y)(P:PM (QM c) (QI c) c n y)(G:GStepM (QM c) (qkT bh ba c CX) (QI c) c n y t i cl se k r1 r2):QStp c (qkT bh ba c CX) n y t i cl se k r1 r2:=by
 obtain⟨i0,cl0,a1,a2,a3,a4,hb,hp⟩:=R.run.busy t k se G.hk G.hse
 have hi0:i0=i:=by have:=G.hl;omega
 subst hi0
 have hcl:cl0=cl:=by have:=G.hc;rw[a2]at this;cases this;rfl
 subst hcl
 have hlt:=(List.getElem?_eq_some_iff.1 G.hse).1
 have hci:ZO (QD y t i0 se) i0 t cl0 { se with ready:=true }:=⟨rfl,G.hc,by simp[QD,Mch.prep,Wst.tick,hlt]⟩
 have hmv:y.m.moves=(n:Int):=P.moves
 have hnow0:(QD y t i0 se).now=(n:Int):=hmv
 have hnow1:r1.2.2.1.now=(n:Int):=by rw[G.h1.frame.now];exact hmv
 have H1:hzQ cl0.begin_ n r1.2.2.2:=by
  rcases G.rdy with⟨hf,e⟩|⟨_,e⟩
  ·have e':r1=qkReady (y.s.1,y.s.2) (QD y t i0 se) i0 t cl0 { se with ready:=true } k:=e
   rw[e',←hnow0]
   exact hzQ_rdy (by rw[hnow0];exact hp)
  ·rw[e];exact hp
 have H2:hzQ cl0.begin_ n r2.2.2.2:=by
  rcases G.stp with⟨hb1,e⟩|⟨hb1,z1,q1,v1,hcu,e⟩
  ·rw[e];exact H1
  ·have e':r2=qkStep (r1.2.1.1,r1.2.1.2) r1.2.2.1 i0 t { cl0 with point:=z1 } { se with ready:=true,kind:=q1,value:=v1 } r1.2.2.2:=e
   rw[e',←hnow1]
   exact hzQ_stp (cl:=cl0) (by rw[hnow1];exact hb) (by rw[hnow1];exact H1)
 exact⟨hb,hp,H1,H2,a4,a3,hci,hnow0,hnow1⟩
theorem QB.step (R:QB n y)(P:PM (QM c) (QI c) c n y)(G:GStepM (QM c) (qkT bh ba c CX) (QI c) c n y t i cl se k r1 r2):QB (n+1) (Q1 y t i r2):=by
 obtain⟨z,q,v,O⟩:=G.out P
 have S:=R.stp P G
 refine⟨(R.run.mono (begQ_mono (n':=((n+1:Nat):Int)) (by omega))).stepM P G O (fun _ => ?_) (fun _=>trivial)⟩
 exact⟨by have:=S.beg;simp only[];omega,hzQ_mono S.hp2 (by omega)⟩
theorem QB.mw (R:QB n y)(hn:n<65536)(P:PM (QM c) (QI c) c n y)(G:GStepM (QM c) (qkT bh ba c CX) (QI c) c n y t i cl se k r1 r2):QM c (Q1 y t i r2).m.mem.words:=by
 obtain⟨z,q,v,O⟩:=G.out P
 have S:=R.stp P G
 rw[O.mem]
 rcases G.stp with⟨hb1,e⟩|⟨hb1,z1,q1,v1,hcu,e⟩
 ·rw[e];exact G.h1.core.mw
 ·have e':r2=qkStep (r1.2.1.1,r1.2.1.2) r1.2.2.1 i t { cl with point:=z1 } { se with ready:=true,kind:=q1,value:=v1 } r1.2.2.2:=e
  rw[e']
  exact qm_stp (i:=i) (cl:={ cl with point:=z1 }) (se:={ se with ready:=true,kind:=q1,value:=v1 }) G.h1.core (by omega) G.htT (G.h1.fin hb1) hcu (by rw[S.now1];exact S.beg) (by rw[S.now1];exact S.hp1) G.used1
end
def qOps (o:Int):Prop:=(20≤o∧o≤25)∨o=40∨o=41
structure JW (c:Cfg)(T:Tasks (Haz×Are) Qe)(J:Nat→GW Qe→Prop):Prop where
 tick:∀n y,n<65536→PM (QM c) (QI c) c n y→QB n y→J n y→J (n+1) y.tick
 beg:∀n y mv t k v vc,n<65536→PM (QM c) (QI c) c n y→QB n y→J n y→mv.thread=((t:Nat):Int)→(t:Int)<c.T→qOps mv.op→y.tasks[t]? = some none→qTask y.s t mv=some k→J (n+1) ⟨y.s,ZN y.m t mv v vc,y.tasks.set t (some k)⟩
 step:∀n y t i cl se k r1 r2,n<65536→PM (QM c) (QI c) c n y→QB n y→GStepM (QM c) T (QI c) c n y t i cl se k r1 r2→PM (QM c) (QI c) c (n+1) (Q1 y t i r2)→QB (n+1) (Q1 y t i r2)→J n y→J (n+1) (Q1 y t i r2)
theorem JW.jm {c:Cfg}{bh ba:Nat}{CX:Zb}{J:Nat→GW Qe→Prop}(hJ:JW c (qkT bh ba c CX) J):JM (QM c) (qkT bh ba c CX) qTask (QI c) c qOps (fun n y=>QB n y∧J n y) where
 tick:=fun n y hn P j=>⟨⟨(j.1.run.mono (begQ_mono (by omega))).tick⟩,hJ.tick n y hn P j.1 j.2⟩
 beg:=by
  intro n y mv t k v vc hn P j ht htT hop hk hm
  have hmv:y.m.moves=(n:Int):=P.moves
  exact⟨⟨(j.1.run.mono (begQ_mono (by omega))).begin ht hk (P.tasks.trans P.seats.symm) ⟨by simp only[];omega,hzQ_made hm⟩⟩,hJ.beg n y mv t k v vc hn P j.1 j.2 ht htT hop hk hm⟩
 mw:=fun n y t i cl se k r1 r2 hn P G j=>j.1.mw hn P G
 step:=fun n y t i cl se k r1 r2 hn P G P' j=>⟨j.1.step P G,hJ.step n y t i cl se k r1 r2 hn P j.1 G P' (j.1.step P G) j.2⟩
theorem QB.start (c:Cfg)(km:Nat)(vs:Value):QB 0 (gsq0 c km vs):=by
 have hk:∀(t:Nat) (k:Qe),(gsq0 c km vs).tasks[t]? = some (some k)→False:=by
  intro t k hk
  simp only[gsq0,List.getElem?_replicate]at hk
  split at hk<;>simp at hk
 exact⟨⟨fun t k se h _=>(hk t k h).elim,fun cl hcl=>by simp[gsq0,mch0]at hcl⟩⟩
theorem jw_true (c:Cfg)(T:Tasks (Haz×Are) Qe):JW c T (fun _ _=>True):=⟨fun _ _ _ _ _ _=>trivial,fun _ _ _ _ _ _ _ _ _ _ _ _ _ _ _ _=>trivial,fun _ _ _ _ _ _ _ _ _ _ _ _ _ _ _ _=>trivial⟩
theorem que_playJ (c:Cfg)(h:c.Ok)(v:Value)(mvs:List Mv)(hl:mvs.length≤65536)(J:Nat→GW Qe→Prop)(J0:∀km vs,J 0 (gsq0 c km vs))
  (hJ:∀CX bh ba x z k y mv b y',mvs[k]? = some mv→PM (QM c) (QI c) c k y∧QB k y→J k y→MoveTo (qkT bh ba c CX) (jFnQ x z) qTask y mv b y'→J (k+1) y') (A:Zb) (hRd:Rd A 4 (mvs.map Mv.e) v) :
  Does Tryz.prog 21 #[c.v,v] A (fun u=>gplayR (fun y=>(PM (QM c) (QI c) c mvs.length y∧QB mvs.length y)∧J mvs.length y) u*A):=by
 have hT2:=h.T2
 refine que_playR c h v mvs hl (fun k y=>(PM (QM c) (QI c) c k y∧QB k y)∧J k y) (fun km vs=>⟨⟨PM.start h km vs,QB.start c km vs⟩,J0 km vs⟩) ?_ ?_ ?_ A hRd
 ·intro CX bh ba k y mv hmv hj
  have:=(List.getElem?_eq_some_iff.1 hmv).1
  exact hj.1.1.may core_kokQ (qkT_good bh ba c CX) (qk_inv c _ _) (by omega) mv
 ·intro CX bh ba x z k y mv b y' hmv hj hm
  have:=(List.getElem?_eq_some_iff.1 hmv).1
  have M:=(jw_true c (qkT bh ba c CX)).jm.moves (qkT_good bh ba c CX) (qk_inv c _ _) (fun o=>(jFnQ_known x z o).1) hj.1.1 ⟨hj.1.2,trivial⟩ (by omega) hm
  exact⟨⟨M.1,M.2.1⟩,hJ CX bh ba x z k y mv b y' hmv hj.1 hj.2 hm⟩
 ·intro y hj
  obtain⟨p1,p2,p3,p4,p5,p6,p7⟩:=hj.1.1
  have:=p3.log
  have:=p3.shifts
  have:=p3.words
  have:=base14_le h
  have:=h.T1
  omega
end
section
theorem same_calls (xs:List Cll)(u v:Value)(hl:xs.length<4294967296):Zh Tryz.prog 61 #[u,v] (sl 59 9 (xs.map Cll.e) u*sl 59 9 (xs.map Cll.e) v) (.bool true) (sl 59 9 (xs.map Cll.e) u*sl 59 9 (xs.map Cll.e) v):=by
 intro O w F hs
 simp only[Ma]at hs
 obtain⟨a0,cap0,rfl⟩:=ZQ (hs.pull (A:=sl 59 9 (xs.map Cll.e) u) (by (with_reducible exact Qh)))
 obtain⟨a1,cap1,rfl⟩:=ZQ (hs.pull (A:=sl 59 9 (xs.map Cll.e) v) (by (with_reducible repeat first|exact Qh|apply Qk)))
 simp only[List.length_map]at hs ⊢
 have n1:((xs.length:Int) != (xs.length:Int))=false:=by simp
 go_enter Tryz.func61,Tryz.ntmps61
 go_wp2_with ((with_reducible apply Zs hs);exact Ii;rfl;(with_reducible repeat first|exact Qh|apply Qk);rfl;(simp only[Uc,Uz]))
 go_loopw [5] (fun q wr=>∃n:Nat,n≤xs.length∧q=.int .i64 (n:Int)∧Sat O wr (sl 59 9 (xs.map Cll.e) (.slice a0 xs.length cap0)*(sl 59 9 (xs.map Cll.e) (.slice a1 xs.length cap1)*F))) (fun q _=>xs.length+1-(intOf q).toNat)
 case atStart=>exact⟨0,by omega,rfl,by ((with_reducible apply Sat.fin hs);(with_reducible exact Ql))⟩
 case round=>
  obtain⟨n,k1,rfl,hs⟩:=hrel
  by_cases hkr:n=xs.length
  ·subst hkr
   have hlt:decide ((xs.length:Int)<(xs.length:Int))=false:=by simp
   go_wp2_with ((with_reducible apply Zs hs);exact Ii;rfl;(with_reducible exact Qh);rfl;(simp only[Uc,Uz]))
   (go_ret)
   exact⟨rfl,by simp only[Ma];((with_reducible apply Sat.fin hs);(with_reducible exact Ql))⟩
  ·have hlt:decide ((n:Int)<(xs.length:Int))=true:=by simp;omega
   have hlt2:decide (n<xs.length)=true:=by simp;omega
   have hln:n<(xs.map Cll.e).length:=by simp;omega
   obtain⟨x,hx⟩:∃x,xs[n]? = some x:=⟨_,Yd (by omega)⟩
   obtain⟨c1,c2,c3,c4,c5,c6,c7,c8,c9⟩:=x
   have hw:wrap64 ((n:Int)+1)=(n:Int)+1:=by unfold wrap64;omega
   have hgv:(xs.map Cll.e)[n]? = some (Cll.e ⟨c1,c2,c3,c4,c5,c6,c7,c8,c9⟩):=by rw[Ym,hx];rfl
   go_wp2_with (first|(first|(first|(with_reducible refine NQ.mk ?_)|((with_reducible apply Zd);rfl;rfl)|(with_reducible refine Ze ?_))|((with_reducible apply QV (k:=0) hs);exact Ii;rfl;assumption;(with_reducible repeat first|exact Qh|apply Qk);(exact(Nat.add_zero _).symm);(assumption);(exact Vb rfl);rfl;rfl;(simp only[Uc,Uz]))|((with_reducible apply ZH hs);exact Ii;exact Ii;rfl;rfl;(with_reducible repeat first|exact Qh|apply Qk);(rfl);(assumption);rfl;intro b off hat;(simp only[Uc,Uz]))|((with_reducible apply Zs hs);exact Ii;rfl;(with_reducible exact Qh);rfl;(simp only[Uc,Uz])))|((with_reducible refine Wp (id:=6) (Paz [.neu 5,.neu 6,.neu 7,.neu 8]) hs rfl ?_ ?_);kernel_rfl;clear hs;intro w hs))
   go_roundw
   case rel=>exact⟨n+1,by omega,by simp,by ((with_reducible apply Sat.fin hs);(with_reducible exact Ql))⟩
   case measure=>simp[intOf];omega
theorem same_trace (xs:List Acc)(u v:Value)(hl:xs.length<4294967296):Zh Tryz.prog 62 #[u,v] (sl 87 7 (xs.map Acc.e) u*sl 87 7 (xs.map Acc.e) v) (.bool true) (sl 87 7 (xs.map Acc.e) u*sl 87 7 (xs.map Acc.e) v):=by
 intro O w F hs
 simp only[Ma]at hs
 obtain⟨a0,cap0,rfl⟩:=ZQ (hs.pull (A:=sl 87 7 (xs.map Acc.e) u) (by (with_reducible exact Qh)))
 obtain⟨a1,cap1,rfl⟩:=ZQ (hs.pull (A:=sl 87 7 (xs.map Acc.e) v) (by (with_reducible repeat first|exact Qh|apply Qk)))
 simp only[List.length_map]at hs ⊢
 have n1:((xs.length:Int) != (xs.length:Int))=false:=by simp
 go_enter Tryz.func62,Tryz.ntmps62
 go_wp2_with ((with_reducible apply Zs hs);exact Ii;rfl;(with_reducible repeat first|exact Qh|apply Qk);rfl;(simp only[Uc,Uz]))
 go_loopw [5] (fun q wr=>∃n:Nat,n≤xs.length∧q=.int .i64 (n:Int)∧Sat O wr (sl 87 7 (xs.map Acc.e) (.slice a0 xs.length cap0)*(sl 87 7 (xs.map Acc.e) (.slice a1 xs.length cap1)*F))) (fun q _=>xs.length+1-(intOf q).toNat)
 case atStart=>exact⟨0,by omega,rfl,by ((with_reducible apply Sat.fin hs);(with_reducible exact Ql))⟩
 case round=>
  obtain⟨n,k1,rfl,hs⟩:=hrel
  by_cases hkr:n=xs.length
  ·subst hkr
   have hlt:decide ((xs.length:Int)<(xs.length:Int))=false:=by simp
   go_wp2_with ((with_reducible apply Zs hs);exact Ii;rfl;(with_reducible exact Qh);rfl;(simp only[Uc,Uz]))
   (go_ret)
   exact⟨rfl,by simp only[Ma];((with_reducible apply Sat.fin hs);(with_reducible exact Ql))⟩
  ·have hlt:decide ((n:Int)<(xs.length:Int))=true:=by simp;omega
   have hlt2:decide (n<xs.length)=true:=by simp;omega
   have hln:n<(xs.map Acc.e).length:=by simp;omega
   obtain⟨x,hx⟩:∃x,xs[n]? = some x:=⟨_,Yd (by omega)⟩
   obtain⟨c1,c2,c3,c4,c5,c6,c7⟩:=x
   have hw:wrap64 ((n:Int)+1)=(n:Int)+1:=by unfold wrap64;omega
   have hgv:(xs.map Acc.e)[n]? = some (Acc.e ⟨c1,c2,c3,c4,c5,c6,c7⟩):=by rw[Ym,hx];rfl
   go_wp2_with (first|(first|(first|(with_reducible refine NQ.mk ?_)|((with_reducible apply Zd);rfl;rfl)|(with_reducible refine Ze ?_))|((with_reducible apply QV (k:=0) hs);exact Ii;rfl;assumption;(with_reducible repeat first|exact Qh|apply Qk);(exact(Nat.add_zero _).symm);(assumption);(exact Vb rfl);rfl;rfl;(simp only[Uc,Uz]))|((with_reducible apply ZH hs);exact Ii;exact Ii;rfl;rfl;(with_reducible repeat first|exact Qh|apply Qk);(rfl);(assumption);rfl;intro b off hat;(simp only[Uc,Uz]))|((with_reducible apply Zs hs);exact Ii;rfl;(with_reducible exact Qh);rfl;(simp only[Uc,Uz])))|((with_reducible refine Wp (id:=6) (Paz [.neu 5,.neu 6,.neu 7,.neu 8]) hs rfl ?_ ?_);kernel_rfl;clear hs;intro w hs))
   go_roundw
   case rel=>exact⟨n+1,by omega,by simp,by ((with_reducible apply Sat.fin hs);(with_reducible exact Ql))⟩
   case measure=>simp[intOf];omega
theorem same_shifts (xs:List Shf)(u v:Value)(hl:xs.length<4294967296):Zh Tryz.prog 63 #[u,v] (sl 102 5 (xs.map Shf.e) u*sl 102 5 (xs.map Shf.e) v) (.bool true) (sl 102 5 (xs.map Shf.e) u*sl 102 5 (xs.map Shf.e) v):=by
 intro O w F hs
 simp only[Ma]at hs
 obtain⟨a0,cap0,rfl⟩:=ZQ (hs.pull (A:=sl 102 5 (xs.map Shf.e) u) (by (with_reducible exact Qh)))
 obtain⟨a1,cap1,rfl⟩:=ZQ (hs.pull (A:=sl 102 5 (xs.map Shf.e) v) (by (with_reducible repeat first|exact Qh|apply Qk)))
 simp only[List.length_map]at hs ⊢
 have n1:((xs.length:Int) != (xs.length:Int))=false:=by simp
 go_enter Tryz.func63,Tryz.ntmps63
 go_wp2_with ((with_reducible apply Zs hs);exact Ii;rfl;(with_reducible repeat first|exact Qh|apply Qk);rfl;(simp only[Uc,Uz]))
 go_loopw [5] (fun q wr=>∃n:Nat,n≤xs.length∧q=.int .i64 (n:Int)∧Sat O wr (sl 102 5 (xs.map Shf.e) (.slice a0 xs.length cap0)*(sl 102 5 (xs.map Shf.e) (.slice a1 xs.length cap1)*F))) (fun q _=>xs.length+1-(intOf q).toNat)
 case atStart=>exact⟨0,by omega,rfl,by ((with_reducible apply Sat.fin hs);(with_reducible exact Ql))⟩
 case round=>
  obtain⟨n,k1,rfl,hs⟩:=hrel
  by_cases hkr:n=xs.length
  ·subst hkr
   have hlt:decide ((xs.length:Int)<(xs.length:Int))=false:=by simp
   go_wp2_with ((with_reducible apply Zs hs);exact Ii;rfl;(with_reducible exact Qh);rfl;(simp only[Uc,Uz]))
   (go_ret)
   exact⟨rfl,by simp only[Ma];((with_reducible apply Sat.fin hs);(with_reducible exact Ql))⟩
  ·have hlt:decide ((n:Int)<(xs.length:Int))=true:=by simp;omega
   have hlt2:decide (n<xs.length)=true:=by simp;omega
   have hln:n<(xs.map Shf.e).length:=by simp;omega
   obtain⟨x,hx⟩:∃x,xs[n]? = some x:=⟨_,Yd (by omega)⟩
   obtain⟨c1,c2,c3,c4,c5⟩:=x
   have hw:wrap64 ((n:Int)+1)=(n:Int)+1:=by unfold wrap64;omega
   have hgv:(xs.map Shf.e)[n]? = some (Shf.e ⟨c1,c2,c3,c4,c5⟩):=by rw[Ym,hx];rfl
   go_wp2_with (first|(first|(first|(with_reducible refine NQ.mk ?_)|((with_reducible apply Zd);rfl;rfl)|(with_reducible refine Ze ?_))|((with_reducible apply QV (k:=0) hs);exact Ii;rfl;assumption;(with_reducible repeat first|exact Qh|apply Qk);(exact(Nat.add_zero _).symm);(assumption);(exact Vb rfl);rfl;rfl;(simp only[Uc,Uz]))|((with_reducible apply ZH hs);exact Ii;exact Ii;rfl;rfl;(with_reducible repeat first|exact Qh|apply Qk);(rfl);(assumption);rfl;intro b off hat;(simp only[Uc,Uz]))|((with_reducible apply Zs hs);exact Ii;rfl;(with_reducible exact Qh);rfl;(simp only[Uc,Uz])))|((with_reducible refine Wp (id:=6) (Paz [.neu 5,.neu 6,.neu 7,.neu 8]) hs rfl ?_ ?_);kernel_rfl;clear hs;intro w hs))
   go_roundw
   case rel=>exact⟨n+1,by omega,by simp,by ((with_reducible apply Sat.fin hs);(with_reducible exact Ql))⟩
   case measure=>simp[intOf];omega
theorem same_words (xs:List Int)(u v:Value)(hl:xs.length<4294967296):Zh Tryz.prog 64 #[u,v] (sl 79 1 (xs.map eU) u*sl 79 1 (xs.map eU) v) (.bool true) (sl 79 1 (xs.map eU) u*sl 79 1 (xs.map eU) v):=by
 intro O w F hs
 simp only[Ma]at hs
 obtain⟨a0,cap0,rfl⟩:=ZQ (hs.pull (A:=sl 79 1 (xs.map eU) u) (by (with_reducible exact Qh)))
 obtain⟨a1,cap1,rfl⟩:=ZQ (hs.pull (A:=sl 79 1 (xs.map eU) v) (by (with_reducible repeat first|exact Qh|apply Qk)))
 simp only[List.length_map]at hs ⊢
 have n1:((xs.length:Int) != (xs.length:Int))=false:=by simp
 go_enter Tryz.func64,Tryz.ntmps64
 go_wp2_with ((with_reducible apply Zs hs);exact Ii;rfl;(with_reducible repeat first|exact Qh|apply Qk);rfl;(simp only[Uc,Uz]))
 go_loopw [5] (fun q wr=>∃n:Nat,n≤xs.length∧q=.int .i64 (n:Int)∧Sat O wr (sl 79 1 (xs.map eU) (.slice a0 xs.length cap0)*(sl 79 1 (xs.map eU) (.slice a1 xs.length cap1)*F))) (fun q _=>xs.length+1-(intOf q).toNat)
 case atStart=>exact⟨0,by omega,rfl,by ((with_reducible apply Sat.fin hs);(with_reducible exact Ql))⟩
 case round=>
  obtain⟨n,k1,rfl,hs⟩:=hrel
  by_cases hkr:n=xs.length
  ·subst hkr
   have hlt:decide ((xs.length:Int)<(xs.length:Int))=false:=by simp
   go_wp2_with ((with_reducible apply Zs hs);exact Ii;rfl;(with_reducible exact Qh);rfl;(simp only[Uc,Uz]))
   (go_ret)
   exact⟨rfl,by simp only[Ma];((with_reducible apply Sat.fin hs);(with_reducible exact Ql))⟩
  ·have hlt:decide ((n:Int)<(xs.length:Int))=true:=by simp;omega
   have hlt2:decide (n<xs.length)=true:=by simp;omega
   have hln:n<(xs.map eU).length:=by simp;omega
   obtain⟨x,hx⟩:∃x,xs[n]? = some x:=⟨_,Yd (by omega)⟩
   have hw:wrap64 ((n:Int)+1)=(n:Int)+1:=by unfold wrap64;omega
   have hgv:(xs.map eU)[n]? = some (eU x):=by rw[Ym,hx];rfl
   go_wp2_with (first|(first|(first|(with_reducible refine NQ.mk ?_)|((with_reducible apply Zd);rfl;rfl)|(with_reducible refine Ze ?_))|((with_reducible apply Zx hs);exact Ii;rfl;assumption;(with_reducible repeat first|exact Qh|apply Qk);rfl;(assumption);rfl;rfl;(simp only[Uc,Uz]))|((with_reducible apply ZH hs);exact Ii;exact Ii;rfl;rfl;(with_reducible repeat first|exact Qh|apply Qk);(rfl);(assumption);rfl;intro b off hat;(simp only[Uc,Uz]))|((with_reducible apply Zs hs);exact Ii;rfl;(with_reducible exact Qh);rfl;(simp only[Uc,Uz])))|((with_reducible refine Wp (id:=6) (Paz [.neu 5,.neu 6,.neu 7,.neu 8]) hs rfl ?_ ?_);kernel_rfl;clear hs;intro w hs))
   go_roundw
   case rel=>exact⟨n+1,by omega,by simp,by ((with_reducible apply Sat.fin hs);(with_reducible exact Ql))⟩
   case measure=>simp[intOf];omega
structure RunLen (cs:List Cll)(lg:List Acc)(sh:List Shf)(ws:List Int):Prop where
 l1:cs.length<100000000
 l2:lg.length<100000000
 l3:sh.length<100000000
 l4:ws.length<100000000
theorem runR_mk {O w:World}{F:Zb}{cs:List Cll}{lg:List Acc}{sh:List Shf}{ws:List Int}{vc vt vs vw:Value}
  (hs:Sat O w (sl 59 9 (cs.map Cll.e) vc*(sl 87 7 (lg.map Acc.e) vt*(sl 102 5 (sh.map Shf.e) vs*(sl 79 1 (ws.map eU) vw*F))))):Sat O w (RunR cs lg sh ws (.agg #[vc,vt,vs,vw])*F):=by
 unfold RunR
 simp only[ZA,Ma,Zw]
 exact⟨_,_,_,_,rfl,hs⟩
theorem runR_get {O w:World}{F:Zb}{cs:List Cll}{lg:List Acc}{sh:List Shf}{ws:List Int}{v:Value}(hs:Sat O w (RunR cs lg sh ws v*F)) :
  ∃a1 k1 a2 k2 a3 k3 a4 k4,v=.agg #[.slice a1 cs.length k1,.slice a2 lg.length k2,.slice a3 sh.length k3,.slice a4 ws.length k4] ∧
   Sat O w (sl 59 9 (cs.map Cll.e) (.slice a1 cs.length k1)*(sl 87 7 (lg.map Acc.e) (.slice a2 lg.length k2)*(sl 102 5 (sh.map Shf.e) (.slice a3 sh.length k3)*(sl 79 1 (ws.map eU) (.slice a4 ws.length k4)*F)))):=by
 unfold RunR at hs
 simp only[ZA,Ma,Zw]at hs
 obtain⟨vc,vt,vs,vw,rfl,hs⟩:=hs
 obtain⟨_,_,rfl⟩:=ZQ (hs.pull (A:=sl 59 9 _ vc) (by (with_reducible exact Qh)))
 obtain⟨_,_,rfl⟩:=ZQ (hs.pull (A:=sl 87 7 _ vt) (by (with_reducible repeat first|exact Qh|apply Qk)))
 obtain⟨_,_,rfl⟩:=ZQ (hs.pull (A:=sl 102 5 _ vs) (by (with_reducible repeat first|exact Qh|apply Qk)))
 obtain⟨_,_,rfl⟩:=ZQ (hs.pull (A:=sl 79 1 _ vw) (by (with_reducible repeat first|exact Qh|apply Qk)))
 simp only[List.length_map]at hs ⊢
 exact⟨_,_,_,_,_,_,_,_,rfl,hs⟩
theorem same_run (cs:List Cll)(lg:List Acc)(sh:List Shf)(ws:List Int)(u v:Value)(hl:RunLen cs lg sh ws) :
  Zh Tryz.prog 23 #[u,v] (RunR cs lg sh ws u*RunR cs lg sh ws v) (.bool true) (RunR cs lg sh ws u*RunR cs lg sh ws v):=by
 intro O w F hs
 simp only[Ma]at hs
 have hg:=runR_get hs
 clear hs
 obtain⟨a1,k1,a2,k2,a3,k3,a4,k4,rfl,hs⟩:=hg
 replace hs:=hs.pull (A:=RunR cs lg sh ws v) (by (with_reducible repeat first|exact Qh|apply Qk))
 have hg:=runR_get hs
 clear hs
 obtain⟨b1,l1,b2,l2,b3,l3,b4,l4,rfl,hs⟩:=hg
 obtain⟨g1,g2,g3,g4⟩:=hl
 have h1:=Lh (same_calls cs (.slice a1 cs.length k1) (.slice b1 cs.length l1) (by omega))
 have h2:=Lh (same_trace lg (.slice a2 lg.length k2) (.slice b2 lg.length l2) (by omega))
 have h3:=Lh (same_shifts sh (.slice a3 sh.length k3) (.slice b3 sh.length l3) (by omega))
 have h4:=Lh (same_words ws (.slice a4 ws.length k4) (.slice b4 ws.length l4) (by omega))
 go_enter Tryz.func23,Tryz.ntmps23
 go_wp2_with (first|(first|((with_reducible apply Za hs);exact Ii;rfl;(with_reducible repeat first|exact Qh|apply Qk);rfl;rfl;(simp only[Uc,Uz]))|((with_reducible apply Zo hs);rfl;rfl;rfl;clear hs;intro w b hs;(simp only[Uc,Uz])))|(go_at_call 61;((refine(h1.out).at hs (by (with_reducible repeat first|exact Qh|apply Qb|apply Qk)) ?_);clear hs;intro w hs;(try simp only[Em,Ma]at hs)))|(go_at_call 62;((refine(h2.out).at hs (by (with_reducible repeat first|exact Qh|apply Qb|apply Qk)) ?_);clear hs;intro w hs;(try simp only[Em,Ma]at hs)))|(go_at_call 63;((refine(h3.out).at hs (by (with_reducible repeat first|exact Qh|apply Qb|apply Qk)) ?_);clear hs;intro w hs;(try simp only[Em,Ma]at hs)))|(go_at_call 64;((refine(h4.out).at hs (by (with_reducible repeat first|exact Qh|apply Qb|apply Qk)) ?_);clear hs;intro w hs;(try simp only[Em,Ma]at hs))))
 (go_ret)
 refine⟨rfl,?_⟩
 simp only[Ma]
 apply runR_mk
 have hs2:=hs.pull (A:=sl 59 9 (cs.map Cll.e) (.slice b1 cs.length l1)*(sl 87 7 (lg.map Acc.e) (.slice b2 lg.length l2)*(sl 102 5 (sh.map Shf.e) (.slice b3 sh.length l3)*sl 79 1 (ws.map eU) (.slice b4 ws.length l4)))) (by (with_reducible repeat first|exact Qh|apply Qb|apply Qk))
 simp only[Ma]at hs2
 have hs:=runR_mk hs2
 ((with_reducible apply Sat.fin hs);(with_reducible repeat first|exact Ql|exact Qh|apply Qb|apply Qk))
end
end Go.Proofs.YtefjbdajgakgpaaGreat
