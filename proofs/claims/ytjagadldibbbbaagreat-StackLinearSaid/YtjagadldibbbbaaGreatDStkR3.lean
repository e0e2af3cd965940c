/-
  What small effects add to the log, and which words they leave.
-/
import Derived.Test.YtjagadldibbbbaaGreatDEvq
import Derived.Test.YtjagadldibbbbaaGreatDRange
set_option linter.all false
namespace Go.Proofs.YtjagadldibbbbaaGreat
open Go.RowKit Hp
set_option maxRecDepth 100000
set_option maxHeartbeats 1000000
attribute [local irreducible] Go.Calls
section
structure Nt (Q:Nat→Prop)(m m':Mch):Prop where
 log:∃es,m'.mem.log=m.mem.log++es∧∀e∈es,e.thread=m.thread∧∃j:Nat,e.addr=(j:Int)∧Q j
 word:∀j,¬Q j→m'.word j=m.word j
 thread:m'.thread=m.thread
 len:m'.mem.words.length=m.mem.words.length
section
variable {Q:Nat→Prop}{m m' m'':Mch}
theorem Nt.refl (Q:Nat→Prop)(m:Mch):Nt Q m m:=⟨⟨[],by simp,by simp⟩,fun _ _=>rfl,rfl,rfl⟩
theorem Nt.trans (A:Nt Q m m')(B:Nt Q m' m''):Nt Q m m'':=by
 obtain⟨⟨es,a1,a2⟩,a3,a4,a5⟩:=A
 obtain⟨⟨fs,b1,b2⟩,b3,b4,b5⟩:=B
 refine⟨⟨es++fs,by rw[b1,a1,List.append_assoc],fun e he => ?_⟩,fun j hj=>(b3 j hj).trans (a3 j hj),b4.trans a4,b5.trans a5⟩
 rcases List.mem_append.1 he with h|h
 ·exact a2 e h
 ·rw[←a4];exact b2 e h
theorem Nt.of (h1:m'.mem=m.mem)(h2:m'.thread=m.thread):Nt Q m m' :=
 ⟨⟨[],by rw[h1];simp,by simp⟩,fun _ _=>by unfold Mch.word;rw[h1],h2,by rw[h1]⟩
theorem nt_load (j:Nat)(hQ:Q j)(u:Int):Nt Q m (m.load j u):=
 ⟨⟨[_],rfl,fun e he=>by rw[List.mem_singleton.1 he];exact⟨rfl,j,rfl,hQ⟩⟩,fun _ _=>rfl,rfl,rfl⟩
theorem nt_word_set {m:Mch}{j k:Nat}{z:Int}(h:k≠j):(m.mem.words.set j z).getD k 0=m.word k:=by
 unfold Mch.word
 rw[Yb,Yb,Yf (Ne.symm h)]
theorem nt_store (j:Nat)(hQ:Q j)(u z:Int):Nt Q m (m.store j u z):=
 ⟨⟨[_],rfl,fun e he=>by rw[List.mem_singleton.1 he];exact⟨rfl,j,rfl,hQ⟩⟩,fun k hk=>nt_word_set (fun e=>hk (e▸hQ)),rfl,by simp[Mch.store]⟩
theorem nt_swap (j:Nat)(hQ:Q j)(u o z:Int):Nt Q m (m.swap j u o z):=by
 refine⟨⟨[_],rfl,fun e he=>by rw[List.mem_singleton.1 he];exact⟨rfl,j,rfl,hQ⟩⟩,fun k hk => ?_,rfl,?_⟩
 ·by_cases h:u=o
  ·have e:(m.swap j u o z).word k=(m.mem.words.set j z).getD k 0:=by unfold Mch.word Mch.swap;simp only[if_pos h]
   rw[e]
   exact nt_word_set (fun e=>hk (e▸hQ))
  ·unfold Mch.word Mch.swap
   simp only[if_neg h]
 ·simp only[Mch.swap]
  split<;>simp
theorem evq_nt {i t:Nat}{x y:St3}(E:EvQ Q i t x y):Nt Q x.2.2 y.2.2:=by
 induction E with
 | refl x=>exact Nt.refl ..
 | trans _ _ a b=>exact a.trans b
 | load j _ h=>exact nt_load j h.2 _
 | store j z _ h=>exact nt_store j h.2 _ _
 | swap j o z _ h=>exact nt_swap j h.2 _ _ _
 | shift=>exact Nt.of rfl rfl
 | point=>exact Nt.of rfl rfl
 | answer=>exact Nt.of rfl rfl
 | haz=>exact Nt.refl ..
 | cache=>exact Nt.refl ..
end
end
section
def rmNext (T:Int)(s:(Int→Int)×Int)(j:Nat)(e:Acc):(Int→Int)×Int:=
 if e.addr≠T then s else if e.kind=1 then (fun th=>if th=e.thread then (j:Int) else s.1 th,s.2) else if e.saw=e.old then (s.1,(j:Int)) else s
def rmS (T:Int)(lg:List Acc):Nat→(Int→Int)×Int
 | 0=>(fun _=>0,-1)
 | n+1=>match lg[n]? with
  | some e=>rmNext T (rmS T lg n) n e
  | none=>rmS T lg n
section
variable {T:Int}{lg es:List Acc}{n:Nat}
theorem rmS_app:∀n,n≤lg.length→rmS T (lg++es) n=rmS T lg n
 | 0,_=>rfl
 | n+1,h=>by
  simp only[rmS]
  rw[List.getElem?_append_left (by omega),rmS_app n (by omega)]
theorem rmS_le (th:Int):∀n,(rmS T lg n).1 th≤n
 | 0=>by simp[rmS]
 | n+1=>by
  have ih:=rmS_le th n
  simp only[rmS]
  split
  ·unfold rmNext
   split
   ·omega
   ·split
    ·simp only[]
     split<;>omega
    ·split
     ·show(rmS T lg n).1 th≤_
      omega
     ·omega
  ·omega
theorem rmS_quiet (h:∀e∈es,e.addr≠T):∀k,k≤es.length→rmS T (lg++es) (lg.length+k)=rmS T lg lg.length
 | 0,_=>rmS_app _ (Nat.le_refl _)
 | k+1,hk=>by
  have ih:=rmS_quiet h k (by omega)
  rw[←Nat.add_assoc]
  simp only[rmS]
  rw[List.getElem?_append_right (by omega),Nat.add_sub_cancel_left,Yd (by omega),ih]
  simp only[]
  unfold rmNext
  rw[if_pos (h _ (List.getElem_mem _))]
theorem rmS_one (e:Acc):rmS T (lg++[e]) (lg++[e]).length=rmNext T (rmS T lg lg.length) lg.length e:=by
 rw[List.length_append]
 simp only[List.length_cons,List.length_nil,rmS]
 rw[List.getElem?_append_right (by omega),Nat.sub_self,rmS_app _ (Nat.le_refl _)]
 rfl
end
structure RmOk (T0 T:Int)(lg:List Acc)(j:Nat)(e:Acc):Prop where
 t0:0≤e.thread
 t1:e.thread<T0
 top:e.addr=T→e.kind=1∨(e.kind=3∧(e.saw=e.old∨(rmS T lg j).1 e.thread≤(rmS T lg j).2))
def RmQ (P:Int→Prop):Zm→Prop
 | .hz _=>True
 | .psh p=>(p.stage=4∨p.stage=5)→P p.top
 | .pop p=>2≤p.stage→p.stage≤5→P p.top
def rmP (T:Nat)(m:Mch)(t:Nat)(u:Int):Prop:=(rmS T m.mem.log m.mem.log.length).2<(rmS T m.mem.log m.mem.log.length).1 t→m.word T=u
structure RmM (c:Cfg)(T:Nat)(m:Mch)(tasks:List (Option Zm)):Prop where
 ok:∀j e,m.mem.log[j]? = some e→RmOk c.T T m.mem.log j e
 task:∀(t:Nat) (k:Zm),tasks[t]? = some (some k)→RmQ (rmP T m t) k
theorem RmQ.imp {P P':Int→Prop}{k:Zm}(h:RmQ P k)(hi:∀u,P u→P' u):RmQ P' k:=by
 cases k with
 | hz k=>trivial
 | psh p=>exact fun hp=>hi _ (h hp)
 | pop p=>exact fun h1 h2=>hi _ (h h1 h2)
section
variable {c:Cfg}{T:Nat}{m m':Mch}{tasks:List (Option Zm)}{t:Nat}
theorem RmOk.app {T0:Int}{lg es:List Acc}{j:Nat}{e:Acc}(h:RmOk T0 T lg j e)(hj:j<lg.length):RmOk T0 T (lg++es) j e:=
 ⟨h.t0,h.t1,fun ht=>by rw[rmS_app j (by omega)];exact h.top ht⟩
theorem RmM.quiet (R:RmM c T m tasks)(N:Nt (fun j=>j≠T) m m')(h0:0≤m.thread)(h1:m.thread<c.T):RmM c T m' tasks:=by
 obtain⟨⟨es,e1,e2⟩,e3,e4,e5⟩:=N
 have hq:∀e∈es,e.addr≠(T:Int):=fun e he=>by
  obtain⟨_,j,ej,hj⟩:=e2 e he
  rw[ej]
  omega
 have hs:rmS T m'.mem.log m'.mem.log.length=rmS T m.mem.log m.mem.log.length:=by
  rw[e1,List.length_append]
  exact rmS_quiet hq _ (Nat.le_refl _)
 refine⟨?_,?_⟩
 ·intro j e hj
  rw[e1]at hj ⊢
  by_cases hl:j<m.mem.log.length
  ·rw[List.getElem?_append_left hl]at hj
   exact(R.ok j e hj).app hl
  ·rw[List.getElem?_append_right (by omega)]at hj
   have hm:=Yc hj
   obtain⟨f1,_⟩:=e2 e hm
   exact⟨by rw[f1];exact h0,by rw[f1];exact h1,fun ht=>absurd ht (hq e hm)⟩
 ·intro t k hk
  refine(R.task t k hk).imp fun u hu => ?_
  unfold rmP at hu ⊢
  rw[hs,e3 T (by simp)]
  exact hu
theorem RmM.set (R:RmM c T m tasks){o:Option Zm}(h:∀k,o=some k→RmQ (rmP T m t) k):RmM c T m (tasks.set t o):=by
 refine⟨R.ok,fun j k hk => ?_⟩
 by_cases hj:j=t
 ·subst hj
  have hl:=(List.getElem?_eq_some_iff.1 hk).1
  simp only[List.length_set]at hl
  rw[Ye hl]at hk
  cases hk
  exact h k rfl
 ·rw[ZX hj]at hk
  exact R.task j k hk
theorem RmM.load (R:RmM c T m tasks)(ht:(t:Int)<c.T){mv:Int}(hl:m'.mem.log=m.mem.log++[⟨mv,t,1,T,0,0,m.word T⟩])(hw:m'.word T=m.word T){o:Option Zm}(h:∀k,o=some k→RmQ (fun x=>x=m.word T) k):RmM c T m' (tasks.set t o):=by
 have hs:rmS T m'.mem.log m'.mem.log.length=(fun th=>if th=(t:Int) then (m.mem.log.length:Int) else (rmS T m.mem.log m.mem.log.length).1 th,(rmS T m.mem.log m.mem.log.length).2):=by
  rw[hl,rmS_one]
  unfold rmNext
  rw[if_neg (by simp),if_pos rfl]
 refine⟨?_,?_⟩
 ·intro j e hj
  rw[hl]at hj ⊢
  by_cases hlj:j<m.mem.log.length
  ·rw[List.getElem?_append_left hlj]at hj
   exact(R.ok j e hj).app hlj
  ·rw[List.getElem?_append_right (by omega)]at hj
   have hm:=Yc hj
   rw[List.mem_singleton]at hm
   subst hm
   exact⟨by simp only[];omega,ht,fun _=>.inl rfl⟩
 ·intro j k hk
  by_cases hj:j=t
  ·subst hj
   have hlt:=(List.getElem?_eq_some_iff.1 hk).1
   simp only[List.length_set]at hlt
   rw[Ye hlt]at hk
   cases hk
   refine(h k rfl).imp fun u hu => ?_
   unfold rmP
   intro _
   rw[hw,hu]
  ·rw[ZX hj]at hk
   refine(R.task j k hk).imp fun u hu => ?_
   unfold rmP at hu ⊢
   rw[hs,hw]
   simp only[]
   rw[if_neg (by omega)]
   exact hu
theorem RmM.swap (R:RmM c T m tasks)(ht:(t:Int)<c.T){mv o' z:Int}{k0:Zm}(hk0:tasks[t]? = some (some k0))(hP:∀P,RmQ P k0→P o')(hl:m'.mem.log=m.mem.log++[⟨mv,t,3,T,o',z,m.word T⟩])
  (hw:m'.word T=if m.word T=o' then z else m.word T) {o:Option Zm} (h:∀k P,o=some k→RmQ P k):RmM c T m' (tasks.set t o):=by
 have hs:rmS T m'.mem.log m'.mem.log.length=if m.word T=o' then ((rmS T m.mem.log m.mem.log.length).1,(m.mem.log.length:Int)) else rmS T m.mem.log m.mem.log.length:=by
  rw[hl,rmS_one]
  unfold rmNext
  rw[if_neg (by simp),if_neg (by simp)]
 refine⟨?_,?_⟩
 ·intro j e hj
  rw[hl]at hj ⊢
  by_cases hlj:j<m.mem.log.length
  ·rw[List.getElem?_append_left hlj]at hj
   exact(R.ok j e hj).app hlj
  ·rw[List.getElem?_append_right (by omega)]at hj
   have hm:=Yc hj
   rw[List.mem_singleton]at hm
   have hj0:j=m.mem.log.length:=by
    have:=(List.getElem?_eq_some_iff.1 hj).1
    simp at this
    omega
   subst hm
   subst hj0
   refine⟨by simp only[];omega,ht,fun _=>.inr ⟨rfl,?_⟩⟩
   by_cases hu:m.word T=o'
   ·exact .inl hu
   ·refine .inr ?_
    rw[rmS_app _ (Nat.le_refl _)]
    have:=hP _ (R.task t k0 hk0)
    unfold rmP at this
    by_cases hlt:(rmS T m.mem.log m.mem.log.length).2<(rmS T m.mem.log m.mem.log.length).1 t
    ·exact absurd (this hlt) hu
    ·simp only[];omega
 ·intro j k hk
  by_cases hj:j=t
  ·subst hj
   have hlt:=(List.getElem?_eq_some_iff.1 hk).1
   simp only[List.length_set]at hlt
   rw[Ye hlt]at hk
   cases hk
   exact h k _ rfl
  ·rw[ZX hj]at hk
   refine(R.task j k hk).imp fun u hu => ?_
   unfold rmP at hu ⊢
   rw[hs,hw]
   by_cases hu2:m.word T=o'
   ·rw[if_pos hu2]
    intro hlt
    have:=rmS_le (T:=T) (lg:=m.mem.log) (j:Int) m.mem.log.length
    simp only[]at hlt
    omega
   ·rw[if_neg hu2,if_neg hu2]
    exact hu
end
end
section
def hzP (b now:Int):Zm→Prop
 | .hz k=>RdP b now k
 | _=>True
section
variable {c:Cfg}{L S N:Nat}{h:Haz}{a:Are}{m:Mch}{i t:Nat}{cl:Cll}{se:Sea}
theorem top_qok (hc:c.Ok):QOk c (fun j=>j≠adr c 3 0):=⟨fun j hj e=>by
 have:=QQ hc 3 (Int.le_refl 0)
 have h2:=hj.2
 subst e
 omega⟩
theorem lq_ne (hc:c.Ok){j:Nat}(h:HzA c j):j≠adr c 3 0:=(top_qok hc).q j h
theorem val_ne (hc:c.Ok){i:Int}(h0:0≤i):adr c 11 i≠adr c 3 0:=by
 have e1:=QQ hc 11 h0
 have e2:=QQ hc 3 (Int.le_refl 0)
 have:=hc.S1
 have:=hc.R1
 obtain⟨b1,b2,b8,b9,b10,b11,b12,b13,b14,rh,rh2,b3⟩:=QI hc
 omega
theorem link_ne (hc:c.Ok){i:Int}(h0:0≤i):adr c 13 i≠adr c 3 0:=by
 have e1:=QQ hc 13 h0
 have e2:=QQ hc 3 (Int.le_refl 0)
 have:=hc.S1
 have:=hc.R1
 obtain⟨b1,b2,b8,b9,b10,b11,b12,b13,b14,rh,rh2,b3⟩:=QI hc
 omega
inductive TEf (T:Nat) (m:Mch) (k:Zm) (b:Bool) (m':Mch) (k':Zm):Prop where
 | quiet:Nt (fun j=>j≠T) m m'→(∀P,RmQ P k→b=false→RmQ P k')→TEf T m k b m' k'
 | load (mv:Int):m'.mem.log=m.mem.log++[⟨mv,m.thread,1,T,0,0,m.word T⟩]→m'.word T=m.word T→(b=false→RmQ (fun x=>x=m.word T) k')→TEf T m k b m' k'
 | swap (mv o z:Int):(∀P,RmQ P k→P o)→m'.mem.log=m.mem.log++[⟨mv,m.thread,3,T,o,z,m.word T⟩]→m'.word T=(if m.word T=o then z else m.word T)→(b=false→∀P,RmQ P k')→TEf T m k b m' k'
theorem swap_word {T:Nat}{u o z:Int}(hT:T<m.mem.words.length)(hu:m.word T=u):(m.swap T u o z).word T=if u=o then z else u:=by
 unfold Mch.word Mch.swap
 by_cases h:u=o
 ·simp only[if_pos h]
  rw[Yb,Ye hT]
  rfl
 ·simp only[if_neg h]
  exact hu
theorem Core.topL (C:Core c L S N h a m):adr c 3 0<m.mem.words.length:=by
 have:=top_lt C.ok
 rw[C.words]
 omega
theorem rm_rdy {k:Zm}(C:Core c L S N h a m)(ht:(t:Int)<c.T)(I:SI c t false (h.held.getD t 0) (a.caches.getD t []) k)(hci:ZG m i t cl se)(hb:cl.begin_<m.now)(hp:hzP cl.begin_ m.now k) :
  Nt (fun j=>j≠adr c 3 0) m (QV (h,a) m i t cl se k).2.2.1∧(∀P,RmQ P k→RmQ P (QV (h,a) m i t cl se k).2.2.2)∧hzP cl.begin_ m.now (QV (h,a) m i t cl se k).2.2.2:=by
 haveI:=top_qok C.ok
 cases k with
 | hz k=>exact⟨evq_nt (evq_rdy (Q:=fun j=>j≠adr c 3 0) (i:=i) C ht I hci.call hci.seat hb),fun _ _=>trivial,rdp_rdy (cl:=cl) hp⟩
 | psh p=>
  have htk:∀k,(Zg a m k).2.2.1.mem=m.mem:=by
   intro k;unfold Zg;simp only[];split<;>rfl
  simp only[QV]
  unfold QF
  simp only[]
  split
  ·unfold ZZ
   split
   ·exact⟨Nt.of (htk _) (ZN ..).thread,fun _ _ hf=>by simp at hf,trivial⟩
   ·exact⟨Nt.of (htk _) (ZN ..).thread,fun _ _ hf=>by simp at hf,trivial⟩
  ·exact⟨Nt.of (htk _) (ZN ..).thread,fun _ _ hf=>by simp at hf,trivial⟩
 | pop p=>exact⟨Nt.refl ..,fun _ _ hf=>by simp at hf,trivial⟩
theorem rm_seen {p:Po}{m':Mch}(b:Bool)(hl:m'.mem=(m.load (adr c 3 0) (m.word (adr c 3 0))).mem)(hp:p.top=m.word (adr c 3 0)){k:Zm} :
  TEf (adr c 3 0) m k b (Z4 m' i t cl se p).2.1 (.pop (Z4 m' i t cl se p).2.2):=by
 have hm:(Z4 m' i t cl se p).2.1.mem=m'.mem:=by unfold Z4;split<;>rfl
 refine .load m.mem.move (by rw[hm,hl];rfl) (by unfold Mch.word;rw[hm,hl];rfl) (fun _ => ?_)
 unfold Z4
 split
 ·exact fun _ _=>hp
 ·exact fun _ h5=>by simp at h5
theorem rm_stp {k:Zm}(C:Core c L S N h a m)(hN:N<1000000)(ht:(t:Int)<c.T)(I:SI c t true (h.held.getD t 0) (a.caches.getD t []) k)(hci:ZG m i t cl se)(hb:cl.begin_<m.now)(hp:hzP cl.begin_ m.now k)(hu:m.used=false) :
  TEf (adr c 3 0) m k (Qm (h,a) m i t cl se k).1 (Qm (h,a) m i t cl se k).2.2.1 (Qm (h,a) m i t cl se k).2.2.2∧hzP cl.begin_ m.now (Qm (h,a) m i t cl se k).2.2.2:=by
 haveI:=top_qok C.ok
 have hok:=C.ok
 have hc:=C.hc
 have hTl:=C.topL
 cases k with
 | hz k=>exact⟨.quiet (evq_nt (evq_stp (Q:=fun j=>j≠adr c 3 0) (i:=i) C ht I hci.call hci.seat hb hp hu (fun r hr h3=>by
   subst hr
   have I:RdI c r:=I
   have:=I.w (by omega)
   exact val_ne hok (by omega)) (fun p hp' h1=>by
   subst hp'
   have I:=I.2.2.1 rfl
   obtain⟨kk,hkk,_,k1⟩:=I.take
   obtain⟨g1,g2,g3⟩:=k1 (.inl h1)
   exact val_ne hok (by omega)))) (fun _ _ _=>trivial),rdp_stp hb hp⟩
 | psh p=>
  refine⟨?_,trivial⟩
  obtain⟨i1,i2,i3⟩:=I
  obtain⟨j1,j2,j3,j4⟩:=i3 rfl
  simp only[Qm]
  unfold Jf
  rw[hc]
  simp only[]
  by_cases s1:p.stage=1
  ·rw[if_pos s1]
   have Ev:=evq_nt (evq_take (Q:=fun j=>j≠adr c 3 0) (i:=i) (t:=t) C (j2 s1) hu)
   unfold puTake
   simp only[]at Ev ⊢
   generalize Zj a m p.take=r at Ev ⊢
   split
   ·unfold ZZ
    split
    ·exact .quiet (Ev.trans (Nt.of rfl rfl)) (fun _ _ hf=>(by cases hf))
    ·exact .quiet Ev (fun _ _ _ hf=>by simp at hf)
   ·exact .quiet Ev (fun _ _ _ hf=>by simp only[s1]at hf;omega)
  rw[if_neg s1]
  obtain⟨g1,g2⟩:=j3 s1
  by_cases s2:p.stage=2
  ·rw[if_pos s2]
   exact .quiet (nt_store (Q:=fun j=>j≠adr c 3 0) _ (val_ne hok g1) _ _) (fun _ _ _ hf=>by simp at hf)
  rw[if_neg s2]
  by_cases s3:p.stage=3
  ·rw[if_pos s3]
   exact .load m.mem.move rfl rfl (fun _ _=>rfl)
  rw[if_neg s3]
  by_cases s4:p.stage=4
  ·rw[if_pos s4]
   exact .quiet (nt_store (Q:=fun j=>j≠adr c 3 0) _ (link_ne hok g1) _ _) (fun P hP _ _=>hP (.inl s4))
  rw[if_neg s4]
  have s5:p.stage=5:=by omega
  split
  ·rename_i he
   unfold puDone
   refine .swap m.mem.move p.top (p.slot+1) (fun P hP=>hP (.inr s5)) rfl ?_ (fun hf=>(by cases hf))
   exact swap_word hTl rfl
  ·rename_i he
   refine .swap m.mem.move p.top (p.slot+1) (fun P hP=>hP (.inr s5)) rfl ?_ (fun _ _ hf=>by simp at hf)
   exact swap_word hTl rfl
 | pop p=>
  refine⟨?_,trivial⟩
  obtain⟨i1,i2,i3⟩:=I
  obtain⟨j1,j2,j3,j4⟩:=i3 rfl
  obtain⟨hr1,_⟩:=C.hget ht
  have hza:=hz_adr hok i2 hr1 (Int.le_refl 0) (by have:=hok.H1;omega)
  have hAd:poHz h p=(base c 9+h.held.getD t 0*c.Hz+0).toNat:=by
   unfold poHz
   rw[i1,hc,Yo]
  have hHz:poHz h p≠adr c 3 0:=by rw[hAd];exact lq_ne hok (hz_lq hok hza.1 hza.2)
  simp only[Qm]
  unfold QX
  rw[hc]
  simp only[]
  by_cases s1:p.stage=1
  ·rw[if_pos s1]
   exact rm_seen _ rfl rfl
  rw[if_neg s1]
  by_cases s2:p.stage=2
  ·rw[if_pos s2]
   exact .quiet (nt_store (Q:=fun j=>j≠adr c 3 0) _ hHz _ _) (fun P hP _ _ _=>hP (by omega) (by omega))
  rw[if_neg s2]
  by_cases s3:p.stage=3
  ·rw[if_pos s3]
   split
   ·rename_i he
    exact .load m.mem.move rfl rfl (fun _ _ _=>he.symm)
   ·exact rm_seen _ rfl rfl
  rw[if_neg s3]
  by_cases s4:p.stage=4
  ·rw[if_pos s4]
   have hT:=j2 (by omega) (by omega)
   exact .quiet (nt_load (Q:=fun j=>j≠adr c 3 0) _ (link_ne hok (by omega)) _) (fun P hP _ _ _=>hP (by omega) (by omega))
  rw[if_neg s4]
  by_cases s5:p.stage=5
  ·rw[if_pos s5]
   split
   ·refine .swap m.mem.move p.top p.behind (fun P hP=>hP (by omega) (by omega)) rfl ?_ (fun _ _ _ hf=>by simp at hf)
    exact swap_word hTl rfl
   ·refine .swap m.mem.move p.top p.behind (fun P hP=>hP (by omega) (by omega)) rfl ?_ (fun _ _ hf=>by simp at hf)
    exact swap_word hTl rfl
  rw[if_neg s5]
  by_cases s6:p.stage=6
  ·rw[if_pos s6]
   have hT:=j2 (by omega) (by omega)
   exact .quiet (nt_load (Q:=fun j=>j≠adr c 3 0) _ (val_ne hok (by omega)) _) (fun _ _ _ _ hf=>by simp at hf)
  rw[if_neg s6]
  by_cases s7:p.stage=7
  ·rw[if_pos s7]
   refine .quiet ?_ (fun _ _ _ _ hf=>by simp at hf)
   refine(nt_store (Q:=fun j=>j≠adr c 3 0) (poHz h p) hHz (m.word (poHz h p)) 0).trans ?_
   unfold Zv
   simp only[]
   split<;>exact Nt.of rfl rfl
  rw[if_neg s7]
  by_cases s8:p.stage=8
  ·rw[if_pos s8]
   exact .quiet (nt_store (Q:=fun j=>j≠adr c 3 0) _ hHz _ _) (fun _ _ hf=>(by cases hf))
  rw[if_neg s8]
  have s9:p.stage=9:=by clear j4;omega
  obtain⟨r,sc,e1,e2,e3,e4⟩:=j4 s9
  rw[e1]
  simp only[e2]
  exact .quiet (evq_nt (evq_scan (Q:=fun j=>j≠adr c 3 0) (i:=i) (t:=t) C e3 hu)) (fun _ _ _ (_:2≤p.stage) (h5:p.stage≤5)=>absurd h5 (by rw[s9];decide))
end
end
section
section
variable {m:Mch}{i t:Nat}{c:Cll}{s:Sea}{h:Haz}{a:Are}
theorem cur_point (hc:ZG m i t c s)(z:Int):ZG (m.point i c z) i t { c with point:=z } s:=
 ⟨hc.cur,Ye (List.getElem?_eq_some_iff.1 hc.call).1,hc.seat⟩
theorem cur_answer (hc:ZG m i t c s)(k v:Int):ZG (m.answer t s k v) i t c { s with kind:=k,value:=v } :=
 ⟨hc.cur,hc.call,Ye (List.getElem?_eq_some_iff.1 hc.seat).1⟩
theorem cur_both (hc:ZG m i t c s)(z k v:Int):ZG ((m.point i c z).answer t s k v) i t { c with point:=z } { s with kind:=k,value:=v } :=
 cur_answer (cur_point hc z) k v
end
theorem ZG.same {m:Mch}{i t:Nat}{c c':Cll}{s s':Sea}(h:ZG m i t c s)(h':ZG m i t c' s'):c'=c∧s'=s:=by
 have h1:=h.call
 have h2:=h.seat
 rw[h'.call]at h1
 rw[h'.seat]at h2
 cases h1;cases h2
 exact⟨rfl,rfl⟩
theorem sTask_op {s:Haz×Are}{t:Nat}{mv:Mv}{k:Zm}(h:sTask s t mv=some k):match k with
  | .hz _=>mv.op≠30∧mv.op≠31
  | .psh p=>mv.op=30∧p.value=mv.arg∧p.stage=0
  | .pop p=>mv.op=31∧p.stage=0:=by
 unfold sTask at h
 split at h
 ·unfold stkTask at h
  split at h
  ·rename_i e
   split at h
   ·cases h
   ·cases h
    exact⟨e,rfl,rfl⟩
  ·split at h
   ·rename_i e
    split at h
    ·cases h
    ·cases h
     exact⟨e,rfl⟩
   ·cases h
 ·rename_i hn
  cases hq:Z9 s t mv with
  | none=>rw[hq]at h;cases h
  | some q=>
   rw[hq]at h
   cases h
   exact⟨fun e=>hn (.inl e),fun e=>hn (.inr e)⟩
end
section
theorem rdp_mono {b n n':Int}{k:Qd}(h:RdP b n k)(hn:n≤n'):RdP b n' k:=by
 cases k with
 | rdg r=>exact fun h3=>⟨(h h3).1,by have:=(h h3).2;omega⟩
 | _=>exact trivial
theorem hzP_mono {b n n':Int}{k:Zm}(h:hzP b n k)(hn:n≤n'):hzP b n' k:=by
 cases k with
 | hz k=>exact rdp_mono h hn
 | _=>exact trivial
theorem rdp_made {s:Haz×Are}{t:Nat}{mv:Mv}{k:Qd}{b n:Int}(h:Z9 s t mv=some k):RdP b n k:=by
 unfold Z9 at h
 repeat' split at h
 all_goals first
  | (cases h;done)
  | (cases h;exact trivial)
  | (cases h;exact fun h3=>by simp at h3)
theorem hzP_made {s:Haz×Are}{t:Nat}{mv:Mv}{k:Zm}{b n:Int}(h:sTask s t mv=some k):hzP b n k:=by
 cases k with
 | hz k=>
  unfold sTask at h
  split at h
  ·unfold stkTask at h
   repeat' split at h
   all_goals cases h
  ·cases hq:Z9 s t mv with
   | none=>rw[hq]at h;cases h
   | some q=>
    rw[hq]at h
    cases h
    exact rdp_made hq
 | _=>exact trivial
section
variable {τ:Type}{y:GW τ}
theorem RunG.mono {B B':Nat→Cll→Sea→τ→Prop}{E:Cll→Prop}(R:RunG B E y)(h:∀t cl se k,B t cl se k→B' t cl se k):RunG B' E y:=by
 refine⟨fun t k se hk hse => ?_,R.ended⟩
 obtain⟨i,cl,a1,a2,a3,a4,a5⟩:=R.busy t k se hk hse
 exact⟨i,cl,a1,a2,a3,a4,h _ _ _ _ a5⟩
end
def begB (n:Int)(_:Nat)(cl:Cll)(_:Sea)(k:Zm):Prop:=cl.begin_<n∧hzP cl.begin_ n k
theorem begB_mono {n n':Int}(hn:n≤n')(t:Nat)(cl:Cll)(se:Sea)(k:Zm)(h:begB n t cl se k):begB n' t cl se k:=⟨by have:=h.1;omega,hzP_mono h.2 hn⟩
structure RmJ (c:Cfg)(n:Nat)(y:GW Zm):Prop where
 run:RunG (begB n) (fun _=>True) y
 rm:RmM c (adr c 3 0) y.m y.tasks
theorem RmM.mem {c:Cfg}{T:Nat}{m m':Mch}{tasks:List (Option Zm)}(R:RmM c T m tasks)(h1:m'.mem.log=m.mem.log)(h2:m'.mem.words=m.mem.words):RmM c T m' tasks:=by
 refine⟨by rw[h1];exact R.ok,fun t k hk=>(R.task t k hk).imp fun u hu => ?_⟩
 unfold rmP Mch.word at hu ⊢
 rw[h1,h2]
 exact hu
theorem rm_start (c:Cfg)(km:Nat)(vs:Value):RmJ c 0 (gst0 Zm c km vs):=by
 have hk:∀(t:Nat) (k:Zm),(gst0 Zm c km vs).tasks[t]? = some (some k)→False:=by
  intro t k hk
  simp only[gst0,List.getElem?_replicate]at hk
  split at hk<;>simp at hk
 refine⟨⟨fun t k se h _=>(hk t k h).elim,fun cl hcl=>by simp[gst0,mch0]at hcl⟩,fun j e h=>by simp[gst0,mch0]at h,fun t k h=>(hk t k h).elim⟩
theorem rm_ok (c:Cfg)(bh ba:Nat)(CX:Zc):JG (skT bh ba CX) sTask (SI c) c sOps (RmJ c):=by
 refine⟨?_,?_,?_⟩
 ·intro n y hn P R
  exact⟨(R.run.mono (begB_mono (by omega))).tick,R.rm.mem rfl rfl⟩
 ·intro n y mv t k v vc hn P R ht htT hop hk hm
  have hmv:y.m.moves=(n:Int):=P.moves
  refine⟨(R.run.mono (begB_mono (by omega))).begin ht hk (P.tasks.trans P.seats.symm) ⟨by simp only[];omega,hzP_made hm⟩,?_⟩
  have M:RmM c (adr c 3 0) (ZC y.m t mv v vc) y.tasks:=R.rm.mem rfl rfl
  refine M.set (fun k' hk' => ?_)
  cases hk'
  have:=sTask_op hm
  cases k with
  | hz k=>trivial
  | psh p=>exact fun hf=>by rw[this.2.2]at hf;omega
  | pop p=>exact fun hf _=>by rw[this.2]at hf;omega
 ·intro n y t i cl se k r1 r2 hn P G P' R
  obtain⟨z,q,v,O⟩:=G.out P
  obtain⟨i0,cl0,a1,a2,a3,a4,hb,hp⟩:=R.run.busy t k se G.hk G.hse
  have hi0:i0=i:=by have:=G.hl;omega
  subst hi0
  have hcl:cl0=cl:=by have:=G.hc;rw[a2]at this;cases this;rfl
  subst hcl
  have hlt:=(List.getElem?_eq_some_iff.1 G.hse).1
  have hlk:=(List.getElem?_eq_some_iff.1 G.hk).1
  have hci:ZG (QC y t i0 se) i0 t cl0 { se with ready:=true }:=⟨rfl,G.hc,by simp[QC,Mch.prep,Wst.tick,hlt]⟩
  have hmv:y.m.moves=(n:Int):=P.moves
  have hM0:RmM c (adr c 3 0) (QC y t i0 se) y.tasks:=R.rm.mem rfl rfl
  have hnow0:(QC y t i0 se).now=(n:Int):=hmv
  have hth0:(QC y t i0 se).thread=(t:Int):=rfl
  have T0:(0:Int)≤(t:Int):=by omega
  have H1:RmM c (adr c 3 0) r1.2.2.1 (y.tasks.set t (some r1.2.2.2))∧hzP cl0.begin_ n r1.2.2.2:=by
   rcases G.rdy with⟨hf,e⟩|⟨_,e⟩
   ·have hI:=G.i0
    rw[hf]at hI
    obtain⟨N1,N2,N3⟩:=rm_rdy (i:=i0) (cl:=cl0) (se:={ se with ready:=true }) G.c0 G.htT hI hci (by rw[hnow0];exact hb) (by rw[hnow0];exact hp)
    rw[e]
    rw[hnow0]at N3
    refine⟨(hM0.quiet N1 (by rw[hth0];exact T0) (by rw[hth0];exact G.htT)).set (fun k' hk' => ?_),N3⟩
    cases hk'
    exact N2 _ ((hM0.quiet N1 (by rw[hth0];exact T0) (by rw[hth0];exact G.htT)).task t k G.hk)
   ·rw[e]
    refine⟨hM0.set (fun k' hk' => ?_),hp⟩
    cases hk'
    exact hM0.task t k G.hk
  obtain⟨M1,hp1⟩:=H1
  have hnow1:r1.2.2.1.now=(n:Int):=by rw[G.h1.frame.now];exact hmv
  have hth1:r1.2.2.1.thread=(t:Int):=G.h1.frame.thread
  have H2:RmM c (adr c 3 0) r2.2.2.1 (y.tasks.set t (if r2.1=true then none else some r2.2.2.2))∧hzP cl0.begin_ n r2.2.2.2:=by
   rcases G.stp with⟨hb1,e⟩|⟨hb1,z1,q1,v1,hcu,e⟩
   ·rw[e,if_pos hb1]
    have:=M1.set (t:=t) (o:=none) (fun k' hk'=>by cases hk')
    rw[Yl]at this
    exact⟨this,hp1⟩
   ·have hI:=G.h1.fin hb1
    obtain⟨X,Y⟩:=rm_stp (i:=i0) (cl:={ cl0 with point:=z1 }) (se:={ se with ready:=true,kind:=q1,value:=v1 }) G.h1.core (by omega) G.htT hI hcu (by rw[hnow1];exact hb) (by rw[hnow1];exact hp1) G.used1
    rw[hnow1]at Y
    have e':r2=Qm (r1.2.1.1,r1.2.1.2) r1.2.2.1 i0 t { cl0 with point:=z1 } { se with ready:=true,kind:=q1,value:=v1 } r1.2.2.2:=e
    rw[←e']at X Y
    refine⟨?_,Y⟩
    have hk1:(y.tasks.set t (some r1.2.2.2))[t]? = some (some r1.2.2.2):=Ye hlk
    have ho:∀k',(if r2.1=true then none else some r2.2.2.2)=some k'→r2.1=false∧k'=r2.2.2.2:=by
     intro k' hk'
     by_cases h:r2.1=true
     ·rw[if_pos h]at hk';cases hk'
     ·rw[if_neg h]at hk'
      cases hk'
      exact⟨by simpa using h,rfl⟩
    have fin:∀(tk:List (Option Zm)),RmM c (adr c 3 0) r2.2.2.1 ((y.tasks.set t (some r1.2.2.2)).set t (if r2.1=true then none else some r2.2.2.2))→RmM c (adr c 3 0) r2.2.2.1 (y.tasks.set t (if r2.1=true then none else some r2.2.2.2)):=by
     intro _ h
     rw[Yl]at h
     exact h
    refine fin [] ?_
    cases X with
    | quiet N1 N2=>
     have M2:=M1.quiet N1 (by rw[hth1];exact T0) (by rw[hth1];exact G.htT)
     refine M2.set (fun k' hk' => ?_)
     obtain⟨h1,rfl⟩:=ho k' hk'
     exact N2 _ (M2.task t _ hk1) h1
    | load mv hl hw hq=>
     rw[hth1]at hl
     refine M1.load G.htT hl hw (fun k' hk' => ?_)
     obtain⟨h1,rfl⟩:=ho k' hk'
     exact hq h1
    | swap mv o z' hP hl hw hq=>
     rw[hth1]at hl
     refine M1.swap G.htT hk1 hP hl hw (fun k' P hk' => ?_)
     obtain⟨h1,rfl⟩:=ho k' hk'
     exact hq h1 P
  refine⟨?_,?_⟩
  ·refine(R.run.mono (begB_mono (n':=((n+1:Nat):Int)) (by omega))).step P G O (fun _ => ?_) (fun _=>trivial)
   exact⟨by simp only[];omega,hzP_mono H2.2 (by omega)⟩
  ·exact H2.1.mem (by rw[O.mem]) (by rw[O.mem])
end
end Go.Proofs.YtjagadldibbbbaaGreat
