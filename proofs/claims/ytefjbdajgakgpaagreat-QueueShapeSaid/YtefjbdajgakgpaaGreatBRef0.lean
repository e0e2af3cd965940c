import Derived.Test.YtefjbdajgakgpaaGreatBGHis
import Derived.Test.YtefjbdajgakgpaaGreatBRs5
set_option linter.all false
namespace Go.Proofs.YtefjbdajgakgpaaGreat
open Go.RowKit Hp
set_option maxRecDepth 100000
set_option maxHeartbeats 1000000
attribute [local irreducible] Go.Calls
section
def qAll (_:Nat):Prop:=True
section
variable {c:Cfg}{L S N:Nat}{h:Haz}{a:Are}{m m':Mch}{i t:Nat}{cl:Cll}{se:Sea}
instance qAll_ok (c:Cfg):QOk c qAll:=⟨fun _ _=>trivial⟩
theorem evq_ptTaken {p:Pt}(hcl:m'.calls[i]? = some cl)(hse:m'.seats[t]? = some se)(hb:cl.begin_<m'.now):EvQ qAll i t (h,a,m') (h,a,(Z4 m' i t cl se p).2.1):=by
 unfold Z4
 split
 ·exact(EvQ.point cl _ hcl hb (Int.le_refl _)).trans (EvQ.answer (m:=m'.point _ _ _) se 4 0 hse (by omega) (by omega) (fun _=>rfl))
 ·exact .refl _
theorem evq_ptReady {p:Pt}(C:Core c L S N h a m)(t0:0≤p.take.thread)(t1:p.take.thread<c.T)(hcl:m.calls[i]? = some cl)(hse:m.seats[t]? = some se)(hb:cl.begin_<m.now) :
  EvQ qAll i t (h,a,m) (h,(Z2 h a m i t cl se p).2.1,(Z2 h a m i t cl se p).2.2.1):=by
 have E:=evq_takeReady (Q:=qAll) (i:=i) (t:=t) (k:=p.take) C t0 t1
 have Sm:=Z9 a m p.take
 unfold Z2
 simp only[]
 split
 ·exact E.trans (evq_ptTaken (by rw[Sm.calls];exact hcl) (by rw[Sm.seats];exact hse) (by rw[Sm.now];exact hb))
 ·exact E
theorem qhz_lt (C:Core c L S N h a m)(ht:(t:Int)<c.T){th k:Int}(hu:th=(t:Int))(hd:0≤h.held.getD t 0)(k0:0≤k)(k1:k≤1):qHz h th k<m.mem.words.length∧qAll (qHz h th k):=by
 have hok:=C.ok
 obtain⟨hr1,_⟩:=C.hget ht
 have hza:=hz_adr hok hd hr1 k0 (by have:=hok.H1;omega)
 have:qHz h th k=(base c 9+h.held.getD t 0*c.Hz+k).toNat:=by
  unfold qHz
  rw[hu,C.hc,Yo]
 rw[this]
 exact C.lq (hz_lq hok hza.1 hza.2)
theorem evq_put {p:Pt}(C:Core c L S N h a m)(ht:(t:Int)<c.T)(hu:p.thread=(t:Int))(hd:0≤h.held.getD t 0)(I:PtI c p)(hcl:m.calls[i]? = some cl)(hse:m.seats[t]? = some se)(hb:cl.begin_<m.now)(hus:m.used=false) :
  EvQ qAll i t (h,a,m) (h,(QJ h a m i t cl se p).2.1,(QJ h a m i t cl se p).2.2.1):=by
 have hok:=C.ok
 have hc:=C.hc
 have hac:=C.ac
 have hZ:=qhz_lt (m:=m) (th:=p.thread) (k:=0) C ht hu hd (by omega) (by omega)
 have h5:adr c 5 0<m.mem.words.length∧qAll (adr c 5 0):=⟨C.lt (adr5_lt hok),trivial⟩
 have hV:∀r:Nat,(r=11∨r=13)→∀s,0≤s→s<c.Sl→adr c r s<m.mem.words.length∧qAll (adr c r s):=fun r hr s s0 s1=>⟨C.lt (adr_lt' hok (r:=r) (.inr ⟨by rcases hr with rfl|rfl<;>simp,rfl⟩) s0 s1),trivial⟩
 obtain⟨i1,i2,i3,i4,i5⟩:=I
 unfold QJ
 rw[hc]
 simp only[]
 by_cases s1:p.stage=1
 ·rw[if_pos s1]
  have E:=evq_take (Q:=qAll) (i:=i) (t:=t) C (i2 s1) hus
  have Sm:=same_take a m p.take
  unfold ptTake
  simp only[]
  split
  ·exact E.trans (evq_ptTaken (by rw[Sm.calls];exact hcl) (by rw[Sm.seats];exact hse) (by rw[Sm.now];exact hb))
  ·exact E
 rw[if_neg s1]
 obtain⟨g1,g2⟩:=i3 s1
 by_cases s2:p.stage=2
 ·rw[if_pos s2];exact .store _ _ hus (hV 11 (.inl rfl) _ g1 g2)
 rw[if_neg s2]
 by_cases s3:p.stage=3
 ·rw[if_pos s3];exact .store _ _ hus (hV 13 (.inr rfl) _ g1 g2)
 rw[if_neg s3]
 by_cases s4:p.stage=4
 ·rw[if_pos s4];exact .load _ hus h5
 rw[if_neg s4]
 have hT:=i4 (by omega)
 have hK:=hV 13 (.inr rfl) (p.t-1) (by omega) (by omega)
 by_cases s5:p.stage=5
 ·rw[if_pos s5];exact .store _ _ hus hZ
 rw[if_neg s5]
 by_cases s6:p.stage=6
 ·rw[if_pos s6];exact .load _ hus h5
 rw[if_neg s6]
 by_cases s7:p.stage=7
 ·rw[if_pos s7];exact .load _ hus hK
 rw[if_neg s7]
 by_cases s8:p.stage=8
 ·rw[if_pos s8]
  split
  ·exact(EvQ.swap _ _ _ hus hK).trans ((EvQ.point (m:=m.swap _ _ _ _) cl m.now hcl hb (Int.le_refl _)).trans (EvQ.shift (m:=(m.swap _ _ _ _).point _ _ _) p.slot 3 g1 (by rw[hac];exact g2) (by omega) (by omega)))
  ·exact .swap _ _ _ hus hK
 rw[if_neg s8]
 by_cases s9:p.stage=9
 ·rw[if_pos s9];exact .swap _ _ _ hus h5
 rw[if_neg s9]
 by_cases s10:p.stage=10
 ·rw[if_pos s10]
  exact(EvQ.store _ 0 hus hZ).trans (EvQ.answer (m:=m.store _ _ _) se 1 0 hse (by omega) (by omega) (fun _=>rfl))
 rw[if_neg s10]
 exact .swap _ _ _ hus h5
theorem evq_get {p:Gt}(C:Core c L S N h a m)(ht:(t:Int)<c.T)(hu:p.thread=(t:Int))(hd:0≤h.held.getD t 0)(I:GtI c p)(hcl:m.calls[i]? = some cl)(hse:m.seats[t]? = some se)(hb:cl.begin_<m.now)(hus:m.used=false) :
  EvQ qAll i t (h,a,m) ((QE h a m i t cl se p).2.1,(QE h a m i t cl se p).2.2.1,(QE h a m i t cl se p).2.2.2.1):=by
 have hok:=C.ok
 have hc:=C.hc
 have hac:=C.ac
 have hZ:∀k,0≤k→k≤1→qHz h p.thread k<m.mem.words.length∧qAll (qHz h p.thread k):=fun k k0 k1=>qhz_lt C ht hu hd k0 k1
 have h5:adr c 5 0<m.mem.words.length∧qAll (adr c 5 0):=⟨C.lt (adr5_lt hok),trivial⟩
 have h4:adr c 4 0<m.mem.words.length∧qAll (adr c 4 0):=⟨C.lt (adr4_lt hok),trivial⟩
 have hV:∀r:Nat,(r=11∨r=13)→∀s,0≤s→s<c.Sl→adr c r s<m.mem.words.length∧qAll (adr c r s):=fun r hr s s0 s1=>⟨C.lt (adr_lt' hok (r:=r) (.inr ⟨by rcases hr with rfl|rfl<;>simp,rfl⟩) s0 s1),trivial⟩
 have i7:=Lh I.ret
 obtain⟨i1,i2,i3,i4,i5,i6,_⟩:=I
 unfold QE
 rw[hc]
 simp only[]
 by_cases s1:p.stage=1
 ·rw[if_pos s1];exact .load _ hus h4
 rw[if_neg s1]
 have h0:=i2 (by omega)
 have hK:=hV 13 (.inr rfl) (p.h0-1) (by omega) (by omega)
 by_cases s2:p.stage=2
 ·rw[if_pos s2];exact .store _ _ hus (hZ 0 (by omega) (by omega))
 rw[if_neg s2]
 by_cases s3:p.stage=3
 ·rw[if_pos s3];exact .load _ hus h4
 rw[if_neg s3]
 by_cases s4:p.stage=4
 ·rw[if_pos s4];exact .load _ hus h5
 rw[if_neg s4]
 by_cases s5:p.stage=5
 ·rw[if_pos s5]
  split
  ·exact .load _ hus hK
  ·exact(EvQ.load _ hus hK).trans ((EvQ.point (m:=m.load _ _) cl m.now hcl hb (Int.le_refl _)).trans (EvQ.answer (m:=(m.load _ _).point _ _ _) se 3 0 hse (by omega) (by omega) (fun _=>rfl)))
 rw[if_neg s5]
 by_cases s6:p.stage=6
 ·rw[if_pos s6];exact .store _ _ hus (hZ 1 (by omega) (by omega))
 rw[if_neg s6]
 by_cases s7:p.stage=7
 ·rw[if_pos s7];exact .load _ hus h4
 rw[if_neg s7]
 by_cases s8:p.stage=8
 ·rw[if_pos s8];exact .swap _ _ _ hus h5
 rw[if_neg s8]
 by_cases s9:p.stage=9
 ·rw[if_pos s9]
  have hn:=i4 (by omega) (by omega)
  exact .load _ hus (hV 11 (.inl rfl) (p.n-1) (by omega) (by omega))
 rw[if_neg s9]
 by_cases s10:p.stage=10
 ·rw[if_pos s10]
  split
  ·exact(EvQ.swap _ _ _ hus h4).trans ((EvQ.point (m:=m.swap _ _ _ _) cl m.now hcl hb (Int.le_refl _)).trans (EvQ.shift (m:=(m.swap _ _ _ _).point _ _ _) (p.h0-1) 4 (by omega) (by rw[hac];omega) (by omega) (by omega)))
  ·exact .swap _ _ _ hus h4
 rw[if_neg s10]
 by_cases s11:p.stage=11
 ·rw[if_pos s11]
  have hcl':=i6 s11
  have hZc:=hZ p.cleared (by omega) (by omega)
  unfold gtEnd
  simp only[]
  split
  ·exact .store _ _ hus hZc
  ·split
   ·exact .store _ _ hus hZc
   ·have E1:EvQ qAll i t (h,a,m) (h,a,(m.store (qHz h p.thread p.cleared) (m.word (qHz h p.thread p.cleared)) 0).answer t se 2 p.value):=(EvQ.store _ 0 hus hZc).trans (EvQ.answer (m:=m.store _ _ _) se 2 p.value hse (by omega) (by omega) (fun hf=>absurd rfl hf))
    refine E1.trans ?_
    generalize (m.store (qHz h p.thread p.cleared) (m.word (qHz h p.thread p.cleared)) 0).answer t se 2 p.value=mw
    unfold Zx
    simp only[]
    split<;>exact(EvQ.shift (p.h0-1) 5 (by omega) (by rw[hac];omega) (by omega) (by omega)).trans (.haz _)
 rw[if_neg s11]
 have s12:p.stage=12:=by omega
 obtain⟨r,sc,e1,e2,e3,e4⟩:=i7.out s12
 rw[e1]
 simp only[e2]
 exact evq_scan (Q:=qAll) (i:=i) (t:=t) C e3 hus
theorem evq_qrdy {k:Zz}(C:Core c L S N h a m)(ht:(t:Int)<c.T)(I:QI c t false (h.held.getD t 0) (a.caches.getD t []) k)(hci:Z5 m i t cl se)(hb:cl.begin_<m.now) :
  EvQ qAll i t (h,a,m) ((Q9 (h,a) m i t cl se k).2.1.1,(Q9 (h,a) m i t cl se k).2.1.2,(Q9 (h,a) m i t cl se k).2.2.1):=by
 cases k with
 | hz k=>exact evq_rdy (Q:=qAll) (i:=i) C ht I hci.call hci.seat hb
 | put p=>
  obtain⟨i1,i2,i3,i4⟩:=I
  exact evq_ptReady C (by rw[(i3 rfl).1];simp only[];omega) (by rw[(i3 rfl).1];exact ht) hci.call hci.seat hb
 | get p=>exact .refl _
theorem evq_qstp {k:Zz}(C:Core c L S N h a m)(ht:(t:Int)<c.T)(I:QI c t true (h.held.getD t 0) (a.caches.getD t []) k)(hci:Z5 m i t cl se)(hb:cl.begin_<m.now)(hp:hzQ cl.begin_ m.now k)(hus:m.used=false) :
  EvQ qAll i t (h,a,m) ((Ji (h,a) m i t cl se k).2.1.1,(Ji (h,a) m i t cl se k).2.1.2,(Ji (h,a) m i t cl se k).2.2.1):=by
 cases k with
 | hz k=>exact evq_stp (Q:=qAll) (i:=i) C ht I hci.call hci.seat hb hp hus (fun _ _ _=>trivial) (fun _ _ _=>trivial)
 | put p=>
  obtain⟨i1,i2,i3,i4⟩:=I
  exact evq_put C ht i1 i2 (i4 rfl).1 hci.call hci.seat hb hus
 | get p=>
  obtain⟨i1,i2,i3,i4⟩:=I
  exact evq_get C ht i1 i2 (i4 rfl).1 hci.call hci.seat hb hus
end
section
variable {c:Cfg}{bh ba:Nat}{CX:Zb}{n:Nat}{y:GW Zz}{t i:Nat}{cl:Cll}{se:Sea}{k:Zz}{r1 r2:GR Zz}
theorem QB.evq (R:QB n y)(P:PM (QM c) (QI c) c n y)(G:GStepM (QM c) (qkT bh ba c CX) (QI c) c n y t i cl se k r1 r2):EvQ qAll i t (y.s.1,y.s.2,Qe y t i se) (r2.2.1.1,r2.2.1.2,r2.2.2.1):=by
 have S:=R.stp P G
 have E1:EvQ qAll i t (y.s.1,y.s.2,Qe y t i se) (r1.2.1.1,r1.2.1.2,r1.2.2.1):=by
  rcases G.rdy with⟨hf,e⟩|⟨_,e⟩
  ·have hI:=G.i0
   rw[hf]at hI
   have e':r1=Q9 (y.s.1,y.s.2) (Qe y t i se) i t cl { se with ready:=true } k:=e
   rw[e']
   exact evq_qrdy G.c0.toCore G.htT hI S.ci (by rw[S.now0];exact S.beg)
  ·rw[e];exact .refl _
 rcases G.stp with⟨hb1,e⟩|⟨hb1,z1,q1,v1,hcu,e⟩
 ·rw[e];exact E1
 ·have e':r2=Ji (r1.2.1.1,r1.2.1.2) r1.2.2.1 i t { cl with point:=z1 } { se with ready:=true,kind:=q1,value:=v1 } r1.2.2.2:=e
  rw[e']
  exact E1.trans (evq_qstp G.h1.core.toCore G.htT (G.h1.fin hb1) hcu (by rw[S.now1];exact S.beg) (by rw[S.now1];exact S.hp1) G.used1)
end
abbrev RunQk (c:Cfg)(n:Nat)(y:GW Zz):Prop:=RunOk (Z7 c 1) (are1 c).slots c (n:Int) y
theorem runq_ok (c:Cfg)(bh ba:Nat)(CX:Zb):JW c (qkT bh ba c CX) (RunQk c) where
 tick:=fun n y hn P B j=>j.tick
 beg:=fun n y mv t k v vc hn P B j ht htT hop hk hm=>j.begin P ht hk
 step:=fun n y t i cl se k r1 r2 hn P B G P' B' j=>j.step P G (B.evq P G)
theorem runq_start {c:Cfg}(hok:c.Ok)(km:Nat)(vs:Value):RunQk c 0 (gsq0 c km vs):=by
 have:=hok.S1
 refine⟨by simp[gsq0,mch0],Pw.nil,Pw.nil,Pw.nil,by simp[gsq0,mch0],rfl,by simp[gsq0,are1];omega,by simp[gsq0,mch0],by simp[gsq0,mch0],rfl,by simp[gsq0,mch0],by simp[gsq0,mch0],by simp[gsq0,mch0],rfl,by simp[gsq0,mch0],by simp[gsq0,mch0],?_,by simp[gsq0,mch0]⟩
 intro t k se hk _
 simp only[gsq0]at hk
 have:=(List.mem_replicate.1 (Yc hk)).2
 cases this
end
section
def put (sl:List Slt)(x:Shf):List Slt:=sl.set x.slot.toNat ⟨x.to,if x.to=0∨x.to=3 then -1 else x.thread⟩
def puts (sl:List Slt)(ds:List Shf):List Slt:=ds.foldl put sl
theorem puts_append (sl:List Slt)(x y:List Shf):puts sl (x++y)=puts (puts sl x) y:=List.foldl_append ..
def s0 (c:Cfg):List Slt:=(are1 c).slots
theorem puts_len:∀(ds:List Shf) (sl:List Slt),(puts sl ds).length=sl.length
 | [],_=>rfl
 | d::r,sl=>by show(puts (put sl d) r).length=_;rw[puts_len r];simp[put]
theorem s0_len {c:Cfg}(hok:c.Ok):((s0 c).length:Int)=c.Sl:=by have:=hok.S1;simp[s0,are1];omega
theorem shfs_puts:∀ {l:List Shf} {sl s:List Slt},shfs sl l=some s→puts sl l=s
 | [],sl,s,h=>by injection h
 | x::l,sl,s,h=>by
  simp only[shfs]at h
  cases h1:shf1 sl x with
  | none=>rw[h1]at h;cases h
  | some s1=>
   rw[h1]at h
   have:s1=put sl x:=by
    unfold shf1 at h1
    split at h1
    ·injection h1 with h1;exact h1.symm
    ·cases h1
   subst this
   exact shfs_puts (l:=l) h
end
section
def sumR (f:Nat→Nat):Nat→Nat
 | 0=>0
 | n+1=>sumR f n+f n
theorem sumR_congr {f g:Nat→Nat}:∀ {n:Nat},(∀i,i<n→f i=g i)→sumR f n=sumR g n
 | 0,_=>rfl
 | n+1,h=>by simp only[sumR,sumR_congr (n:=n) fun i hi=>h i (by omega),h n (by omega)]
theorem sumR_add {f g:Nat→Nat}:∀n:Nat,sumR (fun i=>f i+g i) n=sumR f n+sumR g n
 | 0=>rfl
 | n+1=>by simp only[sumR,sumR_add n];omega
theorem sumR_zero:∀n:Nat,sumR (fun _=>0) n=0
 | 0=>rfl
 | n+1=>by simp only[sumR,sumR_zero n]
theorem sumR_one {z:Int}:∀ {n:Nat},sumR (fun i=>if z=(i:Int) then 1 else 0) n=if 0≤z∧z<n then 1 else 0
 | 0=>by rw[if_neg (by omega)];rfl
 | n+1=>by
  simp only[sumR,sumR_one (z:=z) (n:=n)]
  by_cases h:z=(n:Int)
  ·rw[if_pos h,if_neg (by omega),if_pos (by omega)]
  ·rw[if_neg h]
   by_cases h2:0≤z∧z<n
   ·rw[if_pos h2,if_pos (by omega)]
   ·rw[if_neg h2,if_neg (by omega)]
theorem sumR_count {n:Nat}:∀ {l:List Int},(∀z∈l,0≤z∧z<n)→sumR (fun i=>l.count (i:Int)) n=l.length
 | [],_=>by simp only[List.count_nil];exact sumR_zero n
 | a::r,h=>by
  have ih:=sumR_count (n:=n) (l:=r) fun z hz=>h z (List.mem_cons_of_mem _ hz)
  have e:sumR (fun i=>(a::r).count (i:Int)) n=sumR (fun i=>r.count (i:Int)+(if a=(i:Int) then 1 else 0)) n:=by
   refine sumR_congr fun i _ => ?_
   rw[List.count_cons]
   by_cases h:a=(i:Int)
   ·rw[if_pos h,if_pos (by simpa using h)]
   ·rw[if_neg h,if_neg (by simpa using h)]
  rw[e,sumR_add,ih,sumR_one,if_pos (h a (List.mem_cons_self ..))]
  rfl
def cnt3 (st:List Int):Nat:=st.countP (fun z=>decide (z=3))
theorem cnt3_sum:∀(st:List Int) (m:Nat),m=st.length→cnt3 st=sumR (fun i=>if st.getD i 0=3 then 1 else 0) m:=by
 intro st
 have key:∀m,m≤st.length→cnt3 (st.take m)=sumR (fun i=>if st.getD i 0=3 then 1 else 0) m:=by
  intro m
  induction m with
  | zero=>intro _;simp[cnt3,sumR]
  | succ m ih=>
   intro hm
   have hx:st[m]? = some (st.getD m 0):=by rw[Yb,Yd (by omega)];rfl
   rw[List.take_add_one,hx]
   have:=ih (by omega)
   unfold cnt3 at this ⊢
   rw[List.countP_append,this]
   simp only[sumR,Option.toList_some,List.countP_cons,List.countP_nil,Nat.zero_add]
   by_cases h:st.getD m 0=3
   ·rw[if_pos h,if_pos (by simpa using h)]
   ·rw[if_neg h,if_neg (by simpa using h)]
 intro m hm
 have:=key m (by omega)
 rwa [hm,List.take_length,←hm]at this
def nxtS:List Nat→Int
 | []=>0
 | s::_=>s+1
structure ShQ (c:Cfg)(H T X:Nat)(LK S0:Nat)(ws st:List Int)(stk:List Nat):Prop where
 pos:0<stk.length
 len:stk.length≤S0
 hd:ws[H]? = some (nxtS stk)
 lk:∀(k s:Nat),stk[k]? = some s→s<S0∧st[s]? = some 3∧ws[LK+s]? = some (nxtS (stk.drop (k+1)))
 tl:∃(k s:Nat),stk[k]? = some s∧stk.length≤k+2∧ws[T]? = some ((s:Int)+1)
 cnt:∃x:Int,ws[X]? = some x∧(x=0∧cnt3 st=stk.length∨x≠0∧cnt3 st=stk.length+1)
 sl:st.length=S0
theorem nodup_len'' {α:Type}[DecidableEq α]:∀ {l w:List α},l.Nodup→(∀z∈l,z∈w)→l.length≤w.length
 | [],w,_,_=>Nat.zero_le _
 | a::r,w,h1,h2=>by
  obtain⟨h3,h4⟩:=List.nodup_cons.1 h1
  have:=nodup_len'' (l:=r) (w:=w.erase a) h4 (fun z hz=>(List.mem_erase_of_ne (by rintro rfl;exact h3 hz)).2 (h2 z (List.mem_cons_of_mem _ hz)))
  rw[List.length_erase_of_mem (h2 a (List.mem_cons_self ..))]at this
  have:=List.length_pos_of_mem (h2 a (List.mem_cons_self ..))
  simp only[List.length_cons]
  omega
theorem nodup_of_count:∀ {l:List Int},(∀s,l.count s≤1)→l.Nodup
 | [],_=>List.nodup_nil
 | a::r,h=>by
  refine List.nodup_cons.2 ⟨fun hm => ?_,nodup_of_count fun s => ?_⟩
  ·have h1:=h a
   have h2:=cpos hm
   rw[List.count_cons_self]at h1
   omega
  ·have h1:=h s
   rw[List.count_cons]at h1
   omega
theorem chain_next:∀ {ln:Int→Int} {z:Int} {l:List Int},JB ln z l→(∀s∈l,0≤s)→z=nxtS (l.map Int.toNat)
 | _,_,[],h,_=>h
 | _,_,s::r,h,hp=>by
  have:=hp s (List.mem_cons_self ..)
  rw[h.1]
  show s+1=((s.toNat:Nat):Int)+1
  omega
theorem chain_drop:∀ {ln:Int→Int} {z:Int} {l:List Int} {k:Nat} {s:Int},JB ln z l→l[k]? = some s→JB ln (ln s) (l.drop (k+1))
 | _,_,[],_,_,_,h=>by simp at h
 | _,_,a::r,0,s,h,hs=>by simp at hs;subst hs;exact h.2.2
 | _,_,a::r,k+1,s,h,hs=>by
  simp only[Ue]at hs
  have:=chain_drop (k:=k) h.2.2 hs
  exact this
section
variable {c:Cfg}{stk:List Int}{pr:Int→Prop}{F:List Int}{n:Nat}{y:GW Zz}
theorem DK.shq (D:DK c stk pr F n y)(P:PM (QM c) (QI c) c n y):ShQ c (adr c 4 0) (adr c 5 0) (adr c 2 0) (base c 13).toNat c.Sl.toNat y.m.mem.words (y.s.2.slots.map Slt.state) (stk.map Int.toNat):=by
 have G:=D.gd
 have C:=P.core.toCore
 have hok:=C.ok
 have hS:=hok.S1
 have hrange:∀s∈stk,0≤s∧s<c.Sl:=fun s hs=>by
  refine G.range (s:=s) ?_
  have:=cpos hs
  show 0<_+stk.count s
  omega
 have hnd:stk.Nodup:=by
  refine nodup_of_count fun s => ?_
  have:=G.le s
  have h:List.count s (sx stk pr c y.s.1 y.s.2 y.m).stk=stk.count s:=rfl
  omega
 have hw:∀A:Nat,A<y.m.mem.words.length→y.m.mem.words[A]? = some (y.m.word A):=by
  intro A hA
  unfold Mch.word
  rw[Yb,Yd hA];rfl
 have hlk:JB (mv c y.m).ln (y.m.word (adr c 4 0)) stk:=G.lk
 have ead:∀(r:Nat) (s:Int),0≤s→(base c r).toNat+s.toNat=adr c r s:=by
  intro r s h0
  have:=(ZC hok r).1
  unfold adr
  omega
 have hsll:y.s.2.slots.length=c.Sl.toNat:=C.slots
 have hst:∀s:Int,0≤s→s<c.Sl→(y.s.2.slots.map Slt.state)[s.toNat]? = some (y.s.2.sl s).state:=by
  intro s h0 h1
  rw[Ym]
  have:s.toNat<y.s.2.slots.length:=by omega
  rw[Yd this,←sl_get h0,Yb,Yd this]
  rfl
 obtain⟨pre,ts,post,e1,e2,e3⟩:=D.tli
 refine⟨?_,?_,?_,?_,?_,?_,by rw[List.length_map];exact hsll⟩
 ·rw[List.length_map,e1,List.length_append,List.length_cons];omega
 ·rw[List.length_map]
  have:=nodup_len'' (l:=stk.map Int.toNat) (w:=List.range c.Sl.toNat) ?_ ?_
  ·simpa using this
  ·refine List.pairwise_map.2 ((List.Pairwise.imp_of_mem ?_) hnd)
   intro a b h1 h2 hab e
   have:=hrange a h1
   have:=hrange b h2
   exact hab (by omega)
  ·intro z hz
   obtain⟨s,hs,rfl⟩:=List.mem_map.1 hz
   have:=hrange s hs
   rw[List.mem_range]
   omega
 ·rw[hw _ (C.lt (adr4_lt hok)),chain_next hlk (fun s hs=>(hrange s hs).1)]
 ·intro k s' hk
  rw[Ym]at hk
  cases hs:stk[k]? with
  | none=>rw[hs]at hk;cases hk
  | some s=>
   rw[hs]at hk
   simp only[Option.map_some,Option.some.injEq]at hk
   subst hk
   obtain⟨h0,h1⟩:=hrange s (Yc hs)
   refine⟨by omega,?_,?_⟩
   ·rw[hst s h0 h1]
    exact congrArg some (G.stK s (Yc hs))
   ·rw[ead 13 s h0,hw _ (C.lt (adr_lt' hok (r:=13) (.inr ⟨.inr (.inr rfl),rfl⟩) h0 h1))]
    have:=chain_drop hlk hs
    rw[ln_at h0 h1]at this
    rw[chain_next this (fun s hs=>(hrange s (List.mem_of_mem_drop hs)).1),List.map_drop]
 ·refine⟨pre.length,ts.toNat,?_,?_,?_⟩
  ·rw[e1,Ym,List.getElem?_append_right (Nat.le_refl _),Nat.sub_self];rfl
  ·rw[List.length_map,e1];simp;omega
  ·have:=(hrange ts (by rw[e1];simp)).1
   rw[hw _ (C.lt (adr5_lt hok))]
   have e3:y.m.word (adr c 5 0)=ts+1:=e3
   rw[e3]
   congr 1
   omega
 ·have hA2i:((adr c 2 0:Nat):Int)<base c 14:=by
   have:=(adrs hok).a2
   obtain⟨b1,b2,b8,b9,b10,b11,b12,b13,b14,rh,rh2,b3⟩:=QN hok
   have:=hok.R1
   omega
  have hA2:adr c 2 0<y.m.mem.words.length:=C.lt hA2i
  refine⟨y.m.word (adr c 2 0),hw _ hA2,?_⟩
  have Qs:(sx stk pr c y.s.1 y.s.2 y.m).V.cell=y.m.word (adr c 2 0):=rfl
  have hcw:=(C.word (i:=adr c 2 0) hA2i).cell (by have:=Qm hok 2 (Int.le_refl 0);omega)
  have h3:∀i:Nat,i<c.Sl.toNat→(if (y.s.2.slots.map Slt.state).getD i 0=3 then 1 else 0)=stk.count (i:Int)+(if y.m.word (adr c 2 0)-1=(i:Int) then 1 else 0):=by
   intro i hi
   have hsi:=hst (i:Int) (by omega) (by omega)
   rw[Yo]at hsi
   rw[Yb,hsi,Option.getD_some]
   have ht:=G.tot (i:Int)
   have hle:=G.le (i:Int)
   rw[ind_pos (p:=0≤(i:Int)∧(i:Int)<c.Sl) (by omega),Qs]at ht
   have hct:(sx stk pr c y.s.1 y.s.2 y.m).stk.count (i:Int)=stk.count (i:Int):=rfl
   rw[hct]at ht
   simp only[List.count_nil,Nat.add_zero]at ht
   by_cases hx:y.m.word (adr c 2 0)-1=(i:Int)
   ·have e9:=G.stX (i:Int) (by omega) (by rw[Qs];omega)
    have e9:(y.s.2.sl (i:Int)).state=3:=e9
    rw[if_pos e9,if_pos hx]
    rw[ind_pos (p:=0≤(i:Int)∧y.m.word (adr c 2 0)=(i:Int)+1) (by omega)]at ht
    omega
   ·rw[if_neg hx]
    rw[ind_neg (p:=0≤(i:Int)∧y.m.word (adr c 2 0)=(i:Int)+1) (by omega)]at ht
    by_cases hs:(i:Int)∈stk
    ·have e9:(y.s.2.sl (i:Int)).state=3:=G.stK (i:Int) hs
     have:=cpos hs
     rw[if_pos e9]
     omega
    ·have h0:stk.count (i:Int)=0:=List.count_eq_zero.2 hs
     have e9:(y.s.2.sl (i:Int)).state≠3:=by
      intro e
      by_cases hF:(i:Int)∈F
      ·have:(y.s.2.sl (i:Int)).state=0:=G.stF _ hF
       omega
      ·have hF0:=List.count_eq_zero.2 hF
       by_cases hc:0<cnt2 y.s.2.caches (i:Int)
       ·obtain⟨j,l,g1,g2⟩:=cnt2_pos hc
        have:y.s.2.sl (i:Int)=⟨1,(j:Int)⟩:=G.stC j l g1 _ g2
        rw[this]at e;cases e
       ·by_cases hz:0<cnt2 (y.tasks.map kSo) (i:Int)
        ·have:(y.s.2.sl (i:Int)).state=2∨(y.s.2.sl (i:Int)).state=4∨(y.s.2.sl (i:Int)).state=5:=G.stZ _ hz
         omega
        ·have hl:0<cnt2 y.s.1.lists (i:Int):=by
          have q1:cnt2 (sx stk pr c y.s.1 y.s.2 y.m).caches (i:Int)=cnt2 y.s.2.caches (i:Int):=rfl
          have q2:cnt2 (sx stk pr c y.s.1 y.s.2 y.m).lists (i:Int)=cnt2 y.s.1.lists (i:Int):=rfl
          omega
         obtain⟨j,l,g1,g2⟩:=cnt2_pos hl
         have:(y.s.2.sl (i:Int)).state=5:=G.stL l (Yc g1) _ g2
         omega
     rw[if_neg e9,h0]
  have hsum:=cnt3_sum (y.s.2.slots.map Slt.state) c.Sl.toNat (by rw[List.length_map];exact hsll.symm)
  rw[sumR_congr h3,sumR_add,sumR_one,sumR_count (fun z hz=>by have:=hrange z hz;omega)]at hsum
  rw[List.length_map]
  by_cases h0:y.m.word (adr c 2 0)=0
  ·rw[if_neg (by omega)]at hsum
   exact .inl ⟨h0,hsum⟩
  ·rw[if_pos (by omega)]at hsum
   exact .inr ⟨h0,hsum⟩
end
end
section
abbrev ShA (c:Cfg)(ws st:List Int)(stk:List Nat):Prop:=ShQ c (adr c 4 0) (adr c 5 0) (adr c 2 0) (base c 13).toNat c.Sl.toNat ws st stk
def ShL (c:Cfg)(lg:List Acc)(sh:List Shf):Prop:=∀(k:Nat) (e:Acc),lg[k]? = some e→∃(wk:List Int) (stk:List Nat),rep (Z7 c 1) (lg.take (k+1))=some wk∧ShA c wk ((puts (s0 c) (sh.filter (fun x=>decide (x.move≤e.move)))).map Slt.state) stk
structure ShJ (c:Cfg)(n:Nat)(y:GW Zz):Prop where
 ok:RunQk c n y
 dk:∃stk pr F,DK c stk pr F n y
 sh:ShL c y.m.mem.log y.m.shifts
theorem filter_all {l:List Shf}{n:Int}(h:∀e∈l,e.move≤n):l.filter (fun x=>decide (x.move≤n))=l:=List.filter_eq_self.2 fun e he=>by simpa using h e he
theorem filter_none {l:List Shf}{n:Int}(h:∀e∈l,n<e.move):l.filter (fun x=>decide (x.move≤n))=[]:=List.filter_eq_nil_iff.2 fun e he=>by have:=h e he;simp;omega
section
variable {c:Cfg}{bh ba:Nat}{CX:Zb}{n:Nat}{y:GW Zz}{t i:Nat}{cl:Cll}{se:Sea}{k:Zz}{r1 r2:GR Zz}
theorem ShJ.step (J:ShJ c n y)(hn:n<65536)(P:PM (QM c) (QI c) c n y)(B:QB n y)(G:GStepM (QM c) (qkT bh ba c CX) (QI c) c n y t i cl se k r1 r2)(P':PM (QM c) (QI c) c (n+1) (Z6 y t i r2))(B':QB (n+1) (Z6 y t i r2)):ShJ c (n+1) (Z6 y t i r2):=by
 obtain⟨z,q,v,O⟩:=G.out P
 have E:=B.evq P G
 have R':RunQk c (n+1) (Z6 y t i r2):=J.ok.step P G E
 obtain⟨stk,pr,F,D⟩:=J.dk
 obtain⟨Z,Y,F0,pr1,F1,pr2,F2,_,_,_,_,_,_,_,_,_,_,D'⟩:=(D.step hn B P G).ex
 refine⟨R',⟨_,_,_,D'⟩,?_⟩
 have hmv:(Qe y t i se).mem.move=(n:Int):=P.moves
 have hnw:(Qe y t i se).now=(n:Int):=P.moves
 obtain⟨l,hl,hlm⟩:=evq_log E
 obtain⟨ds,hd,hdm⟩:=evq_shifts E
 simp only[]at hl hlm hd hdm
 have hl:(Z6 y t i r2).m.mem.log=y.m.mem.log++l:=by rw[O.mem];exact hl
 have hd:(Z6 y t i r2).m.shifts=y.m.shifts++ds:=by rw[O.shifts];exact hd
 intro k e he
 by_cases hk:k<y.m.mem.log.length
 ·rw[hl,List.getElem?_append_left hk]at he
  obtain⟨wk,sk,g1,g2⟩:=J.sh k e he
  have hem:=J.ok.llt e (Yc he)
  refine⟨wk,sk,?_,?_⟩
  ·rw[hl,List.take_append_of_le_length (by omega)];exact g1
  ·rw[hd,List.filter_append,filter_none (l:=ds) (fun d hd=>by have:=hdm d hd;omega),List.append_nil]
   exact g2
 ·have he':=he
  rw[hl,List.getElem?_append_right (by omega)]at he
  have hel:=Yc he
  have hem:e.move=(n:Int):=(hlm e hel).trans hmv
  have hlast:k+1=(Z6 y t i r2).m.mem.log.length:=by
   have h1:=(List.getElem?_eq_some_iff.1 he').1
   rcases Nat.lt_or_ge (k+1) (Z6 y t i r2).m.mem.log.length with h2|h2
   ·exfalso
    obtain⟨f,hf⟩:∃f,(Z6 y t i r2).m.mem.log[k+1]? = some f:=⟨_,Yd h2⟩
    have h3:=pw_get R'.lsort (i:=k) (j:=k+1) (by omega) he' hf
    rw[hl,List.getElem?_append_right (by omega)]at hf
    have:=hlm f (Yc hf)
    omega
   ·omega
  refine⟨(Z6 y t i r2).m.mem.words,(stkOf c stk r1).map Int.toNat,?_,?_⟩
  ·rw[hlast,List.take_length];exact R'.lrep
  ·rw[filter_all (fun d hd=>by have:=R'.slt d hd;omega),show puts (s0 c) (Z6 y t i r2).m.shifts=(Z6 y t i r2).s.2.slots from shfs_puts R'.srep]
   exact D'.shq P'
end
theorem sh_ok (c:Cfg)(bh ba:Nat)(CX:Zb):JW c (qkT bh ba c CX) (ShJ c) where
 tick:=fun n y hn P B J=>⟨J.ok.tick,by obtain⟨stk,pr,F,D⟩:=J.dk;exact⟨stk,pr,F,D.tick⟩,J.sh⟩
 beg:=fun n y mv t k v vc hn P B J ht htT hop hk hm=>⟨J.ok.begin P ht hk,by obtain⟨stk,pr,F,D⟩:=J.dk;exact⟨stk,pr,F,D.begin P htT hk hm⟩,J.sh⟩
 step:=fun n y t i cl se k r1 r2 hn P B G P' B' J=>J.step hn P B G P' B'
theorem sh_start (c:Cfg)(hok:c.Ok)(km:Nat)(vs:Value):ShJ c 0 (gsq0 c km vs):=
 ⟨runq_start hok km vs,⟨_,_,_,DK.start hok km vs⟩,fun k e he=>by simp[gsq0,mch0]at he⟩
end
section
theorem ref_many (c:Cfg)(h:c.Ok)(r:Nat)(h1:1≤r)(h2:r≤13):Zj Tryz.prog 73 #[c.v,.int .i64 (r:Int)] emp (.int .i64 (many c r)) emp:=by
 intro O w F hs
 obtain⟨g1,g2⟩:=h.rh
 have hw:wrap64 (c.R*c.Hz)=c.R*c.Hz:=by unfold wrap64;omega
 have hr:r=1∨r=2∨r=3∨r=4∨r=5∨r=6∨r=7∨r=8∨r=9∨r=10∨r=11∨r=12∨r=13:=by omega
 rcases hr with rfl|rfl|rfl|rfl|rfl|rfl|rfl|rfl|rfl|rfl|rfl|rfl|rfl
 all_goals
  go_enter Tryz.func73,Tryz.ntmps73
  go_wp2_with (first|((with_reducible apply Za hs);exact Ii;rfl;(with_reducible exact Qh);rfl;rfl;simp only[Uc,Uz])|((with_reducible apply Zq hs);rfl;rfl;rfl;clear hs;intro w b hs;simp only[Uc,Uz]))
  go_ret
  exact⟨by simp[many,hw],by ((with_reducible apply Sat.fin hs);(focus with_reducible (repeat first|exact Ql|exact Qn|apply Qb|apply Qk);done))⟩
theorem ref_base (c:Cfg)(h:c.Ok)(r:Nat)(h1:1≤r)(h2:r≤13):Zj Tryz.prog 31 #[c.v,.int .i64 (r:Int)] emp (.int .i64 (base c r)) emp:=by
 intro O w F hs
 have hM:=Lh (ref_many c h)
 go_enter Tryz.func31,Tryz.ntmps31
 go_wp2_with ((with_reducible apply Zq hs);rfl;rfl;rfl;clear hs;intro w b hs;simp only[Uc,Uz])
 (obtain⟨A,hA,hsn⟩:∃A,Hid (A=_)∧Sat O w A:=⟨_,Lh rfl,hs⟩;clear hs;have hs:=hsn;clear hsn)
 go_loopw [5,6] (fun a q wr=>∃k:Nat,1≤k∧k≤r∧q=.int .i64 (k:Int)∧a=.int .i64 (base c k)∧Sat O wr A) (fun _ q _=>15-(intOf q).toNat)
 case atStart=>exact⟨1,by omega,by omega,rfl,rfl,hs⟩
 case round=>
  obtain⟨k,k1,k2,rfl,rfl,hs⟩:=hrel
  have hb:=ZC h k
  have hmk:=many_le h k
  have e1:=base_succ c _ k1
  rw[hA.out]at hs
  by_cases hkr:k=r
  ·subst hkr
   have hlt:decide ((k:Int)<(k:Int))=false:=by simp
   have hlt2:decide (k<k)=false:=by simp
   go_wp2_with (fail)
   go_ret
   exact⟨rfl,by ((with_reducible apply Sat.fin hs);(focus with_reducible (repeat first|exact Ql|exact Qn|apply Qb|apply Qk);done))⟩
  ·have hlt:decide ((k:Int)<(r:Int))=true:=by simp;omega
   have hlt2:decide (k<r)=true:=by simp;omega
   have hM1:=Lh (hM.out k k1 (by omega))
   go_wp2_with (first|((with_reducible apply ZU hs);exact Ii;rfl;(with_reducible exact Qh);rfl;rfl;simp only[Uc,Uz])|(go_at_call 73;((refine(hM1.out).at hs (by (focus((repeat(with_reducible exact Qn));done))) ?_);clear hs;intro w hs;(try simp only[Em,Ma]at hs))))
   go_roundw
   case rel=>exact⟨k+1,by omega,by omega,by simp,by rw[e1],by rw[hA.out];((with_reducible apply Sat.fin hs);(focus with_reducible (repeat first|exact Ql|exact Qh|exact Qn|apply Qb);done))⟩
   case measure=>simp[intOf];omega
theorem ref_size (c:Cfg)(h:c.Ok):Zj Tryz.prog 34 #[c.v] emp (.int .i64 (base c 14)) emp:=by
 intro O w F hs
 have hB:=Lh (ref_base c h 13 (by omega) (by omega))
 have hb:=ZC h 13
 have h2:=h.S1;have h3:=h.S2
 have e:base c 14=base c 13+c.Sl:=rfl
 have hw:wrap64 (base c 13+c.Sl)=base c 14:=by unfold wrap64;omega
 go_enter Tryz.func34,Tryz.ntmps34
 go_wp2_with (first|(with_reducible first|apply NQ.mk|apply EQ.mk|exact Zf|apply Zh)|((with_reducible apply Zg);rfl;rfl)|((with_reducible apply Zl);rfl)|((with_reducible refine Zo ?_ ?_);focus((with_reducible apply ZF);rfl;rfl))|(show ZX _ _ _;rfl)|((with_reducible apply Za hs);exact Ii;rfl;(with_reducible exact Qh);rfl;rfl;simp only[Uc,Uz])|((with_reducible apply ZU hs);exact Ii;rfl;(with_reducible exact Qh);rfl;rfl;simp only[Uc,Uz])|((with_reducible apply Zq hs);rfl;rfl;rfl;clear hs;intro w b hs;simp only[Uc,Uz])|(go_at_call 31;((refine(hB.out).at hs (by (focus((repeat(with_reducible exact Qn));done))) ?_);clear hs;intro w hs;(try simp only[Em,Ma]at hs)))|((with_reducible refine Wp (id:=1) [.neu 0,.neu 2,.neu 3,.eff 1 [2,3],.neu 4,.neu 5] hs rfl ?_ ?_);kernel_rfl;clear hs;intro w hs))
 go_ret
 exact⟨by simp[e],by ((with_reducible apply Sat.fin hs);(focus with_reducible (repeat first|exact Ql|exact Qn|apply Qb|apply Qk);done))⟩
theorem ref_linkIndex (u:Int)(h0:0≤u):Zj Tryz.prog 72 #[.int .u64 u] emp (.int .i64 (u%4294967296-1)) emp:=by
 intro O w F hs
 have e1:Int.tmod u 4294967296=u%4294967296:=Int.tmod_eq_emod_of_nonneg h0
 go_enter Tryz.func72,Tryz.ntmps72
 go_wp2_with (fail)
 go_ret
 exact⟨rfl,by ((with_reducible apply Sat.fin hs);(with_reducible exact Ql))⟩
end
end Go.Proofs.YtefjbdajgakgpaaGreat
