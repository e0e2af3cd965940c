import Derived.Test.YtefjbdajgakgpaaGreatDGHis
import Derived.Test.YtefjbdajgakgpaaGreatDQAln
set_option linter.all false
namespace Go.Proofs.YtefjbdajgakgpaaGreat
section
open Go.RowKit Hp
set_option maxRecDepth 100000
set_option maxHeartbeats 1000000
attribute [local irreducible] Go.Calls
def qAll (_:Nat):Prop:=True
section
variable {c:Cfg}{L S N:Nat}{h:Haz}{a:Are}{m m':Mch}{i t:Nat}{cl:Cll}{se:Sea}
instance qAll_ok (c:Cfg):QOk c qAll:=⟨fun _ _=>trivial⟩
theorem evq_ptTaken {p:Pt}(hcl:m'.calls[i]? = some cl)(hse:m'.seats[t]? = some se)(hb:cl.begin_<m'.now):EvQ qAll i t (h,a,m') (h,a,(ZV m' i t cl se p).2.1):=by
 unfold ZV
 split
 ·exact(EvQ.point cl _ hcl hb (Int.le_refl _)).trans (EvQ.answer (m:=m'.point _ _ _) se 4 0 hse (by omega) (by omega) (fun _=>rfl))
 ·exact .refl _
theorem evq_ptReady {p:Pt}(C:Core c L S N h a m)(t0:0≤p.take.thread)(t1:p.take.thread<c.T)(hcl:m.calls[i]? = some cl)(hse:m.seats[t]? = some se)(hb:cl.begin_<m.now) :
  EvQ qAll i t (h,a,m) (h,(ZW h a m i t cl se p).2.1,(ZW h a m i t cl se p).2.2.1):=by
 have E:=evq_takeReady (Q:=qAll) (i:=i) (t:=t) (k:=p.take) C t0 t1
 have Sm:=Z2 a m p.take
 unfold ZW
 simp only[]
 split
 ·exact E.trans (evq_ptTaken (by rw[Sm.calls];exact hcl) (by rw[Sm.seats];exact hse) (by rw[Sm.now];exact hb))
 ·exact E
theorem qhz_lt (C:Core c L S N h a m)(ht:(t:Int)<c.T){th k:Int}(hu:th=(t:Int))(hd:0≤h.held.getD t 0)(k0:0≤k)(k1:k≤1):qHz h th k<m.mem.words.length∧qAll (qHz h th k):=by
 have hok:=C.ok
 obtain⟨hr1,_⟩:=C.hget ht
 have hza:=hz_adr hok hd hr1 k0 (by have:=hok.H1;omega)
 have:qHz h th k=(base c 9+h.held.getD t 0*c.Hz+k).toNat:=by
  unfold qHz
  rw[hu,C.hc,Yo]
 rw[this]
 exact C.lq (hz_lq hok hza.1 hza.2)
theorem evq_put {p:Pt}(C:Core c L S N h a m)(ht:(t:Int)<c.T)(hu:p.thread=(t:Int))(hd:0≤h.held.getD t 0)(I:PtI c p)(hcl:m.calls[i]? = some cl)(hse:m.seats[t]? = some se)(hb:cl.begin_<m.now)(hus:m.used=false) :
  EvQ qAll i t (h,a,m) (h,(Qc h a m i t cl se p).2.1,(Qc h a m i t cl se p).2.2.1):=by
 have hok:=C.ok
 have hc:=C.hc
 have hac:=C.ac
 have hZ:=qhz_lt (m:=m) (th:=p.thread) (k:=0) C ht hu hd (by omega) (by omega)
 have h5:adr c 5 0<m.mem.words.length∧qAll (adr c 5 0):=⟨C.lt (adr5_lt hok),trivial⟩
 have hV:∀r:Nat,(r=11∨r=13)→∀s,0≤s→s<c.Sl→adr c r s<m.mem.words.length∧qAll (adr c r s):=fun r hr s s0 s1=>⟨C.lt (adr_lt' hok (r:=r) (.inr ⟨by rcases hr with rfl|rfl<;>simp,rfl⟩) s0 s1),trivial⟩
 obtain⟨i1,i2,i3,i4,i5⟩:=I
 unfold Qc
 rw[hc]
 simp only[]
 by_cases s1:p.stage=1
 ·rw[if_pos s1]
  have E:=evq_take (Q:=qAll) (i:=i) (t:=t) C (i2 s1) hus
  have Sm:=same_take a m p.take
  unfold ptTake
  simp only[]
  split
  ·exact E.trans (evq_ptTaken (by rw[Sm.calls];exact hcl) (by rw[Sm.seats];exact hse) (by rw[Sm.now];exact hb))
  ·exact E
 rw[if_neg s1]
 obtain⟨g1,g2⟩:=i3 s1
 by_cases s2:p.stage=2
 ·rw[if_pos s2];exact .store _ _ hus (hV 11 (.inl rfl) _ g1 g2)
 rw[if_neg s2]
 by_cases s3:p.stage=3
 ·rw[if_pos s3];exact .store _ _ hus (hV 13 (.inr rfl) _ g1 g2)
 rw[if_neg s3]
 by_cases s4:p.stage=4
 ·rw[if_pos s4];exact .load _ hus h5
 rw[if_neg s4]
 have hT:=i4 (by omega)
 have hK:=hV 13 (.inr rfl) (p.t-1) (by omega) (by omega)
 by_cases s5:p.stage=5
 ·rw[if_pos s5];exact .store _ _ hus hZ
 rw[if_neg s5]
 by_cases s6:p.stage=6
 ·rw[if_pos s6];exact .load _ hus h5
 rw[if_neg s6]
 by_cases s7:p.stage=7
 ·rw[if_pos s7];exact .load _ hus hK
 rw[if_neg s7]
 by_cases s8:p.stage=8
 ·rw[if_pos s8]
  split
  ·exact(EvQ.swap _ _ _ hus hK).trans ((EvQ.point (m:=m.swap _ _ _ _) cl m.now hcl hb (Int.le_refl _)).trans (EvQ.shift (m:=(m.swap _ _ _ _).point _ _ _) p.slot 3 g1 (by rw[hac];exact g2) (by omega) (by omega)))
  ·exact .swap _ _ _ hus hK
 rw[if_neg s8]
 by_cases s9:p.stage=9
 ·rw[if_pos s9];exact .swap _ _ _ hus h5
 rw[if_neg s9]
 by_cases s10:p.stage=10
 ·rw[if_pos s10]
  exact(EvQ.store _ 0 hus hZ).trans (EvQ.answer (m:=m.store _ _ _) se 1 0 hse (by omega) (by omega) (fun _=>rfl))
 rw[if_neg s10]
 exact .swap _ _ _ hus h5
theorem evq_get {p:Gt}(C:Core c L S N h a m)(ht:(t:Int)<c.T)(hu:p.thread=(t:Int))(hd:0≤h.held.getD t 0)(I:GtI c p)(hcl:m.calls[i]? = some cl)(hse:m.seats[t]? = some se)(hb:cl.begin_<m.now)(hus:m.used=false) :
  EvQ qAll i t (h,a,m) ((Z6 h a m i t cl se p).2.1,(Z6 h a m i t cl se p).2.2.1,(Z6 h a m i t cl se p).2.2.2.1):=by
 have hok:=C.ok
 have hc:=C.hc
 have hac:=C.ac
 have hZ:∀k,0≤k→k≤1→qHz h p.thread k<m.mem.words.length∧qAll (qHz h p.thread k):=fun k k0 k1=>qhz_lt C ht hu hd k0 k1
 have h5:adr c 5 0<m.mem.words.length∧qAll (adr c 5 0):=⟨C.lt (adr5_lt hok),trivial⟩
 have h4:adr c 4 0<m.mem.words.length∧qAll (adr c 4 0):=⟨C.lt (adr4_lt hok),trivial⟩
 have hV:∀r:Nat,(r=11∨r=13)→∀s,0≤s→s<c.Sl→adr c r s<m.mem.words.length∧qAll (adr c r s):=fun r hr s s0 s1=>⟨C.lt (adr_lt' hok (r:=r) (.inr ⟨by rcases hr with rfl|rfl<;>simp,rfl⟩) s0 s1),trivial⟩
 have i7:=Lh I.ret
 obtain⟨i1,i2,i3,i4,i5,i6,_⟩:=I
 unfold Z6
 rw[hc]
 simp only[]
 by_cases s1:p.stage=1
 ·rw[if_pos s1];exact .load _ hus h4
 rw[if_neg s1]
 have h0:=i2 (by omega)
 have hK:=hV 13 (.inr rfl) (p.h0-1) (by omega) (by omega)
 by_cases s2:p.stage=2
 ·rw[if_pos s2];exact .store _ _ hus (hZ 0 (by omega) (by omega))
 rw[if_neg s2]
 by_cases s3:p.stage=3
 ·rw[if_pos s3];exact .load _ hus h4
 rw[if_neg s3]
 by_cases s4:p.stage=4
 ·rw[if_pos s4];exact .load _ hus h5
 rw[if_neg s4]
 by_cases s5:p.stage=5
 ·rw[if_pos s5]
  split
  ·exact .load _ hus hK
  ·exact(EvQ.load _ hus hK).trans ((EvQ.point (m:=m.load _ _) cl m.now hcl hb (Int.le_refl _)).trans (EvQ.answer (m:=(m.load _ _).point _ _ _) se 3 0 hse (by omega) (by omega) (fun _=>rfl)))
 rw[if_neg s5]
 by_cases s6:p.stage=6
 ·rw[if_pos s6];exact .store _ _ hus (hZ 1 (by omega) (by omega))
 rw[if_neg s6]
 by_cases s7:p.stage=7
 ·rw[if_pos s7];exact .load _ hus h4
 rw[if_neg s7]
 by_cases s8:p.stage=8
 ·rw[if_pos s8];exact .swap _ _ _ hus h5
 rw[if_neg s8]
 by_cases s9:p.stage=9
 ·rw[if_pos s9]
  have hn:=i4 (by omega) (by omega)
  exact .load _ hus (hV 11 (.inl rfl) (p.n-1) (by omega) (by omega))
 rw[if_neg s9]
 by_cases s10:p.stage=10
 ·rw[if_pos s10]
  split
  ·exact(EvQ.swap _ _ _ hus h4).trans ((EvQ.point (m:=m.swap _ _ _ _) cl m.now hcl hb (Int.le_refl _)).trans (EvQ.shift (m:=(m.swap _ _ _ _).point _ _ _) (p.h0-1) 4 (by omega) (by rw[hac];omega) (by omega) (by omega)))
  ·exact .swap _ _ _ hus h4
 rw[if_neg s10]
 by_cases s11:p.stage=11
 ·rw[if_pos s11]
  have hcl':=i6 s11
  have hZc:=hZ p.cleared (by omega) (by omega)
  unfold gtEnd
  simp only[]
  split
  ·exact .store _ _ hus hZc
  ·split
   ·exact .store _ _ hus hZc
   ·have E1:EvQ qAll i t (h,a,m) (h,a,(m.store (qHz h p.thread p.cleared) (m.word (qHz h p.thread p.cleared)) 0).answer t se 2 p.value):=(EvQ.store _ 0 hus hZc).trans (EvQ.answer (m:=m.store _ _ _) se 2 p.value hse (by omega) (by omega) (fun hf=>absurd rfl hf))
    refine E1.trans ?_
    generalize (m.store (qHz h p.thread p.cleared) (m.word (qHz h p.thread p.cleared)) 0).answer t se 2 p.value=mw
    unfold Zr
    simp only[]
    split<;>exact(EvQ.shift (p.h0-1) 5 (by omega) (by rw[hac];omega) (by omega) (by omega)).trans (.haz _)
 rw[if_neg s11]
 have s12:p.stage=12:=by omega
 obtain⟨r,sc,e1,e2,e3,e4⟩:=i7.out s12
 rw[e1]
 simp only[e2]
 exact evq_scan (Q:=qAll) (i:=i) (t:=t) C e3 hus
theorem evq_qrdy {k:Zx}(C:Core c L S N h a m)(ht:(t:Int)<c.T)(I:QI c t false (h.held.getD t 0) (a.caches.getD t []) k)(hci:ZX m i t cl se)(hb:cl.begin_<m.now) :
  EvQ qAll i t (h,a,m) ((Q6 (h,a) m i t cl se k).2.1.1,(Q6 (h,a) m i t cl se k).2.1.2,(Q6 (h,a) m i t cl se k).2.2.1):=by
 cases k with
 | hz k=>exact evq_rdy (Q:=qAll) (i:=i) C ht I hci.call hci.seat hb
 | put p=>
  obtain⟨i1,i2,i3,i4⟩:=I
  exact evq_ptReady C (by rw[(i3 rfl).1];simp only[];omega) (by rw[(i3 rfl).1];exact ht) hci.call hci.seat hb
 | get p=>exact .refl _
theorem evq_qstp {k:Zx}(C:Core c L S N h a m)(ht:(t:Int)<c.T)(I:QI c t true (h.held.getD t 0) (a.caches.getD t []) k)(hci:ZX m i t cl se)(hb:cl.begin_<m.now)(hp:hzQ cl.begin_ m.now k)(hus:m.used=false) :
  EvQ qAll i t (h,a,m) ((Q5 (h,a) m i t cl se k).2.1.1,(Q5 (h,a) m i t cl se k).2.1.2,(Q5 (h,a) m i t cl se k).2.2.1):=by
 cases k with
 | hz k=>exact evq_stp (Q:=qAll) (i:=i) C ht I hci.call hci.seat hb hp hus (fun _ _ _=>trivial) (fun _ _ _=>trivial)
 | put p=>
  obtain⟨i1,i2,i3,i4⟩:=I
  exact evq_put C ht i1 i2 (i4 rfl).1 hci.call hci.seat hb hus
 | get p=>
  obtain⟨i1,i2,i3,i4⟩:=I
  exact evq_get C ht i1 i2 (i4 rfl).1 hci.call hci.seat hb hus
end
section
variable {c:Cfg}{bh ba:Nat}{CX:Zc}{n:Nat}{y:GW Zx}{t i:Nat}{cl:Cll}{se:Sea}{k:Zx}{r1 r2:GR Zx}
theorem QB.evq (R:QB n y)(P:PM (QM c) (QI c) c n y)(G:GStepM (QM c) (qkT bh ba c CX) (QI c) c n y t i cl se k r1 r2):EvQ qAll i t (y.s.1,y.s.2,ZO y t i se) (r2.2.1.1,r2.2.1.2,r2.2.2.1):=by
 have S:=R.stp P G
 have E1:EvQ qAll i t (y.s.1,y.s.2,ZO y t i se) (r1.2.1.1,r1.2.1.2,r1.2.2.1):=by
  rcases G.rdy with⟨hf,e⟩|⟨_,e⟩
  ·have hI:=G.i0
   rw[hf]at hI
   have e':r1=Q6 (y.s.1,y.s.2) (ZO y t i se) i t cl { se with ready:=true } k:=e
   rw[e']
   exact evq_qrdy G.c0.toCore G.htT hI S.ci (by rw[S.now0];exact S.beg)
  ·rw[e];exact .refl _
 rcases G.stp with⟨hb1,e⟩|⟨hb1,z1,q1,v1,hcu,e⟩
 ·rw[e];exact E1
 ·have e':r2=Q5 (r1.2.1.1,r1.2.1.2) r1.2.2.1 i t { cl with point:=z1 } { se with ready:=true,kind:=q1,value:=v1 } r1.2.2.2:=e
  rw[e']
  exact E1.trans (evq_qstp G.h1.core.toCore G.htT (G.h1.fin hb1) hcu (by rw[S.now1];exact S.beg) (by rw[S.now1];exact S.hp1) G.used1)
end
abbrev RunQk (c:Cfg)(n:Nat)(y:GW Zx):Prop:=RunOk (Q9 c 1) (are1 c).slots c (n:Int) y
theorem runq_start {c:Cfg}(hok:c.Ok)(km:Nat)(vs:Value):RunQk c 0 (gsq0 c km vs):=by
 have:=hok.S1
 refine⟨by simp[gsq0,mch0],Pw.nil,Pw.nil,Pw.nil,by simp[gsq0,mch0],rfl,by simp[gsq0,are1];omega,by simp[gsq0,mch0],by simp[gsq0,mch0],rfl,by simp[gsq0,mch0],by simp[gsq0,mch0],by simp[gsq0,mch0],rfl,by simp[gsq0,mch0],by simp[gsq0,mch0],?_,by simp[gsq0,mch0]⟩
 intro t k se hk _
 simp only[gsq0]at hk
 have:=(List.mem_replicate.1 (Yc hk)).2
 cases this
end
section
open Go.RowKit Hp
set_option maxRecDepth 100000
set_option maxHeartbeats 1000000
attribute [local irreducible] Go.Calls
def dropE (a:Int):List Int→List Int
 | []=>[]
 | x::l=>if x=a then dropE a l else x::dropE a l
theorem len_drop (a:Int):∀l:List Int,l.length=(dropE a l).length+l.count a
 | []=>rfl
 | x::l=>by
  have:=len_drop a l
  unfold dropE
  by_cases e:x=a
  ·subst e;rw[if_pos rfl,List.count_cons_self,List.length_cons];omega
  ·rw[if_neg e,List.count_cons_of_ne (by simpa using e),List.length_cons,List.length_cons];omega
theorem count_drop (a s:Int):∀l:List Int,(dropE a l).count s=if s=a then 0 else l.count s
 | []=>by simp[dropE]
 | x::l=>by
  have:=count_drop a s l
  unfold dropE
  by_cases e:x=a
  ·subst e
   rw[if_pos rfl,this]
   by_cases e2:s=x
   ·rw[if_pos e2,if_pos e2]
   ·rw[if_neg e2,if_neg e2,List.count_cons_of_ne (by simpa using Ne.symm e2)]
  ·rw[if_neg e,List.count_cons,List.count_cons,this]
   by_cases e2:s=a
   ·subst e2
    rw[if_pos rfl,if_pos rfl,if_neg (by simpa using e)]
   ·rw[if_neg e2,if_neg e2]
theorem len_counts:∀(n:Nat) (l:List Int),(∀s,l.count s≤if 0≤s∧s<(n:Int) then 1 else 0)→l.length≤n
 | 0,l,h=>by
  cases l with
  | nil=>simp
  | cons x l=>
   have:=h x
   rw[List.count_cons_self,if_neg (by omega)]at this
   omega
 | n+1,l,h=>by
  have h1:=len_drop (n:Int) l
  have h2:=len_counts n (dropE (n:Int) l) (fun s=>by
   rw[count_drop]
   have:=h s
   by_cases e:s=(n:Int)
   ·rw[if_pos e];omega
   ·rw[if_neg e]
    by_cases hs:0≤s∧s<(n:Int)
    ·rw[if_pos hs];rw[if_pos (by omega)]at this;exact this
    ·rw[if_neg hs];rw[if_neg (by omega)]at this;exact this)
  have h3:=h (n:Int)
  rw[if_pos (by omega)]at h3
  omega
section
variable {c:Cfg}{n:Nat}{y y':GW Zx}{t:Nat}{stk:List Int}{pr:Int→Prop}{F:List Int}
theorem DK.at_most {k':Int}{l:List Int}(D:DK c stk pr F k' y)(hS:0≤c.Sl)(h:∀s,l.count s≤cnt2 y.s.1.lists s∨l.count s≤cnt2 (y.tasks.map kSo) s):(l.length:Int)≤c.Sl:=by
 have:=len_counts c.Sl.toNat l (fun s=>by
  have ht:=D.gd.tot s
  have h2:=h s
  have e:(sx stk pr c y.s.1 y.s.2 y.m).lists=y.s.1.lists:=rfl
  rw[e]at ht
  unfold ind at ht
  by_cases hs:0≤s∧s<c.Sl
  ·rw[if_pos (by omega)]
   rw[if_pos hs]at ht
   omega
  ·rw[if_neg (by omega)]
   rw[if_neg hs]at ht
   omega)
 omega
theorem DK.lists_le {k':Int}(D:DK c stk pr F k' y)(hS:0≤c.Sl)(r:Nat):((y.s.1.lists.getD r []).length:Int)≤c.Sl:=by
 refine D.at_most hS (fun s=>.inl ?_)
 rw[Yb]
 cases e:y.s.1.lists[r]? with
 | none=>simp
 | some l=>exact cnt2_get s e
theorem giveL_len (g:Option Psh)(l:List Int):l.length≤(giveL g l).length:=by
 unfold giveL
 split<;>simp
theorem DK.pend {k':Int}{k:Zx}{s:Scn}(D:DK c stk pr F k' y)(hS:0≤c.Sl)(hk:y.tasks[t]? = some (some k))(hs:∀z,(scnP s).count z≤(kS k).count z)(h5:s.stage=5):(s.pending.length:Int)≤c.Sl:=by
 have h1:=giveL_len s.give s.pending
 have h2:((giveL s.give s.pending).length:Int)≤c.Sl:=by
  refine D.at_most hS (fun z=>.inr ?_)
  have e:(y.tasks.map kSo)[t]? = some (kS k):=by rw[Ym,hk];rfl
  refine Nat.le_trans ?_ (cnt2_get z e)
  have:=hs z
  unfold scnP at this
  rw[if_pos h5]at this
  exact this
 omega
theorem tail_pos (P:PM (QM c) (QI c) c n y):1≤qT c y.m∧qT c y.m≤c.Sl∧1≤qH c y.m:=⟨P.core.mw.2.1,P.core.mw.2.2,P.core.mw.1.1⟩
theorem DK.qf {k':Int}(D:DK c stk pr F k' y)(P:PM (QM c) (QI c) c n y):QF c y.m:=by
 have G:=D.gd
 have hok:=P.core.ok
 have hlk:Jt (mv c y.m).ln (qH c y.m) stk:=G.lk
 have hrange:∀s∈stk,0≤s∧s<c.Sl:=fun s hs=>by
  refine G.range (s:=s) ?_
  have:=cpos hs
  show 0<_+stk.count s
  omega
 have hK:∀s∈stk,qK c y.m (s+1)=(mv c y.m).ln s:=fun s hs=>by
  obtain⟨h0,h1⟩:=hrange s hs
  rw[ln_at h0 h1]
  unfold qK
  rw[show s+1-1=s by omega]
 obtain⟨pre,s,post,e1,e2,e3⟩:=D.tli
 have e3:qT c y.m=s+1:=e3
 refine⟨fun e => ?_,fun e => ?_⟩
 ·rw[e3,hK s (by rw[e1];simp)]at e ⊢
  rw[e1]at hlk
  cases post with
  | nil=>exact absurd hlk.last e
  | cons u r=>
   have hr:r=[]:=by
    cases r with
    | nil=>rfl
    | cons _ _=>simp at e2
   subst hr
   have h1:=(Jt.next hlk).1
   rw[h1,hK u (by rw[e1];simp)]
   have:Jt (mv c y.m).ln (qH c y.m) ((pre++[s])++[u]):=by simpa using hlk
   exact this.last
 ·cases hs:stk with
  | nil=>rw[hs]at e1;simp at e1
  | cons a r=>
   have hH:qH c y.m=a+1:=by rw[hs]at hlk;exact hlk.1
   rw[hH,hK a (by rw[hs];exact List.mem_cons_self ..)]at e ⊢
   cases r with
   | nil=>rw[hs]at hlk;exact absurd (Jt.last (pre:=[]) hlk) e
   | cons b r=>
    rw[hs]at hlk
    have h1:=(Jt.next (pre:=[]) hlk).1
    rw[h1]
    have:=(G.nodup (s:=a) (pre:=[]) (post:=b::r) hs).2
    intro e9
    have:b=a:=by omega
    subst this
    simp at *
def qC (c:Cfg)(t:Nat)(y:GW Zx):Zx→Int
 | .hz k=>coC c (y.m.word (adr c 1 0)) (y.m.word (adr c 2 0)) ((y.s.2.caches.getD t []).length:Int) k
 | .put p=>pmC c y.m p
 | .get g=>gmC c y.m g
def qBd (c:Cfg):Int:=scB c+c.Hz+3*c.Ca+40
theorem qC_bd {k':Int}{k:Zx}{se:Sea}(P:PM (QM c) (QI c) c n y)(D:DK c stk pr F k' y)(hk:y.tasks[t]? = some (some k))(hse:y.m.seats[t]? = some se)(hr:se.ready=true):1≤qC c t y k∧qC c t y k≤qBd c:=by
 have hok:=P.core.ok
 have hS1:=hok.S1
 have hC1:=hok.C1
 have hH1:=hok.H1
 have hB:=scB_0 hok
 obtain⟨_,I⟩:=P.task t k se hk hse
 rw[hr]at I
 have hlt:=(List.getElem?_eq_some_iff.1 hk).1
 have htc:t<y.s.2.caches.length:=by rw[P.core.caches,←P.tasks];exact hlt
 have hy:y.s.2.caches[t]? = some (y.s.2.caches.getD t []):=by rw[Yb,Yd htc];rfl
 have hl:=P.core.clens _ (Yc hy)
 unfold qBd
 cases k with
 | put p=>
  have:=pm_b (c:=c) (m:=y.m) (I.2.2.2 rfl).1
  show 1≤pmC c y.m p∧pmC c y.m p≤_
  omega
 | get g=>
  have I2:=(I.2.2.2 rfl).1
  have:=gm_b (m:=y.m) hok I2 (fun r sc h12 e1 e2=>by
   by_cases h5:sc.stage=5
   ·refine D.pend (by omega) hk (fun z => ?_) h5
    rw[(kS_get12 h12 e1 e2).1]
    exact Nat.le_refl _
   ·obtain⟨r',sc',e3,e4,e5,_⟩:=I2.ret h12
    rw[e1]at e3
    cases e3
    rw[e2]at e4
    cases e4
    rw[e5.pend (by have:=e5.stage;omega)]
    simp;omega)
  show 1≤gmC c y.m g∧gmC c y.m g≤_
  omega
 | hz k=>
  have h1:=co_1 hok I (y.m.word (adr c 1 0)) (y.m.word (adr c 2 0))
  have h2:=co_2 hok I hl (fun s hs => ?_) (y.m.word (adr c 1 0)) (y.m.word (adr c 2 0))
  ·show 1≤coC c _ _ _ k∧coC c _ _ _ k≤_
   omega
  by_cases h5:s.stage=5
  ·refine D.pend (by omega) hk (fun z => ?_) h5
   show _≤(Go.Proofs.YtefjbdajgakgpaaGreat.hS k).count z
   unfold Go.Proofs.YtefjbdajgakgpaaGreat.hS hP
   rw[hs,List.count_append]
   simp only[]
   omega
  ·have hp:s.pending=[]:=by
    have key:ScI c s:=by
     cases k with
     | reg r=>cases hs
     | rdg r=>cases hs
     | clr r=>cases hs
     | scn z=>simp only[scOf,Option.some.injEq]at hs;subst hs;exact I.2.2 rfl
     | unr u=>
      obtain⟨_,_,J⟩:=I
      simp only[scOf]at hs
      split at hs
      ·rename_i h1
       obtain⟨z,e1,e2,_⟩:=J.scan h1
       rw[e1]at hs;cases hs;exact e2
      ·cases hs
     | pst p=>
      obtain⟨_,_,J1,J2⟩:=I
      simp only[scOf]at hs
      split at hs
      ·rename_i h1
       obtain⟨r,z,e1,e2,e3,_⟩:=(J1 rfl).ret h1
       rw[e1]at hs;simp only[e2]at hs;cases hs;exact e3
      ·cases hs
    refine key.pend ?_
    have:=key.stage
    omega
   rw[hp];simp;omega
theorem step_qC {k':Int}{k:Zx}{se:Sea}{bh ba:Nat}{CX:Zc}{K:Int→Option Value}{ar da:Int}{b:Bool}(P:PM (QM c) (QI c) c n y)(hn:n<65536)(D:DK c stk pr F k' y)(hk:y.tasks[t]? = some (some k))(hse:y.m.seats[t]? = some se)
  (hM:Jy (qkT bh ba c CX) K qTask y ⟨(t:Int),0,ar,da⟩ b y') :
  y'.tasks[t]? = some none∨∃k' se',y'.tasks[t]? = some (some k')∧y'.m.seats[t]? = some se'∧se'.ready=true∧(se.ready=true→qC c t y' k'≤qC c t y k-1):=by
 have htk:=(List.getElem?_eq_some_iff.1 hk).1
 have hst:=(List.getElem?_eq_some_iff.1 hse).1
 obtain⟨i,cl,r1,r2,G,e⟩:=gm_busy (qkT_good bh ba c CX) (qk_inv c _ _) P hn rfl rfl hk hse hM
 subst e
 obtain⟨z,q,v,O⟩:=G.out P
 have hS1:=P.core.ok.S1
 obtain⟨hT1,hT2,hH1⟩:=tail_pos P
 have Q:=D.qf P
 by_cases hb:r2.1=true
 ·left
  show(y.tasks.set t _)[t]? = some none
  rw[Ye htk,if_pos hb]
 ·right
  refine⟨r2.2.2.2,{ se with ready:=true,kind:=q,value:=v },?_,?_,rfl,fun hr => ?_⟩
  ·show(y.tasks.set t _)[t]? = _
   rw[Ye htk,if_neg hb]
  ·rw[O.seats,Ye hst,if_neg hb]
  ·have hr1:r1=(false,y.s,ZO y t i se,k):=by
    rcases G.rdy with⟨hf,_⟩|⟨_,e⟩
    ·rw[hr]at hf;cases hf
    ·exact e
   have hI:=G.i0
   rw[hr]at hI
   have hb':r2.1=false:=by simpa using hb
   rcases G.stp with⟨hb1,_⟩|⟨_,z1,q1,v1,hcu,e⟩
   ·rw[hr1]at hb1;cases hb1
   have e':r2=Q5 (y.s.1,y.s.2) (ZO y t i se) i t { cl with point:=z1 } { se with ready:=true,kind:=q1,value:=v1 } k:=by rw[e,hr1];rfl
   have hm:∀j,(Qj y t i r2).m.word j=r2.2.2.1.word j:=fun j=>by unfold Mch.word;rw[O.mem]
   have C0:=G.c0.toCore
   have hW:SmW c y.m (ZO y t i se):=SmW.of rfl
   have Q0:QF c (ZO y t i se):=Q.sm hW hT1 hH1 (qk_0 P.core.toCore ⟨hT1,hT2⟩)
   cases k with
   | hz k=>
    have e2:r2.2.2.2=.hz (ZQ (y.s.1,y.s.2) (ZO y t i se) i t { cl with point:=z1 } { se with ready:=true,kind:=q1,value:=v1 } k).2.2.2:=by rw[e'];rfl
    rw[e2]
    have hf:(ZQ (y.s.1,y.s.2) (ZO y t i se) i t { cl with point:=z1 } { se with ready:=true,kind:=q1,value:=v1 } k).1=false:=by rw[e']at hb';exact hb'
    have C2:=G.h2.core
    rw[e']at C2
    have:=cost_step (i:=i) (cl:={ cl with point:=z1 }) (se:={ se with ready:=true,kind:=q1,value:=v1 }) C0 G.htT hI (D.lists_le (by omega)) C2 hf
    show coC c _ _ _ _≤coC c _ _ _ _-1
    rw[hm,hm]
    rw[e']
    exact this
   | put p=>
    have e2:r2.2.2.2=.put (Qc y.s.1 y.s.2 (ZO y t i se) i t { cl with point:=z1 } { se with ready:=true,kind:=q1,value:=v1 } p).2.2.2:=by rw[e'];rfl
    have e3:r2.2.2.1=(Qc y.s.1 y.s.2 (ZO y t i se) i t { cl with point:=z1 } { se with ready:=true,kind:=q1,value:=v1 } p).2.2.1:=by rw[e'];rfl
    have hf:(Qc y.s.1 y.s.2 (ZO y t i se) i t { cl with point:=z1 } { se with ready:=true,kind:=q1,value:=v1 } p).1=false:=by rw[e']at hb';exact hb'
    have:=put_c (i:=i) (cl:={ cl with point:=z1 }) (se:={ se with ready:=true,kind:=q1,value:=v1 }) C0 Q0 hT1 G.htT hI.1 hI.2.1 (hI.2.2.2 rfl).1 hf
    rw[e2]
    show pmC c (Qj y t i r2).m _≤pmC c y.m p-1
    rw[←e3]at this
    have ew:(Qj y t i r2).m.mem=r2.2.2.1.mem:=O.mem
    have a1:pmC c (Qj y t i r2).m=pmC c r2.2.2.1:=by
     funext x
     unfold pmC lagC qT qK
     simp only[hm]
    rw[a1]
    exact this
   | get g=>
    have e2:r2.2.2.2=.get (Z6 y.s.1 y.s.2 (ZO y t i se) i t { cl with point:=z1 } { se with ready:=true,kind:=q1,value:=v1 } g).2.2.2.2:=by rw[e'];rfl
    have e3:r2.2.2.1=(Z6 y.s.1 y.s.2 (ZO y t i se) i t { cl with point:=z1 } { se with ready:=true,kind:=q1,value:=v1 } g).2.2.2.1:=by rw[e'];rfl
    have hf:(Z6 y.s.1 y.s.2 (ZO y t i se) i t { cl with point:=z1 } { se with ready:=true,kind:=q1,value:=v1 } g).1=false:=by rw[e']at hb';exact hb'
    have:=get_c (i:=i) (cl:={ cl with point:=z1 }) (se:={ se with ready:=true,kind:=q1,value:=v1 }) C0 Q0 hT1 hH1 G.htT hI.1 hI.2.1 (hI.2.2.2 rfl).1 (D.lists_le (by omega)) hf
    rw[e2]
    show gmC c (Qj y t i r2).m _≤gmC c y.m g-1
    rw[←e3]at this
    have a1:gmC c (Qj y t i r2).m=gmC c r2.2.2.1:=by
     funext x
     unfold gmC atC qT qH qK
     simp only[hm]
    rw[a1]
    exact this
end
end
section
open Go.RowKit Hp
set_option maxRecDepth 100000
set_option maxHeartbeats 1000000
attribute [local irreducible] Go.Calls
def DkJ (c:Cfg)(n:Nat)(y:GW Zx):Prop:=RunQk c n y∧∃stk pr F,DK c stk pr F n y
theorem dk_ok (c:Cfg)(bh ba:Nat)(CX:Zc):JW c (qkT bh ba c CX) (DkJ c) where
 tick:=fun n y hn P B J=>⟨J.1.tick,by obtain⟨stk,pr,F,D⟩:=J.2;exact⟨stk,pr,F,D.tick⟩⟩
 beg:=fun n y mv t k v vc hn P B J ht htT hop hk hm=>⟨J.1.begin P ht hk,by obtain⟨stk,pr,F,D⟩:=J.2;exact⟨stk,pr,F,D.begin P htT hk hm⟩⟩
 step:=fun n y t i cl se k r1 r2 hn P B G P' B' J=>⟨J.1.step P G (B.evq P G),by
  obtain⟨stk,pr,F,D⟩:=J.2
  obtain⟨Z,Y,F0,pr1,F1,pr2,F2,_,_,_,_,_,_,_,_,_,_,D'⟩:=(D.step hn B P G).ex
  exact⟨_,_,_,D'⟩⟩
theorem dk_start (c:Cfg)(hok:c.Ok)(km:Nat)(vs:Value):DkJ c 0 (gsq0 c km vs):=⟨runq_start hok km vs,⟨_,_,_,DK.start hok km vs⟩⟩
def AloJ (c:Cfg)(t L:Nat)(k:Nat)(y:GW Zx):Prop:=
 DkJ c k y∧(L≤k→y.tasks[t]? = some none∨∃k' se,y.tasks[t]? = some (some k')∧y.m.seats[t]? = some se∧(L+1≤k→se.ready=true∧qC c t y k'+((k-L:Nat):Int)≤qBd c+1))
section
variable {c:Cfg}{t:Nat}{M:List Mv}{N:Nat}
theorem alo_task {k:Nat}{y:GW Zx}(ht:(t:Int)<c.T)(P:PM (QM c) (QI c) c k y):y.tasks[t]? = some none∨∃k' se,y.tasks[t]? = some (some k')∧y.m.seats[t]? = some se:=by
 have hT:=P.core.ok.T1
 have h1:t<y.tasks.length:=by rw[P.tasks];omega
 have h2:t<y.m.seats.length:=by rw[P.seats];omega
 obtain⟨o,ho⟩:∃o,y.tasks[t]? = some o:=⟨_,Yd h1⟩
 cases o with
 | none=>exact .inl ho
 | some k=>exact .inr ⟨k,_,ho,Yd h2⟩
theorem alo_move (ht:(t:Int)<c.T){CX:Zc}{bh ba:Nat}{x:Caps}{z:QCaps}{k:Nat}{y y':GW Zx}{mv:Mv}{b:Bool}(hmv:(M++List.replicate N (⟨(t:Int),0,0,0⟩:Mv))[k]? = some mv)(hk:k<65536)
  (P:PM (QM c) (QI c) c k y∧QB k y) (J:AloJ c t M.length k y) (hm:Jy (qkT bh ba c CX) (jFnQ x z) qTask y mv b y'):AloJ c t M.length (k+1) y':=by
 obtain⟨P',B',J'⟩:=(dk_ok c bh ba CX).jm.moves (qkT_good bh ba c CX) (qk_inv c _ _) (fun o=>(jFnQ_known x z o).1) P.1 ⟨P.2,J.1⟩ hk hm
 refine⟨J',fun hL => ?_⟩
 by_cases h0:M.length≤k
 ·have hmv:mv=⟨(t:Int),0,0,0⟩:=by
   rw[List.getElem?_append_right h0,List.getElem?_replicate]at hmv
   split at hmv
   ·cases hmv;rfl
   ·cases hmv
  subst hmv
  rcases J.2 h0 with H|⟨k0,se,h1,h2,h3⟩
  ·left
   have hlt:=(List.getElem?_eq_some_iff.1 H).1
   cases hm with
   | out h=>exact H
   | idle=>exact H
   | busy=>exact H
   | nokit=>exact H
   | refused=>exact H
   | begin_ j' kj v vc ht' hop=>exact absurd rfl hop
   | step j' i cl sj kj ht' hop hj' hsj hl' hc=>
    have e:t=j':=by simp only[]at ht';omega
    subst e
    rw[H]at hj';cases hj'
  ·obtain⟨_,stk,pr,F,D⟩:=J.1
   obtain⟨_,stk',pr',F',D'⟩:=J'
   rcases step_qC P.1 hk D h1 h2 hm with h|⟨k1,s1,g1,g2,g3,g4⟩
   ·exact .inl h
   ·refine .inr ⟨k1,s1,g1,g2,fun _=>⟨g3,?_⟩⟩
    by_cases h5:M.length+1≤k
    ·obtain⟨g5,g6⟩:=h3 h5
     have:=g4 g5
     omega
    ·have:=(qC_bd P' D' g1 g2 g3).2
     omega
 ·rcases alo_task ht P' with h|⟨k1,se,h1,h2⟩
  ·exact .inl h
  ·exact .inr ⟨k1,se,h1,h2,fun h=>by omega⟩
theorem alo_end {y:GW Zx}(P:PM (QM c) (QI c) c (M.length+N) y)(J:AloJ c t M.length (M.length+N) y)(hN:qBd c+2≤N):∀x∈y.m.calls,x.thread=(t:Int)→0≤x.end_:=by
 have hB:=scB_0 P.core.ok
 have hH:=P.core.ok.H1
 have hC:=P.core.ok.C1
 have h0:1≤N:=by unfold qBd at hN;omega
 rcases J.2 (by omega) with H|⟨k,se,hk,hse,H⟩
 ·intro x hx hxt
  rcases(J.1.1.cl x hx).e with h|h
  ·exfalso
   obtain⟨k,hk⟩:=J.1.1.idle x hx h.1
   rw[hxt]at hk
   simp only[Yo]at hk
   rw[H]at hk;cases hk
  ·have:=(J.1.1.cl x hx).b0
   omega
 ·exfalso
  obtain⟨h5,h6⟩:=H (by omega)
  obtain⟨_,stk,pr,F,D⟩:=J.1
  have:=(qC_bd P D hk hse h5).1
  omega
end
def soloC (c:Cfg)(Ls:Int):Int:=56*c.Sl+(c.T+2)*(3*c.R+c.R*c.Hz+3*Ls+3)+3*c.Ca+2*c.R+c.Hz+100
theorem solo_bd {c:Cfg}(hok:c.Ok){Ls:Int}(hLs:0≤Ls){N:Nat}(hN:(N:Int)=soloC c Ls):qBd c+2≤N:=by
 have hT:=hok.T1
 have hR:=hok.R1
 have hS:=hok.S1
 have hC:=hok.C1
 have hH:=hok.H1
 have hA:0≤c.R*c.Hz:=Int.mul_nonneg (by omega) (by omega)
 have hX:1*(3*c.R+c.R*c.Hz+3*Ls+3)≤(c.T+2)*(3*c.R+c.R*c.Hz+3*Ls+3):=Int.mul_le_mul_of_nonneg_right (by omega) (by omega)
 rw[hN];unfold soloC qBd scB scA;omega
end
section
open Go.RowKit
namespace Hp
theorem flat_get {sz:Nat}:∀ {css:List (List Value)} {f:Nat} {x:Value},(∀c∈css,c.length=sz)→css.flatten[f]? = some x→∃(i j:Nat) (c:List Value),css[i]? = some c∧c[j]? = some x∧f=i*sz+j
 | [],f,x,_,h=>by simp at h
 | c::css,f,x,hw,h=>by
  rw[List.flatten_cons]at h
  have hc:=hw c (List.mem_cons_self ..)
  by_cases hf:f<c.length
  ·rw[List.getElem?_append_left hf]at h
   exact⟨0,f,c,rfl,h,by simp⟩
  ·rw[List.getElem?_append_right (by omega)]at h
   obtain⟨i,j,d,h1,h2,h3⟩:=flat_get (fun d hd=>hw d (List.mem_cons_of_mem _ hd)) h
   exact⟨i+1,j,d,by simpa using h1,h2,by rw[Nat.add_mul];omega⟩
section
variable {P:Program}{ops:Array Oper}{Q:Exit→Act→World→Prop}{w:World}{rest:List Oper}{O:World}{S R A:Zc}
variable {l:List Value}{ds:List Deferred}{T ty E:TypeId}{pos:String}{after:Array Edge}{gd:Option (Nat×Bool)}{d:Nat}{x y:Operand}{i sz n:Nat}{dss:List (List Value)}{c:List Value}{v u:Value}{a:Addr}
theorem flat_len {sz:Nat}:∀ {css:List (List Value)},(∀c∈css,c.length=sz)→css.flatten.length=css.length*sz
 | [],_=>by simp
 | c::css,hw=>by
  have:=flat_len (fun d hd=>hw d (List.mem_cons_of_mem _ hd))
  rw[List.flatten_cons,List.length_append,this,hw c (List.mem_cons_self ..),List.length_cons,Nat.add_mul];omega
theorem run_app0 {by_:Nat}{t ty:TypeId}(h:SlcC P t E)(hE:ElC P E sz by_)(hpos:0<sz)(h1:∀c∈dss,c.all Value.oneCell'=true)(hs:Sat O w (A*R))(hr:Rd A sz dss u)(hn:dss.length≤4294967296)(hb:by_≤32768) :
  ∃v' w',(Builtin.append_ #[t,t] ty #[.slice none 0 0,u]).run P w=.ok v' w'∧Sat O w' (sl E sz dss v'*(A*R)):=by
 have hinfo:=hE.info
 have hzero:=hE.zero
 cases hq:P.info? E with
 | none=>simp[hq]at hinfo
 | some inf=>
  cases hzz:inf.zero with
  | none=>simp[hq,hzz]at hzero
  | some zv=>
   simp[hq,hzz]at hinfo hzero
   have hwd:SlOk sz dss:=⟨fun c hc=>⟨hr.wf c hc,h1 c hc⟩,hpos⟩
   rcases hr.at_ with⟨hd,hv⟩|⟨a,cap,hcap,hv⟩
   ·subst hd;subst hv
    refine⟨.slice none 0 0,w,?_,sl_nil hs hpos⟩
    simp[Builtin.append_,run_underlying h.is,sizeOf,typeInfo,hq,Builtin.lenOf,hinfo.1,run_firstCells_none]
   ·subst hv
    by_cases hd0:dss.length=0
    ·have hd:dss=[]:=List.eq_nil_of_length_eq_zero hd0
     subst hd
     refine⟨.slice none 0 0,w,?_,sl_nil hs hpos⟩
     have hf:=run_firstCells_some (P:=P) (w:=w) sz 0 a 0 cap [] (by simp) (by simp)
     simp[Builtin.append_,run_underlying h.is,sizeOf,typeInfo,hq,Builtin.lenOf,hinfo.1,hf]
    ·have hfd:(Builtin.firstCells sz dss.length (.slice (some a) dss.length cap)).run P w.drew=.ok dss.flatten.toArray w.drew:=by
      refine run_firstCells_some (P:=P) (w:=w.drew) sz dss.length a _ cap dss.flatten (flat_len hr.wf) (fun f x hx => ?_)
      obtain⟨i,j,c,g1,g2,g3⟩:=flat_get hr.wf hx
      have:=hr.get O w.drew R hs.drew a _ cap rfl i c g1 j x g2
      rw[Addr.add_add]at this
      rw[g3];exact this
     have hbb:dss.length*inf.bytes≤140737488355328:=by
      rw[hinfo.2]
      calc dss.length*by_≤4294967296*32768:=Nat.mul_le_mul hn hb
       _≤_:=by decide
     have hge:=grownCap_ge w dss.length 0 E
     have hnew:Sat O (w.drew.alloc (.cells (dss.flatten.toArray++Builtin.zeroCells zv.cells (grownCap w dss.length 0 E-dss.length)) E)) (sl E sz dss (.slice (some ⟨w.heap.size,0,none⟩) dss.length (grownCap w dss.length 0 E))*(A*R)):=by
      refine QL.2 ⟨hwd,.inr ⟨w.heap.size,0,grownCap w dss.length 0 E,[],(Builtin.zeroCells zv.cells (grownCap w dss.length 0 E-dss.length)).toList,by simp,rfl,by simpa using hge,?_,?_⟩⟩
      ·simp only[Array.length_toList,zeroCells_size,hzero,←Nat.add_mul]
       refine Nat.mul_le_mul_right _ ?_
       omega
      ·have:=hs.drew.alloc (.cells (dss.flatten.toArray++Builtin.zeroCells zv.cells (grownCap w dss.length 0 E-dss.length)) E)
       refine this.cast ?_
       congr 3
       apply Array.ext'
       simp
     refine⟨_,_,?_,hnew⟩
     have h48':¬(281474976710656<Builtin.nextslicecap dss.length 0*inf.bytes):=by
      rw[nextslicecap_zero (by omega)];omega
     have h63'':¬(9223372036854775807<(dss.length:Int)):=by omega
     simp[Builtin.append_,run_underlying h.is,sizeOf,typeInfo,zeroValue,hq,hzz,Builtin.lenOf,hd0,h63'',h48',Question.forced,hinfo.1,run_firstCells_none,hfd,newRow,grownCap]
theorem wl_app0 {by_:Nat}(hs:Sat O w S)(hr:Rd A sz dss u)(h:SlcC P T E)(hE:ElC P E sz by_)(hpos:0<sz)(h1:∀c∈dss,c.all Value.oneCell'=true)(hx:ev l x=some (.slice none 0 0))(hy:ev l y=some u)(hp:Pull S A R)(hn:dss.length≤4294967296)(hb:by_≤32768)
  (hg:Region.wanted { dst:=some d,op:=.call { callee:=.builtin .append,args := #[x,y],argTypes := #[T,T] },type:=ty,pos,after,guard:=gd } (yielded ops l.toArray)=true)
  (kk:∀w' v',Sat O w' (sl E sz dss v'*(A*R))→wpList P ops Q rest ⟨(l.set d v').toArray,ds⟩ w') :
  wpList P ops Q ({ dst:=some d,op:=.call { callee:=.builtin .append,args := #[x,y],argTypes := #[T,T] },type:=ty,pos,after,guard:=gd }::rest) ⟨l.toArray,ds⟩ w:=by
 obtain⟨v',w',hr',hk⟩:=run_app0 (P:=P) (t:=T) (ty:=ty) h hE hpos h1 (hs.pull hp) hr hn hb
 refine QE (v:=v') hg ?_ (ZU▸kk w' v' hk)
 have e1:=Zm (ds:=ds) hx
 have e2:=Zm (ds:=ds) hy
 simp[execOp,resolve,e1,e2,invoke,builtin,hr']
end
end Hp
end
end Go.Proofs.YtefjbdajgakgpaaGreat
