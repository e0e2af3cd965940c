import Derived.Test.YtefjbdajgakgpaaGreatCQueS
import Derived.Test.YtefjbdajgakgpaaGreatCGHis
set_option linter.all false
namespace Go.Proofs.YtefjbdajgakgpaaGreat
open Go.RowKit Hp
set_option maxRecDepth 100000
set_option maxHeartbeats 1000000
attribute [local irreducible] Go.Calls
section
def qAll (_:Nat):Prop:=True
section
variable {c:Cfg}{L S N:Nat}{h:Haz}{a:Are}{m m':Mch}{i t:Nat}{cl:Cll}{se:Sea}
instance qAll_ok (c:Cfg):QOk c qAll:=⟨fun _ _=>trivial⟩
theorem evq_ptTaken {p:Pt}(hcl:m'.calls[i]? = some cl)(hse:m'.seats[t]? = some se)(hb:cl.begin_<m'.now):EvQ qAll i t (h,a,m') (h,a,(ZX m' i t cl se p).2.1):=by
 unfold ZX
 split
 ·exact(EvQ.point cl _ hcl hb (Int.le_refl _)).trans (EvQ.answer (m:=m'.point _ _ _) se 4 0 hse (by omega) (by omega) (fun _=>rfl))
 ·exact .refl _
theorem evq_ptReady {p:Pt}(C:Core c L S N h a m)(t0:0≤p.take.thread)(t1:p.take.thread<c.T)(hcl:m.calls[i]? = some cl)(hse:m.seats[t]? = some se)(hb:cl.begin_<m.now) :
  EvQ qAll i t (h,a,m) (h,(ZY h a m i t cl se p).2.1,(ZY h a m i t cl se p).2.2.1):=by
 have E:=evq_takeReady (Q:=qAll) (i:=i) (t:=t) (k:=p.take) C t0 t1
 have Sm:=Z3 a m p.take
 unfold ZY
 simp only[]
 split
 ·exact E.trans (evq_ptTaken (by rw[Sm.calls];exact hcl) (by rw[Sm.seats];exact hse) (by rw[Sm.now];exact hb))
 ·exact E
theorem qhz_lt (C:Core c L S N h a m)(ht:(t:Int)<c.T){th k:Int}(hu:th=(t:Int))(hd:0≤h.held.getD t 0)(k0:0≤k)(k1:k≤1):qHz h th k<m.mem.words.length∧qAll (qHz h th k):=by
 have hok:=C.ok
 obtain⟨hr1,_⟩:=C.hget ht
 have hza:=hz_adr hok hd hr1 k0 (by have:=hok.H1;omega)
 have:qHz h th k=(base c 9+h.held.getD t 0*c.Hz+k).toNat:=by
  unfold qHz
  rw[hu,C.hc,Yo]
 rw[this]
 exact C.lq (hz_lq hok hza.1 hza.2)
theorem evq_put {p:Pt}(C:Core c L S N h a m)(ht:(t:Int)<c.T)(hu:p.thread=(t:Int))(hd:0≤h.held.getD t 0)(I:PtI c p)(hcl:m.calls[i]? = some cl)(hse:m.seats[t]? = some se)(hb:cl.begin_<m.now)(hus:m.used=false) :
  EvQ qAll i t (h,a,m) (h,(Z7 h a m i t cl se p).2.1,(Z7 h a m i t cl se p).2.2.1):=by
 have hok:=C.ok
 have hc:=C.hc
 have hac:=C.ac
 have hZ:=qhz_lt (m:=m) (th:=p.thread) (k:=0) C ht hu hd (by omega) (by omega)
 have h5:adr c 5 0<m.mem.words.length∧qAll (adr c 5 0):=⟨C.lt (adr5_lt hok),trivial⟩
 have hV:∀r:Nat,(r=11∨r=13)→∀s,0≤s→s<c.Sl→adr c r s<m.mem.words.length∧qAll (adr c r s):=fun r hr s s0 s1=>⟨C.lt (adr_lt' hok (r:=r) (.inr ⟨by rcases hr with rfl|rfl<;>simp,rfl⟩) s0 s1),trivial⟩
 obtain⟨i1,i2,i3,i4,i5⟩:=I
 unfold Z7
 rw[hc]
 simp only[]
 by_cases s1:p.stage=1
 ·rw[if_pos s1]
  have E:=evq_take (Q:=qAll) (i:=i) (t:=t) C (i2 s1) hus
  have Sm:=Ju a m p.take
  unfold ptTake
  simp only[]
  split
  ·exact E.trans (evq_ptTaken (by rw[Sm.calls];exact hcl) (by rw[Sm.seats];exact hse) (by rw[Sm.now];exact hb))
  ·exact E
 rw[if_neg s1]
 obtain⟨g1,g2⟩:=i3 s1
 by_cases s2:p.stage=2
 ·rw[if_pos s2];exact .store _ _ hus (hV 11 (.inl rfl) _ g1 g2)
 rw[if_neg s2]
 by_cases s3:p.stage=3
 ·rw[if_pos s3];exact .store _ _ hus (hV 13 (.inr rfl) _ g1 g2)
 rw[if_neg s3]
 by_cases s4:p.stage=4
 ·rw[if_pos s4];exact .load _ hus h5
 rw[if_neg s4]
 have hT:=i4 (by omega)
 have hK:=hV 13 (.inr rfl) (p.t-1) (by omega) (by omega)
 by_cases s5:p.stage=5
 ·rw[if_pos s5];exact .store _ _ hus hZ
 rw[if_neg s5]
 by_cases s6:p.stage=6
 ·rw[if_pos s6];exact .load _ hus h5
 rw[if_neg s6]
 by_cases s7:p.stage=7
 ·rw[if_pos s7];exact .load _ hus hK
 rw[if_neg s7]
 by_cases s8:p.stage=8
 ·rw[if_pos s8]
  split
  ·exact(EvQ.swap _ _ _ hus hK).trans ((EvQ.point (m:=m.swap _ _ _ _) cl m.now hcl hb (Int.le_refl _)).trans (EvQ.shift (m:=(m.swap _ _ _ _).point _ _ _) p.slot 3 g1 (by rw[hac];exact g2) (by omega) (by omega)))
  ·exact .swap _ _ _ hus hK
 rw[if_neg s8]
 by_cases s9:p.stage=9
 ·rw[if_pos s9];exact .swap _ _ _ hus h5
 rw[if_neg s9]
 by_cases s10:p.stage=10
 ·rw[if_pos s10]
  exact(EvQ.store _ 0 hus hZ).trans (EvQ.answer (m:=m.store _ _ _) se 1 0 hse (by omega) (by omega) (fun _=>rfl))
 rw[if_neg s10]
 exact .swap _ _ _ hus h5
theorem evq_get {p:Gt}(C:Core c L S N h a m)(ht:(t:Int)<c.T)(hu:p.thread=(t:Int))(hd:0≤h.held.getD t 0)(I:GtI c p)(hcl:m.calls[i]? = some cl)(hse:m.seats[t]? = some se)(hb:cl.begin_<m.now)(hus:m.used=false) :
  EvQ qAll i t (h,a,m) ((QD h a m i t cl se p).2.1,(QD h a m i t cl se p).2.2.1,(QD h a m i t cl se p).2.2.2.1):=by
 have hok:=C.ok
 have hc:=C.hc
 have hac:=C.ac
 have hZ:∀k,0≤k→k≤1→qHz h p.thread k<m.mem.words.length∧qAll (qHz h p.thread k):=fun k k0 k1=>qhz_lt C ht hu hd k0 k1
 have h5:adr c 5 0<m.mem.words.length∧qAll (adr c 5 0):=⟨C.lt (adr5_lt hok),trivial⟩
 have h4:adr c 4 0<m.mem.words.length∧qAll (adr c 4 0):=⟨C.lt (adr4_lt hok),trivial⟩
 have hV:∀r:Nat,(r=11∨r=13)→∀s,0≤s→s<c.Sl→adr c r s<m.mem.words.length∧qAll (adr c r s):=fun r hr s s0 s1=>⟨C.lt (adr_lt' hok (r:=r) (.inr ⟨by rcases hr with rfl|rfl<;>simp,rfl⟩) s0 s1),trivial⟩
 have i7:=Lh I.ret
 obtain⟨i1,i2,i3,i4,i5,i6,_⟩:=I
 unfold QD
 rw[hc]
 simp only[]
 by_cases s1:p.stage=1
 ·rw[if_pos s1];exact .load _ hus h4
 rw[if_neg s1]
 have h0:=i2 (by omega)
 have hK:=hV 13 (.inr rfl) (p.h0-1) (by omega) (by omega)
 by_cases s2:p.stage=2
 ·rw[if_pos s2];exact .store _ _ hus (hZ 0 (by omega) (by omega))
 rw[if_neg s2]
 by_cases s3:p.stage=3
 ·rw[if_pos s3];exact .load _ hus h4
 rw[if_neg s3]
 by_cases s4:p.stage=4
 ·rw[if_pos s4];exact .load _ hus h5
 rw[if_neg s4]
 by_cases s5:p.stage=5
 ·rw[if_pos s5]
  split
  ·exact .load _ hus hK
  ·exact(EvQ.load _ hus hK).trans ((EvQ.point (m:=m.load _ _) cl m.now hcl hb (Int.le_refl _)).trans (EvQ.answer (m:=(m.load _ _).point _ _ _) se 3 0 hse (by omega) (by omega) (fun _=>rfl)))
 rw[if_neg s5]
 by_cases s6:p.stage=6
 ·rw[if_pos s6];exact .store _ _ hus (hZ 1 (by omega) (by omega))
 rw[if_neg s6]
 by_cases s7:p.stage=7
 ·rw[if_pos s7];exact .load _ hus h4
 rw[if_neg s7]
 by_cases s8:p.stage=8
 ·rw[if_pos s8];exact .swap _ _ _ hus h5
 rw[if_neg s8]
 by_cases s9:p.stage=9
 ·rw[if_pos s9]
  have hn:=i4 (by omega) (by omega)
  exact .load _ hus (hV 11 (.inl rfl) (p.n-1) (by omega) (by omega))
 rw[if_neg s9]
 by_cases s10:p.stage=10
 ·rw[if_pos s10]
  split
  ·exact(EvQ.swap _ _ _ hus h4).trans ((EvQ.point (m:=m.swap _ _ _ _) cl m.now hcl hb (Int.le_refl _)).trans (EvQ.shift (m:=(m.swap _ _ _ _).point _ _ _) (p.h0-1) 4 (by omega) (by rw[hac];omega) (by omega) (by omega)))
  ·exact .swap _ _ _ hus h4
 rw[if_neg s10]
 by_cases s11:p.stage=11
 ·rw[if_pos s11]
  have hcl':=i6 s11
  have hZc:=hZ p.cleared (by omega) (by omega)
  unfold gtEnd
  simp only[]
  split
  ·exact .store _ _ hus hZc
  ·split
   ·exact .store _ _ hus hZc
   ·have E1:EvQ qAll i t (h,a,m) (h,a,(m.store (qHz h p.thread p.cleared) (m.word (qHz h p.thread p.cleared)) 0).answer t se 2 p.value):=(EvQ.store _ 0 hus hZc).trans (EvQ.answer (m:=m.store _ _ _) se 2 p.value hse (by omega) (by omega) (fun hf=>absurd rfl hf))
    refine E1.trans ?_
    generalize (m.store (qHz h p.thread p.cleared) (m.word (qHz h p.thread p.cleared)) 0).answer t se 2 p.value=mw
    unfold Zx
    simp only[]
    split<;>exact(EvQ.shift (p.h0-1) 5 (by omega) (by rw[hac];omega) (by omega) (by omega)).trans (.haz _)
 rw[if_neg s11]
 have s12:p.stage=12:=by omega
 obtain⟨r,sc,e1,e2,e3,e4⟩:=i7.out s12
 rw[e1]
 simp only[e2]
 exact evq_scan (Q:=qAll) (i:=i) (t:=t) C e3 hus
theorem evq_qrdy {k:Zu}(C:Core c L S N h a m)(ht:(t:Int)<c.T)(I:QI c t false (h.held.getD t 0) (a.caches.getD t []) k)(hci:Z6 m i t cl se)(hb:cl.begin_<m.now) :
  EvQ qAll i t (h,a,m) ((QR (h,a) m i t cl se k).2.1.1,(QR (h,a) m i t cl se k).2.1.2,(QR (h,a) m i t cl se k).2.2.1):=by
 cases k with
 | hz k=>exact evq_rdy (Q:=qAll) (i:=i) C ht I hci.call hci.seat hb
 | put p=>
  obtain⟨i1,i2,i3,i4⟩:=I
  exact evq_ptReady C (by rw[(i3 rfl).1];simp only[];omega) (by rw[(i3 rfl).1];exact ht) hci.call hci.seat hb
 | get p=>exact .refl _
theorem evq_qstp {k:Zu}(C:Core c L S N h a m)(ht:(t:Int)<c.T)(I:QI c t true (h.held.getD t 0) (a.caches.getD t []) k)(hci:Z6 m i t cl se)(hb:cl.begin_<m.now)(hp:hzQ cl.begin_ m.now k)(hus:m.used=false) :
  EvQ qAll i t (h,a,m) ((Jb (h,a) m i t cl se k).2.1.1,(Jb (h,a) m i t cl se k).2.1.2,(Jb (h,a) m i t cl se k).2.2.1):=by
 cases k with
 | hz k=>exact evq_stp (Q:=qAll) (i:=i) C ht I hci.call hci.seat hb hp hus (fun _ _ _=>trivial) (fun _ _ _=>trivial)
 | put p=>
  obtain⟨i1,i2,i3,i4⟩:=I
  exact evq_put C ht i1 i2 (i4 rfl).1 hci.call hci.seat hb hus
 | get p=>
  obtain⟨i1,i2,i3,i4⟩:=I
  exact evq_get C ht i1 i2 (i4 rfl).1 hci.call hci.seat hb hus
end
section
variable {c:Cfg}{bh ba:Nat}{CX:Zb}{n:Nat}{y:GW Zu}{t i:Nat}{cl:Cll}{se:Sea}{k:Zu}{r1 r2:GR Zu}
theorem QB.evq (R:QB n y)(P:PM (QM c) (QI c) c n y)(G:GStepM (QM c) (qkT bh ba c CX) (QI c) c n y t i cl se k r1 r2):EvQ qAll i t (y.s.1,y.s.2,Qd y t i se) (r2.2.1.1,r2.2.1.2,r2.2.2.1):=by
 have S:=R.stp P G
 have E1:EvQ qAll i t (y.s.1,y.s.2,Qd y t i se) (r1.2.1.1,r1.2.1.2,r1.2.2.1):=by
  rcases G.rdy with⟨hf,e⟩|⟨_,e⟩
  ·have hI:=G.i0
   rw[hf]at hI
   have e':r1=QR (y.s.1,y.s.2) (Qd y t i se) i t cl { se with ready:=true } k:=e
   rw[e']
   exact evq_qrdy G.c0.toCore G.htT hI S.ci (by rw[S.now0];exact S.beg)
  ·rw[e];exact .refl _
 rcases G.stp with⟨hb1,e⟩|⟨hb1,z1,q1,v1,hcu,e⟩
 ·rw[e];exact E1
 ·have e':r2=Jb (r1.2.1.1,r1.2.1.2) r1.2.2.1 i t { cl with point:=z1 } { se with ready:=true,kind:=q1,value:=v1 } r1.2.2.2:=e
  rw[e']
  exact E1.trans (evq_qstp G.h1.core.toCore G.htT (G.h1.fin hb1) hcu (by rw[S.now1];exact S.beg) (by rw[S.now1];exact S.hp1) G.used1)
end
abbrev RunQk (c:Cfg)(n:Nat)(y:GW Zu):Prop:=RunOk (QJ c 1) (are1 c).slots c (n:Int) y
theorem runq_ok (c:Cfg)(bh ba:Nat)(CX:Zb):JW c (qkT bh ba c CX) (RunQk c) where
 tick:=fun n y hn P B j=>j.tick
 beg:=fun n y mv t k v vc hn P B j ht htT hop hk hm=>j.begin P ht hk
 step:=fun n y t i cl se k r1 r2 hn P B G P' B' j=>j.step P G (B.evq P G)
theorem runq_start {c:Cfg}(hok:c.Ok)(km:Nat)(vs:Value):RunQk c 0 (gsq0 c km vs):=by
 have:=hok.S1
 refine⟨by simp[gsq0,mch0],Pw.nil,Pw.nil,Pw.nil,by simp[gsq0,mch0],rfl,by simp[gsq0,are1];omega,by simp[gsq0,mch0],by simp[gsq0,mch0],rfl,by simp[gsq0,mch0],by simp[gsq0,mch0],by simp[gsq0,mch0],rfl,by simp[gsq0,mch0],by simp[gsq0,mch0],?_,by simp[gsq0,mch0]⟩
 intro t k se hk _
 simp only[gsq0]at hk
 have:=(List.mem_replicate.1 (Yc hk)).2
 cases this
end
section
def put (sl:List Slt)(x:Shf):List Slt:=sl.set x.slot.toNat ⟨x.to,if x.to=0∨x.to=3 then -1 else x.thread⟩
def puts (sl:List Slt)(ds:List Shf):List Slt:=ds.foldl put sl
theorem puts_append (sl:List Slt)(x y:List Shf):puts sl (x++y)=puts (puts sl x) y:=List.foldl_append ..
def s0 (c:Cfg):List Slt:=(are1 c).slots
theorem puts_len:∀(ds:List Shf) (sl:List Slt),(puts sl ds).length=sl.length
 | [],_=>rfl
 | d::r,sl=>by show(puts (put sl d) r).length=_;rw[puts_len r];simp[put]
theorem s0_len {c:Cfg}(hok:c.Ok):((s0 c).length:Int)=c.Sl:=by have:=hok.S1;simp[s0,are1];omega
theorem shfs_puts:∀ {l:List Shf} {sl s:List Slt},shfs sl l=some s→puts sl l=s
 | [],sl,s,h=>by injection h
 | x::l,sl,s,h=>by
  simp only[shfs]at h
  cases h1:shf1 sl x with
  | none=>rw[h1]at h;cases h
  | some s1=>
   rw[h1]at h
   have:s1=put sl x:=by
    unfold shf1 at h1
    split at h1
    ·injection h1 with h1;exact h1.symm
    ·cases h1
   subst this
   exact shfs_puts (l:=l) h
end
section
abbrev Cll.v (x:Cll):Value:=.agg (Cll.e x).toArray
def inB (x:Cll)(mv:Int):Bool:=decide (x.begin_<mv)&&(decide (x.end_<0)||decide (mv≤x.end_))
theorem cen_in (x:Cll)(mv:Int):Zl Tryz.prog 81 #[x.v,.int .i64 mv] emp (.bool (inB x mv)) emp:=by
 intro O w F hs
 obtain⟨c1,c2,c3,c4,c5,c6,c7,c8,c9⟩:=x
 by_cases h1:c5<mv
 ·have f1:decide (mv>c5)=true:=by simpa using h1
  have g1:decide (c5<mv)=true:=by simpa using h1
  clear h1
  by_cases h2:c6<0
  ·have f2:decide (c6<0)=true:=by simpa using h2
   clear h2
   go_enter Tryz.func81,Tryz.ntmps81
   go_wp2_with (first|((with_reducible apply Za hs);exact Ii;rfl;(with_reducible exact Qh);rfl;rfl;simp only[Uc,Uz])|((with_reducible apply Zq hs);rfl;rfl;rfl;clear hs;intro w b hs;simp only[Uc,Uz]))
   go_ret
   exact⟨by unfold inB;simp only[g1,f2];rfl,by ((with_reducible apply Sat.fin hs);(focus with_reducible (repeat first|exact Ql|exact Qn|apply Qb|apply Qk);done))⟩
  ·have f2:decide (c6<0)=false:=by simpa using h2
   clear h2
   go_enter Tryz.func81,Tryz.ntmps81
   go_wp2_with (first|((with_reducible apply Za hs);exact Ii;rfl;(with_reducible exact Qh);rfl;rfl;simp only[Uc,Uz])|((with_reducible apply Zq hs);rfl;rfl;rfl;clear hs;intro w b hs;simp only[Uc,Uz]))
   go_ret
   exact⟨by unfold inB;simp only[g1,f2];rfl,by ((with_reducible apply Sat.fin hs);(focus with_reducible (repeat first|exact Ql|exact Qn|apply Qb|apply Qk);done))⟩
 ·have f1:decide (mv>c5)=false:=by simpa using h1
  have g1:decide (c5<mv)=false:=by simpa using h1
  clear h1
  go_enter Tryz.func81,Tryz.ntmps81
  go_wp2_with (first|go_skip|(first|((with_reducible apply Za hs);exact Ii;rfl;(with_reducible exact Qh);rfl;rfl;simp only[Uc,Uz])|((with_reducible apply Zq hs);rfl;rfl;rfl;clear hs;intro w b hs;simp only[Uc,Uz])))
  go_ret
  exact⟨by unfold inB;simp only[g1];rfl,by ((with_reducible apply Sat.fin hs);(focus with_reducible (repeat first|exact Ql|exact Qn|apply Qb|apply Qk);done))⟩
abbrev cslR (cs:List Cll)(v:Value):Zb:=sl 59 9 (cs.map Cll.e) v
theorem cen_begins (cs:List Cll)(v:Value)(mv:Int)(hl:cs.length<4294967296)(h:∀x∈cs,x.begin_≠mv) :
  Zl Tryz.prog 109 #[v,.int .i64 mv] (cslR cs v) (.bool false) (cslR cs v):=by
 intro O w F hs
 obtain⟨a0,cap0,rfl⟩:=Qi (hs.pull (A:=cslR cs v) (by (with_reducible exact Qh)))
 simp only[List.length_map]at hs ⊢
 have h:=Lh h
 go_enter Tryz.func109,Tryz.ntmps109
 go_wp2_with (fail)
 go_loopw [5] (fun q wr=>∃n:Nat,n≤cs.length∧q=.int .i64 (n:Int)∧Sat O wr (cslR cs (.slice a0 cs.length cap0)*F)) (fun q _=>cs.length+1-(intOf q).toNat)
 case atStart=>exact⟨0,by omega,rfl,by ((with_reducible apply Sat.fin hs);(with_reducible exact Ql))⟩
 case round=>
  obtain⟨n,k1,rfl,hs⟩:=hrel
  by_cases hkr:n=cs.length
  ·subst hkr
   have hlt:decide ((cs.length:Int)<(cs.length:Int))=false:=by simp
   go_wp2_with ((with_reducible apply Zp hs);exact Ii;rfl;(with_reducible exact Qh);rfl;simp only[Uc,Uz])
   go_ret
   exact⟨rfl,by ((with_reducible apply Sat.fin hs);(with_reducible exact Ql))⟩
  ·have hlt:decide ((n:Int)<(cs.length:Int))=true:=by simp;omega
   have hlt2:decide (n<cs.length)=true:=by simp;omega
   have hln:n<(cs.map Cll.e).length:=by simp;omega
   obtain⟨x,hx⟩:∃x,cs[n]? = some x:=⟨_,Yd (by omega)⟩
   have hne:=h.out x (Yc hx)
   obtain⟨c1,c2,c3,c4,c5,c6,c7,c8,c9⟩:=x
   have hne2:(c5==mv)=false:=by simpa using hne
   clear hne
   have hw:wrap64 ((n:Int)+1)=(n:Int)+1:=by unfold wrap64;omega
   have hgv:(cs.map Cll.e)[n]? = some (Cll.e ⟨c1,c2,c3,c4,c5,c6,c7,c8,c9⟩):=by rw[Ym,hx];rfl
   go_wp2_with (first|((with_reducible apply QW hs);exact Ii;rfl;assumption;(with_reducible exact Qh);rfl;(assumption);rfl;rfl;simp only[Uc,Uz])|((with_reducible apply ZE hs);exact Ii;exact Ii;rfl;rfl;(with_reducible exact Qh);rfl;(assumption);rfl;intro b off hat;simp only[Uc,Uz])|((with_reducible apply Zp hs);exact Ii;rfl;(with_reducible exact Qh);rfl;simp only[Uc,Uz]))
   go_roundw
   case rel=>exact⟨n+1,by omega,by simp,by ((with_reducible apply Sat.fin hs);(with_reducible exact Ql))⟩
   case measure=>simp[intOf];omega
def enderOf:List Cll→Int→Int
 | [],_ => -1
 | x::r,mv=>if x.end_=mv then x.thread else enderOf r mv
theorem enderOf_or:∀ {cs:List Cll} {th mv:Int},(∀x∈cs,x.end_=mv→x.thread=th)→enderOf cs mv = -1∨enderOf cs mv=th
 | [],_,_,_=>.inl rfl
 | x::r,th,mv,h=>by
  simp only[enderOf]
  split
  ·rename_i he;exact .inr (h x (List.mem_cons_self ..) he)
  ·exact enderOf_or (fun z hz=>h z (List.mem_cons_of_mem _ hz))
theorem cen_ender (cs:List Cll)(v:Value)(mv:Int)(hl:cs.length<4294967296) :
  Zl Tryz.prog 111 #[v,.int .i64 mv] (cslR cs v) (.int .i64 (enderOf cs mv)) (cslR cs v):=by
 intro O w F hs
 obtain⟨a0,cap0,rfl⟩:=Qi (hs.pull (A:=cslR cs v) (by (with_reducible exact Qh)))
 simp only[List.length_map]at hs ⊢
 go_enter Tryz.func111,Tryz.ntmps111
 go_wp2_with (fail)
 go_loopw [5] (fun q wr=>∃n:Nat,n≤cs.length∧q=.int .i64 (n:Int)∧enderOf (cs.drop n) mv=enderOf cs mv∧Sat O wr (cslR cs (.slice a0 cs.length cap0)*F)) (fun q _=>cs.length+1-(intOf q).toNat)
 case atStart=>exact⟨0,by omega,rfl,rfl,by ((with_reducible apply Sat.fin hs);(with_reducible exact Ql))⟩
 case round=>
  obtain⟨n,k1,rfl,hE,hs⟩:=hrel
  by_cases hkr:n=cs.length
  ·subst hkr
   have hlt:decide ((cs.length:Int)<(cs.length:Int))=false:=by simp
   rw[List.drop_length]at hE
   have hE:=Lh hE
   go_wp2_with ((with_reducible apply Zp hs);exact Ii;rfl;(with_reducible exact Qh);rfl;simp only[Uc,Uz])
   go_ret
   exact⟨by rw[←hE.out];rfl,by ((with_reducible apply Sat.fin hs);(with_reducible exact Ql))⟩
  ·have hlt:decide ((n:Int)<(cs.length:Int))=true:=by simp;omega
   have hlt2:decide (n<cs.length)=true:=by simp;omega
   have hln:n<(cs.map Cll.e).length:=by simp;omega
   obtain⟨x,hx⟩:∃x,cs[n]? = some x:=⟨_,Yd (by omega)⟩
   have hd:cs.drop n=x::cs.drop (n+1):=by
    obtain⟨h1,rfl⟩:=List.getElem?_eq_some_iff.1 hx
    exact List.drop_eq_getElem_cons h1
   rw[hd]at hE
   simp only[enderOf]at hE
   obtain⟨c1,c2,c3,c4,c5,c6,c7,c8,c9⟩:=x
   have hw:wrap64 ((n:Int)+1)=(n:Int)+1:=by unfold wrap64;omega
   have hgv:(cs.map Cll.e)[n]? = some (Cll.e ⟨c1,c2,c3,c4,c5,c6,c7,c8,c9⟩):=by rw[Ym,hx];rfl
   clear hd
   by_cases he:c6=mv
   ·have he2:(c6==mv)=true:=by simpa using he
    rw[if_pos he]at hE
    have hE:=Lh hE
    clear he
    go_wp2_with (first|((with_reducible apply QW hs);exact Ii;rfl;assumption;(with_reducible exact Qh);rfl;(assumption);rfl;rfl;simp only[Uc,Uz])|((with_reducible apply Zn hs);exact Ii;rfl;assumption;(with_reducible exact Qh);rfl;(assumption);rfl;rfl;simp only[Uc,Uz])|((with_reducible apply ZU hs);exact Ii;exact Ii;rfl;assumption;rfl;(with_reducible exact Qh);rfl;(assumption);rfl;simp only[Uc,Uz])|((with_reducible apply ZE hs);exact Ii;exact Ii;rfl;rfl;(with_reducible exact Qh);rfl;(assumption);rfl;intro b off hat;simp only[Uc,Uz])|((with_reducible apply Zp hs);exact Ii;rfl;(with_reducible exact Qh);rfl;simp only[Uc,Uz]))
    go_ret
    exact⟨by rw[←hE.out];rfl,by ((with_reducible apply Sat.fin hs);(with_reducible exact Ql))⟩
   ·have he2:(c6==mv)=false:=by simpa using he
    rw[if_neg he]at hE
    have hE:=Lh hE
    clear he
    go_wp2_with (first|((with_reducible apply QW hs);exact Ii;rfl;assumption;(with_reducible exact Qh);rfl;(assumption);rfl;rfl;simp only[Uc,Uz])|((with_reducible apply ZE hs);exact Ii;exact Ii;rfl;rfl;(with_reducible exact Qh);rfl;(assumption);rfl;intro b off hat;simp only[Uc,Uz])|((with_reducible apply Zp hs);exact Ii;rfl;(with_reducible exact Qh);rfl;simp only[Uc,Uz]))
    go_roundw
    case rel=>exact⟨n+1,by omega,by simp,hE.out,by ((with_reducible apply Sat.fin hs);(with_reducible exact Ql))⟩
    case measure=>simp[intOf];omega
theorem cen_whose (cs:List Cll)(v:Value)(th mv:Int)(hl:cs.length<4294967296)(h:∃x∈cs,x.thread=th∧x.begin_<mv∧(x.end_<0∨mv≤x.end_)) :
  Does Tryz.prog 110 #[v,.int .i64 th,.int .i64 mv] (cslR cs v) (fun u=>(ex fun i:Nat=>pu (u=.int .i64 (i:Int)))*cslR cs v):=by
 intro O w F hs
 obtain⟨a0,cap0,rfl⟩:=Qi (hs.pull (A:=cslR cs v) (by (with_reducible exact Qh)))
 simp only[List.length_map]at hs ⊢
 obtain⟨z,hz,hz1,hz2,hz3⟩:=h
 obtain⟨j,hj⟩:=List.getElem?_of_mem hz
 have hjl:=(List.getElem?_eq_some_iff.1 hj).1
 have hzi:inB z mv=true:=by
  simp only[inB,Bool.and_eq_true,Bool.or_eq_true,decide_eq_true_eq]
  exact⟨hz2,hz3⟩
 clear hz2 hz3 hz
 have hI:=Lh cen_in
 have hw0:wrap64 ((cs.length:Int)-1)=(cs.length:Int)-1:=by unfold wrap64;omega
 go_enter Tryz.func110,Tryz.ntmps110
 go_wp2_with ((with_reducible apply Zp hs);exact Ii;rfl;(with_reducible exact Qh);rfl;simp only[Uc,Uz])
 simp only[List.length_map]
 go_loopw [7] (fun q wr=>∃n:Nat,j≤n∧n<cs.length∧q=.int .i64 (n:Int)∧Sat O wr (cslR cs (.slice a0 cs.length cap0)*F)) (fun q _=>(intOf q).toNat)
 case atStart=>exact⟨cs.length-1,by omega,by omega,by congr 1;omega,by ((with_reducible apply Sat.fin hs);(with_reducible exact Ql))⟩
 case round=>
  obtain⟨n,k0,k1,rfl,hs⟩:=hrel
  have hge:decide ((n:Int)≥0)=true:=by simp
  have hlt2:decide (n<cs.length)=true:=by simpa using k1
  have hln:n<(cs.map Cll.e).length:=by simp;omega
  obtain⟨x,hx⟩:∃x,cs[n]? = some x:=⟨_,Yd (by omega)⟩
  have hjx:n=j→x=z:=by intro e;subst e;rw[hx]at hj;cases hj;rfl
  obtain⟨c1,c2,c3,c4,c5,c6,c7,c8,c9⟩:=x
  have hw:wrap64 ((n:Int)-1)=(n:Int)-1:=by unfold wrap64;omega
  have hgv:(cs.map Cll.e)[n]? = some (Cll.e ⟨c1,c2,c3,c4,c5,c6,c7,c8,c9⟩):=by rw[Ym,hx];rfl
  by_cases he:c1=th∧inB ⟨c1,c2,c3,c4,c5,c6,c7,c8,c9⟩ mv=true
  ·obtain⟨h1,h2⟩:=he
   have h1':(c1==th)=true:=by simpa using h1
   clear hjx hzi hz1 h1
   go_wp2_with (first|((with_reducible apply Zn hs);exact Ii;rfl;assumption;(with_reducible exact Qh);rfl;(assumption);rfl;rfl;simp only[Uc,Uz])|((with_reducible apply QE (k:=0) hs);exact Ii;rfl;assumption;(with_reducible exact Qh);(exact(Nat.add_zero _).symm);(assumption);exact Vb rfl;rfl;rfl;simp only[Uc,Uz])|((with_reducible apply ZU hs);exact Ii;exact Ii;rfl;assumption;rfl;(with_reducible exact Qh);rfl;(assumption);rfl;simp only[Uc,Uz])|((with_reducible apply ZE hs);exact Ii;exact Ii;rfl;rfl;(with_reducible exact Qh);rfl;(assumption);rfl;intro b off hat;simp only[Uc,Uz])|(go_at_call 81;((refine((hI.out ⟨c1,c2,c3,c4,c5,c6,c7,c8,c9⟩ mv)).at hs (by (focus((repeat(with_reducible exact Qn));done))) ?_);clear hs;intro w hs;(try simp only[Em,Ma]at hs))))
   go_ret
   refine⟨_,rfl,?_⟩
   simp only[ZC,Ma,Zy]
   exact⟨n,rfl,by ((with_reducible apply Sat.fin hs);(with_reducible exact Ql))⟩
  ·have hne:n≠j:=by
    intro e
    have:=hjx e
    subst this
    exact he ⟨hz1,hzi⟩
   clear hjx hzi hz1
   by_cases h1:c1=th
   ·have h1':(c1==th)=true:=by simpa using h1
    have h2:inB ⟨c1,c2,c3,c4,c5,c6,c7,c8,c9⟩ mv=false:=by
     cases hh:inB ⟨c1,c2,c3,c4,c5,c6,c7,c8,c9⟩ mv with
     | false=>rfl
     | true=>exact absurd ⟨h1,hh⟩ he
    clear he h1
    go_wp2_with (first|((with_reducible apply Zn hs);exact Ii;rfl;assumption;(with_reducible exact Qh);rfl;(assumption);rfl;rfl;simp only[Uc,Uz])|((with_reducible apply QE (k:=0) hs);exact Ii;rfl;assumption;(with_reducible exact Qh);(exact(Nat.add_zero _).symm);(assumption);exact Vb rfl;rfl;rfl;simp only[Uc,Uz])|((with_reducible apply ZU hs);exact Ii;exact Ii;rfl;assumption;rfl;(with_reducible exact Qh);rfl;(assumption);rfl;simp only[Uc,Uz])|((with_reducible apply ZE hs);exact Ii;exact Ii;rfl;rfl;(with_reducible exact Qh);rfl;(assumption);rfl;intro b off hat;simp only[Uc,Uz])|(go_at_call 81;((refine((hI.out ⟨c1,c2,c3,c4,c5,c6,c7,c8,c9⟩ mv)).at hs (by (focus((repeat(with_reducible exact Qn));done))) ?_);clear hs;intro w hs;(try simp only[Em,Ma]at hs))))
    go_roundw
    case rel=>exact⟨n-1,by omega,by omega,by congr 1;omega,by ((with_reducible apply Sat.fin hs);(with_reducible exact Ql))⟩
    case measure=>simp[intOf];omega
   ·have h1':(c1==th)=false:=by simpa using h1
    clear he h1
    go_wp2_with (first|((with_reducible apply Zn hs);exact Ii;rfl;assumption;(with_reducible exact Qh);rfl;(assumption);rfl;rfl;simp only[Uc,Uz])|((with_reducible apply ZE hs);exact Ii;exact Ii;rfl;rfl;(with_reducible exact Qh);rfl;(assumption);rfl;intro b off hat;simp only[Uc,Uz]))
    go_roundw
    case rel=>exact⟨n-1,by omega,by omega,by congr 1;omega,by ((with_reducible apply Sat.fin hs);(with_reducible exact Ql))⟩
    case measure=>simp[intOf];omega
theorem cen_place (cs:List Cll)(v:Value)(th mv:Int)(hl:cs.length<4294967296)(h:PlOk cs th mv) :
  Zl Tryz.prog 103 #[v,.int .i64 th,.int .i64 mv] (cslR cs v) (.bool true) (cslR cs v):=by
 intro O w F hs
 have h1:=Lh (cen_begins cs v mv hl h.beg)
 have h2:=Lh (cen_whose cs v th mv hl h.who)
 have h3:=Lh (cen_ender cs v mv hl)
 have h4:=enderOf_or h.ends
 generalize enderOf cs mv=z at h3 h4
 clear h
 rcases h4 with rfl|rfl
 ·go_enter Tryz.func103,Tryz.ntmps103
  go_wp2_with (first|(go_at_call 109;((refine(h1.out).at hs (by (with_reducible exact Qh)) ?_);clear hs;intro w hs;(try simp only[Em,Ma]at hs)))|(go_at_call 110;((refine(h2.out).at hs (by (with_reducible exact Qh)) ?_);clear hs;intro v w hs;(try simp only[Em,Ma]at hs));(simp only[ZC,Ma,Zy]at hs);(obtain⟨i,rfl,hs⟩:=hs);(have hi0:decide ((i:Int)<0)=false:=by simp))|(go_at_call 111;((refine(h3.out).at hs (by (with_reducible exact Qh)) ?_);clear hs;intro w hs;(try simp only[Em,Ma]at hs))))
  go_ret
  exact⟨rfl,by ((with_reducible apply Sat.fin hs);(with_reducible exact Ql))⟩
 ·by_cases hz:z<0
  ·have hz:decide (z<0)=true:=by simpa using hz
   go_enter Tryz.func103,Tryz.ntmps103
   go_wp2_with (first|(go_at_call 109;((refine(h1.out).at hs (by (with_reducible exact Qh)) ?_);clear hs;intro w hs;(try simp only[Em,Ma]at hs)))|(go_at_call 110;((refine(h2.out).at hs (by (with_reducible exact Qh)) ?_);clear hs;intro v w hs;(try simp only[Em,Ma]at hs));(simp only[ZC,Ma,Zy]at hs);(obtain⟨i,rfl,hs⟩:=hs);(have hi0:decide ((i:Int)<0)=false:=by simp))|(go_at_call 111;((refine(h3.out).at hs (by (with_reducible exact Qh)) ?_);clear hs;intro w hs;(try simp only[Em,Ma]at hs))))
   go_ret
   exact⟨rfl,by ((with_reducible apply Sat.fin hs);(with_reducible exact Ql))⟩
  ·have hz:decide (z<0)=false:=by simpa using hz
   have hz2:(z==z)=true:=by simp
   go_enter Tryz.func103,Tryz.ntmps103
   go_wp2_with (first|(go_at_call 109;((refine(h1.out).at hs (by (with_reducible exact Qh)) ?_);clear hs;intro w hs;(try simp only[Em,Ma]at hs)))|(go_at_call 110;((refine(h2.out).at hs (by (with_reducible exact Qh)) ?_);clear hs;intro v w hs;(try simp only[Em,Ma]at hs));(simp only[ZC,Ma,Zy]at hs);(obtain⟨i,rfl,hs⟩:=hs);(have hi0:decide ((i:Int)<0)=false:=by simp))|(go_at_call 111;((refine(h3.out).at hs (by (with_reducible exact Qh)) ?_);clear hs;intro w hs;(try simp only[Em,Ma]at hs))))
   go_ret
   exact⟨rfl,by ((with_reducible apply Sat.fin hs);(with_reducible exact Ql))⟩
end
end Go.Proofs.YtefjbdajgakgpaaGreat
