import Derived.Test.YtefjbdajgakgpaaGreatCQueV2
import Derived.Maps.RangeRun
set_option linter.all false
namespace Go.Proofs.YtefjbdajgakgpaaGreat
section
open Go.RowKit Hp
set_option maxRecDepth 100000
set_option maxHeartbeats 1000000
attribute [local irreducible] Go.Calls Go.wpList
def quR (bh ba:Nat)(cf:Cfg):Zu→Value→Zb
 | .hz k=>htR bh ba k
 | .put p=>if p.stage=0 then ifR 138 (fun x=>PtR0 x bh cf p) else ifR 138 fun x=>PtR x bh ba cf p
 | .get p=>ifR 144 fun x=>GtR x bh ba cf p
theorem quR_put0 {bh ba:Nat}{cf:Cfg}{p:Pt}(h:p.stage=0):quR bh ba cf (.put p)=ifR 138 (fun x=>PtR0 x bh cf p):=if_pos h
theorem quR_put1 {bh ba:Nat}{cf:Cfg}{p:Pt}(h:p.stage≠0):quR bh ba cf (.put p)=ifR 138 (fun x=>PtR x bh ba cf p):=if_neg h
def qkT (bh ba:Nat)(cf:Cfg)(CX:Zb):JK (Haz×Are) Zu where
 X s:=HazR bh ba s.1*(AreR ba s.2*CX)
 R:=quR bh ba cf
 rdy:=QR
 stp:=Jb
 okr:=fun s m t k=>s.1.c=cf∧qkOkr s m t k
 oks:=fun s m t k=>s.1.c=cf∧qkOks s m t k
theorem ptTaken_stage {m:Mch}{i t:Nat}{c:Cll}{s:Sea}{p:Pt}(h:p.stage≠0):(ZX m i t c s p).2.2.stage≠0:=by
 unfold ZX
 split
 ·exact h
 ·simp
theorem ptReady_stage {h:Haz}{a:Are}{m:Mch}{i t:Nat}{c:Cll}{s:Sea}{p:Pt}:(ZY h a m i t c s p).2.2.2.stage≠0:=by
 unfold ZY
 simp only[]
 split
 ·exact ptTaken_stage (by simp)
 ·simp
theorem ptStep_stage {h:Haz}{a:Are}{m:Mch}{i t:Nat}{c:Cll}{s:Sea}{p:Pt}(h0:p.stage≠0):(Z7 h a m i t c s p).2.2.2.stage≠0:=by
 unfold Z7
 simp only[]
 by_cases s1:p.stage=1
 ·rw[if_pos s1]
  unfold ptTake
  simp only[]
  by_cases hb:(Zj a m p.take).1=true
  ·rw[if_pos hb];exact ptTaken_stage h0
  ·rw[if_neg hb];exact h0
 rw[if_neg s1]
 by_cases s2:p.stage=2
 ·rw[if_pos s2]
  simp
 rw[if_neg s2]
 by_cases s3:p.stage=3
 ·rw[if_pos s3]
  simp
 rw[if_neg s3]
 by_cases s4:p.stage=4
 ·rw[if_pos s4]
  simp
 rw[if_neg s4]
 by_cases s5:p.stage=5
 ·rw[if_pos s5]
  simp
 rw[if_neg s5]
 by_cases s6:p.stage=6
 ·rw[if_pos s6]
  by_cases hb:m.word (adr h.c 5 0)=p.t
  ·rw[if_pos hb];simp
  ·rw[if_neg hb];simp
 rw[if_neg s6]
 by_cases s7:p.stage=7
 ·rw[if_pos s7]
  by_cases hb:0≤m.word (adr h.c 13 (p.t-1))-1
  ·rw[if_pos hb];simp
  ·rw[if_neg hb];simp
 rw[if_neg s7]
 by_cases s8:p.stage=8
 ·rw[if_pos s8]
  by_cases hb:m.word (adr h.c 13 (p.t-1))=0
  ·rw[if_pos hb];simp
  ·rw[if_neg hb];simp
 rw[if_neg s8]
 by_cases s9:p.stage=9
 ·rw[if_pos s9]
  simp
 rw[if_neg s9]
 by_cases s10:p.stage=10
 ·rw[if_pos s10]
  exact h0
 rw[if_neg s10]
 simp
theorem frame_ptTaken {i t:Nat}{c:Cll}{s:Sea}{m:Mch}(p:Pt)(hc:Z6 m i t c s):QH i t c s m (ZX m i t c s p).2.1:=by
 unfold ZX
 split
 ·exact frame_both ..
 ·exact(Same.refl m).frame hc
theorem frame_ptReady {i t:Nat}{c:Cll}{s:Sea}{m:Mch}(h:Haz)(a:Are)(p:Pt)(hc:Z6 m i t c s):QH i t c s m (ZY h a m i t c s p).2.2.1:=by
 unfold ZY
 simp only[]
 split
 ·exact(Z3 a m _).then (frame_ptTaken _ ((Z3 a m _).curIn hc))
 ·exact(Z3 ..).frame hc
theorem frame_ptStep {i t:Nat}{c:Cll}{s:Sea}{m:Mch}(h:Haz)(a:Are)(p:Pt)(hc:Z6 m i t c s):QH i t c s m (Z7 h a m i t c s p).2.2.1:=by
 unfold Z7
 simp only[]
 by_cases s1:p.stage=1
 ·rw[if_pos s1]
  unfold ptTake
  simp only[]
  split
  ·exact(Ju a m _).then (frame_ptTaken _ ((Ju a m _).curIn hc))
  ·exact(Ju ..).frame hc
 rw[if_neg s1]
 by_cases s2:p.stage=2
 ·rw[if_pos s2];exact(ZW ..).frame hc
 rw[if_neg s2]
 by_cases s3:p.stage=3
 ·rw[if_pos s3];exact(ZW ..).frame hc
 rw[if_neg s3]
 by_cases s4:p.stage=4
 ·rw[if_pos s4];exact(ZN ..).frame hc
 rw[if_neg s4]
 by_cases s5:p.stage=5
 ·rw[if_pos s5];exact(ZW ..).frame hc
 rw[if_neg s5]
 by_cases s6:p.stage=6
 ·rw[if_pos s6];exact(ZN ..).frame hc
 rw[if_neg s6]
 by_cases s7:p.stage=7
 ·rw[if_pos s7];exact(ZN ..).frame hc
 rw[if_neg s7]
 by_cases s8:p.stage=8
 ·rw[if_pos s8]
  split
  ·exact((Z9 m _ _ _ _).then (frame_point ((Z9 m _ _ _ _).curIn hc) _)).same (QN ..)
  ·exact(Z9 ..).frame hc
 rw[if_neg s8]
 by_cases s9:p.stage=9
 ·rw[if_pos s9];exact(Z9 ..).frame hc
 rw[if_neg s9]
 by_cases s10:p.stage=10
 ·rw[if_pos s10];exact(ZW m _ _ _).then (frame_answer ((ZW m _ _ _).curIn hc) _ _)
 rw[if_neg s10]
 exact(Z9 ..).frame hc
theorem frame_gtStep {i t:Nat}{c:Cll}{s:Sea}{m:Mch}(h:Haz)(a:Are)(p:Gt)(hc:Z6 m i t c s):QH i t c s m (QD h a m i t c s p).2.2.2.1:=by
 unfold QD
 simp only[]
 by_cases s1:p.stage=1
 ·rw[if_pos s1];exact(ZN ..).frame hc
 rw[if_neg s1]
 by_cases s2:p.stage=2
 ·rw[if_pos s2];exact(ZW ..).frame hc
 rw[if_neg s2]
 by_cases s3:p.stage=3
 ·rw[if_pos s3];exact(ZN ..).frame hc
 rw[if_neg s3]
 by_cases s4:p.stage=4
 ·rw[if_pos s4];exact(ZN ..).frame hc
 rw[if_neg s4]
 by_cases s5:p.stage=5
 ·rw[if_pos s5]
  split
  ·exact(ZN ..).frame hc
  ·exact(ZN m _ _).then (frame_both ..)
 rw[if_neg s5]
 by_cases s6:p.stage=6
 ·rw[if_pos s6];exact(ZW ..).frame hc
 rw[if_neg s6]
 by_cases s7:p.stage=7
 ·rw[if_pos s7];exact(ZN ..).frame hc
 rw[if_neg s7]
 by_cases s8:p.stage=8
 ·rw[if_pos s8];exact(Z9 ..).frame hc
 rw[if_neg s8]
 by_cases s9:p.stage=9
 ·rw[if_pos s9];exact(ZN ..).frame hc
 rw[if_neg s9]
 by_cases s10:p.stage=10
 ·rw[if_pos s10]
  split
  ·exact((Z9 m _ _ _ _).then (frame_point ((Z9 m _ _ _ _).curIn hc) _)).same (QN ..)
  ·exact(Z9 ..).frame hc
 rw[if_neg s10]
 by_cases s11:p.stage=11
 ·rw[if_pos s11]
  unfold gtEnd
  simp only[]
  split
  ·exact(ZW ..).frame hc
  ·split
   ·exact(ZW ..).frame hc
   ·exact((ZW m _ _ _).then (frame_answer ((ZW m _ _ _).curIn hc) _ _)).same (same_retire ..)
 rw[if_neg s11]
 split
 ·exact(Same.refl m).frame hc
 ·split
  ·exact(Same.refl m).frame hc
  ·exact(same_scan ..).frame hc
theorem qkT_good (bh ba:Nat)(cf:Cfg)(CX:Zb):(qkT bh ba cf CX).Good where
 iface:=by
  intro O w k v F hs
  cases k with
  | hz k=>exact(hzT_good bh ba CX).iface (k:=k) hs
  | put p=>
   by_cases h0:p.stage=0
   ·have hs:Sat O w (quR bh ba cf (.put p) v*F):=hs
    rw[quR_put0 h0]at hs
    obtain⟨g,rfl,_⟩:=JH.1 hs;exact⟨_,_,rfl⟩
   ·have hs:Sat O w (quR bh ba cf (.put p) v*F):=hs
    rw[quR_put1 h0]at hs
    obtain⟨g,rfl,_⟩:=JH.1 hs;exact⟨_,_,rfl⟩
  | get p=>obtain⟨g,rfl,_⟩:=JH.1 hs;exact⟨_,_,rfl⟩
 cr:=by
  intro d bx bm s m i t c se k v hok hc
  obtain⟨hcf,hok⟩:=hok
  subst hcf
  cases k with
  | hz k=>exact(hzT_good bh ba CX).cr d bx bm s m i t c se k v hok hc
  | put p=>
   obtain⟨⟨o1,o2,o3,o4⟩,o5,o6⟩:=hok
   show Dyn Tryz.prog _ (quR bh ba s.1.c (.put p) v*(HazR bh ba s.1*(AreR ba s.2*CX)*DkR d bx bm m)) (fun u=>pu (u=.bool (ZY s.1 s.2 m i t c se p).1)*(quR bh ba s.1.c (.put (ZY s.1 s.2 m i t c se p).2.2.2) v*(HazR bh ba s.1*(AreR ba (ZY s.1 s.2 m i t c se p).2.1*CX)*DkR d bx bm (ZY s.1 s.2 m i t c se p).2.2.1)))
   rw[quR_put0 o6,quR_put1 ptReady_stage]
   exact dyn_if (Z:=CX) (fun g=>pt_ready g bh ba d bx bm s.1 s.2 m i t c se p o1 o2 o3 o4 o5 hc) (fun g w=>by kernel_rfl) (by ac_rfl) (by ac_rfl)
  | get p=>
   obtain⟨⟨o1,o2,o3,o4⟩,o5,o6⟩:=hok
   exact dyn_if (Z:=AreR ba s.2*CX*DkR d bx bm m) (fun g=>gt_ready g bh ba d s.1 s.2 m p o1 o2 o3 o4) (fun g w=>by kernel_rfl) (by simp only[qkT];ac_rfl) (by simp only[qkT,QR];ac_rfl)
 cs:=by
  intro d bx bm s m i t c se k v hok hc
  obtain⟨hcf,hok⟩:=hok
  subst hcf
  cases k with
  | hz k=>exact(hzT_good bh ba CX).cs d bx bm s m i t c se k v hok hc
  | put p=>
   have hok:PtOk s.1 s.2 m p:=hok
   have h0:p.stage≠0:=by have:=hok.stage;omega
   show Dyn Tryz.prog _ (quR bh ba s.1.c (.put p) v*(HazR bh ba s.1*(AreR ba s.2*CX)*DkR d bx bm m)) (fun u=>pu (u=.bool (Z7 s.1 s.2 m i t c se p).1)*(quR bh ba s.1.c (.put (Z7 s.1 s.2 m i t c se p).2.2.2) v*(HazR bh ba s.1*(AreR ba (Z7 s.1 s.2 m i t c se p).2.1*CX)*DkR d bx bm (Z7 s.1 s.2 m i t c se p).2.2.1)))
   rw[quR_put1 h0,quR_put1 (ptStep_stage h0)]
   exact dyn_if (Z:=CX) (fun g=>pt_step g bh ba d bx bm s.1 s.2 m i t c se p hok hc) (fun g w=>by kernel_rfl) (by ac_rfl) (by ac_rfl)
  | get p=>exact dyn_if (Z:=CX) (fun g=>gt_step g bh ba d bx bm s.1 s.2 m i t c se p hok hc) (fun g w=>by kernel_rfl) (by simp only[qkT];ac_rfl) (by simp only[qkT,Jb];ac_rfl)
 fr:=by
  intro s m i t c se k hc
  cases k with
  | hz k=>exact(hzT_good bh ba CX).fr s m i t c se k hc
  | put p=>exact frame_ptReady _ _ _ hc
  | get p=>exact(Same.refl m).frame hc
 fs:=by
  intro s m i t c se k hc
  cases k with
  | hz k=>exact(hzT_good bh ba CX).fs s m i t c se k hc
  | put p=>exact frame_ptStep _ _ _ hc
  | get p=>exact frame_gtStep _ _ _ hc
end
section
open Go.RowKit
namespace Hp
def itm (K:IntKind)(f:Int→Option Value)(v:Value)(r:Nat)(left:Int→Bool)(n:Nat)(cur:Option (Int×Value)):Zb:=
 ex fun(b:Nat)=>ex fun(es:Array MapEntry)=>ex fun(clock:Nat)=>ex fun(since:Nat)=>ex fun(seen:Array Nat)=>ex fun(c0:Nat)=>
  pu (v=.map (some b)∧Ents K es.toList f∧Stm es.toList clock∧(∀x∈es.toList,x.born<since)∧since≤c0∧since≤clock∧(leftOf es seen).size=n ∧
   (∀x∈es.toList,∀k,x.key=.int K k→left k = !seen.contains x.born)∧(∀k,left k=true→f k≠none) ∧
   (∀k u,cur=some (k,u)→∃x∈es.toList,x.key=.int K k∧x.val=u∧c0=clock∧∃s':Array Nat,seen=s'.push x.born)) *
  (pt b (.map es clock)*pt r (.mapIter (some b) since seen c0))
section
variable {P:Program}{O w w':World}{R S:Zb}{K:IntKind}{f:Int→Option Value}{v:Value}{T kt et:TypeId}{z:Value}{r n:Nat}{left:Int→Bool}{cur:Option (Int×Value)}
theorem sat_itm:Sat O w (itm K f v r left n cur*R)↔∃(b:Nat) (es:Array MapEntry) (clock since:Nat) (seen:Array Nat) (c0:Nat),(v=.map (some b)∧Ents K es.toList f∧Stm es.toList clock∧(∀x∈es.toList,x.born<since)∧since≤c0∧since≤clock∧(leftOf es seen).size=n ∧
   (∀x∈es.toList,∀k,x.key=.int K k→left k = !seen.contains x.born)∧(∀k,left k=true→f k≠none) ∧
   (∀k u,cur=some (k,u)→∃x∈es.toList,x.key=.int K k∧x.val=u∧c0=clock∧∃s':Array Nat,seen=s'.push x.born)) ∧
  Sat O w (pt b (.map es clock)*(pt r (.mapIter (some b) since seen c0)*R)):=by
 unfold itm
 simp only[ZC,Ma,Zy]
theorem itm_end (hs:Sat O w (itm K f v r left n cur*R)):Sat O w (mp K f v*R):=by
 obtain⟨b,es,clock,since,seen,c0,⟨rfl,h1,h2,_⟩,hs2⟩:=sat_itm.1 hs
 refine sat_mp.2 ⟨b,es,clock,rfl,h1,h2,?_⟩
 exact(hs2.cast (QO ..)).right
theorem ents_key {es:List MapEntry}(h:Ents K es f){x y:MapEntry}{k:Int}(hx:x∈es)(hy:y∈es)(kx:x.key=.int K k)(ky:y.key=.int K k):x=y:=by
 obtain⟨i,hi,rfl⟩:=List.getElem_of_mem hx
 obtain⟨j,hj,rfl⟩:=List.getElem_of_mem hy
 have hn:=h.nodup
 rw[List.nodup_iff_pairwise_ne,List.pairwise_iff_getElem]at hn
 rcases Nat.lt_trichotomy i j with q|q|q
 ·have h9:=hn i j (by simpa using hi) (by simpa using hj) q
  simp[kx,ky]at h9
 ·subst q;rfl
 ·have h9:=hn j i (by simpa using hj) (by simpa using hi) q
  simp[kx,ky]at h9
theorem run_itm_range (h:MapC P T kt et K z)(hs:Sat O w (mp K f v*R)) :
  ∃w' n,(Instr.range T v).run P w=.ok (.pointer (some ⟨w.heap.size,0,none⟩)) w'∧Sat O w' (itm K f v w.heap.size (fun k=>(f k).isSome) n none*R):=by
 obtain⟨b,es,clock,rfl,hE,hM,hs⟩:=sat_mp.1 hs
 have hb:=hs.block
 refine⟨w.alloc (.mapIter (some b) clock #[] clock),(leftOf es #[]).size,run_range_map w T kt et b es clock h.is hb,sat_itm.2 ⟨b,es,clock,clock,#[],clock,⟨rfl,hE,hM,hM.2,Nat.le_refl _,Nat.le_refl _,rfl,?_,?_,?_⟩,?_⟩⟩
 ·intro x hx k hk
  show(f k).isSome=_
  rw[ents_some hE hx hk]
  simp
 ·intro k hk hn
  have hk:(f k).isSome=true:=hk
  rw[hn]at hk
  cases hk
 ·intro k u hk
  cases hk
 ·exact(hs.alloc (.mapIter (some b) clock #[] clock)).cast (QO ..)
theorem setIter {b since c0:Nat}{seen:Array Nat}{es:Array MapEntry}{clock:Nat}{o':Obj}{w1:World}(hal:w1=w∨w1=w.drew)(hs:Sat O w (pt b (.map es clock)*(pt r (.mapIter (some b) since seen c0)*R))) :
  Sat O (Go.ChangeMaps.setBlock w1 r o') (pt b (.map es clock)*(pt r o'*R)):=by
 have hs1:Sat O w1 (pt r (.mapIter (some b) since seen c0)*(pt b (.map es clock)*R)):=by
  have h0:=hs.cast (QO ..)
  rcases hal with rfl|rfl
  ·exact h0
  ·exact h0.drew
 have hb:=hs1.block
 have hset:=Go.MapKept.heap_set (o':=o') hb
 exact(Sat.turn (w':=Go.ChangeMaps.setBlock w1 r o') hs1 rfl rfl rfl (by simp[Go.ChangeMaps.setBlock]) hset.1 (fun k hk _=>hset.2 k hk)).cast (QO ..)
theorem run_itm_next (hs:Sat O w (itm K f v r left n cur*R))(ty:TypeId) :
  (n=0∧(∀k,left k=false)∧(Instr.next (.pointer (some ⟨r,0,none⟩)) false ty).run P w=.ok (.tuple #[.bool false]) w) ∨
  ∃k u w' n',left k=true∧f k=some u∧n'<n∧(Instr.next (.pointer (some ⟨r,0,none⟩)) false ty).run P w=.ok (.tuple #[.bool true,.int K k,u]) w' ∧
   Sat O w' (itm K f v r (fun x=>left x && !decide (x=k)) n' (some (k,u))*R):=by
 obtain⟨b,es,clock,since,seen,c0,⟨rfl,hE,hM,hb1,hsc,hsk,rfl,hl,hf,hc⟩,hs2⟩:=sat_itm.1 hs
 have hbm:=hs2.block
 have hbr:=(hs2.cast (QO ..)).block
 rcases run_next_at (P:=P) w ty r b since c0 seen es clock hbr hbm hb1 hsc with⟨h0,hrun⟩|⟨e,he,w1,hal,hrun⟩
 ·refine .inl ⟨h0,fun k => ?_,hrun⟩
  cases hk:left k with
  | false=>rfl
  | true=>
   obtain⟨u,hu⟩:=Option.ne_none_iff_exists'.1 (hf k hk)
   obtain⟨x,hx,kx,_⟩:=(hE.iff k u).1 hu
   have:=hl x hx k kx
   rw[all_seen es seen h0 x hx]at this
   rw[hk]at this
   cases this
 ·obtain⟨hem,hes⟩:=mem_left he
  obtain⟨k,hk⟩:=hE.keys e hem
  refine .inr ⟨k,e.val,_,(leftOf es (seen.push e.born)).size,by rw[hl e hem k hk,hes];rfl,ents_some hE hem hk,left_shrinks es seen e he,by rw[←hk];exact hrun,?_⟩
  refine sat_itm.2 ⟨b,es,clock,since,seen.push e.born,clock,⟨rfl,hE,hM,hb1,hsk,hsk,rfl,?_,?_,?_⟩,setIter hal hs2⟩
  ·intro x hx k' hk'
   rw[hl x hx k' hk',Array.contains_push]
   by_cases hkk:k'=k
   ·subst hkk
    have:=ents_key hE hx hem hk' hk
    subst this
    simp
   ·have hne:x.born≠e.born:=by
     intro q
     have:x=e:=by
      obtain⟨i,hi,rfl⟩:=List.getElem_of_mem hx
      obtain⟨j,hj,rfl⟩:=List.getElem_of_mem hem
      have hn:=hM.1
      rw[List.nodup_iff_pairwise_ne,List.pairwise_iff_getElem]at hn
      rcases Nat.lt_trichotomy i j with q2|q2|q2
      ·have h9:=hn i j (by simpa using hi) (by simpa using hj) q2
       simp only[List.getElem_map]at h9
       exact absurd q h9
      ·subst q2;rfl
      ·have h9:=hn j i (by simpa using hj) (by simpa using hi) q2
       simp only[List.getElem_map]at h9
       exact absurd q.symm h9
     subst this
     rw[hk]at hk'
     injection hk' with _ q3
     exact hkk q3.symm
    simp[hkk,hne]
  ·intro x hx
   simp only[Bool.and_eq_true]at hx
   exact hf x hx.1
  ·intro k' u' hq
   cases hq
   exact⟨e,hem,hk,rfl,rfl,seen,rfl⟩
theorem run_itm_entry {k:Int}{u:Value}(hs:Sat O w (itm K f v r left n (some (k,u))*R)):(Instr.entry (.pointer (some ⟨r,0,none⟩))).run P w=.ok (.tuple #[.int K k,u]) w:=by
 obtain⟨b,es,clock,since,seen,c0,⟨rfl,hE,hM,hb1,hsc,hsk,rfl,hl,hf,hc⟩,hs2⟩:=sat_itm.1 hs
 obtain⟨x,hx,kx,vx,e0,s',rfl⟩:=hc k u rfl
 subst e0
 have:=run_entry_at (P:=P) w r b since s' es _ x (hs2.cast (QO ..)).block hs2.block hx hM.1
 rw[kx,vx]at this
 exact this
end
section
variable {P:Program}{ops:Array Oper}{Q:Exit→Act→World→Prop}{w:World}{rest:List Oper}{O:World}{S R:Zb}
variable {l:List Value}{ds:List Deferred}{T ty kt et:TypeId}{pos:String}{after:Array Edge}{gd:Option (Nat×Bool)}{d:Nat}{x y z:Operand}{K:IntKind}{f:Int→Option Value}{v zv:Value}{r n:Nat}{left:Int→Bool}{cur:Option (Int×Value)}
theorem wl_range (hs:Sat O w S)(hM:MapC P T kt et K zv)(hx:ev l x=some v)(hp:Pull S (mp K f v) R)
  (hg:Region.wanted { dst:=some d,op:=.range T x,type:=ty,pos,after,guard:=gd } (yielded ops l.toArray)=true)
  (kk:∀w' r n,Sat O w' (itm K f v r (fun k=>(f k).isSome) n none*R)→wpList P ops Q rest ⟨(l.set d (.pointer (some ⟨r,0,none⟩))).toArray,ds⟩ w') :
  wpList P ops Q ({ dst:=some d,op:=.range T x,type:=ty,pos,after,guard:=gd }::rest) ⟨l.toArray,ds⟩ w:=by
 obtain⟨w',n,hr,hs'⟩:=run_itm_range hM (hs.pull hp)
 refine Qr (v:=.pointer (some ⟨w.heap.size,0,none⟩)) (w':=w') hg ?_ (ZO▸kk _ _ _ hs')
 simp[execOp,Zk hx,hr]
theorem wl_nx {t vv:Value}{w':World}(hx:ev l x=some vv)(hr:(Instr.next vv false ty).run P w=.ok t w')
  (hg:Region.wanted { dst:=some d,op:=.next x false,type:=ty,pos,after,guard:=gd } (yielded ops l.toArray)=true)
  (kk:wpList P ops Q rest ⟨(l.set d t).toArray,ds⟩ w') :
  wpList P ops Q ({ dst:=some d,op:=.next x false,type:=ty,pos,after,guard:=gd }::rest) ⟨l.toArray,ds⟩ w:=by
 refine Qr (v:=t) hg ?_ (ZO▸kk)
 simp[execOp,Zk hx,hr]
theorem wl_entry {k:Int}{u:Value}(hs:Sat O w S)(hx:ev l x=some (.pointer (some ⟨r,0,none⟩)))(hp:Pull S (itm K f v r left n (some (k,u))) R)
  (hg:Region.wanted { dst:=some d,op:=.entry x,type:=ty,pos,after,guard:=gd } (yielded ops l.toArray)=true)
  (kk:wpList P ops Q rest ⟨(l.set d (.tuple #[.int K k,u])).toArray,ds⟩ w) :
  wpList P ops Q ({ dst:=some d,op:=.entry x,type:=ty,pos,after,guard:=gd }::rest) ⟨l.toArray,ds⟩ w:=by
 refine Qr (v:=.tuple #[.int K k,u]) hg ?_ (ZO▸kk)
 simp[execOp,Zk hx,run_itm_entry (P:=P) (hs.pull hp)]
end
attribute [irreducible] itm
end Hp
end
section
open Go.RowKit
namespace Hp
section
variable {P:Program}{ops:Array Oper}{Q:Exit→Act→World→Prop}{w:World}{rest:List Oper}{O:World}{S R:Zb}
variable {l:List Value}{ds:List Deferred}{T E ty:TypeId}{pos:String}{after:Array Edge}{gd:Option (Nat×Bool)}{d:Nat}{x y:Operand}{u v:Value}
theorem wl_bs2 {by_:Nat}(hs:Sat O w S)(h:SlcC P T E)(hE:ElC P E 1 by_)(hx:ev l x=some u)(hy:ev l y=some v)(hu:cel u=some #[u])(hv:cel v=some #[v])(hu1:u.oneCell'=true)(hv1:v.oneCell'=true)
  (hg:Region.wanted { dst:=some d,op:=.buildSlice T 2 #[(0,x),(1,y)],type:=ty,pos,after,guard:=gd } (yielded ops l.toArray)=true)
  (kk:∀w' b,Sat O w' (sl E 1 [[u],[v]] (.slice (some ⟨b,0,none⟩) 2 2)*S)→wpList P ops Q rest ⟨(l.set d (.slice (some ⟨b,0,none⟩) 2 2)).toArray,ds⟩ w') :
  wpList P ops Q ({ dst:=some d,op:=.buildSlice T 2 #[(0,x),(1,y)],type:=ty,pos,after,guard:=gd }::rest) ⟨l.toArray,ds⟩ w:=by
 have hinfo:=hE.info
 have hzero:=hE.zero
 cases hq:P.info? E with
 | none=>simp[hq]at hinfo
 | some inf=>
  cases hzz:inf.zero with
  | none=>simp[hq,hzz]at hzero
  | some zv=>
   simp[hq,hzz]at hinfo hzero
   have hcu:=cel_cells hu
   have hcv:=cel_cells hv
   have e1:=Zk (ds:=ds) hx
   have e2:=Zk (ds:=ds) hy
   refine Qr (v:=.slice (some ⟨w.heap.size,0,none⟩) 2 2) (w':=w.alloc (.cells #[u,v] E)) hg ?_ (ZO▸kk _ _ ?_)
   ·simp[execOp,e1,e2,Instr.buildSlice,run_underlying h.is,sizeOf,typeInfo,hq,hinfo.1,zeroValue,hzz,Instr.fill,hcu,hcv,newRow]
    rw[show Array.range 2 = #[0,1] from rfl]
    congr 2
    apply Array.ext'
    simp
   ·refine QT.2 ⟨⟨fun c hc' => ?_,by omega⟩,.inr ⟨w.heap.size,0,2,[],[],rfl,rfl,by simp,by simp,?_⟩⟩
    ·simp only[List.mem_cons,List.not_mem_nil,or_false]at hc'
     rcases hc' with rfl|rfl
     ·exact⟨rfl,by simp[hu1]⟩
     ·exact⟨rfl,by simp[hv1]⟩
    ·exact hs.alloc (.cells #[u,v] E)
end
end Hp
open Hp
set_option maxRecDepth 100000
set_option maxHeartbeats 1000000
attribute [local irreducible] Go.Calls Go.wpList
def kAcc (f1 f2:Int→Option Value)(k:Nat):Int→Option Value:=fun o=>if k=0 then none else if k=1 then f1 o else (f2 o).or (f1 o)
theorem join_at {f1 f2:Int→Option Value}{v1 v2:Value}{k:Nat}(hk:k<2):∃(f:Int→Option Value) (v:Value) (R:Zb),[[v1],[v2]][k]? = some [v]∧(∀o,kAcc f1 f2 (k+1) o=(f o).or (kAcc f1 f2 k o))∧mp .i64 f1 v1*mp .i64 f2 v2=mp .i64 f v*R:=by
 rcases(show k=0∨k=1 by omega) with rfl|rfl
 ·exact⟨f1,v1,_,rfl,fun o=>by unfold kAcc;simp,rfl⟩
 ·exact⟨f2,v2,mp .i64 f1 v1,rfl,fun o=>by unfold kAcc;simp,mul_comm' _ _⟩
theorem machine_join (v1 v2 vs:Value)(f1 f2:Int→Option Value) :
  Does Tryz.prog 57 #[vs] (sl 70 1 [[v1],[v2]] vs*(mp .i64 f1 v1*mp .i64 f2 v2)) (fun v=>mp .i64 (fun o=>(f2 o).or (f1 o)) v):=by
 intro O w F hs
 simp only[Ma]at hs
 obtain⟨a0,c0,rfl⟩:=Qi (hs.pull (A:=sl 70 1 [[v1],[v2]] vs) (by (with_reducible exact Qh)))
 simp only[List.length_cons,List.length_nil,Nat.zero_add,Nat.reduceAdd]at hs
 go_enter Tryz.func57,Tryz.ntmps57
 go_wp2_with (first|((with_reducible apply Zp hs);exact Ii;rfl;(with_reducible repeat first|exact Qh|apply Qk);rfl;simp only[Uc,Uz])|((with_reducible apply wl_mkmap hs);exact Ii;rfl;clear hs;intro w r hs;simp only[Uc,Uz]))
 go_loopw [11] (fun q wr=>∃k:Nat,k≤2∧q=.int .i64 (k:Int)∧Sat O wr (mp .i64 (kAcc f1 f2 k) (.map (some r))*(sl 70 1 [[v1],[v2]] (.slice a0 2 c0)*(mp .i64 f1 v1*(mp .i64 f2 v2*F))))) (fun q _=>3-(intOf q).toNat)
 case atStart=>exact⟨0,by omega,rfl,hs⟩
 case round=>
  obtain⟨k,k1,rfl,hs⟩:=hrel
  by_cases hkr:k=2
  ·subst hkr
   have hlt:decide (((2:Nat):Int)<2)=false:=rfl
   go_wp2_with (fail)
   go_ret
   refine⟨_,rfl,?_⟩
   have e:kAcc f1 f2 2=fun o=>(f2 o).or (f1 o):=by funext o;unfold kAcc;simp
   rw[←e]
   ((with_reducible apply Sat.fin hs);(focus((repeat(first|with_reducible exact Ql|with_reducible apply Qb|exact Qh|with_reducible apply Qk));done)))
  ·have hk2:k<2:=by omega
   have hlt:decide ((k:Int)<2)=true:=by simp;omega
   have hlt2:decide (k<2)=true:=by simp;omega
   obtain⟨f,v,Rk,hv,hacc,hR⟩:=join_at (f1:=f1) (f2:=f2) (v1:=v1) (v2:=v2) hk2
   have hi:k<([[v1],[v2]]:List (List Value)).length:=by simp;omega
   have e9:mp .i64 f1 v1*(mp .i64 f2 v2*F)=mp .i64 f v*(Rk*F):=by rw[←Ma,hR,Ma]
   rw[e9]at hs
   clear e9
   have HA:=Lh hacc
   have HR:=Lh hR
   have HK:=Lh hkr
   clear hacc hR hkr
   go_wp2_with (first|((with_reducible apply Zn hs);exact Ii;rfl;assumption;(with_reducible repeat first|exact Qh|apply Qk);rfl;(assumption);rfl;rfl;simp only[Uc,Uz])|((with_reducible apply ZE hs);exact Ii;exact Ii;rfl;rfl;(with_reducible repeat first|exact Qh|apply Qk);rfl;(assumption);rfl;intro b off hat;simp only[Uc,Uz])|((with_reducible apply wl_range hs);exact Ii;rfl;(with_reducible repeat first|exact Qh|apply Qk);rfl;clear hs;intro w it cnt hs;simp only[Uc,Uz]))
   go_loopg [] cnt (fun n wr=>∃(left:Int→Bool) (cur:Option (Int×Value)) (G:Int→Option Value),Hid (∀o,G o=if left o=true then kAcc f1 f2 k o else (f o).or (kAcc f1 f2 k o)) ∧
    Sat O wr (itm .i64 f v it left n cur*(mp .i64 G (.map (some r))*(sl 70 1 [[v1],[v2]] (.slice a0 2 c0)*(Rk*F)))))
   case atStart=>
    refine⟨_,none,kAcc f1 f2 k,Lh (fun o => ?_),by ((with_reducible apply Sat.fin hs);(with_reducible exact Ql))⟩
    cases hq:f o with
    | none=>simp
    | some u=>simp
   case round=>
    obtain⟨left,cur,G,hG,hs⟩:=hrel
    rcases run_itm_next (P:=Tryz.prog) hs 0 with⟨h0,h1,hr⟩|⟨k9,u,w9,n9,h1,h2,h3,hr,hs9⟩
    ·have e1:∀o,G o=kAcc f1 f2 (k+1) o:=fun o=>by rw[hG.out o,if_neg (by rw[h1 o];simp),HA.out o]
     have E1:=Lh (funext e1)
     have HN:=Lh hr
     clear h0 h1 hr e1 hG
     go_wp2_with ((with_reducible apply wl_nx);rfl;exact HN.out;rfl;simp only[Uc,Uz])
     rw[E1.out]at hs
     replace hs:=itm_end (hs.pull (A:=itm .i64 f v it left gk cur) (by (with_reducible exact Qh)))
     go_roundw
     case rel=>
      refine⟨k+1,by have:=HK.out;omega,by simp,?_⟩
      have e9:mp .i64 f1 v1*(mp .i64 f2 v2*F)=mp .i64 f v*(Rk*F):=by rw[←Ma,HR.out,Ma]
      rw[e9]
      (with_reducible apply Sat.fin hs;repeat first|exact Ql|exact Qh|apply Qb|apply Qk)
     case measure=>simp[intOf];omega
    ·have e1:∀o,(if o=k9 then some u else G o)=if (left o && !decide (o=k9))=true then kAcc f1 f2 k o else (f o).or (kAcc f1 f2 k o):=fun o=>by
      rw[hG.out o]
      by_cases e:o=k9
      ·subst e
       simp[h2]
      ·simp[e]
     have E1:=Lh e1
     have HN:=Lh hr
     have H3:=Lh h3
     clear h1 h2 h3 hr e1 hG
     go_wp2_with (first|((with_reducible apply wl_mu hs);exact Ii;rfl;rfl;rfl;(with_reducible repeat first|exact Qh|apply Qk);rfl;clear hs;intro w hs)|((with_reducible apply wl_nx);rfl;exact HN.out;rfl;(clear hs;have hs:=hs9;clear hs9);simp only[Uc,Uz])|((with_reducible apply wl_entry hs);rfl;(with_reducible exact Qh);rfl;simp only[Uc,Uz]))
     go_roundg n9
     case measure=>exact H3.out
     case rel=>exact⟨_,_,_,E1,by (with_reducible apply Sat.fin hs;repeat first|exact Ql|exact Qh|apply Qb|apply Qk)⟩
end
section
open Go.RowKit Hp
set_option maxRecDepth 100000
set_option maxHeartbeats 1000000
attribute [local irreducible] Go.Calls
def Sea.er (s:Sea):Sea:={ s with task:=.nilIface }
def Mch.er (m:Mch):Mch:={ m with kit:=.nilIface,vs:=.nilIface,vc:=.nilIface,seats:=m.seats.map Sea.er }
section
variable {α β γ:Type}
def er3 (r:Bool×α×Mch×β):Bool×α×Mch×β:=(r.1,r.2.1,r.2.2.1.er,r.2.2.2)
def er4 (r:Bool×α×β×Mch×γ):Bool×α×β×Mch×γ:=(r.1,r.2.1,r.2.2.1,r.2.2.2.1.er,r.2.2.2.2)
def er2 (r:Bool×Mch×β):Bool×Mch×β:=(r.1,r.2.1.er,r.2.2)
theorem JI {p:Prop}[Decidable p](x y:Bool×α×Mch×β):er3 (if p then x else y)=if p then er3 x else er3 y:=by split<;>rfl
theorem er4_ite {p:Prop}[Decidable p](x y:Bool×α×β×Mch×γ):er4 (if p then x else y)=if p then er4 x else er4 y:=by split<;>rfl
theorem er2_ite {p:Prop}[Decidable p](x y:Bool×Mch×β):er2 (if p then x else y)=if p then er2 x else er2 y:=by split<;>rfl
end
variable (h:Haz)(a:Are)(m:Mch)(i t:Nat)
theorem er_word (i:Nat):m.er.word i=m.word i:=rfl
theorem er_load (u:Int):m.er.load i u=(m.load i u).er:=rfl
theorem er_store (u z:Int):m.er.store i u z=(m.store i u z).er:=rfl
theorem er_swap (u o z:Int):m.er.swap i u o z=(m.swap i u o z).er:=rfl
theorem er_shift (s f t:Int):m.er.shift s f t=(m.shift s f t).er:=rfl
theorem er_point (c:Cll)(z:Int):m.er.point i c z=(m.point i c z).er:=rfl
theorem er_thread:m.er.thread=m.thread:=rfl
theorem er_now:m.er.now=m.now:=rfl
theorem er_answer (s:Sea)(k v:Int):m.er.answer t s.er k v=(m.answer t s k v).er:=by
 simp only[Mch.answer,Mch.er,Yk];rfl
theorem er_prep (now:Int)(s:Sea):m.er.prep t i now s.er=(m.prep t i now s).er:=by
 simp only[Mch.prep,Mch.er,Yk];rfl
theorem er_push (p:Psh):Zc a m.er p=er3 (Zc a m p):=by
 simp only[Zc,er_word,er_load,er_store,er_swap,er_shift,er_thread,JI];rfl
theorem er_give (p:Psh):Zw a m.er p=er3 (Zw a m p):=by
 simp only[Zw,er_shift,er_thread,JI];rfl
def er5 {α β γ:Type}(r:Bool×α×β×γ×Mch):Bool×α×β×γ×Mch:=(r.1,r.2.1,r.2.2.1,r.2.2.2.1,r.2.2.2.2.er)
theorem er5_ite {α β γ:Type}{p:Prop}[Decidable p](x y:Bool×α×β×γ×Mch):er5 (if p then x else y)=if p then er5 x else er5 y:=by split<;>rfl
theorem er_free (th:Int):∀(l:List Int) (g:Option Psh) (a:Are) (m:Mch),ZL th l g a m.er=er5 (ZL th l g a m)
 | [],g,a,m=>rfl
 | s::r,g,a,m=>by
  unfold ZL
  rw[er_give,er5_ite]
  simp only[er3]
  rw[er_free th r]
  rfl
theorem er_takeReady (k:Tak):Zf a m.er k=er3 (Zf a m k):=by
 simp only[Zf,Jj,er_shift,er_thread,JI];rfl
theorem er_take (k:Tak):Zj a m.er k=er3 (Zj a m k):=by
 simp only[Zj,Jj,er_word,er_load,er_swap,er_shift,er_thread,JI];rfl
theorem er_try (s:Scn):JE h m.er s=er2 (JE h m s):=by
 simp only[JE,er_word,er_load,er2_ite];rfl
theorem er_stake (s:Scn):QU h m.er s=er3 (QU h m s):=by
 simp only[QU,er_word,er_swap,JI];rfl
theorem er_look (s:Scn):Ja h a m.er s=er4 (Ja h a m s):=by
 have e1:(Jq h m.er s).1=(Jq h m s).1.er:=rfl
 have e2:(Jq h m.er s).2=(Jq h m s).2:=rfl
 unfold Ja
 rw[e1,e2]
 dsimp only
 rw[er_free,er4_ite]
 rfl
theorem er_sgive (s:Scn)(p:Psh):QV h a m.er s p=er3 (QV h a m s p):=by
 simp only[QV,er_push,JI]
 simp only[er3,er_free];rfl
theorem er_scan (s:Scn):Zs h a m.er s=er4 (Zs h a m s):=by
 unfold Zs
 simp only[er4_ite]
 congr 1
 ·rw[er_try];rfl
 congr 1
 ·rw[er_stake];rfl
 congr 1
 congr 1
 ·exact er_look ..
 ·split
  ·rw[er_sgive];rfl
  ·rfl
theorem er_retire (r:Ret):Zx h a m.er r=er4 (Zx h a m r):=by
 simp only[Zx,er_shift,er_thread,er4_ite];rfl
theorem er_reg (s:Sea)(r:Reg):Z5 h m.er t s.er r=er3 (Z5 h m t s r):=by
 simp only[Z5,Qp,er_word,er_load,er_swap,er_answer,JI];rfl
theorem er_flush (p:Psh):ZQ a m.er p=er3 (ZQ a m p):=by
 simp only[ZQ,er_push,JI];rfl
theorem er_unr (u:Unr):ZB h a m.er u=er4 (ZB h a m u):=by
 unfold ZB
 simp only[er_word,er_store,er4_ite]
 congr 1
 congr 1
 ·split
  ·rfl
  ·simp only[er_scan,er4_ite];rfl
 congr 1
 split
 ·rfl
 ·simp only[er_flush];rfl
theorem er_read (c:Cll)(s:Sea)(r:Rdg):Qe h m.er i t c s.er r=er2 (Qe h m i t c s r):=by
 simp only[Qe,QF,er_word,er_load,er_store,er_point,er_now,er_answer,er2_ite];rfl
theorem er_took (c:Cll)(s:Sea)(p:Pst)(k:Tak):ZI m.er i t c s.er p k=er2 (ZI m i t c s p k):=by
 simp only[ZI,er_point,er_now,er_answer,er2_ite];rfl
theorem er_postReady (c:Cll)(s:Sea)(p:Pst):ZP a m.er i t c s.er p=er3 (ZP a m i t c s p):=by
 simp only[ZP,er_takeReady,JI]
 simp only[er3,er_took];rfl
theorem er_post (c:Cll)(s:Sea)(p:Pst):ZJ h a m.er i t c s.er p=er4 (ZJ h a m i t c s p):=by
 unfold ZJ
 split
 ·rfl
 ·simp only[er4_ite,er_take,er_word]
  congr 1
  ·simp only[er3,er_took];rfl
  congr 1
  congr 1
  congr 1
  ·congr 1
   simp only[er_swap,Jc,er_point,er_answer,er_now,er_shift,er_thread,er_retire,er4_ite];rfl
  ·split
   ·rfl
   ·split
    ·rfl
    ·rw[er_scan];rfl
theorem er_rdy (s:Haz×Are)(c:Cll)(se:Sea)(k:Qu):Qy s m.er i t c se.er k=er3 (Qy s m i t c se k):=by
 cases k<;>first|rfl|(simp only[Qy,er_postReady];rfl)
theorem er_stp (s:Haz×Are)(c:Cll)(se:Sea)(k:Qu):Qj s m.er i t c se.er k=er3 (Qj s m i t c se k):=by
 cases k<;>first|rfl|(simp only[Qj,er_reg,er_unr,er_read,er_post,er_scan];rfl)
theorem er_getC:getC m.er i=getC m i:=rfl
theorem er_getS:getS m.er t=(getS m t).er:=by
 simp only[getS,Mch.er,Yb,Ym]
 cases m.seats[t]? <;> rfl
theorem er_end (c:Cll)(s:Sea)(now:Int)(b:Bool):Q3 m.er t i now c s.er b=(Q3 m t i now c s b).er:=by
 unfold Q3
 split
 ·simp only[Mch.er,Yk];rfl
 ·rfl
theorem kitFn_none {x:Caps}{op:Int}:kitFn x op=none↔op<20∨25<op:=by
 unfold kitFn
 constructor
 ·intro h
  repeat(split at h;· cases h)
  omega
 ·intro h
  rw[if_neg (by omega),if_neg (by omega),if_neg (by omega),if_neg (by omega),if_neg (by omega),if_neg (by omega)]
end
section
open Go.RowKit Hp
set_option maxRecDepth 100000
set_option maxHeartbeats 1000000
attribute [local irreducible] Go.Calls
section
variable {τ:Type}(rdy stp:Haz×Are→Mch→Nat→Nat→Cll→Sea→τ→GR τ)
def gT:JK (Haz×Are) τ:=⟨fun _=>emp,fun _ _=>emp,rdy,stp,fun _ _ _ _=>True,fun _ _ _ _=>True⟩
def gEr (y:GW τ):GW τ:={ y with m:=y.m.er }
def gMove (known:Int→Bool)(mkr:Haz×Are→Nat→Mv→Option τ)(y:GW τ)(mv:Mv):GW τ:=
 if mv.thread<0∨(y.tasks.length:Int)≤mv.thread then y.tick
 else match y.tasks.getD mv.thread.toNat none with
  | none=>
   if mv.op=0 then y.tick
   else if known mv.op=false then y.tick
   else match mkr y.s mv.thread.toNat mv with
    | none=>y.tick
    | some k=>⟨y.s,Zz y.m mv.thread.toNat mv .nilIface .nilIface,y.tasks.set mv.thread.toNat (some k)⟩
  | some k=>
   if mv.op≠0 then y.tick
   else
    let se:=getS y.m mv.thread.toNat
    let r:=Qf (gT rdy stp) y.s y.tick.m se.last.toNat mv.thread.toNat (getC y.m se.last.toNat) se k y.m.moves
    ⟨r.1,r.2.1,y.tasks.set mv.thread.toNat r.2.2⟩
end
section
variable {τ:Type}{T:JK (Haz×Are) τ}{mkr:Haz×Are→Nat→Mv→Option τ}
structure ErOk (T:JK (Haz×Are) τ):Prop where
 rdy:∀s m i t c se k,T.rdy s m.er i t c se.er k=er3 (T.rdy s m i t c se k)
 stp:∀s m i t c se k,T.stp s m.er i t c se.er k=er3 (T.stp s m i t c se k)
theorem g_stepReady (H:ErOk T)(s:Haz×Are)(m:Mch)(i t:Nat)(c:Cll)(se:Sea)(k:τ)(now:Int):Zt (gT T.rdy T.stp) s m.er i t c se.er k now=er3 (Zt T s m i t c se k now):=by
 unfold Zt
 rw[JI]
 congr 1
 ·rw[er_prep];exact H.rdy s _ i t c { se with ready:=true } k
 ·rw[er_prep];rfl
theorem g_stepMore (H:ErOk T)(i t:Nat)(r:GR τ):Jh (gT T.rdy T.stp) i t (er3 r)=er3 (Jh T i t r):=by
 unfold Jh
 rw[JI]
 congr 1
 simp only[er3,er_getC,er_getS]
 exact H.stp ..
theorem gMove_of (H:ErOk T){K:Int→Option Value}{known:Int→Bool}(hK:∀o,K o≠none↔known o=true){y y':GW τ}{mv:Mv}{b:Bool}(h:JL T K mkr y mv b y'):gEr y'=gMove T.rdy T.stp known mkr (gEr y) mv:=by
 have key:∀(t:Nat) (o:Option τ),mv.thread=(t:Int)→y.tasks[t]? = some o→(gEr y).tasks.getD mv.thread.toNat none=o∧¬(mv.thread<0∨((gEr y).tasks.length:Int)≤mv.thread):=by
  intro t o ht hk
  have hl:=(List.getElem?_eq_some_iff.1 hk).1
  refine⟨?_,?_⟩
  ·rw[ht,Yo,Yb]
   show(y.tasks[t]?).getD none=o
   rw[hk];rfl
  ·show ¬(mv.thread<0∨(y.tasks.length:Int)≤mv.thread)
   omega
 cases h with
 | out h=>unfold gMove;rw[if_pos (by exact h)];rfl
 | idle t ht hop hk=>
  obtain⟨e,hn⟩:=key t _ ht hk
  unfold gMove
  rw[if_neg hn,e]
  simp only[]
  rw[if_pos hop]
  rfl
 | busy t k ht hop hk=>
  obtain⟨e,hn⟩:=key t _ ht hk
  unfold gMove
  rw[if_neg hn,e]
  simp only[]
  rw[if_pos hop]
  rfl
 | nokit t ht hop hk hKn=>
  obtain⟨e,hn⟩:=key t _ ht hk
  unfold gMove
  rw[if_neg hn,e]
  simp only[]
  rw[if_neg hop,if_pos (by cases hq:known mv.op with|false=>rfl|true=>exact absurd hKn ((hK _).2 hq))]
  rfl
 | refused t ht hop hk hKn hm=>
  obtain⟨e,hn⟩:=key t _ ht hk
  have hm2:mkr (gEr y).s mv.thread.toNat mv=none:=by rw[ht,Yo];exact hm
  unfold gMove
  rw[if_neg hn,e]
  simp only[]
  rw[if_neg hop,if_neg (by rw[(hK _).1 hKn];simp),hm2]
  rfl
 | begin_ t k v vc ht hop hk hKn hm=>
  obtain⟨e,hn⟩:=key t _ ht hk
  have hm2:mkr (gEr y).s mv.thread.toNat mv=some k:=by rw[ht,Yo];exact hm
  unfold gMove
  rw[if_neg hn,e]
  simp only[]
  rw[if_neg hop,if_neg (by rw[(hK _).1 hKn];simp),hm2]
  rw[ht,Yo]
  simp only[gEr,Zz,Mch.er,Yk]
  rfl
 | step t i c se k ht hop hk hse hl hc=>
  obtain⟨e,hn⟩:=key t _ ht hk
  unfold gMove
  rw[if_neg hn,e]
  simp only[]
  rw[if_neg (by simpa using hop)]
  have e1:getS (gEr y).m mv.thread.toNat=se.er:=by
   rw[ht,Yo]
   show getS y.m.er t=_
   rw[er_getS]
   simp[getS,Yb,hse]
  have e2:getC (gEr y).m se.er.last.toNat=c:=by
   show getC y.m.er se.last.toNat=c
   rw[hl,Yo,er_getC]
   simp[getC,Yb,hc]
  have e3:se.er.last.toNat=i:=by show se.last.toNat=i;omega
  rw[e1,e2,e3,ht,Yo]
  have e4:Qf (gT T.rdy T.stp) (gEr y).s (gEr y).tick.m i t c se.er k (gEr y).m.moves=((Qf T y.s y.tick.m i t c se k y.m.moves).1,(Qf T y.s y.tick.m i t c se k y.m.moves).2.1.er,(Qf T y.s y.tick.m i t c se k y.m.moves).2.2):=by
   have h1:=g_stepReady H y.s y.tick.m i t c se k y.m.moves
   have h2:=g_stepMore H i t (Zt T y.s y.tick.m i t c se k y.m.moves)
   rw[←h1]at h2
   unfold Qf
   simp only[]
   have h3:Jh (gT T.rdy T.stp) i t (Zt (gT T.rdy T.stp) (gEr y).s (gEr y).tick.m i t c se.er k (gEr y).m.moves)=er3 (Jh T i t (Zt T y.s y.tick.m i t c se k y.m.moves)):=h2
   rw[h3]
   simp only[er3,er_getC,er_getS,er_end];rfl
  simp only[e4]
  rfl
end
end
section
open Go.RowKit Hp
set_option maxRecDepth 100000
set_option maxHeartbeats 1000000
attribute [local irreducible] Go.Calls Go.wpList
structure QCaps where
 c1:Nat
 c4:Nat
def placeR (bh:Nat)(c:Cfg)(g:Nat):Zb:=pt g (.cells #[.pointer (some ⟨bh,0,none⟩),.int .i64 (adr c 4 0:Nat),.int .i64 (adr c 5 0:Nat),.int .i64 (base c 11),.int .i64 (base c 13)] 130)
def qcapR (bh:Nat)(c:Cfg)(x:QCaps):Zb:=QG bh x.c1*placeR bh c x.c4
def queFn (x:QCaps):Int→Option Value:=fun op=>
 if op=41 then some (.func (.func 70) #[] #[.pointer (some ⟨x.c1,0,none⟩),.pointer (some ⟨x.c4,0,none⟩)])
 else if op=40 then some (.func (.func 68) #[] #[.pointer (some ⟨x.c1,0,none⟩),.pointer (some ⟨x.c4,0,none⟩)]) else none
theorem qkit_mk {bh ba:Nat}{h:Haz}{a:Are}{v:Value}{O w:World}{F:Zb}{c1 c4:Nat}(hs:Sat O w (mp .i64 (queFn ⟨c1,c4⟩) v*(HazR bh ba h*(AreR ba a*(qcapR bh a.c ⟨c1,c4⟩*F))))):Sat O w ((ex fun x=>mp .i64 (queFn x) v*(HazR bh ba h*(AreR ba a*qcapR bh a.c x)))*F):=by
 simp only[ZC,Ma]
 exact⟨_,hs⟩
theorem que_kit (bh ba:Nat)(h:Haz)(a:Are)(hok:a.c.Ok) :
  Does Tryz.prog 27 #[.pointer (some ⟨bh,0,none⟩)] (HazR bh ba h*AreR ba a) (fun v=>ex fun x=>mp .i64 (queFn x) v*(HazR bh ba h*(AreR ba a*qcapR bh a.c x))):=by
 intro O w F hs
 simp only[Ma]at hs
 have hA:=Lh (que_arena bh ba h)
 have hG:=Lh (arena_config ba a)
 have hAd:∀r:Nat,1≤r→r≤13→r≠9→0<many a.c r→Zl Tryz.prog 67 #[a.c.v,.agg #[.int .i64 (r:Int),.int .i64 0,.int .i64 0]] emp (.tuple #[.int .i64 (base a.c r),.int .i64 0]) emp:=fun r h1 h2 h9 hm=>by
  have:=word_addr a.c hok r h1 h2 0 ⟨by omega,by omega,hm⟩
  rw[if_neg h9,Int.add_zero]at this
  exact this
 have e4:base a.c 4=((adr a.c 4 0:Nat):Int):=by have:=adr_eq hok 4 (i:=0) (by omega);omega
 have e5:base a.c 5=((adr a.c 5 0:Nat):Int):=by have:=adr_eq hok 5 (i:=0) (by omega);omega
 have hS:=hok.S1
 have h4:=hAd 4 (by omega) (by omega) (by omega) (by show(0:Int)<1;omega)
 have h5:=hAd 5 (by omega) (by omega) (by omega) (by show(0:Int)<1;omega)
 have h11:=hAd 11 (by omega) (by omega) (by omega) (by show 0<a.c.Sl;omega)
 have h13:=hAd 13 (by omega) (by omega) (by omega) (by show 0<a.c.Sl;omega)
 rw[e4]at h4
 rw[e5]at h5
 have H4:=Lh h4;have H5:=Lh h5;have H11:=Lh h11;have H13:=Lh h13
 clear hAd h4 h5 h11 h13 hok hS e4 e5
 go_enter Tryz.func27,Tryz.ntmps27
 (repeat'(first|(go_big_may;(first|((with_reducible apply Za hs);exact Ii;rfl;(with_reducible repeat first|exact Qh|apply Qk);rfl;rfl;simp only[Uc,Uz])|((with_reducible apply ZZ hs);exact Ii;rfl;(with_reducible repeat first|exact Qh|apply Qk);rfl;rfl;simp only[Uc,Uz])|((with_reducible apply ZA hs);exact Ii;rfl;rfl;(with_reducible exact Qh);rfl;exact Vb rfl;rfl;clear hs;intro w hs;simp only[Yg,Uc,Uz]at hs)|((with_reducible apply ZG hs);exact Ii;rfl;rfl;(with_reducible exact Qh);rfl;rfl;rfl;rfl;clear hs;intro w hs)|((with_reducible apply Zo hs);exact Ii;rfl;clear hs;intro w b hs;simp only[Uc,Uz])|((with_reducible apply Zq hs);rfl;rfl;rfl;clear hs;intro w b hs;simp only[Uc,Uz])|(first|((with_reducible apply wl_mkmap hs);exact Ii;rfl;clear hs;intro w r hs;simp only[Uc,Uz])|((with_reducible apply wl_mi hs);exact Ii;rfl;rfl;rfl;(with_reducible exact Qh);rfl;clear hs;intro w hs))|(go_at_call 65;(refine(hA.out).at hs (by with_reducible repeat first|exact Qh|apply Qk) ?_;clear hs;intro w hs;(try simp only[Em,Ma]at hs)))|(go_at_call 66;(refine(hG.out).at hs (by with_reducible repeat first|exact Qh|apply Qk) ?_;clear hs;intro w hs;(try simp only[Em,Ma]at hs)))|(go_at_call 67;first|((refine(H4.out).at hs (by (focus((repeat(with_reducible exact Qn));done))) ?_);clear hs;intro w hs;(try simp only[Em,Ma]at hs))|((refine(H5.out).at hs (by (focus((repeat(with_reducible exact Qn));done))) ?_);clear hs;intro w hs;(try simp only[Em,Ma]at hs))|((refine(H11.out).at hs (by (focus((repeat(with_reducible exact Qn));done))) ?_);clear hs;intro w hs;(try simp only[Em,Ma]at hs))|((refine(H13.out).at hs (by (focus((repeat(with_reducible exact Qn));done))) ?_);clear hs;intro w hs;(try simp only[Em,Ma]at hs)))))|go_step|(dsimp only)))
 go_ret
 refine⟨_,rfl,?_⟩
 apply qkit_mk
 unfold qcapR QG placeR queFn
 simp only[Ma]
 ((with_reducible apply Sat.fin hs);(focus((repeat(first|with_reducible exact Ql|with_reducible exact Qh|with_reducible apply Qb|exact Qh|with_reducible apply Qk));done)))
section
variable (bh ba:Nat)(x:QCaps)(h:Haz)(a:Are)(t:Nat)(mv:Mv)
theorem mk_put_no (r:Int)(ht:h.held[t]? = some r)(r0:r<0):Does Tryz.prog 68 #[.int .i64 (t:Int),mv.v,.pointer (some ⟨x.c1,0,none⟩),.pointer (some ⟨x.c4,0,none⟩)] (HazR bh ba h*qcapR bh h.c x)
  (fun v=>pu (v=.nilIface)*(HazR bh ba h*qcapR bh h.c x)):=by
 intro O w F hs
 have hR:=Lh (Q9 bh ba h t r ht)
 have n1:decide (r<0)=true:=by simp;omega
 unfold qcapR QG at hs ⊢
 simp only[Ma]at hs ⊢
 go_enter Tryz.func68,Tryz.ntmps68
 (repeat'(first|(go_big_may;(first|((with_reducible apply Za hs);exact Ii;rfl;(with_reducible repeat first|exact Qh|apply Qk);rfl;rfl;simp only[Uc,Uz])|((with_reducible apply Zq hs);rfl;rfl;rfl;clear hs;intro w b hs;simp only[Uc,Uz])|(go_at_call 69;(refine(hR.out).at hs (by with_reducible repeat first|exact Qh|apply Qk) ?_;clear hs;intro w hs;(try simp only[Em,Ma]at hs)))))|go_step|(dsimp only)))
 go_ret
 refine⟨_,rfl,?_⟩
 refine Zy.2 ⟨rfl,?_⟩
 (with_reducible apply Sat.fin hs;repeat first|exact Ql|exact Qh|apply Qb|apply Qk)
theorem mk_get_no (r:Int)(ht:h.held[t]? = some r)(r0:r<0):Does Tryz.prog 70 #[.int .i64 (t:Int),mv.v,.pointer (some ⟨x.c1,0,none⟩),.pointer (some ⟨x.c4,0,none⟩)] (HazR bh ba h*qcapR bh h.c x)
  (fun v=>pu (v=.nilIface)*(HazR bh ba h*qcapR bh h.c x)):=by
 intro O w F hs
 have hR:=Lh (Q9 bh ba h t r ht)
 have n1:decide (r<0)=true:=by simp;omega
 unfold qcapR QG at hs ⊢
 simp only[Ma]at hs ⊢
 go_enter Tryz.func70,Tryz.ntmps70
 (repeat'(first|(go_big_may;(first|((with_reducible apply Za hs);exact Ii;rfl;(with_reducible repeat first|exact Qh|apply Qk);rfl;rfl;simp only[Uc,Uz])|((with_reducible apply Zq hs);rfl;rfl;rfl;clear hs;intro w b hs;simp only[Uc,Uz])|(go_at_call 69;(refine(hR.out).at hs (by with_reducible repeat first|exact Qh|apply Qk) ?_;clear hs;intro w hs;(try simp only[Em,Ma]at hs)))))|go_step|(dsimp only)))
 go_ret
 refine⟨_,rfl,?_⟩
 refine Zy.2 ⟨rfl,?_⟩
 (with_reducible apply Sat.fin hs;repeat first|exact Ql|exact Qh|apply Qb|apply Qk)
theorem mk_put (r:Int)(ht:h.held[t]? = some r)(r0:0≤r):Does Tryz.prog 68 #[.int .i64 (t:Int),mv.v,.pointer (some ⟨x.c1,0,none⟩),.pointer (some ⟨x.c4,0,none⟩)] (HazR bh ba h*qcapR bh h.c x)
  (fun v=>quR bh ba h.c (.put ⟨t,mv.arg,⟨t,1,0,0,0,false⟩,0,0,0,0,0⟩) v*(HazR bh ba h*qcapR bh h.c x)):=by
 intro O w F hs
 have hR:=Lh (Q9 bh ba h t r ht)
 have n1:decide (r<0)=false:=by simp;omega
 rw[quR_put0 rfl]
 unfold qcapR QG placeR at hs ⊢
 simp only[Ma]at hs ⊢
 go_enter Tryz.func68,Tryz.ntmps68
 (repeat'(first|(go_big_may;(first|((with_reducible apply Za hs);exact Ii;rfl;(with_reducible repeat first|exact Qh|apply Qk);rfl;rfl;simp only[Uc,Uz])|((with_reducible apply ZZ hs);exact Ii;rfl;(with_reducible repeat first|exact Qh|apply Qk);rfl;rfl;simp only[Uc,Uz])|((with_reducible apply Zq hs);rfl;rfl;rfl;clear hs;intro w b hs;simp only[Uc,Uz])|(go_at_call 69;(refine(hR.out).at hs (by with_reducible repeat first|exact Qh|apply Qk) ?_;clear hs;intro w hs;(try simp only[Em,Ma]at hs)))))|go_step|(dsimp only)))
 go_ret
 refine⟨_,rfl,?_⟩
 refine JH.2 ⟨_,rfl,?_⟩
 unfold PtR0
 (with_reducible apply Sat.fin hs;repeat first|exact Ql|exact Qh|apply Qb|apply Qk)
theorem mk_get (r:Int)(ht:h.held[t]? = some r)(r0:0≤r):Does Tryz.prog 70 #[.int .i64 (t:Int),mv.v,.pointer (some ⟨x.c1,0,none⟩),.pointer (some ⟨x.c4,0,none⟩)] (HazR bh ba h*qcapR bh h.c x)
  (fun v=>quR bh ba h.c (.get ⟨t,0,0,0,0,false,0,none,0,0,0⟩) v*(HazR bh ba h*qcapR bh h.c x)):=by
 intro O w F hs
 have hR:=Lh (Q9 bh ba h t r ht)
 have n1:decide (r<0)=false:=by simp;omega
 unfold qcapR QG placeR at hs ⊢
 simp only[Ma]at hs ⊢
 go_enter Tryz.func70,Tryz.ntmps70
 (repeat'(first|(go_big_may;(first|((with_reducible apply Za hs);exact Ii;rfl;(with_reducible repeat first|exact Qh|apply Qk);rfl;rfl;simp only[Uc,Uz])|((with_reducible apply ZZ hs);exact Ii;rfl;(with_reducible repeat first|exact Qh|apply Qk);rfl;rfl;simp only[Uc,Uz])|((with_reducible apply Zq hs);rfl;rfl;rfl;clear hs;intro w b hs;simp only[Uc,Uz])|(go_at_call 69;(refine(hR.out).at hs (by with_reducible repeat first|exact Qh|apply Qk) ?_;clear hs;intro w hs;(try simp only[Em,Ma]at hs)))))|go_step|(dsimp only)))
 go_ret
 refine⟨_,rfl,?_⟩
 refine JH.2 ⟨_,rfl,?_⟩
 have hs:=rtr_none (bh:=bh) (ba:=ba) hs
 apply Q8 (vr:=.pointer none)
 (with_reducible apply Sat.fin hs;repeat first|exact Ql|exact Qh|apply Qb|apply Qk)
end
def jFnQ (x:Caps)(y:QCaps):Int→Option Value:=fun o=>(queFn y o).or (kitFn x o)
structure KOkQ (cf:Cfg)(n:Nat)(s:Haz×Are):Prop where
 k:KOk n s
 c:s.1.c=cf
theorem core_kokQ {c:Cfg}{L S N:Nat}{h:Haz}{a:Are}{m:Mch}(C:JC (QM c) c L S N h a m):KOkQ c c.T.toNat (h,a):=
 ⟨⟨by rw[C.hc];exact C.ok,C.held,fun r hr=>by rw[C.hc];exact(C.hin r hr).2⟩,C.hc⟩
theorem queFn_no {x:QCaps}{o:Int}(h:¬(o=40∨o=41)):queFn x o=none:=by
 unfold queFn
 rw[if_neg (by omega),if_neg (by omega)]
theorem jFnQ_known (x:Caps)(y:QCaps)(o:Int):jFnQ x y o≠none↔(20≤o∧o≤25)∨o=40∨o=41:=by
 unfold jFnQ
 by_cases h:o=40∨o=41
 ·refine⟨fun _=>.inr h,fun _ => ?_⟩
  unfold queFn
  rcases h with rfl|rfl<;>simp
 ·rw[queFn_no h,Option.none_or]
  constructor
  ·intro hk
   refine .inl ?_
   by_cases hq:o<20∨25<o
   ·exact absurd (kitFn_none.2 hq) hk
   ·omega
  ·rintro(hk|hk)
   ·intro hq
    have:=kitFn_none.1 hq
    omega
   ·exact absurd hk h
theorem qkT_kit (bh ba:Nat)(cf:Cfg)(n:Nat)(x:Caps)(y:QCaps):KitOk (qkT bh ba cf (capR bh x*qcapR bh cf y)) (jFnQ x y) qTask (KOkQ cf n) n where
 func:=by
  intro op u hu
  unfold jFnQ at hu
  by_cases h:op=40∨op=41
  ·unfold queFn at hu
   rcases h with rfl|rfl
   ·simp at hu
    exact⟨_,_,_,hu.symm⟩
   ·simp at hu
    exact⟨_,_,_,hu.symm⟩
  ·rw[queFn_no h,Option.none_or]at hu
   exact(hzT_kit bh ba n x).func op u hu
 make:=by
  intro op u s t mv hK hop ht hthr hok
  subst hop
  have hcf:=hok.c
  subst hcf
  by_cases hs:mv.op=40∨mv.op=41
  ·have hlt:t<s.1.held.length:=by rw[hok.k.held];exact ht
   obtain⟨r,hr⟩:∃r,s.1.held[t]? = some r:=⟨_,Yd hlt⟩
   have hrd:s.1.held.getD t 0=r:=by rw[Yb,hr];rfl
   unfold qTask
   rw[hrd]
   unfold jFnQ queFn at hK
   rcases hs with e|e
   ·rw[e]at hK ⊢
    simp at hK
    subst hK
    rw[if_pos rfl]
    by_cases h0:r<0
    ·rw[if_pos h0]
     exact JJ (AreR ba s.2*capR bh x) ((mk_put_no bh ba y s.1 t mv r hr h0).dyn (fun w=>by kernel_rfl)) (by simp only[qkT];ac_rfl) (fun v=>by simp only[madeR,qkT];ac_rfl)
    ·rw[if_neg h0]
     exact JJ (AreR ba s.2*capR bh x) ((mk_put bh ba y s.1 t mv r hr (by omega)).dyn (fun w=>by kernel_rfl)) (by simp only[qkT];ac_rfl) (fun v=>by simp only[madeR,qkT];ac_rfl)
   ·rw[e]at hK ⊢
    simp at hK
    subst hK
    rw[if_neg (by omega),if_pos rfl]
    by_cases h0:r<0
    ·rw[if_pos h0]
     exact JJ (AreR ba s.2*capR bh x) ((mk_get_no bh ba y s.1 t mv r hr h0).dyn (fun w=>by kernel_rfl)) (by simp only[qkT];ac_rfl) (fun v=>by simp only[madeR,qkT];ac_rfl)
    ·rw[if_neg h0]
     exact JJ (AreR ba s.2*capR bh x) ((mk_get bh ba y s.1 t mv r hr (by omega)).dyn (fun w=>by kernel_rfl)) (by simp only[qkT];ac_rfl) (fun v=>by simp only[madeR,qkT];ac_rfl)
  ·unfold jFnQ at hK
   rw[queFn_no hs,Option.none_or]at hK
   have e0:qTask s t mv=(Qx s t mv).map .hz:=by unfold qTask;rw[if_neg (by omega),if_neg (by omega)]
   rw[e0]
   refine JJ (qcapR bh s.1.c y) ((hzT_kit bh ba n x).make mv.op u s t mv hK rfl ht hthr hok.k) (by simp only[qkT,hzT];ac_rfl) (fun v => ?_)
   cases Qx s t mv with
   | none=>simp only[Option.map_none,madeR,qkT,hzT];ac_rfl
   | some q=>simp only[Option.map_some,madeR,qkT,hzT,quR];ac_rfl
end
end Go.Proofs.YtefjbdajgakgpaaGreat
