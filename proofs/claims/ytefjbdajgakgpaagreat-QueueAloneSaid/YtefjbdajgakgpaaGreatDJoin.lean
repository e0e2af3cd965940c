import Derived.Test.YtefjbdajgakgpaaGreatDQueV2
import Derived.Maps.RangeRun
set_option linter.all false
namespace Go.Proofs.YtefjbdajgakgpaaGreat
section
open Go.RowKit Hp
set_option maxRecDepth 100000
set_option maxHeartbeats 1000000
attribute [local irreducible] Go.Calls Go.wpList
def quR (bh ba:Nat)(cf:Cfg):Zx→Value→Zc
 | .hz k=>htR bh ba k
 | .put p=>if p.stage=0 then ifR 138 (fun x=>PtR0 x bh cf p) else ifR 138 fun x=>PtR x bh ba cf p
 | .get p=>ifR 144 fun x=>GtR x bh ba cf p
theorem quR_put0 {bh ba:Nat}{cf:Cfg}{p:Pt}(h:p.stage=0):quR bh ba cf (.put p)=ifR 138 (fun x=>PtR0 x bh cf p):=if_pos h
theorem quR_put1 {bh ba:Nat}{cf:Cfg}{p:Pt}(h:p.stage≠0):quR bh ba cf (.put p)=ifR 138 (fun x=>PtR x bh ba cf p):=if_neg h
def qkT (bh ba:Nat)(cf:Cfg)(CX:Zc):JH (Haz×Are) Zx where
 X s:=HazR bh ba s.1*(AreR ba s.2*CX)
 R:=quR bh ba cf
 rdy:=Q6
 stp:=Q5
 okr:=fun s m t k=>s.1.c=cf∧qkOkr s m t k
 oks:=fun s m t k=>s.1.c=cf∧qkOks s m t k
theorem ptTaken_stage {m:Mch}{i t:Nat}{c:Cll}{s:Sea}{p:Pt}(h:p.stage≠0):(ZV m i t c s p).2.2.stage≠0:=by
 unfold ZV
 split
 ·exact h
 ·simp
theorem ptReady_stage {h:Haz}{a:Are}{m:Mch}{i t:Nat}{c:Cll}{s:Sea}{p:Pt}:(ZW h a m i t c s p).2.2.2.stage≠0:=by
 unfold ZW
 simp only[]
 split
 ·exact ptTaken_stage (by simp)
 ·simp
theorem ptStep_stage {h:Haz}{a:Are}{m:Mch}{i t:Nat}{c:Cll}{s:Sea}{p:Pt}(h0:p.stage≠0):(Qc h a m i t c s p).2.2.2.stage≠0:=by
 unfold Qc
 simp only[]
 by_cases s1:p.stage=1
 ·rw[if_pos s1]
  unfold ptTake
  simp only[]
  by_cases hb:(Zh a m p.take).1=true
  ·rw[if_pos hb];exact ptTaken_stage h0
  ·rw[if_neg hb];exact h0
 rw[if_neg s1]
 by_cases s2:p.stage=2
 ·rw[if_pos s2]
  simp
 rw[if_neg s2]
 by_cases s3:p.stage=3
 ·rw[if_pos s3]
  simp
 rw[if_neg s3]
 by_cases s4:p.stage=4
 ·rw[if_pos s4]
  simp
 rw[if_neg s4]
 by_cases s5:p.stage=5
 ·rw[if_pos s5]
  simp
 rw[if_neg s5]
 by_cases s6:p.stage=6
 ·rw[if_pos s6]
  by_cases hb:m.word (adr h.c 5 0)=p.t
  ·rw[if_pos hb];simp
  ·rw[if_neg hb];simp
 rw[if_neg s6]
 by_cases s7:p.stage=7
 ·rw[if_pos s7]
  by_cases hb:0≤m.word (adr h.c 13 (p.t-1))-1
  ·rw[if_pos hb];simp
  ·rw[if_neg hb];simp
 rw[if_neg s7]
 by_cases s8:p.stage=8
 ·rw[if_pos s8]
  by_cases hb:m.word (adr h.c 13 (p.t-1))=0
  ·rw[if_pos hb];simp
  ·rw[if_neg hb];simp
 rw[if_neg s8]
 by_cases s9:p.stage=9
 ·rw[if_pos s9]
  simp
 rw[if_neg s9]
 by_cases s10:p.stage=10
 ·rw[if_pos s10]
  exact h0
 rw[if_neg s10]
 simp
theorem frame_ptTaken {i t:Nat}{c:Cll}{s:Sea}{m:Mch}(p:Pt)(hc:ZX m i t c s):Qz i t c s m (ZV m i t c s p).2.1:=by
 unfold ZV
 split
 ·exact frame_both ..
 ·exact(Same.refl m).frame hc
theorem frame_ptReady {i t:Nat}{c:Cll}{s:Sea}{m:Mch}(h:Haz)(a:Are)(p:Pt)(hc:ZX m i t c s):Qz i t c s m (ZW h a m i t c s p).2.2.1:=by
 unfold ZW
 simp only[]
 split
 ·exact(Z2 a m _).then (frame_ptTaken _ ((Z2 a m _).curIn hc))
 ·exact(Z2 ..).frame hc
theorem frame_ptStep {i t:Nat}{c:Cll}{s:Sea}{m:Mch}(h:Haz)(a:Are)(p:Pt)(hc:ZX m i t c s):Qz i t c s m (Qc h a m i t c s p).2.2.1:=by
 unfold Qc
 simp only[]
 by_cases s1:p.stage=1
 ·rw[if_pos s1]
  unfold ptTake
  simp only[]
  split
  ·exact(same_take a m _).then (frame_ptTaken _ ((same_take a m _).curIn hc))
  ·exact(same_take ..).frame hc
 rw[if_neg s1]
 by_cases s2:p.stage=2
 ·rw[if_pos s2];exact(ZR ..).frame hc
 rw[if_neg s2]
 by_cases s3:p.stage=3
 ·rw[if_pos s3];exact(ZR ..).frame hc
 rw[if_neg s3]
 by_cases s4:p.stage=4
 ·rw[if_pos s4];exact(ZJ ..).frame hc
 rw[if_neg s4]
 by_cases s5:p.stage=5
 ·rw[if_pos s5];exact(ZR ..).frame hc
 rw[if_neg s5]
 by_cases s6:p.stage=6
 ·rw[if_pos s6];exact(ZJ ..).frame hc
 rw[if_neg s6]
 by_cases s7:p.stage=7
 ·rw[if_pos s7];exact(ZJ ..).frame hc
 rw[if_neg s7]
 by_cases s8:p.stage=8
 ·rw[if_pos s8]
  split
  ·exact((Z3 m _ _ _ _).then (frame_point ((Z3 m _ _ _ _).curIn hc) _)).same (Q2 ..)
  ·exact(Z3 ..).frame hc
 rw[if_neg s8]
 by_cases s9:p.stage=9
 ·rw[if_pos s9];exact(Z3 ..).frame hc
 rw[if_neg s9]
 by_cases s10:p.stage=10
 ·rw[if_pos s10];exact(ZR m _ _ _).then (frame_answer ((ZR m _ _ _).curIn hc) _ _)
 rw[if_neg s10]
 exact(Z3 ..).frame hc
theorem frame_gtStep {i t:Nat}{c:Cll}{s:Sea}{m:Mch}(h:Haz)(a:Are)(p:Gt)(hc:ZX m i t c s):Qz i t c s m (Z6 h a m i t c s p).2.2.2.1:=by
 unfold Z6
 simp only[]
 by_cases s1:p.stage=1
 ·rw[if_pos s1];exact(ZJ ..).frame hc
 rw[if_neg s1]
 by_cases s2:p.stage=2
 ·rw[if_pos s2];exact(ZR ..).frame hc
 rw[if_neg s2]
 by_cases s3:p.stage=3
 ·rw[if_pos s3];exact(ZJ ..).frame hc
 rw[if_neg s3]
 by_cases s4:p.stage=4
 ·rw[if_pos s4];exact(ZJ ..).frame hc
 rw[if_neg s4]
 by_cases s5:p.stage=5
 ·rw[if_pos s5]
  split
  ·exact(ZJ ..).frame hc
  ·exact(ZJ m _ _).then (frame_both ..)
 rw[if_neg s5]
 by_cases s6:p.stage=6
 ·rw[if_pos s6];exact(ZR ..).frame hc
 rw[if_neg s6]
 by_cases s7:p.stage=7
 ·rw[if_pos s7];exact(ZJ ..).frame hc
 rw[if_neg s7]
 by_cases s8:p.stage=8
 ·rw[if_pos s8];exact(Z3 ..).frame hc
 rw[if_neg s8]
 by_cases s9:p.stage=9
 ·rw[if_pos s9];exact(ZJ ..).frame hc
 rw[if_neg s9]
 by_cases s10:p.stage=10
 ·rw[if_pos s10]
  split
  ·exact((Z3 m _ _ _ _).then (frame_point ((Z3 m _ _ _ _).curIn hc) _)).same (Q2 ..)
  ·exact(Z3 ..).frame hc
 rw[if_neg s10]
 by_cases s11:p.stage=11
 ·rw[if_pos s11]
  unfold gtEnd
  simp only[]
  split
  ·exact(ZR ..).frame hc
  ·split
   ·exact(ZR ..).frame hc
   ·exact((ZR m _ _ _).then (frame_answer ((ZR m _ _ _).curIn hc) _ _)).same (same_retire ..)
 rw[if_neg s11]
 split
 ·exact(Same.refl m).frame hc
 ·split
  ·exact(Same.refl m).frame hc
  ·exact(same_scan ..).frame hc
theorem qkT_good (bh ba:Nat)(cf:Cfg)(CX:Zc):(qkT bh ba cf CX).Good where
 iface:=by
  intro O w k v F hs
  cases k with
  | hz k=>exact(hzT_good bh ba CX).iface (k:=k) hs
  | put p=>
   by_cases h0:p.stage=0
   ·have hs:Sat O w (quR bh ba cf (.put p) v*F):=hs
    rw[quR_put0 h0]at hs
    obtain⟨g,rfl,_⟩:=JE.1 hs;exact⟨_,_,rfl⟩
   ·have hs:Sat O w (quR bh ba cf (.put p) v*F):=hs
    rw[quR_put1 h0]at hs
    obtain⟨g,rfl,_⟩:=JE.1 hs;exact⟨_,_,rfl⟩
  | get p=>obtain⟨g,rfl,_⟩:=JE.1 hs;exact⟨_,_,rfl⟩
 cr:=by
  intro d bx bm s m i t c se k v hok hc
  obtain⟨hcf,hok⟩:=hok
  subst hcf
  cases k with
  | hz k=>exact(hzT_good bh ba CX).cr d bx bm s m i t c se k v hok hc
  | put p=>
   obtain⟨⟨o1,o2,o3,o4⟩,o5,o6⟩:=hok
   show Dyn Tryz.prog _ (quR bh ba s.1.c (.put p) v*(HazR bh ba s.1*(AreR ba s.2*CX)*DkR d bx bm m)) (fun u=>pu (u=.bool (ZW s.1 s.2 m i t c se p).1)*(quR bh ba s.1.c (.put (ZW s.1 s.2 m i t c se p).2.2.2) v*(HazR bh ba s.1*(AreR ba (ZW s.1 s.2 m i t c se p).2.1*CX)*DkR d bx bm (ZW s.1 s.2 m i t c se p).2.2.1)))
   rw[quR_put0 o6,quR_put1 ptReady_stage]
   exact dyn_if (Z:=CX) (fun g=>pt_ready g bh ba d bx bm s.1 s.2 m i t c se p o1 o2 o3 o4 o5 hc) (fun g w=>by kernel_rfl) (by ac_rfl) (by ac_rfl)
  | get p=>
   obtain⟨⟨o1,o2,o3,o4⟩,o5,o6⟩:=hok
   exact dyn_if (Z:=AreR ba s.2*CX*DkR d bx bm m) (fun g=>gt_ready g bh ba d s.1 s.2 m p o1 o2 o3 o4) (fun g w=>by kernel_rfl) (by simp only[qkT];ac_rfl) (by simp only[qkT,Q6];ac_rfl)
 cs:=by
  intro d bx bm s m i t c se k v hok hc
  obtain⟨hcf,hok⟩:=hok
  subst hcf
  cases k with
  | hz k=>exact(hzT_good bh ba CX).cs d bx bm s m i t c se k v hok hc
  | put p=>
   have hok:PtOk s.1 s.2 m p:=hok
   have h0:p.stage≠0:=by have:=hok.stage;omega
   show Dyn Tryz.prog _ (quR bh ba s.1.c (.put p) v*(HazR bh ba s.1*(AreR ba s.2*CX)*DkR d bx bm m)) (fun u=>pu (u=.bool (Qc s.1 s.2 m i t c se p).1)*(quR bh ba s.1.c (.put (Qc s.1 s.2 m i t c se p).2.2.2) v*(HazR bh ba s.1*(AreR ba (Qc s.1 s.2 m i t c se p).2.1*CX)*DkR d bx bm (Qc s.1 s.2 m i t c se p).2.2.1)))
   rw[quR_put1 h0,quR_put1 (ptStep_stage h0)]
   exact dyn_if (Z:=CX) (fun g=>pt_step g bh ba d bx bm s.1 s.2 m i t c se p hok hc) (fun g w=>by kernel_rfl) (by ac_rfl) (by ac_rfl)
  | get p=>exact dyn_if (Z:=CX) (fun g=>gt_step g bh ba d bx bm s.1 s.2 m i t c se p hok hc) (fun g w=>by kernel_rfl) (by simp only[qkT];ac_rfl) (by simp only[qkT,Q5];ac_rfl)
 fr:=by
  intro s m i t c se k hc
  cases k with
  | hz k=>exact(hzT_good bh ba CX).fr s m i t c se k hc
  | put p=>exact frame_ptReady _ _ _ hc
  | get p=>exact(Same.refl m).frame hc
 fs:=by
  intro s m i t c se k hc
  cases k with
  | hz k=>exact(hzT_good bh ba CX).fs s m i t c se k hc
  | put p=>exact frame_ptStep _ _ _ hc
  | get p=>exact frame_gtStep _ _ _ hc
end
section
open Go.RowKit
namespace Hp
def itm (K:IntKind)(f:Int→Option Value)(v:Value)(r:Nat)(left:Int→Bool)(n:Nat)(cur:Option (Int×Value)):Zc:=
 ex fun(b:Nat)=>ex fun(es:Array MapEntry)=>ex fun(clock:Nat)=>ex fun(since:Nat)=>ex fun(seen:Array Nat)=>ex fun(c0:Nat)=>
  pu (v=.map (some b)∧Ents K es.toList f∧Stm es.toList clock∧(∀x∈es.toList,x.born<since)∧since≤c0∧since≤clock∧(leftOf es seen).size=n ∧
   (∀x∈es.toList,∀k,x.key=.int K k→left k = !seen.contains x.born)∧(∀k,left k=true→f k≠none) ∧
   (∀k u,cur=some (k,u)→∃x∈es.toList,x.key=.int K k∧x.val=u∧c0=clock∧∃s':Array Nat,seen=s'.push x.born)) *
  (pt b (.map es clock)*pt r (.mapIter (some b) since seen c0))
section
variable {P:Program}{O w w':World}{R S:Zc}{K:IntKind}{f:Int→Option Value}{v:Value}{T kt et:TypeId}{z:Value}{r n:Nat}{left:Int→Bool}{cur:Option (Int×Value)}
theorem sat_itm:Sat O w (itm K f v r left n cur*R)↔∃(b:Nat) (es:Array MapEntry) (clock since:Nat) (seen:Array Nat) (c0:Nat),(v=.map (some b)∧Ents K es.toList f∧Stm es.toList clock∧(∀x∈es.toList,x.born<since)∧since≤c0∧since≤clock∧(leftOf es seen).size=n ∧
   (∀x∈es.toList,∀k,x.key=.int K k→left k = !seen.contains x.born)∧(∀k,left k=true→f k≠none) ∧
   (∀k u,cur=some (k,u)→∃x∈es.toList,x.key=.int K k∧x.val=u∧c0=clock∧∃s':Array Nat,seen=s'.push x.born)) ∧
  Sat O w (pt b (.map es clock)*(pt r (.mapIter (some b) since seen c0)*R)):=by
 unfold itm
 simp only[ZG,Ma,Zz]
theorem itm_end (hs:Sat O w (itm K f v r left n cur*R)):Sat O w (mp K f v*R):=by
 obtain⟨b,es,clock,since,seen,c0,⟨rfl,h1,h2,_⟩,hs2⟩:=sat_itm.1 hs
 refine sat_mp.2 ⟨b,es,clock,rfl,h1,h2,?_⟩
 exact(hs2.cast (QN ..)).right
theorem ents_key {es:List MapEntry}(h:Ents K es f){x y:MapEntry}{k:Int}(hx:x∈es)(hy:y∈es)(kx:x.key=.int K k)(ky:y.key=.int K k):x=y:=by
 obtain⟨i,hi,rfl⟩:=List.getElem_of_mem hx
 obtain⟨j,hj,rfl⟩:=List.getElem_of_mem hy
 have hn:=h.nodup
 rw[List.nodup_iff_pairwise_ne,List.pairwise_iff_getElem]at hn
 rcases Nat.lt_trichotomy i j with q|q|q
 ·have h9:=hn i j (by simpa using hi) (by simpa using hj) q
  simp[kx,ky]at h9
 ·subst q;rfl
 ·have h9:=hn j i (by simpa using hj) (by simpa using hi) q
  simp[kx,ky]at h9
theorem run_itm_range (h:MapC P T kt et K z)(hs:Sat O w (mp K f v*R)) :
  ∃w' n,(Instr.range T v).run P w=.ok (.pointer (some ⟨w.heap.size,0,none⟩)) w'∧Sat O w' (itm K f v w.heap.size (fun k=>(f k).isSome) n none*R):=by
 obtain⟨b,es,clock,rfl,hE,hM,hs⟩:=sat_mp.1 hs
 have hb:=hs.block
 refine⟨w.alloc (.mapIter (some b) clock #[] clock),(leftOf es #[]).size,run_range_map w T kt et b es clock h.is hb,sat_itm.2 ⟨b,es,clock,clock,#[],clock,⟨rfl,hE,hM,hM.2,Nat.le_refl _,Nat.le_refl _,rfl,?_,?_,?_⟩,?_⟩⟩
 ·intro x hx k hk
  show(f k).isSome=_
  rw[ents_some hE hx hk]
  simp
 ·intro k hk hn
  have hk:(f k).isSome=true:=hk
  rw[hn]at hk
  cases hk
 ·intro k u hk
  cases hk
 ·exact(hs.alloc (.mapIter (some b) clock #[] clock)).cast (QN ..)
theorem setIter {b since c0:Nat}{seen:Array Nat}{es:Array MapEntry}{clock:Nat}{o':Obj}{w1:World}(hal:w1=w∨w1=w.drew)(hs:Sat O w (pt b (.map es clock)*(pt r (.mapIter (some b) since seen c0)*R))) :
  Sat O (Go.ChangeMaps.setBlock w1 r o') (pt b (.map es clock)*(pt r o'*R)):=by
 have hs1:Sat O w1 (pt r (.mapIter (some b) since seen c0)*(pt b (.map es clock)*R)):=by
  have h0:=hs.cast (QN ..)
  rcases hal with rfl|rfl
  ·exact h0
  ·exact h0.drew
 have hb:=hs1.block
 have hset:=Go.MapKept.heap_set (o':=o') hb
 exact(Sat.turn (w':=Go.ChangeMaps.setBlock w1 r o') hs1 rfl rfl rfl (by simp[Go.ChangeMaps.setBlock]) hset.1 (fun k hk _=>hset.2 k hk)).cast (QN ..)
theorem run_itm_next (hs:Sat O w (itm K f v r left n cur*R))(ty:TypeId) :
  (n=0∧(∀k,left k=false)∧(Instr.next (.pointer (some ⟨r,0,none⟩)) false ty).run P w=.ok (.tuple #[.bool false]) w) ∨
  ∃k u w' n',left k=true∧f k=some u∧n'<n∧(Instr.next (.pointer (some ⟨r,0,none⟩)) false ty).run P w=.ok (.tuple #[.bool true,.int K k,u]) w' ∧
   Sat O w' (itm K f v r (fun x=>left x && !decide (x=k)) n' (some (k,u))*R):=by
 obtain⟨b,es,clock,since,seen,c0,⟨rfl,hE,hM,hb1,hsc,hsk,rfl,hl,hf,hc⟩,hs2⟩:=sat_itm.1 hs
 have hbm:=hs2.block
 have hbr:=(hs2.cast (QN ..)).block
 rcases run_next_at (P:=P) w ty r b since c0 seen es clock hbr hbm hb1 hsc with⟨h0,hrun⟩|⟨e,he,w1,hal,hrun⟩
 ·refine .inl ⟨h0,fun k => ?_,hrun⟩
  cases hk:left k with
  | false=>rfl
  | true=>
   obtain⟨u,hu⟩:=Option.ne_none_iff_exists'.1 (hf k hk)
   obtain⟨x,hx,kx,_⟩:=(hE.iff k u).1 hu
   have:=hl x hx k kx
   rw[all_seen es seen h0 x hx]at this
   rw[hk]at this
   cases this
 ·obtain⟨hem,hes⟩:=mem_left he
  obtain⟨k,hk⟩:=hE.keys e hem
  refine .inr ⟨k,e.val,_,(leftOf es (seen.push e.born)).size,by rw[hl e hem k hk,hes];rfl,ents_some hE hem hk,left_shrinks es seen e he,by rw[←hk];exact hrun,?_⟩
  refine sat_itm.2 ⟨b,es,clock,since,seen.push e.born,clock,⟨rfl,hE,hM,hb1,hsk,hsk,rfl,?_,?_,?_⟩,setIter hal hs2⟩
  ·intro x hx k' hk'
   rw[hl x hx k' hk',Array.contains_push]
   by_cases hkk:k'=k
   ·subst hkk
    have:=ents_key hE hx hem hk' hk
    subst this
    simp
   ·have hne:x.born≠e.born:=by
     intro q
     have:x=e:=by
      obtain⟨i,hi,rfl⟩:=List.getElem_of_mem hx
      obtain⟨j,hj,rfl⟩:=List.getElem_of_mem hem
      have hn:=hM.1
      rw[List.nodup_iff_pairwise_ne,List.pairwise_iff_getElem]at hn
      rcases Nat.lt_trichotomy i j with q2|q2|q2
      ·have h9:=hn i j (by simpa using hi) (by simpa using hj) q2
       simp only[List.getElem_map]at h9
       exact absurd q h9
      ·subst q2;rfl
      ·have h9:=hn j i (by simpa using hj) (by simpa using hi) q2
       simp only[List.getElem_map]at h9
       exact absurd q.symm h9
     subst this
     rw[hk]at hk'
     injection hk' with _ q3
     exact hkk q3.symm
    simp[hkk,hne]
  ·intro x hx
   simp only[Bool.and_eq_true]at hx
   exact hf x hx.1
  ·intro k' u' hq
   cases hq
   exact⟨e,hem,hk,rfl,rfl,seen,rfl⟩
theorem run_itm_entry {k:Int}{u:Value}(hs:Sat O w (itm K f v r left n (some (k,u))*R)):(Instr.entry (.pointer (some ⟨r,0,none⟩))).run P w=.ok (.tuple #[.int K k,u]) w:=by
 obtain⟨b,es,clock,since,seen,c0,⟨rfl,hE,hM,hb1,hsc,hsk,rfl,hl,hf,hc⟩,hs2⟩:=sat_itm.1 hs
 obtain⟨x,hx,kx,vx,e0,s',rfl⟩:=hc k u rfl
 subst e0
 have:=run_entry_at (P:=P) w r b since s' es _ x (hs2.cast (QN ..)).block hs2.block hx hM.1
 rw[kx,vx]at this
 exact this
end
section
variable {P:Program}{ops:Array Oper}{Q:Exit→Act→World→Prop}{w:World}{rest:List Oper}{O:World}{S R:Zc}
variable {l:List Value}{ds:List Deferred}{T ty kt et:TypeId}{pos:String}{after:Array Edge}{gd:Option (Nat×Bool)}{d:Nat}{x y z:Operand}{K:IntKind}{f:Int→Option Value}{v zv:Value}{r n:Nat}{left:Int→Bool}{cur:Option (Int×Value)}
theorem wl_range (hs:Sat O w S)(hM:MapC P T kt et K zv)(hx:ev l x=some v)(hp:Pull S (mp K f v) R)
  (hg:Region.wanted { dst:=some d,op:=.range T x,type:=ty,pos,after,guard:=gd } (yielded ops l.toArray)=true)
  (kk:∀w' r n,Sat O w' (itm K f v r (fun k=>(f k).isSome) n none*R)→wpList P ops Q rest ⟨(l.set d (.pointer (some ⟨r,0,none⟩))).toArray,ds⟩ w') :
  wpList P ops Q ({ dst:=some d,op:=.range T x,type:=ty,pos,after,guard:=gd }::rest) ⟨l.toArray,ds⟩ w:=by
 obtain⟨w',n,hr,hs'⟩:=run_itm_range hM (hs.pull hp)
 refine QE (v:=.pointer (some ⟨w.heap.size,0,none⟩)) (w':=w') hg ?_ (ZU▸kk _ _ _ hs')
 simp[execOp,Zm hx,hr]
theorem wl_nx {t vv:Value}{w':World}(hx:ev l x=some vv)(hr:(Instr.next vv false ty).run P w=.ok t w')
  (hg:Region.wanted { dst:=some d,op:=.next x false,type:=ty,pos,after,guard:=gd } (yielded ops l.toArray)=true)
  (kk:wpList P ops Q rest ⟨(l.set d t).toArray,ds⟩ w') :
  wpList P ops Q ({ dst:=some d,op:=.next x false,type:=ty,pos,after,guard:=gd }::rest) ⟨l.toArray,ds⟩ w:=by
 refine QE (v:=t) hg ?_ (ZU▸kk)
 simp[execOp,Zm hx,hr]
theorem wl_entry {k:Int}{u:Value}(hs:Sat O w S)(hx:ev l x=some (.pointer (some ⟨r,0,none⟩)))(hp:Pull S (itm K f v r left n (some (k,u))) R)
  (hg:Region.wanted { dst:=some d,op:=.entry x,type:=ty,pos,after,guard:=gd } (yielded ops l.toArray)=true)
  (kk:wpList P ops Q rest ⟨(l.set d (.tuple #[.int K k,u])).toArray,ds⟩ w) :
  wpList P ops Q ({ dst:=some d,op:=.entry x,type:=ty,pos,after,guard:=gd }::rest) ⟨l.toArray,ds⟩ w:=by
 refine QE (v:=.tuple #[.int K k,u]) hg ?_ (ZU▸kk)
 simp[execOp,Zm hx,run_itm_entry (P:=P) (hs.pull hp)]
end
attribute [irreducible] itm
end Hp
end
section
open Go.RowKit
namespace Hp
section
variable {P:Program}{ops:Array Oper}{Q:Exit→Act→World→Prop}{w:World}{rest:List Oper}{O:World}{S R:Zc}
variable {l:List Value}{ds:List Deferred}{T E ty:TypeId}{pos:String}{after:Array Edge}{gd:Option (Nat×Bool)}{d:Nat}{x y:Operand}{u v:Value}
theorem wl_bs2 {by_:Nat}(hs:Sat O w S)(h:SlcC P T E)(hE:ElC P E 1 by_)(hx:ev l x=some u)(hy:ev l y=some v)(hu:cel u=some #[u])(hv:cel v=some #[v])(hu1:u.oneCell'=true)(hv1:v.oneCell'=true)
  (hg:Region.wanted { dst:=some d,op:=.buildSlice T 2 #[(0,x),(1,y)],type:=ty,pos,after,guard:=gd } (yielded ops l.toArray)=true)
  (kk:∀w' b,Sat O w' (sl E 1 [[u],[v]] (.slice (some ⟨b,0,none⟩) 2 2)*S)→wpList P ops Q rest ⟨(l.set d (.slice (some ⟨b,0,none⟩) 2 2)).toArray,ds⟩ w') :
  wpList P ops Q ({ dst:=some d,op:=.buildSlice T 2 #[(0,x),(1,y)],type:=ty,pos,after,guard:=gd }::rest) ⟨l.toArray,ds⟩ w:=by
 have hinfo:=hE.info
 have hzero:=hE.zero
 cases hq:P.info? E with
 | none=>simp[hq]at hinfo
 | some inf=>
  cases hzz:inf.zero with
  | none=>simp[hq,hzz]at hzero
  | some zv=>
   simp[hq,hzz]at hinfo hzero
   have hcu:=cel_cells hu
   have hcv:=cel_cells hv
   have e1:=Zm (ds:=ds) hx
   have e2:=Zm (ds:=ds) hy
   refine QE (v:=.slice (some ⟨w.heap.size,0,none⟩) 2 2) (w':=w.alloc (.cells #[u,v] E)) hg ?_ (ZU▸kk _ _ ?_)
   ·simp[execOp,e1,e2,Instr.buildSlice,run_underlying h.is,sizeOf,typeInfo,hq,hinfo.1,zeroValue,hzz,Instr.fill,hcu,hcv,newRow]
    rw[show Array.range 2 = #[0,1] from rfl]
    congr 2
    apply Array.ext'
    simp
   ·refine QL.2 ⟨⟨fun c hc' => ?_,by omega⟩,.inr ⟨w.heap.size,0,2,[],[],rfl,rfl,by simp,by simp,?_⟩⟩
    ·simp only[List.mem_cons,List.not_mem_nil,or_false]at hc'
     rcases hc' with rfl|rfl
     ·exact⟨rfl,by simp[hu1]⟩
     ·exact⟨rfl,by simp[hv1]⟩
    ·exact hs.alloc (.cells #[u,v] E)
end
end Hp
open Hp
set_option maxRecDepth 100000
set_option maxHeartbeats 1000000
attribute [local irreducible] Go.Calls Go.wpList
def kAcc (f1 f2:Int→Option Value)(k:Nat):Int→Option Value:=fun o=>if k=0 then none else if k=1 then f1 o else (f2 o).or (f1 o)
theorem join_at {f1 f2:Int→Option Value}{v1 v2:Value}{k:Nat}(hk:k<2):∃(f:Int→Option Value) (v:Value) (R:Zc),[[v1],[v2]][k]? = some [v]∧(∀o,kAcc f1 f2 (k+1) o=(f o).or (kAcc f1 f2 k o))∧mp .i64 f1 v1*mp .i64 f2 v2=mp .i64 f v*R:=by
 rcases(show k=0∨k=1 by omega) with rfl|rfl
 ·exact⟨f1,v1,_,rfl,fun o=>by unfold kAcc;simp,rfl⟩
 ·exact⟨f2,v2,mp .i64 f1 v1,rfl,fun o=>by unfold kAcc;simp,mul_comm' _ _⟩
theorem machine_join (v1 v2 vs:Value)(f1 f2:Int→Option Value) :
  Does Tryz.prog 57 #[vs] (sl 70 1 [[v1],[v2]] vs*(mp .i64 f1 v1*mp .i64 f2 v2)) (fun v=>mp .i64 (fun o=>(f2 o).or (f1 o)) v):=by
 intro O w F hs
 simp only[Ma]at hs
 obtain⟨a0,c0,rfl⟩:=QY (hs.pull (A:=sl 70 1 [[v1],[v2]] vs) (by (with_reducible exact Qh)))
 simp only[List.length_cons,List.length_nil,Nat.zero_add,Nat.reduceAdd]at hs
 go_enter Tryz.func57,Tryz.ntmps57
 go_wp2_with (first|((with_reducible apply ZS hs);exact Ii;rfl;(with_reducible repeat first|exact Qh|apply Qk);rfl;simp only[Uc,Uz])|((with_reducible apply wl_mkmap hs);exact Ii;rfl;clear hs;intro w r hs;simp only[Uc,Uz]))
 go_loopw [11] (fun q wr=>∃k:Nat,k≤2∧q=.int .i64 (k:Int)∧Sat O wr (mp .i64 (kAcc f1 f2 k) (.map (some r))*(sl 70 1 [[v1],[v2]] (.slice a0 2 c0)*(mp .i64 f1 v1*(mp .i64 f2 v2*F))))) (fun q _=>3-(intOf q).toNat)
 case atStart=>exact⟨0,by omega,rfl,hs⟩
 case round=>
  obtain⟨k,k1,rfl,hs⟩:=hrel
  by_cases hkr:k=2
  ·subst hkr
   have hlt:decide (((2:Nat):Int)<2)=false:=rfl
   go_wp2_with (fail)
   go_ret
   refine⟨_,rfl,?_⟩
   have e:kAcc f1 f2 2=fun o=>(f2 o).or (f1 o):=by funext o;unfold kAcc;simp
   rw[←e]
   ((with_reducible apply Sat.fin hs);(focus((repeat(first|with_reducible exact Ql|with_reducible apply Qb|exact Qh|with_reducible apply Qk));done)))
  ·have hk2:k<2:=by omega
   have hlt:decide ((k:Int)<2)=true:=by simp;omega
   have hlt2:decide (k<2)=true:=by simp;omega
   obtain⟨f,v,Rk,hv,hacc,hR⟩:=join_at (f1:=f1) (f2:=f2) (v1:=v1) (v2:=v2) hk2
   have hi:k<([[v1],[v2]]:List (List Value)).length:=by simp;omega
   have e9:mp .i64 f1 v1*(mp .i64 f2 v2*F)=mp .i64 f v*(Rk*F):=by rw[←Ma,hR,Ma]
   rw[e9]at hs
   clear e9
   have HA:=Lh hacc
   have HR:=Lh hR
   have HK:=Lh hkr
   clear hacc hR hkr
   go_wp2_with (first|((with_reducible apply ZE hs);exact Ii;rfl;assumption;(with_reducible repeat first|exact Qh|apply Qk);rfl;(assumption);rfl;rfl;simp only[Uc,Uz])|((with_reducible apply Qe hs);exact Ii;exact Ii;rfl;rfl;(with_reducible repeat first|exact Qh|apply Qk);rfl;(assumption);rfl;intro b off hat;simp only[Uc,Uz])|((with_reducible apply wl_range hs);exact Ii;rfl;(with_reducible repeat first|exact Qh|apply Qk);rfl;clear hs;intro w it cnt hs;simp only[Uc,Uz]))
   go_loopg [] cnt (fun n wr=>∃(left:Int→Bool) (cur:Option (Int×Value)) (G:Int→Option Value),Hid (∀o,G o=if left o=true then kAcc f1 f2 k o else (f o).or (kAcc f1 f2 k o)) ∧
    Sat O wr (itm .i64 f v it left n cur*(mp .i64 G (.map (some r))*(sl 70 1 [[v1],[v2]] (.slice a0 2 c0)*(Rk*F)))))
   case atStart=>
    refine⟨_,none,kAcc f1 f2 k,Lh (fun o => ?_),by ((with_reducible apply Sat.fin hs);(with_reducible exact Ql))⟩
    cases hq:f o with
    | none=>simp
    | some u=>simp
   case round=>
    obtain⟨left,cur,G,hG,hs⟩:=hrel
    rcases run_itm_next (P:=Tryz.prog) hs 0 with⟨h0,h1,hr⟩|⟨k9,u,w9,n9,h1,h2,h3,hr,hs9⟩
    ·have e1:∀o,G o=kAcc f1 f2 (k+1) o:=fun o=>by rw[hG.out o,if_neg (by rw[h1 o];simp),HA.out o]
     have E1:=Lh (funext e1)
     have HN:=Lh hr
     clear h0 h1 hr e1 hG
     go_wp2_with ((with_reducible apply wl_nx);rfl;exact HN.out;rfl;simp only[Uc,Uz])
     rw[E1.out]at hs
     replace hs:=itm_end (hs.pull (A:=itm .i64 f v it left gk cur) (by (with_reducible exact Qh)))
     go_roundw
     case rel=>
      refine⟨k+1,by have:=HK.out;omega,by simp,?_⟩
      have e9:mp .i64 f1 v1*(mp .i64 f2 v2*F)=mp .i64 f v*(Rk*F):=by rw[←Ma,HR.out,Ma]
      rw[e9]
      (with_reducible apply Sat.fin hs;repeat first|exact Ql|exact Qh|apply Qb|apply Qk)
     case measure=>simp[intOf];omega
    ·have e1:∀o,(if o=k9 then some u else G o)=if (left o && !decide (o=k9))=true then kAcc f1 f2 k o else (f o).or (kAcc f1 f2 k o):=fun o=>by
      rw[hG.out o]
      by_cases e:o=k9
      ·subst e
       simp[h2]
      ·simp[e]
     have E1:=Lh e1
     have HN:=Lh hr
     have H3:=Lh h3
     clear h1 h2 h3 hr e1 hG
     go_wp2_with (first|((with_reducible apply wl_mu hs);exact Ii;rfl;rfl;rfl;(with_reducible repeat first|exact Qh|apply Qk);rfl;clear hs;intro w hs)|((with_reducible apply wl_nx);rfl;exact HN.out;rfl;(clear hs;have hs:=hs9;clear hs9);simp only[Uc,Uz])|((with_reducible apply wl_entry hs);rfl;(with_reducible exact Qh);rfl;simp only[Uc,Uz]))
     go_roundg n9
     case measure=>exact H3.out
     case rel=>exact⟨_,_,_,E1,by (with_reducible apply Sat.fin hs;repeat first|exact Ql|exact Qh|apply Qb|apply Qk)⟩
end
end Go.Proofs.YtefjbdajgakgpaaGreat
