/-
  Behind any script a thread that makes all steps ends its call soon.
-/
import Derived.Test.YtegafhhdegnigaaGreatCAln2
import Derived.Test.YtegafhhdegnigaaGreatCOw7
import Derived.Test.YtegafhhdegnigaaGreatCAln
import Derived.Test.YtegafhhdegnigaaGreatCRd
import Derived.Test.YtegafhhdegnigaaGreatCRun
set_option linter.all false
section
namespace Go.Proofs.YtegafhhdegnigaaGreat
open Go.RowKit Hp
set_option maxRecDepth 100000
set_option maxHeartbeats 1000000
attribute [local irreducible] Go.Calls
def dropE (a : Int) : List Int → List Int
 | [] => []
 | x :: l => if x = a then dropE a l else x :: dropE a l
theorem len_drop (a : Int) : ∀ l : List Int,l.length = (dropE a l).length + l.count a
 | [] => rfl
 | x :: l => by
  have := len_drop a l
  unfold dropE
  by_cases e : x = a
  ·subst e;rw [if_pos rfl,List.count_cons_self,List.length_cons];omega
  ·rw [if_neg e,List.count_cons_of_ne (by simpa using e),List.length_cons,List.length_cons];omega
theorem count_drop (a s : Int) : ∀ l : List Int,(dropE a l).count s = if s = a then 0 else l.count s
 | [] => by simp [dropE]
 | x :: l => by
  have := count_drop a s l
  unfold dropE
  by_cases e : x = a
  ·subst e
   rw [if_pos rfl,this]
   by_cases e2 : s = x
   ·rw [if_pos e2,if_pos e2]
   ·rw [if_neg e2,if_neg e2,List.count_cons_of_ne (by simpa using Ne.symm e2)]
  ·rw [if_neg e,List.count_cons,List.count_cons,this]
   by_cases e2 : s = a
   ·subst e2
    rw [if_pos rfl,if_pos rfl,if_neg (by simpa using e)]
   ·rw [if_neg e2,if_neg e2]
theorem len_counts : ∀ (n : Nat) (l : List Int),(∀ s,l.count s ≤ if 0 ≤ s ∧ s < (n : Int) then 1 else 0) → l.length ≤ n
 | 0,l,h => by
  cases l with
  | nil => simp
  | cons x l =>
   have := h x
   rw [List.count_cons_self,if_neg (by omega)] at this
   omega
 | n + 1,l,h => by
  have h1 := len_drop (n : Int) l
  have h2 := len_counts n (dropE (n : Int) l) (fun s => by
   rw [count_drop]
   have := h s
   by_cases e : s = (n : Int)
   ·rw [if_pos e];omega
   ·rw [if_neg e]
    by_cases hs : 0 ≤ s ∧ s < (n : Int)
    ·rw [if_pos hs];rw [if_pos (by omega)] at this;exact this
    ·rw [if_neg hs];rw [if_neg (by omega)] at this;exact this)
  have h3 := h (n : Int)
  rw [if_pos (by omega)] at h3
  omega
section
variable {c : Cfg} {n : Nat} {y y' : HW} {t : Nat} {pr : Int → Prop} {F : List Int}
theorem DI.at_most {k' : Int} {l : List Int} (D : DI c pr F k' y) (hS : 0 ≤ c.Sl) (h : ∀ s,l.count s ≤ cnt2 y.s.1.lists s ∨ l.count s ≤ cnt2 (y.tasks.map tS) s) : (l.length : Int) ≤ c.Sl := by
 have := len_counts c.Sl.toNat l (fun s => by
  have ht := D.gd.tot s
  have h2 := h s
  have e : (sx pr c y.s.1 y.s.2 y.m).lists = y.s.1.lists := rfl
  rw [e] at ht
  unfold ind at ht
  by_cases hs : 0 ≤ s ∧ s < c.Sl
  ·rw [if_pos (by omega)]
   rw [if_pos hs] at ht
   omega
  ·rw [if_neg (by omega)]
   rw [if_neg hs] at ht
   omega)
 omega
theorem DI.lists_le {k' : Int} (D : DI c pr F k' y) (hS : 0 ≤ c.Sl) (r : Nat) : ((y.s.1.lists.getD r []).length : Int) ≤ c.Sl := by
 refine D.at_most hS (fun s => .inl ?_)
 rw [List.getD_eq_getElem?_getD]
 cases e : y.s.1.lists[r]? with
 | none => simp
 | some l => exact cnt2_get s e
theorem giveL_len (g : Option Psh) (l : List Int) : l.length ≤ (giveL g l).length := by
 unfold giveL
 split <;> simp
theorem DI.pend_le {k' : Int} {k : HTask} {s : Scn} (D : DI c pr F k' y) (hS : 0 ≤ c.Sl) (hk : y.tasks[t]? = some (some k)) (hs : scOf k = some s) (h5 : s.stage = 5) : (s.pending.length : Int) ≤ c.Sl := by
 have h1 := giveL_len s.give s.pending
 have h2 : ((giveL s.give s.pending).length : Int) ≤ c.Sl := by
  refine D.at_most hS (fun z => .inr ?_)
  have e : (y.tasks.map tS)[t]? = some (Go.Proofs.YtegafhhdegnigaaGreat.hS k) := by rw [List.getElem?_map,hk];rfl
  refine Nat.le_trans ?_ (cnt2_get z e)
  unfold Go.Proofs.YtegafhhdegnigaaGreat.hS hP
  rw [hs,List.count_append]
  simp only [scnP,if_pos h5]
  omega
 omega
def alC (c : Cfg) (t : Nat) (y : HW) (k : HTask) : Int := coC c (y.m.word (adr c 1 0)) (y.m.word (adr c 2 0)) ((y.s.2.caches.getD t []).length : Int) k
theorem alC_bd {k' : Int} {k : HTask} {se : Sea} (P : PI c n y) (D : DI c pr F k' y) (hk : y.tasks[t]? = some (some k)) (hse : y.m.seats[t]? = some se) (hr : se.ready = true) : 1 ≤ alC c t y k ∧ alC c t y k ≤ scB c + c.Hz + 3 * c.Ca + 10 := by
 have hok := P.core.ok
 have hS1 := hok.S1
 obtain ⟨_,I⟩ := P.task t k se hk hse
 rw [hr] at I
 have hlt := (List.getElem?_eq_some_iff.1 hk).1
 have htc : t < y.s.2.caches.length := by rw [P.core.caches,← P.tasks];exact hlt
 have hy : y.s.2.caches[t]? = some (y.s.2.caches.getD t []) := by rw [List.getD_eq_getElem?_getD,List.getElem?_eq_getElem htc];rfl
 have hl := P.core.clens _ (List.mem_of_getElem? hy)
 refine ⟨co_1 hok I _ _,co_2 hok I hl (fun s hs => ?_) _ _⟩
 by_cases h5 : s.stage = 5
 ·exact D.pend_le (by omega) hk hs h5
 ·have hp : s.pending = [] := by
   have key : ScI c s := by
    cases k with
    | reg r => cases hs
    | rdg r => cases hs
    | clr r => cases hs
    | scn z => simp only [scOf,Option.some.injEq] at hs;subst hs;exact I.2.2 rfl
    | unr u =>
     obtain ⟨_,_,J⟩ := I
     simp only [scOf] at hs
     split at hs
     ·rename_i h1
      obtain ⟨z,e1,e2,_⟩ := J.scan h1
      rw [e1] at hs;cases hs;exact e2
     ·cases hs
    | pst p =>
     obtain ⟨_,_,J1,J2⟩ := I
     simp only [scOf] at hs
     split at hs
     ·rename_i h1
      obtain ⟨r,z,e1,e2,e3,_⟩ := (J1 rfl).ret h1
      rw [e1] at hs;simp only [e2] at hs;cases hs;exact e3
     ·cases hs
   refine key.pend ?_
   have := key.stage
   omega
  rw [hp];simp;omega
theorem step_alC {k' : Int} {k : HTask} {se : Sea} {bh ba : Nat} {CX : SProp} {K : Int → Option Value} {ar da : Int} {b : Bool} (P : PI c n y) (hn : n < 65536) (D : DI c pr F k' y) (hk : y.tasks[t]? = some (some k)) (hse : y.m.seats[t]? = some se)
  (hM : MoveTo (hzT bh ba CX) K kitTask y ⟨(t : Int),0,ar,da⟩ b y') :
  y'.tasks[t]? = some none ∨ ∃ k' se',y'.tasks[t]? = some (some k') ∧ y'.m.seats[t]? = some se' ∧ se'.ready = true ∧ (se.ready = true → alC c t y' k' ≤ alC c t y k - 1) := by
 have hlt := (List.getElem?_eq_some_iff.1 hk).1
 have hlts := (List.getElem?_eq_some_iff.1 hse).1
 have P' := P.move hn hM
 cases hM with
 | out h => exact absurd h (by simp only [];omega)
 | idle j ht hop hj =>
  have e : t = j := by simp only [] at ht;omega
  subst e
  rw [hk] at hj;cases hj
 | busy j kj ht hop hj => exact absurd rfl hop
 | nokit j ht hop => exact absurd rfl hop
 | refused j ht hop => exact absurd rfl hop
 | begin_ j kj v vc ht hop => exact absurd rfl hop
 | step j i cl sj kj ht hop hj hsj hl hc =>
  have e : t = j := by simp only [] at ht;omega
  subst e
  rw [hk] at hj;cases hj
  rw [hse] at hsj;cases hsj
  have hok := P.core.ok
  have hS1 := hok.S1
  have htT : (t : Int) < c.T := by have := P.tasks;have := hok.T1;omega
  have I := (P.task t k se hk hse).2
  have C1 : Core c n (100 * n) n y.s.1 y.s.2 y.tick.m := P.core.of rfl rfl rfl rfl
  have C0 : Core c n (100 * n) n y.s.1 y.s.2 (y.tick.m.prep t i y.m.moves se) := P.core.of rfl rfl rfl rfl
  have hci : CurIn (y.tick.m.prep t i y.m.moves se) i t cl { se with ready := true } := ⟨rfl,hc,by simp [Mch.prep,Wst.tick,hlts]⟩
  obtain ⟨⟨e1,e2,e3⟩,e4⟩ := more_core (bh := bh) (ba := ba) (CX := CX) (now := y.m.moves) C1 (by omega) htT hc hlts I
  have hsd : y.s = (y.s.1,y.s.2) := rfl
  have hrd : se.ready = true → stepMore (hzT bh ba CX) i t (stepReady (hzT bh ba CX) (y.s.1,y.s.2) y.tick.m i t cl se k y.m.moves) = htStep (y.s.1,y.s.2) (y.tick.m.prep t i y.m.moves se) i t (getC (y.tick.m.prep t i y.m.moves se) i) (getS (y.tick.m.prep t i y.m.moves se) t) k := by
   intro hr
   unfold stepReady
   rw [if_neg (by rw [hr];simp)]
   unfold stepMore
   rw [if_pos rfl]
   rfl
  unfold machStep
  rw [hsd]
  simp only []
  obtain ⟨k1,v1,hk1⟩ := e4.seats
  by_cases hb : (stepMore (hzT bh ba CX) i t (stepReady (hzT bh ba CX) (y.s.1,y.s.2) y.tick.m i t cl se k y.m.moves)).1 = true
  ·left
   rw [if_pos hb,List.getElem?_set_self hlt]
  ·right
   rw [if_neg hb,List.getElem?_set_self hlt]
   refine ⟨_,{ se with ready := true,kind := k1,value := v1 },rfl,?_,rfl,?_⟩
   ·unfold stepEnd
    rw [if_neg hb]
    simp only []
    rw [hk1,List.getElem?_set_self (by simp [Mch.prep,Wst.tick];exact hlts)]
   ·intro hr
    have hb' : (stepMore (hzT bh ba CX) i t (stepReady (hzT bh ba CX) (y.s.1,y.s.2) y.tick.m i t cl se k y.m.moves)).1 = false := by simpa using hb
    rw [hrd hr] at e1 hb'
    rw [hr] at I
    have := cost_step C0 htT I (D.lists_le (by omega)) e1 hb'
    rw [hrd hr]
    unfold stepEnd
    rw [if_neg (by simp [hb'])]
    exact this
structure Bhv (c : Cfg) (mvs : List Mv) (y : HW) : Prop where
 pi : PI c mvs.length y
 ok : RunOk c mvs.length y
 er : y.er = runE c mvs
 di : ∃ pr F,DI c pr F mvs.length y
def x0 : Caps := ⟨0,0,0,0,0,0⟩
theorem Bhv.move {mvs : List Mv} (B : Bhv c mvs y) (hl : mvs.length < 65536) (mv : Mv) : ∃ b y',Bhv c (mvs ++ [mv]) y' ∧ MoveTo (hzT 0 0 emp) (kitFn x0) kitTask y mv b y' := by
 obtain ⟨P,R,e,pr,F,D⟩ := B
 obtain ⟨b,y',hm⟩ := move_total P 0 0 emp x0 mv
 obtain ⟨pr',F',Z,t,D',_⟩ := D.move P hl hm
 refine ⟨b,y',⟨?_,?_,?_,pr',F',?_⟩,hm⟩
 ·simpa using P.move hl hm
 ·simpa using R.move P hl hm
 ·simp only [runE,List.foldl_append,List.foldl_cons,List.foldl_nil]
  have := (moveE_of hm).1
  rw [this,e];rfl
 ·simpa using D'
def soloC (c : Cfg) (Ls : Int) : Int := 56 * c.Sl + (c.T + 2) * (3 * c.R + c.R * c.Hz + 3 * Ls + 3) + 3 * c.Ca + 2 * c.R + c.Hz + 100
end
end Go.Proofs.YtegafhhdegnigaaGreat
end
/-
  HazardScans, the plain law: a thread that makes all moves, behind any script.
-/
section
namespace Go.Proofs.YtegafhhdegnigaaGreat
open Go.RowKit Hp
set_option maxRecDepth 100000
set_option maxHeartbeats 1000000
attribute [local irreducible] Go.Calls
abbrev JT : Nat → (Int → Prop) → HW → Prop := fun _ _ _ => True
theorem jt_ok (c : Cfg) : JOk c JT := ⟨fun _ _ => trivial,fun _ _ _ _ _ _ _ _ => trivial,fun _ _ _ _ _ _ _ _ _ _ _ _ _ _ _ _ _ _ _ => trivial,fun _ _ _ _ _ _ _ _ _ _ _ _ _ _ _ _ _ _ _ _ _ _ _ => trivial⟩
def Near (c : Cfg) (t : Nat) (y : HW) (j : Nat) : Prop :=
 y.tasks[t]? = some none ∨ ∃ k se,y.tasks[t]? = some (some k) ∧ y.m.seats[t]? = some se ∧ (1 ≤ j → se.ready = true ∧ alC c t y k + j ≤ scB c + c.Hz + 3 * c.Ca + 11)
section
variable {c : Cfg} {n : Nat} {y y' : HW} {t : Nat} {J : Nat → (Int → Prop) → HW → Prop}
theorem near0 (K : KI c J n y) (ht : (t : Int) < c.T) : Near c t y 0 := by
 have h1 : t < y.tasks.length := by rw [K.pi.tasks];omega
 have h2 : t < y.m.seats.length := by rw [K.pi.seats];omega
 obtain ⟨o,ho⟩ : ∃ o,y.tasks[t]? = some o := ⟨_,List.getElem?_eq_getElem h1⟩
 cases o with
 | none => exact .inl ho
 | some k => exact .inr ⟨k,_,ho,List.getElem?_eq_getElem h2,fun h => by omega⟩
theorem Near.move {j : Nat} {bh ba : Nat} {CX : SProp} {Kf : Int → Option Value} {ar da : Int} {b : Bool} (H : Near c t y j) (K : KI c J n y) (K' : KI c J (n + 1) y') (hn : n < 65536)
  (hm : MoveTo (hzT bh ba CX) Kf kitTask y ⟨(t : Int),0,ar,da⟩ b y') : Near c t y' (j + 1) := by
 rcases H with H|⟨k,se,hk,hse,H⟩
 ·left
  cases hm with
  | out h => exact H
  | idle => exact H
  | busy => exact H
  | nokit => exact H
  | refused => exact H
  | begin_ j' kj v vc ht' hop => exact absurd rfl hop
  | step j' i cl sj kj ht' hop hj' hsj hl' hc =>
   have e : t = j' := by simp only [] at ht';omega
   subst e
   rw [H] at hj';cases hj'
 ·obtain ⟨pr,F,D,_⟩ := K.ex
  obtain ⟨pr',F',D',_⟩ := K'.ex
  rcases step_alC K.pi hn D hk hse hm with h|⟨k',se',h1,h2,h3,h4⟩
  ·exact .inl h
  ·refine .inr ⟨k',se',h1,h2,fun _ => ⟨h3,?_⟩⟩
   by_cases j0 : 1 ≤ j
   ·obtain ⟨h5,h6⟩ := H j0
    have := h4 h5
    omega
   ·have := (alC_bd K'.pi D' h1 h2 h3).2
    omega
theorem Near.le {j : Nat} (H : Near c t y j) (K : KI c J n y) (hb : y.tasks[t]? ≠ some none) : (j : Int) ≤ scB c + c.Hz + 3 * c.Ca + 11 := by
 have hok := K.pi.core.ok
 have hR := hok.R1
 have hH := hok.H1
 have hC := hok.C1
 have hS := hok.S1
 have hA : 0 ≤ c.R * c.Hz := Int.mul_nonneg (by omega) (by omega)
 have hB : 0 ≤ scB c := by unfold scB scA;omega
 rcases H with H|⟨k,se,hk,hse,H⟩
 ·exact absurd H hb
 ·by_cases j0 : 1 ≤ j
  ·obtain ⟨h5,h6⟩ := H j0
   obtain ⟨pr,F,D,_⟩ := K.ex
   have := (alC_bd K.pi D hk hse h5).1
   omega
  ·omega
def SJ (c : Cfg) (t : Nat) (rc : Int) (y : HW) : Prop :=
 y.s.1.held[t]? = some rc ∧ ((y.tasks[t]? = some none ∧ NamL c y.s.1 y.m rc) ∨
  ∃ s se,y.tasks[t]? = some (some (.scn s)) ∧ y.m.seats[t]? = some se ∧ s.record = rc ∧ (se.ready = true → ScA c y.s.1 y.m s))
theorem sj_begin {rc : Int} {bh ba : Nat} {CX : SProp} {x : Caps} {ar da : Int} {b : Bool} (K : KI c J n y) (ht : (t : Int) < c.T) (hk : y.tasks[t]? = some none) (hr : y.s.1.held[t]? = some rc) (r0 : 0 ≤ rc)
  (hm : MoveTo (hzT bh ba CX) (kitFn x) kitTask y ⟨(t : Int),25,ar,da⟩ b y') : b = true ∧ SJ c t rc y' := by
 have hlt := (List.getElem?_eq_some_iff.1 hk).1
 have hls : t < y.m.seats.length := by rw [K.pi.seats,← K.pi.tasks];exact hlt
 have hg : y.s.1.held.getD t 0 = rc := by rw [List.getD_eq_getElem?_getD,hr];rfl
 have hkt : kitTask y.s t ⟨(t : Int),25,ar,da⟩ = some (.scn ⟨t,rc,6,0,false,fun _ => 0,[],none⟩) := by
  unfold kitTask
  simp only []
  rw [hg,if_neg (by omega),if_neg (by omega),if_neg (by omega),if_neg (by omega),if_neg (by omega),if_neg (by omega)]
 cases hm with
 | out h => exact absurd h (by simp only [];omega)
 | idle j ht' hop hj => exact absurd hop (by simp only [];omega)
 | busy j kj ht' hop hj =>
  have e : t = j := by simp only [] at ht';omega
  subst e
  rw [hk] at hj;cases hj
 | nokit j ht' hop hj hf => exact absurd hf (by simp [kitFn])
 | refused j ht' hop hj hf hr' =>
  have e : t = j := by simp only [] at ht';omega
  subst e
  rw [hkt] at hr';cases hr'
 | step j i cl sj kj ht' hop => exact absurd hop (by simp only [];omega)
 | begin_ j kj v vc ht' hop hj hf hr' =>
  have e : t = j := by simp only [] at ht';omega
  subst e
  rw [hkt] at hr'
  cases hr'
  refine ⟨rfl,hr,.inr ⟨_,_,by simp only [];rw [List.getElem?_set_self hlt],by simp only [machBegin];rw [List.getElem?_set_self hls],rfl,fun h => by cases h⟩⟩
theorem sj_step {rc : Int} {bh ba : Nat} {CX : SProp} {Kf : Int → Option Value} {ar da : Int} {b : Bool} (H : SJ c t rc y) (K : KI c J n y) (hn : n < 65536)
  (hm : MoveTo (hzT bh ba CX) Kf kitTask y ⟨(t : Int),0,ar,da⟩ b y') : SJ c t rc y' := by
 obtain ⟨pr,F,D,_⟩ := K.ex
 have hok := K.pi.core.ok
 rcases move_open K.pi K.ok D hn hm with ⟨rfl,_⟩|⟨_,_,_,_,_,_,h3,_⟩|⟨t',i,cl,se,k,Z,Y,r1,pr1,F1,r2,pr2,F2,h1,_,SO,rfl,_⟩
 ·obtain ⟨hr,H⟩ := H
  have e := mv_same (c := c) (show y.tick.m.mem.words = y.m.mem.words from rfl)
  exact ⟨hr,H.imp (fun ⟨a,b⟩ => ⟨a,b.to fun j _ _ => by rw [e]⟩) fun ⟨s,se,a1,a2,a3,a4⟩ => ⟨s,se,a1,a2,a3,fun h => (a4 h).to fun j _ _ => by rw [e]⟩⟩
 ·exact absurd rfl h3
 have e : t = t' := by simp only [] at h1;omega
 subst e
 obtain ⟨hr,H⟩ := H
 have htk := (List.getElem?_eq_some_iff.1 SO.hk).1
 rcases H with ⟨H,_⟩|⟨s,se',hk,hse,rfl,H⟩
 ·rw [SO.hk] at H;cases H
 rw [SO.hk] at hk
 cases hk
 rw [SO.hse] at hse
 cases hse
 have e0 : (stepM y t i se).mem.words = y.m.mem.words := rfl
 have hmv0 := mv_same (c := c) e0
 have A1 : ∃ b1 s1,r1 = (b1,y.s,stepM y t i se,.scn s1) ∧ s1.record = s.record ∧ ScA c y.s.1 (stepM y t i se) s1 ∧ (b1 = true → NamL c y.s.1 (stepM y t i se) s.record) := by
  rcases SO.rdy with ⟨hf,e1⟩|⟨hf,e1,_,_⟩
  ·obtain ⟨n1,n2,n3⟩ := next_sa (c := c) (h := y.s.1) (m := stepM y t i se) (s := { s with at_ := -1 })
   exact ⟨_,_,e1,n2,n1,n3⟩
  ·exact ⟨false,s,e1,rfl,(H hf).to fun j _ _ => by rw [hmv0],fun h => by cases h⟩
 obtain ⟨b1,s1,e1,q1,q2,q3⟩ := A1
 have A2 : ∃ b2 hz2 a2 m2 s2,r2 = (b2,(hz2,a2),m2,.scn s2) ∧ hz2.held = y.s.1.held ∧ s2.record = s.record ∧ ScA c hz2 m2 s2 ∧ (b2 = true → NamL c hz2 m2 s.record) := by
  rcases SO.stp with ⟨hb,e2,_,_⟩|⟨hf,e2⟩
  ·rw [e2,e1]
   exact ⟨_,_,_,_,_,rfl,rfl,q1,q2,q3⟩
  ·have I := SO.h1.ti hf
   have D1 := SO.h1.td hf
   have G := SO.h1.gd
   have hrS : rS r1 = hS r1.2.2.2 := by unfold rS;rw [if_neg (by simp [hf])]
   have hrL : rL r1 = hL r1.2.2.2 := by unfold rL;rw [if_neg (by simp [hf])]
   rw [hrS,hrL] at G
   have E := evp_stp (i := i) (cl := getC r1.2.2.1 i) (se := getS r1.2.2.1 t) (k := r1.2.2.2) (Q := fun _ => True) (P := fun s0 => ∀ j,pr1 j → (mv c r1.2.2.1).hz j ≠ s0 + 1) (B := fun _ => True) SO.h1.core SO.htT SO.h1.thread I G D1 (fun _ _ => trivial) (fun _ _ _ => trivial) (fun _ _ _ => trivial) (fun _ h => h) (fun _ _ => trivial)
   have hC := SO.h1.core
   subst e1
   have z2 := fun j j0 j1 => evp_hz hok E (show ¬ WrH (.scn s1) from fun h => h) (j := j) j0 j1
   obtain ⟨w1,w2,w3⟩ := scan_sa hC (I.2.2 rfl) q2
   refine ⟨_,_,_,_,_,e2,?_,w2.trans q1,w1.to z2,fun hb => ?_⟩
   ·exact scan_held _ _ _ _
   ·rw [← q1];exact (w3 hb).to z2
 obtain ⟨b2,hz2,a2,m2,s2,e2,p1,p2,p3,p4⟩ := A2
 obtain ⟨q,v,g1,g2,g3,g4⟩ := SO.h2.getS SO.hse
 have hwd : (stepY y t i r2).m.mem.words = r2.2.2.1.mem.words := by
  show (stepEnd _ _ _ _ _ _ _).mem.words = _
  unfold stepEnd;split <;> rfl
 have hmv2 := mv_same (c := c) hwd
 subst e2
 have hto : ∀ j,0 ≤ j → j < c.R * c.Hz → (mv c (stepY y t i (b2,(hz2,a2),m2,.scn s2)).m).hz j = (mv c m2).hz j := fun j _ _ => by rw [hmv2]
 refine ⟨by show hz2.held[t]? = _;rw [p1];exact hr,?_⟩
 cases b2 with
 | true => exact .inl ⟨List.getElem?_set_self htk,(p4 rfl).to hto⟩
 | false =>
  have hse2 : (stepY y t i (false,(hz2,a2),m2,.scn s2)).m.seats[t]? = m2.seats[t]? := by
   show (stepEnd _ _ _ _ _ _ _).seats[t]? = _
   unfold stepEnd
   rw [if_neg (by simp)]
  exact .inr ⟨s2,_,List.getElem?_set_self htk,hse2.trans g3,p2,fun _ => p3.to hto⟩
end
end Go.Proofs.YtegafhhdegnigaaGreat
end
/-
  append(nil, l...), where l is only read.
-/
section
namespace Go.Proofs.YtegafhhdegnigaaGreat
open Go.RowKit
namespace Hp
section
variable {P : Program} {ops : Array Oper} {Q : Exit → Act → World → Prop} {w : World} {rest : List Oper} {O : World} {S R A : SProp}
variable {l : List Value} {ds : List Deferred} {T ty E : TypeId} {pos : String} {after : Array Edge} {gd : Option (Nat × Bool)} {d : Nat} {x y : Operand} {i sz n : Nat} {dss : List (List Value)} {c : List Value} {v u : Value} {a : Addr}
end
end Hp
end Go.Proofs.YtegafhhdegnigaaGreat
end
/-
  Operations that are not wanted are passed over, whatever their slots hold.
-/
section
namespace Go.Proofs.YtegafhhdegnigaaGreat
open Go.RowKit
namespace Hp
theorem wl_pass {P : Program} {ops : Array Oper} {Q : Exit → Act → World → Prop} {w : World} {rest : List Oper} {l : List Value} {ds : List Deferred} {d : Nat} {op : Op} {ty : TypeId} {pos : String} {after : Array Edge} {g : Nat × Bool}
  (hw : Region.wanted { dst := some d,op := op,type := ty,pos,after,guard := some g } (yielded ops l.toArray) = false) (kk : wpList P ops Q rest ⟨(l.set d undef).toArray,ds⟩ w) :
  wpList P ops Q ({ dst := some d,op := op,type := ty,pos,after,guard := some g } :: rest) ⟨l.toArray,ds⟩ w := by
 refine wpList_skip hw ?_
 have e : (Act.put ⟨l.toArray,ds⟩ (some d) undef : Act) = ⟨(l.set d undef).toArray,ds⟩ := put_set
 show wpList P ops Q rest (Act.put ⟨l.toArray,ds⟩ (some d) undef) w
 rw [e];exact kk
theorem wl_pass2 {P : Program} {ops : Array Oper} {Q : Exit → Act → World → Prop} {w : World} {rest : List Oper} {l : List Value} {ds : List Deferred} {d : Nat} {op : Op} {ty : TypeId} {pos : String} {after : Array Edge} {i : Nat} {b z : Bool} {o : Oper} {e : Nat}
  (ho : ops[i]? = some o) (hd : o.dst = some e) (hv : l[e]? = some (.bool z)) (hb : (z == b) = false) (kk : wpList P ops Q rest ⟨(l.set d undef).toArray,ds⟩ w) :
  wpList P ops Q ({ dst := some d,op := op,type := ty,pos,after,guard := some (i,b) } :: rest) ⟨l.toArray,ds⟩ w := by
 refine wl_pass ?_ kk
 have hv' : l.toArray[e]? = some (.bool z) := by simpa using hv
 simp only [Region.wanted,yielded,ho,Option.bind_some,hd,hv']
 cases z <;> cases b <;> first|rfl|cases hb
theorem wl_pick {P : Program} {ops : Array Oper} {Q : Exit → Act → World → Prop} {w : World} {rest : List Oper} {l : List Value} {ds : List Deferred} {d : Nat} {c x y : Operand} {ty : TypeId} {pos : String} {after : Array Edge} {gd : Option (Nat × Bool)} {z : Bool} {v : Value}
  (hc : ev l c = some (.bool z)) (hv : ev l (cond z x y) = some v)
  (hg : Region.wanted { dst := some d,op := .pick c x y,type := ty,pos,after,guard := gd } (yielded ops l.toArray) = true)
  (kk : wpList P ops Q rest ⟨(l.set d v).toArray,ds⟩ w) :
  wpList P ops Q ({ dst := some d,op := .pick c x y,type := ty,pos,after,guard := gd } :: rest) ⟨l.toArray,ds⟩ w := by
 refine wl_val (v := v) (w' := w) hg ?_ (put_set ▸ kk)
 have h1 := ev_eval (ds := ds) hc
 have h2 := ev_eval (ds := ds) hv
 cases z <;> simp [execOp,h1,asBool] <;> simpa using h2
theorem want_none {d : Option Nat} {op : Op} {ty : TypeId} {pos : String} {after : Array Edge} {f : Nat → Option Bool} : Region.wanted { dst := d,op := op,type := ty,pos,after,guard := none } f = true := rfl
end Hp
end Go.Proofs.YtegafhhdegnigaaGreat
end
