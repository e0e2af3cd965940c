/-
  What a machine computes does not depend on where its parts stand in memory.
-/
import Derived.Test.YtegafhhdegnigaaGreatDInv5
import Derived.KernelRfl
import Derived.Test.YtegafhhdegnigaaGreatDVw
import Derived.Test.YtegafhhdegnigaaGreatDOw6
set_option linter.all false
section
namespace Go.Proofs.YtegafhhdegnigaaGreat
open Go.RowKit Hp
set_option maxRecDepth 100000
set_option maxHeartbeats 1000000
attribute [local irreducible] Go.Calls
def Sea.er (s : Sea) : Sea := { s with task := .nilIface }
def Mch.er (m : Mch) : Mch := { m with kit := .nilIface,vs := .nilIface,vc := .nilIface,seats := m.seats.map Sea.er }
section
variable {α β γ : Type}
def er3 (r : Bool × α × Mch × β) : Bool × α × Mch × β := (r.1,r.2.1,r.2.2.1.er,r.2.2.2)
def er4 (r : Bool × α × β × Mch × γ) : Bool × α × β × Mch × γ := (r.1,r.2.1,r.2.2.1,r.2.2.2.1.er,r.2.2.2.2)
def er2 (r : Bool × Mch × β) : Bool × Mch × β := (r.1,r.2.1.er,r.2.2)
theorem er3_ite {p : Prop} [Decidable p] (x y : Bool × α × Mch × β) : er3 (if p then x else y) = if p then er3 x else er3 y := by split <;> rfl
theorem er4_ite {p : Prop} [Decidable p] (x y : Bool × α × β × Mch × γ) : er4 (if p then x else y) = if p then er4 x else er4 y := by split <;> rfl
theorem er2_ite {p : Prop} [Decidable p] (x y : Bool × Mch × β) : er2 (if p then x else y) = if p then er2 x else er2 y := by split <;> rfl
end
variable (h : Haz) (a : Are) (m : Mch) (i t : Nat)
theorem er_word (i : Nat) : m.er.word i = m.word i := rfl
theorem er_load (u : Int) : m.er.load i u = (m.load i u).er := rfl
theorem er_store (u z : Int) : m.er.store i u z = (m.store i u z).er := rfl
theorem er_swap (u o z : Int) : m.er.swap i u o z = (m.swap i u o z).er := rfl
theorem er_shift (s f t : Int) : m.er.shift s f t = (m.shift s f t).er := rfl
theorem er_point (c : Cll) (z : Int) : m.er.point i c z = (m.point i c z).er := rfl
theorem er_thread : m.er.thread = m.thread := rfl
theorem er_now : m.er.now = m.now := rfl
theorem er_answer (s : Sea) (k v : Int) : m.er.answer t s.er k v = (m.answer t s k v).er := by
 simp only [Mch.answer,Mch.er,List.map_set];rfl
theorem er_prep (now : Int) (s : Sea) : m.er.prep t i now s.er = (m.prep t i now s).er := by
 simp only [Mch.prep,Mch.er,List.map_set];rfl
theorem er_push (p : Psh) : pushStep a m.er p = er3 (pushStep a m p) := by
 simp only [pushStep,er_word,er_load,er_store,er_swap,er_shift,er_thread,er3_ite];rfl
theorem er_give (p : Psh) : giveReady a m.er p = er3 (giveReady a m p) := by
 simp only [giveReady,er_shift,er_thread,er3_ite];rfl
def er5 {α β γ : Type} (r : Bool × α × β × γ × Mch) : Bool × α × β × γ × Mch := (r.1,r.2.1,r.2.2.1,r.2.2.2.1,r.2.2.2.2.er)
theorem er5_ite {α β γ : Type} {p : Prop} [Decidable p] (x y : Bool × α × β × γ × Mch) : er5 (if p then x else y) = if p then er5 x else er5 y := by split <;> rfl
theorem er_free (th : Int) : ∀ (l : List Int) (g : Option Psh) (a : Are) (m : Mch),freeLoop th l g a m.er = er5 (freeLoop th l g a m)
 | [],g,a,m => rfl
 | s :: r,g,a,m => by
  unfold freeLoop
  rw [er_give,er5_ite]
  simp only [er3]
  rw [er_free th r]
  rfl
theorem er_takeReady (k : Tak) : takeReady a m.er k = er3 (takeReady a m k) := by
 simp only [takeReady,takeGot,er_shift,er_thread,er3_ite];rfl
theorem er_take (k : Tak) : takeStep a m.er k = er3 (takeStep a m k) := by
 simp only [takeStep,takeGot,er_word,er_load,er_swap,er_shift,er_thread,er3_ite];rfl
theorem er_try (s : Scn) : scanTry h m.er s = er2 (scanTry h m s) := by
 simp only [scanTry,er_word,er_load,er2_ite];rfl
theorem er_stake (s : Scn) : scanTake h m.er s = er3 (scanTake h m s) := by
 simp only [scanTake,er_word,er_swap,er3_ite];rfl
theorem er_look (s : Scn) : scanLook h a m.er s = er4 (scanLook h a m s) := by
 have e1 : (scanLook1 h m.er s).1 = (scanLook1 h m s).1.er := rfl
 have e2 : (scanLook1 h m.er s).2 = (scanLook1 h m s).2 := rfl
 unfold scanLook
 rw [e1,e2]
 dsimp only
 rw [er_free,er4_ite]
 rfl
theorem er_sgive (s : Scn) (p : Psh) : scanGive h a m.er s p = er3 (scanGive h a m s p) := by
 simp only [scanGive,er_push,er3_ite]
 simp only [er3,er_free];rfl
theorem er_scan (s : Scn) : scanStep h a m.er s = er4 (scanStep h a m s) := by
 unfold scanStep
 simp only [er4_ite]
 congr 1
 ·rw [er_try];rfl
 congr 1
 ·rw [er_stake];rfl
 congr 1
 congr 1
 ·exact er_look ..
 ·split
  ·rw [er_sgive];rfl
  ·rfl
theorem er_retire (r : Ret) : retireReady h a m.er r = er4 (retireReady h a m r) := by
 simp only [retireReady,er_shift,er_thread,er4_ite];rfl
theorem er_reg (s : Sea) (r : Reg) : regStep h m.er t s.er r = er3 (regStep h m t s r) := by
 simp only [regStep,regNext,er_word,er_load,er_swap,er_answer,er3_ite];rfl
theorem er_flush (p : Psh) : flushStep a m.er p = er3 (flushStep a m p) := by
 simp only [flushStep,er_push,er3_ite];rfl
theorem er_unr (u : Unr) : unregStep h a m.er u = er4 (unregStep h a m u) := by
 unfold unregStep
 simp only [er_word,er_store,er4_ite]
 congr 1
 congr 1
 ·split
  ·rfl
  ·simp only [er_scan,er4_ite];rfl
 congr 1
 split
 ·rfl
 ·simp only [er_flush];rfl
theorem er_read (c : Cll) (s : Sea) (r : Rdg) : readStep h m.er i t c s.er r = er2 (readStep h m i t c s r) := by
 simp only [readStep,readSaw,er_word,er_load,er_store,er_point,er_now,er_answer,er2_ite];rfl
theorem er_took (c : Cll) (s : Sea) (p : Pst) (k : Tak) : postTook m.er i t c s.er p k = er2 (postTook m i t c s p k) := by
 simp only [postTook,er_point,er_now,er_answer,er2_ite];rfl
theorem er_postReady (c : Cll) (s : Sea) (p : Pst) : postReady a m.er i t c s.er p = er3 (postReady a m i t c s p) := by
 simp only [postReady,er_takeReady,er3_ite]
 simp only [er3,er_took];rfl
theorem er_post (c : Cll) (s : Sea) (p : Pst) : postStep h a m.er i t c s.er p = er4 (postStep h a m i t c s p) := by
 unfold postStep
 split
 ·rfl
 ·simp only [er4_ite,er_take,er_word]
  congr 1
  ·simp only [er3,er_took];rfl
  congr 1
  congr 1
  congr 1
  ·congr 1
   simp only [er_swap,postDone,er_point,er_answer,er_now,er_shift,er_thread,er_retire,er4_ite];rfl
  ·split
   ·rfl
   ·split
    ·rfl
    ·rw [er_scan];rfl
theorem er_rdy (s : Haz × Are) (c : Cll) (se : Sea) (k : HTask) : htReady s m.er i t c se.er k = er3 (htReady s m i t c se k) := by
 cases k <;> first|rfl|(simp only [htReady,er_postReady];rfl)
theorem er_stp (s : Haz × Are) (c : Cll) (se : Sea) (k : HTask) : htStep s m.er i t c se.er k = er3 (htStep s m i t c se k) := by
 cases k <;> first|rfl|(simp only [htStep,er_reg,er_unr,er_read,er_post,er_scan];rfl)
abbrev nT : Tasks (Haz × Are) HTask := ⟨fun _ => emp,fun _ _ => emp,htReady,htStep,fun _ _ _ _ => True,fun _ _ _ _ => True⟩
theorem er_stepReady {bh ba : Nat} {CX : SProp} (s : Haz × Are) (c : Cll) (se : Sea) (k : HTask) (now : Int) : stepReady nT s m.er i t c se.er k now = er3 (stepReady (hzT bh ba CX) s m i t c se k now) := by
 unfold stepReady
 rw [er3_ite]
 congr 1
 ·rw [er_prep];exact er_rdy _ i t s c { se with ready := true } k
 ·rw [er_prep];rfl
theorem er_getC : getC m.er i = getC m i := rfl
theorem er_getS : getS m.er t = (getS m t).er := by
 simp only [getS,Mch.er,List.getD_eq_getElem?_getD,List.getElem?_map]
 cases m.seats[t]? <;> rfl
theorem er_stepMore {bh ba : Nat} {CX : SProp} (r : Bool × (Haz × Are) × Mch × HTask) : stepMore nT i t (er3 r) = er3 (stepMore (hzT bh ba CX) i t r) := by
 unfold stepMore
 rw [er3_ite]
 congr 1
 simp only [er3,er_getC,er_getS]
 exact er_stp _ i t _ _ _ _
theorem er_end (c : Cll) (s : Sea) (now : Int) (b : Bool) : stepEnd m.er t i now c s.er b = (stepEnd m t i now c s b).er := by
 unfold stepEnd
 split
 ·simp only [Mch.er,List.map_set];rfl
 ·rfl
def Wst.er (y : HW) : HW := { y with m := y.m.er }
def moveE (y : HW) (mv : Mv) : HW :=
 if mv.thread < 0 ∨ (y.tasks.length : Int) ≤ mv.thread then y.tick
 else match y.tasks.getD mv.thread.toNat none with
  | none =>
   if mv.op < 20 ∨ 25 < mv.op then y.tick
   else match kitTask y.s mv.thread.toNat mv with
    | none => y.tick
    | some k => ⟨y.s,machBegin y.m mv.thread.toNat mv .nilIface .nilIface,y.tasks.set mv.thread.toNat (some k)⟩
  | some k =>
   if mv.op ≠ 0 then y.tick
   else
    let se := getS y.m mv.thread.toNat
    let r := machStep nT y.s y.tick.m se.last.toNat mv.thread.toNat (getC y.m se.last.toNat) se k y.m.moves
    ⟨r.1,r.2.1,y.tasks.set mv.thread.toNat r.2.2⟩
def didE (y : HW) (mv : Mv) : Bool :=
 if mv.thread < 0 ∨ (y.tasks.length : Int) ≤ mv.thread then false
 else match y.tasks.getD mv.thread.toNat none with
  | none => if mv.op < 20 ∨ 25 < mv.op then false else (kitTask y.s mv.thread.toNat mv).isSome
  | some _ => mv.op = 0
theorem kitFn_none {x : Caps} {op : Int} : kitFn x op = none ↔ op < 20 ∨ 25 < op := by
 unfold kitFn
 constructor
 ·intro h
  repeat (split at h;· cases h)
  omega
 ·intro h
  rw [if_neg (by omega),if_neg (by omega),if_neg (by omega),if_neg (by omega),if_neg (by omega),if_neg (by omega)]
theorem moveE_of {y y' : HW} {mv : Mv} {b : Bool} {bh ba : Nat} {CX : SProp} {x : Caps} (h : MoveTo (hzT bh ba CX) (kitFn x) kitTask y mv b y') : y'.er = moveE y.er mv ∧ b = didE y.er mv := by
 cases h with
 | out h => unfold moveE didE;rw [if_pos (by exact h),if_pos (by exact h)];exact ⟨rfl,rfl⟩
 | idle t ht hop hk =>
  have hl := (List.getElem?_eq_some_iff.1 hk).1
  have e : y.er.tasks.getD mv.thread.toNat none = none := by rw [ht,Int.toNat_natCast,List.getD_eq_getElem?_getD];show (y.tasks[t]?).getD none = none;rw [hk];rfl
  unfold moveE didE
  have hn : ¬ (mv.thread < 0 ∨ (y.er.tasks.length : Int) ≤ mv.thread) := by show ¬ (mv.thread < 0 ∨ (y.tasks.length : Int) ≤ mv.thread);omega
  rw [if_neg hn,if_neg hn,e]
  simp only []
  rw [if_pos (by omega),if_pos (by omega)]
  exact ⟨rfl,rfl⟩
 | busy t k ht hop hk =>
  have hl := (List.getElem?_eq_some_iff.1 hk).1
  have e : y.er.tasks.getD mv.thread.toNat none = some k := by rw [ht,Int.toNat_natCast,List.getD_eq_getElem?_getD];show (y.tasks[t]?).getD none = some k;rw [hk];rfl
  unfold moveE didE
  have hn : ¬ (mv.thread < 0 ∨ (y.er.tasks.length : Int) ≤ mv.thread) := by show ¬ (mv.thread < 0 ∨ (y.tasks.length : Int) ≤ mv.thread);omega
  rw [if_neg hn,if_neg hn,e]
  simp only []
  rw [if_pos hop]
  exact ⟨rfl,by simp [hop]⟩
 | nokit t ht hop hk hK =>
  have hl := (List.getElem?_eq_some_iff.1 hk).1
  have e : y.er.tasks.getD mv.thread.toNat none = none := by rw [ht,Int.toNat_natCast,List.getD_eq_getElem?_getD];show (y.tasks[t]?).getD none = none;rw [hk];rfl
  unfold moveE didE
  have hn : ¬ (mv.thread < 0 ∨ (y.er.tasks.length : Int) ≤ mv.thread) := by show ¬ (mv.thread < 0 ∨ (y.tasks.length : Int) ≤ mv.thread);omega
  rw [if_neg hn,if_neg hn,e]
  simp only []
  rw [if_pos (kitFn_none.1 hK),if_pos (kitFn_none.1 hK)]
  exact ⟨rfl,rfl⟩
 | refused t ht hop hk hK hm =>
  have hl := (List.getElem?_eq_some_iff.1 hk).1
  have e : y.er.tasks.getD mv.thread.toNat none = none := by rw [ht,Int.toNat_natCast,List.getD_eq_getElem?_getD];show (y.tasks[t]?).getD none = none;rw [hk];rfl
  unfold moveE didE
  have hn : ¬ (mv.thread < 0 ∨ (y.er.tasks.length : Int) ≤ mv.thread) := by show ¬ (mv.thread < 0 ∨ (y.tasks.length : Int) ≤ mv.thread);omega
  have hm2 : kitTask y.er.s mv.thread.toNat mv = none := by rw [ht,Int.toNat_natCast];exact hm
  rw [if_neg hn,if_neg hn,e]
  simp only []
  rw [if_neg (fun h => hK (kitFn_none.2 h)),if_neg (fun h => hK (kitFn_none.2 h)),hm2]
  exact ⟨rfl,rfl⟩
 | begin_ t k v vc ht hop hk hK hm =>
  have hl := (List.getElem?_eq_some_iff.1 hk).1
  have e : y.er.tasks.getD mv.thread.toNat none = none := by rw [ht,Int.toNat_natCast,List.getD_eq_getElem?_getD];show (y.tasks[t]?).getD none = none;rw [hk];rfl
  unfold moveE didE
  have hn : ¬ (mv.thread < 0 ∨ (y.er.tasks.length : Int) ≤ mv.thread) := by show ¬ (mv.thread < 0 ∨ (y.tasks.length : Int) ≤ mv.thread);omega
  have hm2 : kitTask y.er.s mv.thread.toNat mv = some k := by rw [ht,Int.toNat_natCast];exact hm
  rw [if_neg hn,if_neg hn,e]
  simp only []
  rw [if_neg (fun h => hK (kitFn_none.2 h)),if_neg (fun h => hK (kitFn_none.2 h)),hm2]
  refine ⟨?_,rfl⟩
  rw [ht,Int.toNat_natCast]
  simp only [Wst.er,machBegin,Mch.er,List.map_set]
  rfl
 | step t i c se k ht hop hk hse hl hc =>
  have hlt := (List.getElem?_eq_some_iff.1 hk).1
  have e : y.er.tasks.getD mv.thread.toNat none = some k := by rw [ht,Int.toNat_natCast,List.getD_eq_getElem?_getD];show (y.tasks[t]?).getD none = some k;rw [hk];rfl
  unfold moveE didE
  have hn : ¬ (mv.thread < 0 ∨ (y.er.tasks.length : Int) ≤ mv.thread) := by show ¬ (mv.thread < 0 ∨ (y.tasks.length : Int) ≤ mv.thread);omega
  rw [if_neg hn,if_neg hn,e]
  simp only []
  rw [if_neg (by simpa using hop)]
  refine ⟨?_,by simp [hop]⟩
  have e1 : getS y.er.m mv.thread.toNat = se.er := by
   rw [ht,Int.toNat_natCast]
   show getS y.m.er t = _
   rw [er_getS]
   simp [getS,List.getD_eq_getElem?_getD,hse]
  have e2 : getC y.er.m se.er.last.toNat = c := by
   show getC y.m.er se.last.toNat = c
   rw [hl,Int.toNat_natCast,er_getC]
   simp [getC,List.getD_eq_getElem?_getD,hc]
  have e3 : se.er.last.toNat = i := by show se.last.toNat = i;omega
  rw [e1,e2,e3,ht,Int.toNat_natCast]
  have e4 : machStep nT y.er.s y.er.tick.m i t c se.er k y.er.m.moves = ((machStep (hzT bh ba CX) y.s y.tick.m i t c se k y.m.moves).1,(machStep (hzT bh ba CX) y.s y.tick.m i t c se k y.m.moves).2.1.er,(machStep (hzT bh ba CX) y.s y.tick.m i t c se k y.m.moves).2.2) := by
   have h1 := er_stepReady (bh := bh) (ba := ba) (CX := CX) y.tick.m i t y.s c se k y.m.moves
   have h2 := er_stepMore (bh := bh) (ba := ba) (CX := CX) i t (stepReady (hzT bh ba CX) y.s y.tick.m i t c se k y.m.moves)
   rw [← h1] at h2
   unfold machStep
   simp only []
   have h3 : stepMore nT i t (stepReady nT y.er.s y.er.tick.m i t c se.er k y.er.m.moves) = er3 (stepMore (hzT bh ba CX) i t (stepReady (hzT bh ba CX) y.s y.tick.m i t c se k y.m.moves)) := h2
   rw [h3]
   simp only [er3,er_getC,er_getS,er_end];rfl
  simp only [e4]
  rfl
end Go.Proofs.YtegafhhdegnigaaGreat
end
/-
  What the examples' script computes.
-/
section
namespace Go.Proofs.YtegafhhdegnigaaGreat
open Go.RowKit Hp
set_option maxRecDepth 100000
set_option maxHeartbeats 1000000
attribute [local irreducible] Go.Calls
def e0 (c : Cfg) : HW := (wst0 c 0 .nilIface).er
def runE (c : Cfg) (mvs : List Mv) : HW := mvs.foldl moveE (e0 c)
def smallC : Cfg := ⟨2,2,3,1,0,3,1⟩
abbrev stepsM (t : Int) (n : Nat) : List Mv := List.replicate n ⟨t,0,0,0⟩
def awM : List Mv := ((((([⟨0,20,0,0⟩] ++ stepsM 0 2) ++ [⟨0,22,5,0⟩] ++ stepsM 0 6) ++ [⟨1,20,0,0⟩] ++ stepsM 1 3) ++ [⟨1,23,0,0⟩] ++ stepsM 1 4) ++ [⟨0,22,6,0⟩] ++ stepsM 0 13)
def awOk (y : HW) : Bool := decide (y.m.calls.length = 5) && decide (y.m.shifts.length = 6) && decide (y.m.mem.log.length = 28) &&
 (match y.m.calls[3]? with|some c => decide (c.kind = 2) && decide (c.value = 5)|none => false) &&
 (match y.m.calls[4]? with|some c => decide (c.end_ = 32)|none => false) &&
 (match y.m.shifts[5]? with|some s => decide (s.to = 5) && decide (s.slot = 0)|none => false)
theorem PI.er {c : Cfg} {n : Nat} {y : HW} (P : PI c n y) : PI c n y.er := by
 obtain ⟨p1,p2,p3,p4,p5,p6,p7⟩ := P
 refine ⟨p1,p2,p3.of rfl rfl rfl rfl,p4,by simp only [Wst.er,Mch.er,List.length_map];exact p5,p6,?_⟩
 intro t k se hk hse
 simp only [Wst.er,Mch.er,List.getElem?_map] at hk hse
 cases hs : y.m.seats[t]? with
 | none => rw [hs] at hse;simp at hse
 | some s =>
  rw [hs] at hse
  simp at hse
  subst hse
  exact p7 t k s hk hs
def RunE (c : Cfg) (mvs : List Mv) (u : Value) : SProp := ex fun v => pu (u = .tuple #[v,.int .i64 0]) * RunR (runE c mvs).m.calls (runE c mvs).m.mem.log (runE c mvs).m.shifts (runE c mvs).m.mem.words v
theorem runE_take {c : Cfg} {mvs : List Mv} {k : Nat} {mv : Mv} (h : mvs[k]? = some mv) : runE c (mvs.take (k + 1)) = moveE (runE c (mvs.take k)) mv := by
 have e : mvs.take (k + 1) = mvs.take k ++ [mv] := by
  rw [List.take_add_one,h];rfl
 rw [e]
 simp only [runE,List.foldl_append,List.foldl_cons,List.foldl_nil]
theorem haz_play_runR (c : Cfg) (h : c.Ok) (v : Value) (mvs : List Mv) (hl : mvs.length ≤ 65536) (A : SProp) (hRd : Rd A 4 (mvs.map Mv.e) v) :
  Does Tryz.prog 15 #[c.v,v] A (fun u => RunE c mvs u * A) := by
 intro O w F hs
 have hT := h.T2
 have hT1 := h.T1
 refine (haz_playR c h v mvs hl (fun k y => PI c k y ∧ y.er = runE c (mvs.take k)) (by omega) (fun km vs => ⟨PI.start h km vs,?_⟩) ?_ ?_ ?_ A hRd O w F hs).mono ?_
 ·simp only [List.take_zero]
  show _ = e0 c
  simp only [e0,Wst.er,wst0,Mch.er,mch0]
 ·intro bh ba x k y mv hmv hJ
  have := (List.getElem?_eq_some_iff.1 hmv).1
  exact hJ.1.may (by omega) mv
 ·intro bh ba x k y mv b y' hmv hJ hm
  have := (List.getElem?_eq_some_iff.1 hmv).1
  exact ⟨hJ.1.move (by omega) hm,by rw [runE_take hmv,← hJ.2];exact (moveE_of hm).1⟩
 ·intro y hJ
  obtain ⟨p1,p2,p3,p4,p5,p6,p7⟩ := hJ.1
  have := p3.log
  have := p3.shifts
  have := p3.words
  have := base14_le h
  omega
 ·rintro e w' ⟨u,rfl,hs'⟩
  refine ⟨u,rfl,?_⟩
  unfold playR at hs'
  unfold RunE
  simp only [sat_ex,mul_assoc',sat_pu] at hs' ⊢
  obtain ⟨y,v',⟨⟨hP,hE⟩,hu⟩,hs'⟩ := hs'
  rw [List.take_length] at hE
  refine ⟨v',hu,?_⟩
  rw [← hE]
  exact hs'
theorem haz_play_run (c : Cfg) (h : c.Ok) (v : Value) (mvs : List Mv) (hl : mvs.length ≤ 65536) :
  Does Tryz.prog 15 #[c.v,v] (sl 86 4 (mvs.map Mv.e) v) (fun u => RunE c mvs u * sl 86 4 (mvs.map Mv.e) v) :=
 does_sl fun A hA => haz_play_runR c h v mvs hl A hA
theorem aw_ok : awOk (runE smallC awM) = true := by kernel_rfl
end Go.Proofs.YtegafhhdegnigaaGreat
end
/-
  Every move leads somewhere; what holds of a script's run.
-/
section
namespace Go.Proofs.YtegafhhdegnigaaGreat
open Go.RowKit Hp
set_option maxRecDepth 100000
set_option maxHeartbeats 1000000
attribute [local irreducible] Go.Calls
theorem move_total {c : Cfg} {n : Nat} {y : HW} (P : PI c n y) (bh ba : Nat) (CX : SProp) (x : Caps) (mv : Mv) : ∃ b y',MoveTo (hzT bh ba CX) (kitFn x) kitTask y mv b y' := by
 by_cases hth : mv.thread < 0 ∨ (y.tasks.length : Int) ≤ mv.thread
 ·exact ⟨_,_,.out hth⟩
 have hlt : mv.thread.toNat < y.tasks.length := by omega
 have ht : mv.thread = (mv.thread.toNat : Int) := by omega
 generalize mv.thread.toNat = t at hlt ht
 obtain ⟨o,ho⟩ : ∃ o,y.tasks[t]? = some o := ⟨_,List.getElem?_eq_getElem hlt⟩
 have hlt2 : t < y.m.seats.length := by rw [P.seats,← P.tasks];exact hlt
 obtain ⟨se,hse⟩ : ∃ se,y.m.seats[t]? = some se := ⟨_,List.getElem?_eq_getElem hlt2⟩
 cases o with
 | none =>
  by_cases hop : mv.op = 0
  ·exact ⟨_,_,.idle t ht hop ho⟩
  ·cases hK : kitFn x mv.op with
   | none => exact ⟨_,_,.nokit t ht hop ho hK⟩
   | some u =>
    have hKn : kitFn x mv.op ≠ none := by rw [hK];simp
    cases hmk : kitTask y.s t mv with
    | none => exact ⟨_,_,.refused t ht hop ho hKn hmk⟩
    | some k => exact ⟨_,_,.begin_ t k .nilIface .nilIface ht hop ho hKn hmk⟩
 | some k =>
  by_cases hop : mv.op = 0
  ·obtain ⟨⟨i,e1,e2⟩,_⟩ := P.task t k se ho hse
   exact ⟨_,_,.step t i _ se k ht hop ho hse e1 (List.getElem?_eq_getElem e2)⟩
  ·exact ⟨_,_,.busy t k ht hop ho⟩
theorem RunOk.start {c : Cfg} (hok : c.Ok) (km : Nat) (vs : Value) : RunOk c 0 (wst0 c km vs) := by
 have hS := hok.S1
 refine ⟨by simp [wst0,mch0],Pw.nil,Pw.nil,Pw.nil,by simp [wst0,mch0],rfl,by simp [wst0,are0];omega,by simp [wst0,mch0],by simp [wst0,mch0],rfl,by simp [wst0,mch0],by simp [wst0,mch0],by simp [wst0,mch0],rfl,by simp [wst0,mch0],by simp [wst0,mch0],?_,by simp [wst0,mch0]⟩
 intro t k se hk _
 simp only [wst0] at hk
 have := (List.mem_replicate.1 (List.mem_of_getElem? hk)).2
 cases this
structure Beh (c : Cfg) (mvs : List Mv) (y : HW) : Prop where
 pi : PI c mvs.length y
 ok : RunOk c mvs.length y
 er : y.er = runE c mvs
theorem Beh.calls {c : Cfg} {mvs : List Mv} {y : HW} (h : Beh c mvs y) : y.m.calls = (runE c mvs).m.calls := by rw [← h.er];rfl
theorem Beh.log {c : Cfg} {mvs : List Mv} {y : HW} (h : Beh c mvs y) : y.m.mem.log = (runE c mvs).m.mem.log := by rw [← h.er];rfl
theorem Beh.shifts {c : Cfg} {mvs : List Mv} {y : HW} (h : Beh c mvs y) : y.m.shifts = (runE c mvs).m.shifts := by rw [← h.er];rfl
theorem Beh.words {c : Cfg} {mvs : List Mv} {y : HW} (h : Beh c mvs y) : y.m.mem.words = (runE c mvs).m.mem.words := by rw [← h.er];rfl
end Go.Proofs.YtegafhhdegnigaaGreat
end
/-
  At the beginning all slots are on the free list; behind any moves each is in one place.
-/
section
namespace Go.Proofs.YtegafhhdegnigaaGreat
open Go.RowKit Hp
set_option maxRecDepth 100000
set_option maxHeartbeats 1000000
attribute [local irreducible] Go.Calls
theorem fill_ge {ws : List Int} {b : Int} (hb : 0 ≤ b) : ∀ (n : Nat) (i : Nat),(∀ k : Nat,k < n → (i : Int) ≠ b + k) → (fillW ws b 0 n).getD i 0 = ws.getD i 0
 | 0,i,_ => rfl
 | n + 1,i,h => by
  simp only [fillW,List.getD_eq_getElem?_getD]
  have h1 := h n (by omega)
  rw [set_ne (by omega),← List.getD_eq_getElem?_getD,← List.getD_eq_getElem?_getD]
  exact fill_ge hb n i fun k hk => h k (by omega)
theorem fill_lt {ws : List Int} {b : Int} (hb : 0 ≤ b) : ∀ (n : Nat) (k : Nat),k < n → (b + k).toNat < ws.length → (fillW ws b 0 n).getD (b + k).toNat 0 = (k : Int) + 2
 | 0,k,h,_ => by omega
 | n + 1,k,h,hl => by
  simp only [fillW,List.getD_eq_getElem?_getD]
  by_cases e : k = n
  ·subst e
   rw [show 0 + k = k by omega,List.getElem?_set_self (by rw [fillW_len];exact hl)]
   simp
  ·rw [set_ne (by omega),← List.getD_eq_getElem?_getD]
   exact fill_lt hb n k (by omega) hl
def seqF (k : Int) : Nat → List Int
 | 0 => []
 | n + 1 => k :: seqF (k + 1) n
theorem seqF_count (s : Int) : ∀ (n : Nat) (k : Int),(seqF k n).count s = ind (k ≤ s ∧ s < k + n)
 | 0,k => by rw [ind_neg (by omega)];rfl
 | n + 1,k => by
  simp only [seqF,List.count_cons,seqF_count s n (k + 1)]
  by_cases e : k = s
  ·subst e
   rw [ind_neg (by omega),ind_pos (by omega)];simp
  ·have : (k == s) = false := by simpa using e
   rw [this]
   by_cases h : k + 1 ≤ s ∧ s < k + 1 + n
   ·rw [ind_pos h,ind_pos (by omega)];rfl
   ·rw [ind_neg h,ind_neg (by omega)];rfl
theorem seqF_mem {s : Int} : ∀ {n : Nat} {k : Int},s ∈ seqF k n → k ≤ s ∧ s < k + n
 | 0,k,h => by simp [seqF] at h
 | n + 1,k,h => by
  rcases List.mem_cons.1 h with rfl|h
  ·omega
  ·have := seqF_mem h;omega
theorem seqF_chain {nx : Int → Int} {E : Int} (h1 : ∀ s,0 ≤ s → s + 1 < E → nx s = s + 2) (h2 : nx (E - 1) = 0) : ∀ (n : Nat) (k : Int),0 ≤ k → k + n = E → 0 < n → Chain nx (k + 1) (seqF k n)
 | 0,k,_,_,h => by omega
 | n + 1,k,k0,he,_ => by
  refine ⟨rfl,k0,?_⟩
  cases n with
  | zero =>
   have : k = E - 1 := by omega
   show Chain nx (nx k) []
   rw [this,h2];rfl
  | succ n =>
   rw [h1 k k0 (by omega),show k + 2 = (k + 1) + 1 by omega]
   exact seqF_chain h1 h2 (n + 1) (k + 1) (by omega) (by omega) (by omega)
theorem mv0 {c : Cfg} (hok : c.Ok) {m : Mch} (hw : m.mem.words = firstW c 0) :
  (mv c m).hd = 1 ∧ (mv c m).cell = 0 ∧ (∀ s,0 ≤ s → s + 1 < c.Sl → (mv c m).nx s = s + 2) ∧ (mv c m).nx (c.Sl - 1) = 0 ∧ (∀ r,(mv c m).act r = 0) ∧ ∀ j,(mv c m).hz j = 0 := by
 have hS := hok.S1
 have hR := hok.R1
 obtain ⟨b1,b2,b8,b9,b10,b11,b12,b13,b14,rh,rh2⟩ := bases hok
 obtain ⟨a1,a2,a8,a9,a10,a11⟩ := adrs hok
 have hl : 0 < (base c 14).toNat := by omega
 have hwd : ∀ i : Nat,m.word i = (fillW ((List.replicate (base c 14).toNat (0 : Int)).set 0 1) (base c 10) 0 (c.Sl.toNat - 1)).getD i 0 := by
  intro i
  unfold Mch.word
  rw [hw]
  simp only [firstW]
  rw [if_neg (by omega),if_pos (by show ((0 : Nat) : Int) < c.Sl;omega)]
  rfl
 have hz : ∀ i : Nat,i ≠ 0 → ((List.replicate (base c 14).toNat (0 : Int)).set 0 1).getD i 0 = 0 := by
  intro i hi
  rw [List.getD_eq_getElem?_getD,set_ne hi,List.getElem?_replicate]
  split <;> rfl
 have h0 : ∀ i : Nat,i ≠ 0 → ((i : Int) < base c 10 ∨ base c 10 + c.Sl ≤ i + 1) → m.word i = 0 := by
  intro i hi hi2
  rw [hwd i,fill_ge (by omega) _ _ (fun k hk => by omega)]
  exact hz i hi
 refine ⟨?_,?_,?_,?_,?_,?_⟩
 ·show m.word (adr c 1 0) = 1
  have : adr c 1 0 = 0 := by omega
  rw [this,hwd 0,fill_ge (by omega) _ _ (fun k hk => by omega)]
  rw [List.getD_eq_getElem?_getD,List.getElem?_set_self (by simp;omega)];rfl
 ·show m.word (adr c 2 0) = 0
  exact h0 _ (by omega) (.inl (by omega))
 ·intro s s0 s1
  rw [nx_at s0 (by omega)]
  have e : adr c 10 s = (base c 10 + (s.toNat : Int)).toNat := by unfold adr;congr 1;omega
  rw [hwd,e,fill_lt (by omega) _ _ (by omega) (by simp;omega)]
  omega
 ·rw [nx_at (by omega) (by omega)]
  have := a10 (c.Sl - 1) (by omega)
  exact h0 _ (by omega) (.inr (by omega))
 ·intro r
  show (if 0 ≤ r ∧ r < c.R then m.word (adr c 8 r) else 0) = 0
  split
  ·rename_i h
   have := a8 r h.1
   exact h0 _ (by omega) (.inl (by omega))
  ·rfl
 ·intro r
  show (if 0 ≤ r ∧ r < c.R * c.Hz then m.word (adr c 9 r) else 0) = 0
  split
  ·rename_i h
   have := a9 r h.1
   exact h0 _ (by omega) (.inl (by omega))
  ·rfl
theorem cnt2_none (f : Option HTask → List Int) (f0 : f none = []) (n : Nat) (s : Int) : cnt2 ((List.replicate n (none : Option HTask)).map f) s = 0 := by
 rw [List.map_replicate,f0];exact cnt2_nils s n
theorem DI.start {c : Cfg} (hok : c.Ok) (km : Nat) (vs : Value) : DI c (fun _ => False) (seqF 0 c.Sl.toNat) (0 : Nat) (wst0 c km vs) := by
 have hS := hok.S1
 obtain ⟨w1,w2,w3,w4,w5,w6⟩ := mv0 hok (m := (wst0 c km vs).m) rfl
 have hsl : ∀ s,0 ≤ s → s < c.Sl → (are0 c).sl s = ⟨0,-1⟩ := by
  intro s s0 s1
  unfold Are.sl are0
  rw [if_pos s0]
  simp only [List.getD_eq_getElem?_getD,List.getElem?_replicate]
  rw [if_pos (by omega)];rfl
 have hTS : ∀ s,cnt2 ((wst0 c km vs).tasks.map tS) s = 0 := fun s => cnt2_none tS rfl _ s
 have hTL : ∀ s,cnt2 ((wst0 c km vs).tasks.map tL) s = 0 := fun s => cnt2_none tL rfl _ s
 refine ⟨⟨?_,?_,?_,?_,?_,?_,?_,?_,?_,?_,?_,fun j hf => hf.elim,?_⟩,?_,?_⟩
 ·intro s
  rw [hTS,seqF_count]
  show _ + cnt2 (List.replicate c.T.toNat []) s + 0 + 0 + ind (0 ≤ s ∧ (mv c (wst0 c km vs).m).cell = s + 1) + cnt2 (List.replicate c.R.toNat []) s = _
  rw [cnt2_nils,cnt2_nils,w2,ind_neg (p := 0 ≤ s ∧ (0 : Int) = s + 1) (by omega)]
  by_cases h : 0 ≤ s ∧ s < c.Sl
  ·rw [ind_pos h,ind_pos (p := 0 ≤ s ∧ s < 0 + (c.Sl.toNat : Int)) (by omega)]
  ·rw [ind_neg h,ind_neg (p := 0 ≤ s ∧ s < 0 + (c.Sl.toNat : Int)) (by omega)]
 ·intro s hs
  have := seqF_mem hs
  show ((are0 c).sl s).state = 0
  rw [hsl s (by omega) (by omega)]
 ·intro t y hy s hs
  have : y = [] := (List.mem_replicate.1 (List.mem_of_getElem? hy)).2
  subst this;simp at hs
 ·intro s s0 h
  have h : (mv c (wst0 c km vs).m).cell = s + 1 := h
  omega
 ·intro l hl s hs
  have : l = [] := (List.mem_replicate.1 hl).2
  subst this;simp at hs
 ·intro s hs
  rw [hTS] at hs;omega
 ·show Chain (mv c (wst0 c km vs).m).nx ((mv c (wst0 c km vs).m).hd % 4294967296) _
  rw [w1]
  exact seqF_chain w3 w4 c.Sl.toNat 0 (by omega) (by omega) (by omega)
 ·show 0 ≤ (mv c (wst0 c km vs).m).hd;omega
 ·show (mv c (wst0 c km vs).m).hd / 4294967296 ≤ _;omega
 ·intro r r0 r1
  rw [hTL]
  show (((List.replicate c.T.toNat (-1 : Int)).count r + 0 + 0 : Nat) : Int) = (mv c (wst0 c km vs).m).act r
  rw [w5]
  have : (List.replicate c.T.toNat (-1 : Int)).count r = 0 := List.count_eq_zero.2 (fun h => by have := (List.mem_replicate.1 h).2;omega)
  omega
 ·intro r r0 r1
  exact .inl (w5 r)
 ·intro j j0 j1 h
  have h : 1 ≤ (mv c (wst0 c km vs).m).hz j := h
  rw [w6] at h;omega
 ·intro t k hk
  have hk : (List.replicate c.T.toNat (none : Option HTask))[t]? = some (some k) := hk
  have := (List.mem_replicate.1 (List.mem_of_getElem? hk)).2
  cases this
 ·intro t k se hk
  have hk : (List.replicate c.T.toNat (none : Option HTask))[t]? = some (some k) := hk
  have := (List.mem_replicate.1 (List.mem_of_getElem? hk)).2
  cases this
end Go.Proofs.YtegafhhdegnigaaGreat
end
