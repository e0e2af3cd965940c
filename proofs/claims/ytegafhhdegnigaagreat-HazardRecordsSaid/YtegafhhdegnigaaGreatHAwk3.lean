/-
  The reference's check of a configuration.
-/
import Derived.Test.YtegafhhdegnigaaGreatHAddr2
import Derived.BigQuiet
import Derived.Test.YtegafhhdegnigaaGreatHInv5
import Derived.KernelRfl
set_option linter.all false
section
namespace Go.Proofs.YtegafhhdegnigaaGreat
open Go.RowKit Hp
set_option maxHeartbeats 1000000 in
set_option maxRecDepth 100000 in
theorem config_yes (T R Hz Rt Ca Sl Bu : Int) (h : CfgOk T R Hz Rt Ca Sl Bu) :
    Gives Tryz.prog 87 #[.agg (cfgV T R Hz Rt Ca Sl Bu)] emp (.bool true) emp := by
  intro O w F hs
  obtain ⟨⟨a1,a2⟩,⟨b1,b2⟩,⟨c1,c2⟩,⟨d1,d2⟩,⟨e1,e2⟩,⟨f1,f2⟩,⟨g1,g2⟩⟩ := h
  go_enter Tryz.func87,Tryz.ntmps87
  simp only [List.append]
  go_wp2_with (first | ((with_reducible apply wl_ld hs);infer_instance;rfl;(repeat (exact Qh));rfl;rfl;simp only [Uc,Uz]) | ((with_reducible apply wl_box hs);rfl;rfl;rfl;clear hs;intro w b hs;simp only [Uc,Uz]))
  go_ret
  exact ⟨rfl,hs.right⟩
set_option maxHeartbeats 4000000 in
set_option maxRecDepth 100000 in
theorem config_no (T R Hz Rt Ca Sl Bu : Int) (h : ¬ CfgOk T R Hz Rt Ca Sl Bu) :
    Gives Tryz.prog 87 #[.agg (cfgV T R Hz Rt Ca Sl Bu)] emp (.bool false) emp := by
  intro O w F hs
  by_cases g0 : 1 ≤ T
  case neg =>
    clear h
    have hd : decide (1 ≤ T) = false := by simpa using g0
    clear g0
    go_enter Tryz.func87,Tryz.ntmps87
    simp only [List.append]
    go_wp2_with (first | ((with_reducible apply wl_ld hs);infer_instance;rfl;(repeat (exact Qh));rfl;rfl;simp only [Uc,Uz]) | ((with_reducible apply wl_box hs);rfl;rfl;rfl;clear hs;intro w b hs;simp only [Uc,Uz]))
    go_ret
    exact ⟨rfl,hs.right⟩
  by_cases g1 : T ≤ 16
  case neg =>
    clear h
    have hd : decide (T ≤ 16) = false := by simpa using g1
    clear g1
    go_enter Tryz.func87,Tryz.ntmps87
    simp only [List.append]
    go_wp2_with (first | ((with_reducible apply wl_ld hs);infer_instance;rfl;(repeat (exact Qh));rfl;rfl;simp only [Uc,Uz]) | ((with_reducible apply wl_box hs);rfl;rfl;rfl;clear hs;intro w b hs;simp only [Uc,Uz]))
    go_ret
    exact ⟨rfl,hs.right⟩
  by_cases g2 : 1 ≤ R
  case neg =>
    clear h
    have hd : decide (1 ≤ R) = false := by simpa using g2
    clear g2
    go_enter Tryz.func87,Tryz.ntmps87
    simp only [List.append]
    go_wp2_with (first | ((with_reducible apply wl_ld hs);infer_instance;rfl;(repeat (exact Qh));rfl;rfl;simp only [Uc,Uz]) | ((with_reducible apply wl_box hs);rfl;rfl;rfl;clear hs;intro w b hs;simp only [Uc,Uz]))
    go_ret
    exact ⟨rfl,hs.right⟩
  by_cases g3 : R ≤ 16
  case neg =>
    clear h
    have hd : decide (R ≤ 16) = false := by simpa using g3
    clear g3
    go_enter Tryz.func87,Tryz.ntmps87
    simp only [List.append]
    go_wp2_with (first | ((with_reducible apply wl_ld hs);infer_instance;rfl;(repeat (exact Qh));rfl;rfl;simp only [Uc,Uz]) | ((with_reducible apply wl_box hs);rfl;rfl;rfl;clear hs;intro w b hs;simp only [Uc,Uz]))
    go_ret
    exact ⟨rfl,hs.right⟩
  by_cases g4 : 3 ≤ Hz
  case neg =>
    clear h
    have hd : decide (3 ≤ Hz) = false := by simpa using g4
    clear g4
    go_enter Tryz.func87,Tryz.ntmps87
    simp only [List.append]
    go_wp2_with (first | ((with_reducible apply wl_ld hs);infer_instance;rfl;(repeat (exact Qh));rfl;rfl;simp only [Uc,Uz]) | ((with_reducible apply wl_box hs);rfl;rfl;rfl;clear hs;intro w b hs;simp only [Uc,Uz]))
    go_ret
    exact ⟨rfl,hs.right⟩
  by_cases g5 : Hz ≤ 8
  case neg =>
    clear h
    have hd : decide (Hz ≤ 8) = false := by simpa using g5
    clear g5
    go_enter Tryz.func87,Tryz.ntmps87
    simp only [List.append]
    go_wp2_with (first | ((with_reducible apply wl_ld hs);infer_instance;rfl;(repeat (exact Qh));rfl;rfl;simp only [Uc,Uz]) | ((with_reducible apply wl_box hs);rfl;rfl;rfl;clear hs;intro w b hs;simp only [Uc,Uz]))
    go_ret
    exact ⟨rfl,hs.right⟩
  by_cases g6 : 1 ≤ Rt
  case neg =>
    clear h
    have hd : decide (1 ≤ Rt) = false := by simpa using g6
    clear g6
    go_enter Tryz.func87,Tryz.ntmps87
    simp only [List.append]
    go_wp2_with (first | ((with_reducible apply wl_ld hs);infer_instance;rfl;(repeat (exact Qh));rfl;rfl;simp only [Uc,Uz]) | ((with_reducible apply wl_box hs);rfl;rfl;rfl;clear hs;intro w b hs;simp only [Uc,Uz]))
    go_ret
    exact ⟨rfl,hs.right⟩
  by_cases g7 : Rt ≤ 1024
  case neg =>
    clear h
    have hd : decide (Rt ≤ 1024) = false := by simpa using g7
    clear g7
    go_enter Tryz.func87,Tryz.ntmps87
    simp only [List.append]
    go_wp2_with (first | ((with_reducible apply wl_ld hs);infer_instance;rfl;(repeat (exact Qh));rfl;rfl;simp only [Uc,Uz]) | ((with_reducible apply wl_box hs);rfl;rfl;rfl;clear hs;intro w b hs;simp only [Uc,Uz]))
    go_ret
    exact ⟨rfl,hs.right⟩
  by_cases g8 : 0 ≤ Ca
  case neg =>
    clear h
    have hd : decide (0 ≤ Ca) = false := by simpa using g8
    clear g8
    go_enter Tryz.func87,Tryz.ntmps87
    simp only [List.append]
    go_wp2_with (first | ((with_reducible apply wl_ld hs);infer_instance;rfl;(repeat (exact Qh));rfl;rfl;simp only [Uc,Uz]) | ((with_reducible apply wl_box hs);rfl;rfl;rfl;clear hs;intro w b hs;simp only [Uc,Uz]))
    go_ret
    exact ⟨rfl,hs.right⟩
  by_cases g9 : Ca ≤ 64
  case neg =>
    clear h
    have hd : decide (Ca ≤ 64) = false := by simpa using g9
    clear g9
    go_enter Tryz.func87,Tryz.ntmps87
    simp only [List.append]
    go_wp2_with (first | ((with_reducible apply wl_ld hs);infer_instance;rfl;(repeat (exact Qh));rfl;rfl;simp only [Uc,Uz]) | ((with_reducible apply wl_box hs);rfl;rfl;rfl;clear hs;intro w b hs;simp only [Uc,Uz]))
    go_ret
    exact ⟨rfl,hs.right⟩
  by_cases g10 : 1 ≤ Sl
  case neg =>
    clear h
    have hd : decide (1 ≤ Sl) = false := by simpa using g10
    clear g10
    go_enter Tryz.func87,Tryz.ntmps87
    simp only [List.append]
    go_wp2_with (first | ((with_reducible apply wl_ld hs);infer_instance;rfl;(repeat (exact Qh));rfl;rfl;simp only [Uc,Uz]) | ((with_reducible apply wl_box hs);rfl;rfl;rfl;clear hs;intro w b hs;simp only [Uc,Uz]))
    go_ret
    exact ⟨rfl,hs.right⟩
  by_cases g11 : Sl ≤ 1024
  case neg =>
    clear h
    have hd : decide (Sl ≤ 1024) = false := by simpa using g11
    clear g11
    go_enter Tryz.func87,Tryz.ntmps87
    simp only [List.append]
    go_wp2_with (first | ((with_reducible apply wl_ld hs);infer_instance;rfl;(repeat (exact Qh));rfl;rfl;simp only [Uc,Uz]) | ((with_reducible apply wl_box hs);rfl;rfl;rfl;clear hs;intro w b hs;simp only [Uc,Uz]))
    go_ret
    exact ⟨rfl,hs.right⟩
  by_cases g12 : 1 ≤ Bu
  case neg =>
    clear h
    have hd : decide (1 ≤ Bu) = false := by simpa using g12
    clear g12
    go_enter Tryz.func87,Tryz.ntmps87
    simp only [List.append]
    go_wp2_with (first | ((with_reducible apply wl_ld hs);infer_instance;rfl;(repeat (exact Qh));rfl;rfl;simp only [Uc,Uz]) | ((with_reducible apply wl_box hs);rfl;rfl;rfl;clear hs;intro w b hs;simp only [Uc,Uz]))
    go_ret
    exact ⟨rfl,hs.right⟩
  by_cases g13 : Bu ≤ 64
  case neg =>
    clear h
    have hd : decide (Bu ≤ 64) = false := by simpa using g13
    clear g13
    go_enter Tryz.func87,Tryz.ntmps87
    simp only [List.append]
    go_wp2_with (first | ((with_reducible apply wl_ld hs);infer_instance;rfl;(repeat (exact Qh));rfl;rfl;simp only [Uc,Uz]) | ((with_reducible apply wl_box hs);rfl;rfl;rfl;clear hs;intro w b hs;simp only [Uc,Uz]))
    go_ret
    exact ⟨rfl,hs.right⟩
  exact absurd ⟨⟨g0,g1⟩,⟨g2,g3⟩,⟨g4,g5⟩,⟨g6,g7⟩,⟨g8,g9⟩,⟨g10,g11⟩,⟨g12,g13⟩⟩ h
theorem ref_conf (c : Cfg) (h : c.Ok) : Gives Tryz.prog 87 #[c.v] emp (.bool true) emp := config_yes c.T c.R c.Hz c.Rt c.Ca c.Sl c.Bu (c.ok_iff.1 h)
theorem ref_conf_no (c : Cfg) (h : ¬ c.Ok) : Gives Tryz.prog 87 #[c.v] emp (.bool false) emp := config_no c.T c.R c.Hz c.Rt c.Ca c.Sl c.Bu (fun k => h (c.ok_iff.2 k))
end Go.Proofs.YtegafhhdegnigaaGreat
end
/-
  What a machine computes does not depend on where its parts stand in memory.
-/
section
namespace Go.Proofs.YtegafhhdegnigaaGreat
open Go.RowKit Hp
set_option maxRecDepth 100000
set_option maxHeartbeats 1000000
attribute [local irreducible] Go.Calls
def Sea.er (s : Sea) : Sea := { s with task := .nilIface }
def Mch.er (m : Mch) : Mch := { m with kit := .nilIface,vs := .nilIface,vc := .nilIface,seats := m.seats.map Sea.er }
section
variable {α β γ : Type}
def er3 (r : Bool × α × Mch × β) : Bool × α × Mch × β := (r.1,r.2.1,r.2.2.1.er,r.2.2.2)
def er4 (r : Bool × α × β × Mch × γ) : Bool × α × β × Mch × γ := (r.1,r.2.1,r.2.2.1,r.2.2.2.1.er,r.2.2.2.2)
def er2 (r : Bool × Mch × β) : Bool × Mch × β := (r.1,r.2.1.er,r.2.2)
theorem er3_ite {p : Prop} [Decidable p] (x y : Bool × α × Mch × β) : er3 (if p then x else y) = if p then er3 x else er3 y := by split <;> rfl
theorem er4_ite {p : Prop} [Decidable p] (x y : Bool × α × β × Mch × γ) : er4 (if p then x else y) = if p then er4 x else er4 y := by split <;> rfl
theorem er2_ite {p : Prop} [Decidable p] (x y : Bool × Mch × β) : er2 (if p then x else y) = if p then er2 x else er2 y := by split <;> rfl
end
variable (h : Haz) (a : Are) (m : Mch) (i t : Nat)
theorem er_word (i : Nat) : m.er.word i = m.word i := rfl
theorem er_load (u : Int) : m.er.load i u = (m.load i u).er := rfl
theorem er_store (u z : Int) : m.er.store i u z = (m.store i u z).er := rfl
theorem er_swap (u o z : Int) : m.er.swap i u o z = (m.swap i u o z).er := rfl
theorem er_shift (s f t : Int) : m.er.shift s f t = (m.shift s f t).er := rfl
theorem er_point (c : Cll) (z : Int) : m.er.point i c z = (m.point i c z).er := rfl
theorem er_thread : m.er.thread = m.thread := rfl
theorem er_now : m.er.now = m.now := rfl
theorem er_answer (s : Sea) (k v : Int) : m.er.answer t s.er k v = (m.answer t s k v).er := by
  simp only [Mch.answer,Mch.er,List.map_set];rfl
theorem er_prep (now : Int) (s : Sea) : m.er.prep t i now s.er = (m.prep t i now s).er := by
  simp only [Mch.prep,Mch.er,List.map_set];rfl
theorem er_push (p : Psh) : pushStep a m.er p = er3 (pushStep a m p) := by
  simp only [pushStep,er_word,er_load,er_store,er_swap,er_shift,er_thread,er3_ite];rfl
theorem er_give (p : Psh) : giveReady a m.er p = er3 (giveReady a m p) := by
  simp only [giveReady,er_shift,er_thread,er3_ite];rfl
def er5 {α β γ : Type} (r : Bool × α × β × γ × Mch) : Bool × α × β × γ × Mch := (r.1,r.2.1,r.2.2.1,r.2.2.2.1,r.2.2.2.2.er)
theorem er5_ite {α β γ : Type} {p : Prop} [Decidable p] (x y : Bool × α × β × γ × Mch) : er5 (if p then x else y) = if p then er5 x else er5 y := by split <;> rfl
theorem er_free (th : Int) : ∀ (l : List Int) (g : Option Psh) (a : Are) (m : Mch),freeLoop th l g a m.er = er5 (freeLoop th l g a m)
  | [],g,a,m => rfl
  | s :: r,g,a,m => by
    unfold freeLoop
    rw [er_give,er5_ite]
    simp only [er3]
    rw [er_free th r]
    rfl
theorem er_takeReady (k : Tak) : takeReady a m.er k = er3 (takeReady a m k) := by
  simp only [takeReady,takeGot,er_shift,er_thread,er3_ite];rfl
theorem er_take (k : Tak) : takeStep a m.er k = er3 (takeStep a m k) := by
  simp only [takeStep,takeGot,er_word,er_load,er_swap,er_shift,er_thread,er3_ite];rfl
theorem er_try (s : Scn) : scanTry h m.er s = er2 (scanTry h m s) := by
  simp only [scanTry,er_word,er_load,er2_ite];rfl
theorem er_stake (s : Scn) : scanTake h m.er s = er3 (scanTake h m s) := by
  simp only [scanTake,er_word,er_swap,er3_ite];rfl
theorem er_look (s : Scn) : scanLook h a m.er s = er4 (scanLook h a m s) := by
  have e1 : (scanLook1 h m.er s).1 = (scanLook1 h m s).1.er := rfl
  have e2 : (scanLook1 h m.er s).2 = (scanLook1 h m s).2 := rfl
  unfold scanLook
  rw [e1,e2]
  dsimp only
  rw [er_free,er4_ite]
  rfl
theorem er_sgive (s : Scn) (p : Psh) : scanGive h a m.er s p = er3 (scanGive h a m s p) := by
  simp only [scanGive,er_push,er3_ite]
  simp only [er3,er_free];rfl
theorem er_scan (s : Scn) : scanStep h a m.er s = er4 (scanStep h a m s) := by
  unfold scanStep
  simp only [er4_ite]
  congr 1
  · rw [er_try];rfl
  congr 1
  · rw [er_stake];rfl
  congr 1
  congr 1
  · exact er_look ..
  · split
    · rw [er_sgive];rfl
    · rfl
theorem er_retire (r : Ret) : retireReady h a m.er r = er4 (retireReady h a m r) := by
  simp only [retireReady,er_shift,er_thread,er4_ite];rfl
theorem er_reg (s : Sea) (r : Reg) : regStep h m.er t s.er r = er3 (regStep h m t s r) := by
  simp only [regStep,regNext,er_word,er_load,er_swap,er_answer,er3_ite];rfl
theorem er_flush (p : Psh) : flushStep a m.er p = er3 (flushStep a m p) := by
  simp only [flushStep,er_push,er3_ite];rfl
theorem er_unr (u : Unr) : unregStep h a m.er u = er4 (unregStep h a m u) := by
  unfold unregStep
  simp only [er_word,er_store,er4_ite]
  congr 1
  congr 1
  · split
    · rfl
    · simp only [er_scan,er4_ite];rfl
  congr 1
  split
  · rfl
  · simp only [er_flush];rfl
theorem er_read (c : Cll) (s : Sea) (r : Rdg) : readStep h m.er i t c s.er r = er2 (readStep h m i t c s r) := by
  simp only [readStep,readSaw,er_word,er_load,er_store,er_point,er_now,er_answer,er2_ite];rfl
theorem er_took (c : Cll) (s : Sea) (p : Pst) (k : Tak) : postTook m.er i t c s.er p k = er2 (postTook m i t c s p k) := by
  simp only [postTook,er_point,er_now,er_answer,er2_ite];rfl
theorem er_postReady (c : Cll) (s : Sea) (p : Pst) : postReady a m.er i t c s.er p = er3 (postReady a m i t c s p) := by
  simp only [postReady,er_takeReady,er3_ite]
  simp only [er3,er_took];rfl
theorem er_post (c : Cll) (s : Sea) (p : Pst) : postStep h a m.er i t c s.er p = er4 (postStep h a m i t c s p) := by
  unfold postStep
  split
  · rfl
  · simp only [er4_ite,er_take,er_word]
    congr 1
    · simp only [er3,er_took];rfl
    congr 1
    congr 1
    congr 1
    · congr 1
      simp only [er_swap,postDone,er_point,er_answer,er_now,er_shift,er_thread,er_retire,er4_ite];rfl
    · split
      · rfl
      · split
        · rfl
        · rw [er_scan];rfl
theorem er_rdy (s : Haz × Are) (c : Cll) (se : Sea) (k : HTask) : htReady s m.er i t c se.er k = er3 (htReady s m i t c se k) := by
  cases k <;> first | rfl | (simp only [htReady,er_postReady];rfl)
theorem er_stp (s : Haz × Are) (c : Cll) (se : Sea) (k : HTask) : htStep s m.er i t c se.er k = er3 (htStep s m i t c se k) := by
  cases k <;> first | rfl | (simp only [htStep,er_reg,er_unr,er_read,er_post,er_scan];rfl)
abbrev nT : Tasks (Haz × Are) HTask := ⟨fun _ => emp,fun _ _ => emp,htReady,htStep,fun _ _ _ _ => True,fun _ _ _ _ => True⟩
theorem er_stepReady {bh ba : Nat} {CX : SProp} (s : Haz × Are) (c : Cll) (se : Sea) (k : HTask) (now : Int) : stepReady nT s m.er i t c se.er k now = er3 (stepReady (hzT bh ba CX) s m i t c se k now) := by
  unfold stepReady
  rw [er3_ite]
  congr 1
  · rw [er_prep];exact er_rdy _ i t s c { se with ready := true } k
  · rw [er_prep];rfl
theorem er_getC : getC m.er i = getC m i := rfl
theorem er_getS : getS m.er t = (getS m t).er := by
  simp only [getS,Mch.er,List.getD_eq_getElem?_getD,List.getElem?_map]
  cases m.seats[t]? <;> rfl
theorem er_stepMore {bh ba : Nat} {CX : SProp} (r : Bool × (Haz × Are) × Mch × HTask) : stepMore nT i t (er3 r) = er3 (stepMore (hzT bh ba CX) i t r) := by
  unfold stepMore
  rw [er3_ite]
  congr 1
  simp only [er3,er_getC,er_getS]
  exact er_stp _ i t _ _ _ _
theorem er_end (c : Cll) (s : Sea) (now : Int) (b : Bool) : stepEnd m.er t i now c s.er b = (stepEnd m t i now c s b).er := by
  unfold stepEnd
  split
  · simp only [Mch.er,List.map_set];rfl
  · rfl
def Wst.er (y : HW) : HW := { y with m := y.m.er }
def moveE (y : HW) (mv : Mv) : HW :=
  if mv.thread < 0 ∨ (y.tasks.length : Int) ≤ mv.thread then y.tick
  else match y.tasks.getD mv.thread.toNat none with
    | none =>
      if mv.op < 20 ∨ 25 < mv.op then y.tick
      else match kitTask y.s mv.thread.toNat mv with
        | none => y.tick
        | some k => ⟨y.s,machBegin y.m mv.thread.toNat mv .nilIface .nilIface,y.tasks.set mv.thread.toNat (some k)⟩
    | some k =>
      if mv.op ≠ 0 then y.tick
      else
        let se := getS y.m mv.thread.toNat
        let r := machStep nT y.s y.tick.m se.last.toNat mv.thread.toNat (getC y.m se.last.toNat) se k y.m.moves
        ⟨r.1,r.2.1,y.tasks.set mv.thread.toNat r.2.2⟩
def didE (y : HW) (mv : Mv) : Bool :=
  if mv.thread < 0 ∨ (y.tasks.length : Int) ≤ mv.thread then false
  else match y.tasks.getD mv.thread.toNat none with
    | none => if mv.op < 20 ∨ 25 < mv.op then false else (kitTask y.s mv.thread.toNat mv).isSome
    | some _ => mv.op = 0
theorem kitFn_none {x : Caps} {op : Int} : kitFn x op = none ↔ op < 20 ∨ 25 < op := by
  unfold kitFn
  constructor
  · intro h
    repeat (split at h;· cases h)
    omega
  · intro h
    rw [if_neg (by omega),if_neg (by omega),if_neg (by omega),if_neg (by omega),if_neg (by omega),if_neg (by omega)]
theorem moveE_of {y y' : HW} {mv : Mv} {b : Bool} {bh ba : Nat} {CX : SProp} {x : Caps} (h : MoveTo (hzT bh ba CX) (kitFn x) kitTask y mv b y') : y'.er = moveE y.er mv ∧ b = didE y.er mv := by
  cases h with
  | out h => unfold moveE didE;rw [if_pos (by exact h),if_pos (by exact h)];exact ⟨rfl,rfl⟩
  | idle t ht hop hk =>
    have hl := (List.getElem?_eq_some_iff.1 hk).1
    have e : y.er.tasks.getD mv.thread.toNat none = none := by rw [ht,Int.toNat_natCast,List.getD_eq_getElem?_getD];show (y.tasks[t]?).getD none = none;rw [hk];rfl
    unfold moveE didE
    have hn : ¬ (mv.thread < 0 ∨ (y.er.tasks.length : Int) ≤ mv.thread) := by show ¬ (mv.thread < 0 ∨ (y.tasks.length : Int) ≤ mv.thread);omega
    rw [if_neg hn,if_neg hn,e]
    simp only []
    rw [if_pos (by omega),if_pos (by omega)]
    exact ⟨rfl,rfl⟩
  | busy t k ht hop hk =>
    have hl := (List.getElem?_eq_some_iff.1 hk).1
    have e : y.er.tasks.getD mv.thread.toNat none = some k := by rw [ht,Int.toNat_natCast,List.getD_eq_getElem?_getD];show (y.tasks[t]?).getD none = some k;rw [hk];rfl
    unfold moveE didE
    have hn : ¬ (mv.thread < 0 ∨ (y.er.tasks.length : Int) ≤ mv.thread) := by show ¬ (mv.thread < 0 ∨ (y.tasks.length : Int) ≤ mv.thread);omega
    rw [if_neg hn,if_neg hn,e]
    simp only []
    rw [if_pos hop]
    exact ⟨rfl,by simp [hop]⟩
  | nokit t ht hop hk hK =>
    have hl := (List.getElem?_eq_some_iff.1 hk).1
    have e : y.er.tasks.getD mv.thread.toNat none = none := by rw [ht,Int.toNat_natCast,List.getD_eq_getElem?_getD];show (y.tasks[t]?).getD none = none;rw [hk];rfl
    unfold moveE didE
    have hn : ¬ (mv.thread < 0 ∨ (y.er.tasks.length : Int) ≤ mv.thread) := by show ¬ (mv.thread < 0 ∨ (y.tasks.length : Int) ≤ mv.thread);omega
    rw [if_neg hn,if_neg hn,e]
    simp only []
    rw [if_pos (kitFn_none.1 hK),if_pos (kitFn_none.1 hK)]
    exact ⟨rfl,rfl⟩
  | refused t ht hop hk hK hm =>
    have hl := (List.getElem?_eq_some_iff.1 hk).1
    have e : y.er.tasks.getD mv.thread.toNat none = none := by rw [ht,Int.toNat_natCast,List.getD_eq_getElem?_getD];show (y.tasks[t]?).getD none = none;rw [hk];rfl
    unfold moveE didE
    have hn : ¬ (mv.thread < 0 ∨ (y.er.tasks.length : Int) ≤ mv.thread) := by show ¬ (mv.thread < 0 ∨ (y.tasks.length : Int) ≤ mv.thread);omega
    have hm2 : kitTask y.er.s mv.thread.toNat mv = none := by rw [ht,Int.toNat_natCast];exact hm
    rw [if_neg hn,if_neg hn,e]
    simp only []
    rw [if_neg (fun h => hK (kitFn_none.2 h)),if_neg (fun h => hK (kitFn_none.2 h)),hm2]
    exact ⟨rfl,rfl⟩
  | begin_ t k v vc ht hop hk hK hm =>
    have hl := (List.getElem?_eq_some_iff.1 hk).1
    have e : y.er.tasks.getD mv.thread.toNat none = none := by rw [ht,Int.toNat_natCast,List.getD_eq_getElem?_getD];show (y.tasks[t]?).getD none = none;rw [hk];rfl
    unfold moveE didE
    have hn : ¬ (mv.thread < 0 ∨ (y.er.tasks.length : Int) ≤ mv.thread) := by show ¬ (mv.thread < 0 ∨ (y.tasks.length : Int) ≤ mv.thread);omega
    have hm2 : kitTask y.er.s mv.thread.toNat mv = some k := by rw [ht,Int.toNat_natCast];exact hm
    rw [if_neg hn,if_neg hn,e]
    simp only []
    rw [if_neg (fun h => hK (kitFn_none.2 h)),if_neg (fun h => hK (kitFn_none.2 h)),hm2]
    refine ⟨?_,rfl⟩
    rw [ht,Int.toNat_natCast]
    simp only [Wst.er,machBegin,Mch.er,List.map_set]
    rfl
  | step t i c se k ht hop hk hse hl hc =>
    have hlt := (List.getElem?_eq_some_iff.1 hk).1
    have e : y.er.tasks.getD mv.thread.toNat none = some k := by rw [ht,Int.toNat_natCast,List.getD_eq_getElem?_getD];show (y.tasks[t]?).getD none = some k;rw [hk];rfl
    unfold moveE didE
    have hn : ¬ (mv.thread < 0 ∨ (y.er.tasks.length : Int) ≤ mv.thread) := by show ¬ (mv.thread < 0 ∨ (y.tasks.length : Int) ≤ mv.thread);omega
    rw [if_neg hn,if_neg hn,e]
    simp only []
    rw [if_neg (by simpa using hop)]
    refine ⟨?_,by simp [hop]⟩
    have e1 : getS y.er.m mv.thread.toNat = se.er := by
      rw [ht,Int.toNat_natCast]
      show getS y.m.er t = _
      rw [er_getS]
      simp [getS,List.getD_eq_getElem?_getD,hse]
    have e2 : getC y.er.m se.er.last.toNat = c := by
      show getC y.m.er se.last.toNat = c
      rw [hl,Int.toNat_natCast,er_getC]
      simp [getC,List.getD_eq_getElem?_getD,hc]
    have e3 : se.er.last.toNat = i := by show se.last.toNat = i;omega
    rw [e1,e2,e3,ht,Int.toNat_natCast]
    have e4 : machStep nT y.er.s y.er.tick.m i t c se.er k y.er.m.moves = ((machStep (hzT bh ba CX) y.s y.tick.m i t c se k y.m.moves).1,(machStep (hzT bh ba CX) y.s y.tick.m i t c se k y.m.moves).2.1.er,(machStep (hzT bh ba CX) y.s y.tick.m i t c se k y.m.moves).2.2) := by
      have h1 := er_stepReady (bh := bh) (ba := ba) (CX := CX) y.tick.m i t y.s c se k y.m.moves
      have h2 := er_stepMore (bh := bh) (ba := ba) (CX := CX) i t (stepReady (hzT bh ba CX) y.s y.tick.m i t c se k y.m.moves)
      rw [← h1] at h2
      unfold machStep
      simp only []
      have h3 : stepMore nT i t (stepReady nT y.er.s y.er.tick.m i t c se.er k y.er.m.moves) = er3 (stepMore (hzT bh ba CX) i t (stepReady (hzT bh ba CX) y.s y.tick.m i t c se k y.m.moves)) := h2
      rw [h3]
      simp only [er3,er_getC,er_getS,er_end];rfl
    simp only [e4]
    rfl
end Go.Proofs.YtegafhhdegnigaaGreat
end
/-
  What the examples' script computes.
-/
section
namespace Go.Proofs.YtegafhhdegnigaaGreat
open Go.RowKit Hp
set_option maxRecDepth 100000
set_option maxHeartbeats 1000000
attribute [local irreducible] Go.Calls
def e0 (c : Cfg) : HW := (wst0 c 0 .nilIface).er
def runE (c : Cfg) (mvs : List Mv) : HW := mvs.foldl moveE (e0 c)
def smallC : Cfg := ⟨2,2,3,1,0,3,1⟩
abbrev stepsM (t : Int) (n : Nat) : List Mv := List.replicate n ⟨t,0,0,0⟩
def awM : List Mv := ((((([⟨0,20,0,0⟩] ++ stepsM 0 2) ++ [⟨0,22,5,0⟩] ++ stepsM 0 6) ++ [⟨1,20,0,0⟩] ++ stepsM 1 3) ++ [⟨1,23,0,0⟩] ++ stepsM 1 4) ++ [⟨0,22,6,0⟩] ++ stepsM 0 13)
def awOk (y : HW) : Bool := decide (y.m.calls.length = 5) && decide (y.m.shifts.length = 6) && decide (y.m.mem.log.length = 28) &&
  (match y.m.calls[3]? with | some c => decide (c.kind = 2) && decide (c.value = 5) | none => false) &&
  (match y.m.calls[4]? with | some c => decide (c.end_ = 32) | none => false) &&
  (match y.m.shifts[5]? with | some s => decide (s.to = 5) && decide (s.slot = 0) | none => false)
theorem PI.er {c : Cfg} {n : Nat} {y : HW} (P : PI c n y) : PI c n y.er := by
  obtain ⟨p1,p2,p3,p4,p5,p6,p7⟩ := P
  refine ⟨p1,p2,p3.of rfl rfl rfl rfl,p4,by simp only [Wst.er,Mch.er,List.length_map];exact p5,p6,?_⟩
  intro t k se hk hse
  simp only [Wst.er,Mch.er,List.getElem?_map] at hk hse
  cases hs : y.m.seats[t]? with
  | none => rw [hs] at hse;simp at hse
  | some s =>
    rw [hs] at hse
    simp at hse
    subst hse
    exact p7 t k s hk hs
def RunE (c : Cfg) (mvs : List Mv) (u : Value) : SProp := ex fun v => pu (u = .tuple #[v,.int .i64 0]) * RunR (runE c mvs).m.calls (runE c mvs).m.mem.log (runE c mvs).m.shifts (runE c mvs).m.mem.words v
theorem runE_take {c : Cfg} {mvs : List Mv} {k : Nat} {mv : Mv} (h : mvs[k]? = some mv) : runE c (mvs.take (k + 1)) = moveE (runE c (mvs.take k)) mv := by
  have e : mvs.take (k + 1) = mvs.take k ++ [mv] := by
    rw [List.take_add_one,h];rfl
  rw [e]
  simp only [runE,List.foldl_append,List.foldl_cons,List.foldl_nil]
theorem haz_play_runR (c : Cfg) (h : c.Ok) (v : Value) (mvs : List Mv) (hl : mvs.length ≤ 65536) (A : SProp) (hRd : Rd A 4 (mvs.map Mv.e) v) :
    Does Tryz.prog 15 #[c.v,v] A (fun u => RunE c mvs u * A) := by
  intro O w F hs
  have hT := h.T2
  have hT1 := h.T1
  refine (haz_playR c h v mvs hl (fun k y => PI c k y ∧ y.er = runE c (mvs.take k)) (by omega) (fun km vs => ⟨PI.start h km vs,?_⟩) ?_ ?_ ?_ A hRd O w F hs).mono ?_
  · simp only [List.take_zero]
    show _ = e0 c
    simp only [e0,Wst.er,wst0,Mch.er,mch0]
  · intro bh ba x k y mv hmv hJ
    have := (List.getElem?_eq_some_iff.1 hmv).1
    exact hJ.1.may (by omega) mv
  · intro bh ba x k y mv b y' hmv hJ hm
    have := (List.getElem?_eq_some_iff.1 hmv).1
    exact ⟨hJ.1.move (by omega) hm,by rw [runE_take hmv,← hJ.2];exact (moveE_of hm).1⟩
  · intro y hJ
    obtain ⟨p1,p2,p3,p4,p5,p6,p7⟩ := hJ.1
    have := p3.log
    have := p3.shifts
    have := p3.words
    have := base14_le h
    omega
  · rintro e w' ⟨u,rfl,hs'⟩
    refine ⟨u,rfl,?_⟩
    unfold playR at hs'
    unfold RunE
    simp only [sat_ex,mul_assoc',sat_pu] at hs' ⊢
    obtain ⟨y,v',⟨⟨hP,hE⟩,hu⟩,hs'⟩ := hs'
    rw [List.take_length] at hE
    refine ⟨v',hu,?_⟩
    rw [← hE]
    exact hs'
theorem haz_play_run (c : Cfg) (h : c.Ok) (v : Value) (mvs : List Mv) (hl : mvs.length ≤ 65536) :
    Does Tryz.prog 15 #[c.v,v] (sl 86 4 (mvs.map Mv.e) v) (fun u => RunE c mvs u * sl 86 4 (mvs.map Mv.e) v) :=
  does_sl fun A hA => haz_play_runR c h v mvs hl A hA
theorem aw_ok : awOk (runE smallC awM) = true := by kernel_rfl
end Go.Proofs.YtegafhhdegnigaaGreat
end
/-
  The examples end as the document tells.
-/
section
namespace Go.Proofs.YtegafhhdegnigaaGreat
open Go.RowKit Hp
set_option maxRecDepth 100000
set_option maxHeartbeats 1000000
attribute [local irreducible] Go.Calls
theorem law_small : Gives Tryz.prog 68 #[] emp smallC.v emp := by
  intro O w F hs
  go_enter Tryz.func68,Tryz.ntmps68
  go_wp2_with (first | ((with_reducible apply wl_stF hs);infer_instance;rfl;rfl;(with_reducible exact Qh);rfl;rfl;rfl;rfl;clear hs;intro w hs) | ((with_reducible apply wl_alloc hs);infer_instance;rfl;clear hs;intro w b hs;(simp only [Uc,Uz])))
  ((try simp only [Exit.inBlock,Exit.then]);(with_reducible apply bodyPost_ret);((with_reducible apply results_c);rfl;rfl;(with_reducible apply loadF hs);infer_instance;(with_reducible exact Qh);rfl;rfl))
  exact ⟨rfl,by ((with_reducible apply Sat.fin hs);(focus with_reducible (repeat first | exact Ql | exact Qn | apply Qb | apply Qk);done))⟩
theorem law_steps (v : Value) (ms : List Mv) (t : Int) (n : Nat) (hn : n ≤ 65536) (hl : ms.length ≤ 1000000) :
    Does Tryz.prog 32 #[v,.int .i64 t,.int .i64 (n : Int)] (sl 86 4 (ms.map Mv.e) v) (fun u => sl 86 4 ((ms ++ stepsM t n).map Mv.e) u) := by
  intro O w F hs
  go_enter Tryz.func32,Tryz.ntmps32
  go_wp2_with (fail)
  go_loopw [0,7] (fun u q wr => ∃ k : Nat,k ≤ n ∧ q = .int .i64 (k : Int) ∧ Sat O wr (sl 86 4 ((ms ++ stepsM t k).map Mv.e) u * F)) (fun _ q _ => 65537 - (intOf q).toNat)
  case atStart => exact ⟨0,by omega,rfl,by simp only [stepsM,List.replicate_zero,List.append_nil];exact hs⟩
  case round =>
    obtain ⟨k,k1,rfl,hs⟩ := hrel
    by_cases hkr : k = n
    · subst hkr
      have hlt : decide ((k : Int) < (k : Int)) = false := by simp
      go_wp2_with (fail)
      (go_ret)
      exact ⟨_,rfl,by ((with_reducible apply Sat.fin hs);(focus ((repeat (first | with_reducible exact Ql | with_reducible apply Qb | exact Qh));done)))⟩
    · have hlt : decide ((k : Int) < (n : Int)) = true := by simp;omega
      have hlt2 : decide (k < n) = true := by simp;omega
      go_wp2_with (first | ((with_reducible apply wl_bs hs);infer_instance;infer_instance;rfl;rfl;rfl;rfl;(exact Vb rfl);rfl;clear hs;intro w v hs;(simp only [Uc,Uz])) | ((with_reducible apply wl_app hs);infer_instance;infer_instance;rfl;rfl;(focus with_reducible (repeat first | exact Qh | apply Qk);done);(with_reducible exact Qh);(simp only [Wm,Ws,Wa,Wc,Wn,Wr] at *;omega);(exact Vb rfl);rfl;clear hs;intro w v hs;(simp only [Uc,Uz])))
      have e : (ms ++ stepsM t (k + 1)).map Mv.e = (ms ++ stepsM t k).map Mv.e ++ [[.int .i64 t,.int .i64 0,.int .i64 0,.int .i64 0]] := by
        simp only [stepsM,List.replicate_succ',List.map_append,List.map_cons,List.map_nil,List.append_assoc]
      go_roundw
      case rel => exact ⟨k + 1,by omega,by simp,by rw [e];((with_reducible apply Sat.fin hs);(focus with_reducible (repeat first | exact Ql | exact Qh | apply Qb | apply Qk);done))⟩
      case measure => simp [intOf];omega
end Go.Proofs.YtegafhhdegnigaaGreat
end
/-
  The examples end as the document tells: the walk.
-/
section
namespace Go.Proofs.YtegafhhdegnigaaGreat
open Go.RowKit Hp
set_option maxRecDepth 100000
set_option maxHeartbeats 1000000
attribute [local irreducible] Go.Calls
theorem smallOk : smallC.Ok := by constructor <;> decide
theorem aw_facts {y : HW} (h : awOk y = true) : y.m.calls.length = 5 ∧ y.m.shifts.length = 6 ∧ y.m.mem.log.length = 28 ∧
    (∃ a1 a2 a3 a4 a5 a6 a7,y.m.calls[3]? = some ⟨a1,a2,a3,a4,a5,a6,a7,2,5⟩) ∧ (∃ b1 b2 b3 b4 b5 b7 b8 b9,y.m.calls[4]? = some ⟨b1,b2,b3,b4,b5,32,b7,b8,b9⟩) ∧
    ∃ d1 d2 d4,y.m.shifts[5]? = some ⟨d1,d2,0,d4,5⟩ := by
  unfold awOk at h
  simp only [Bool.and_eq_true,decide_eq_true_eq] at h
  obtain ⟨⟨⟨⟨⟨h1,h2⟩,h3⟩,h4⟩,h5⟩,h6⟩ := h
  refine ⟨h1,h2,h3,?_,?_,?_⟩
  · split at h4
    · rename_i c hc
      obtain ⟨a1,a2,a3,a4,a5,a6,a7,a8,a9⟩ := c
      simp only [Bool.and_eq_true,decide_eq_true_eq] at h4
      obtain ⟨rfl,rfl⟩ := h4
      exact ⟨_,_,_,_,_,_,_,hc⟩
    · cases h4
  · split at h5
    · rename_i c hc
      obtain ⟨a1,a2,a3,a4,a5,a6,a7,a8,a9⟩ := c
      simp only [decide_eq_true_eq] at h5
      subst h5
      exact ⟨_,_,_,_,_,_,_,_,hc⟩
    · cases h5
  · split at h6
    · rename_i c hc
      obtain ⟨a1,a2,a3,a4,a5⟩ := c
      simp only [Bool.and_eq_true,decide_eq_true_eq] at h6
      obtain ⟨rfl,rfl⟩ := h6
      exact ⟨_,_,_,hc⟩
    · cases h6
abbrev aw1 : List Mv := [⟨0,20,0,0⟩]
abbrev aw2 : List Mv := (aw1 ++ stepsM 0 2) ++ [⟨0,22,5,0⟩]
abbrev aw3 : List Mv := (aw2 ++ stepsM 0 6) ++ [⟨1,20,0,0⟩]
abbrev aw4 : List Mv := (aw3 ++ stepsM 1 3) ++ [⟨1,23,0,0⟩]
abbrev aw5 : List Mv := (aw4 ++ stepsM 1 4) ++ [⟨0,22,6,0⟩]
set_option maxHeartbeats 4000000 in
theorem law_awake : Gives Tryz.prog 19 #[] emp (.bool true) emp := by
  intro O w F hs
  have hS := Lib.hid law_small
  have h1 := Lib.hid (fun v => law_steps v aw1 0 2 (by omega) (by decide))
  have h2 := Lib.hid (fun v => law_steps v aw2 0 6 (by omega) (by decide))
  have h3 := Lib.hid (fun v => law_steps v aw3 1 3 (by omega) (by decide))
  have h4 := Lib.hid (fun v => law_steps v aw4 1 4 (by omega) (by decide))
  have h5 := Lib.hid (fun v => law_steps v aw5 0 13 (by omega) (by decide))
  have hP := Lib.hid (fun v => haz_play_run smallC smallOk v (aw5 ++ stepsM 0 13) (by decide))
  obtain ⟨l1,l2,l3,⟨a1,a2,a3,a4,a5,a6,a7,g3⟩,⟨b1,b2,b3,b4,b5,b7,b8,b9,g4⟩,d1,d2,d4,g5⟩ := aw_facts (show awOk (runE smallC (aw5 ++ stepsM 0 13)) = true from aw_ok)
  generalize hyy : runE smallC (aw5 ++ stepsM 0 13) = y at l1 l2 l3 g3 g4 g5
  have hyy := Lib.hid hyy
  have lM : (List.map Mv.e (aw5 ++ stepsM 0 13)).length = 33 := rfl
  have i3 : 3 < (y.m.calls.map Cll.e).length := by simp [l1]
  have i4 : 4 < (y.m.calls.map Cll.e).length := by simp [l1]
  have i5 : 5 < (y.m.shifts.map Shf.e).length := by simp [l2]
  go_enter Tryz.func19,Tryz.ntmps19
  go_wp2_with (first | (first | ((with_reducible apply wl_ld hs);infer_instance;rfl;(focus with_reducible (repeat first | exact Qh | apply Qk);done);rfl;rfl;(simp only [Uc,Uz])) | ((with_reducible apply wl_stF hs);infer_instance;rfl;rfl;(with_reducible exact Qh);rfl;rfl;rfl;rfl;clear hs;intro w hs) | ((with_reducible apply wl_alloc hs);infer_instance;rfl;clear hs;intro w b hs;(simp only [Uc,Uz])) | ((with_reducible apply wl_ia2 hs);infer_instance;infer_instance;rfl;assumption;rfl;(focus with_reducible (repeat first | exact Qh | apply Qk);done);(rfl);(assumption);rfl;(simp only [Uc,Uz])) | ((with_reducible apply wl_ia hs);infer_instance;infer_instance;rfl;rfl;(focus with_reducible (repeat first | exact Qh | apply Qk);done);(rfl);(assumption);rfl;intro b off hat;(simp only [Uc,Uz])) | ((with_reducible apply wl_len hs);infer_instance;rfl;(focus with_reducible (repeat first | exact Qh | apply Qk);done);rfl;(simp only [Uc,Uz])) | ((with_reducible apply wl_bs hs);infer_instance;infer_instance;rfl;rfl;rfl;rfl;(exact Vb rfl);rfl;clear hs;intro w v hs;(simp only [Uc,Uz])) | ((with_reducible apply wl_app hs);infer_instance;infer_instance;rfl;rfl;(focus with_reducible (repeat first | exact Qh | apply Qk);done);(with_reducible exact Qh);(simp only [Wm,Ws,Wa,Wc,Wn,Wr] at *;omega);(exact Vb rfl);rfl;clear hs;intro w v hs;(simp only [Uc,Uz]))) | ((with_reducible apply wl_ldN hs);infer_instance;rfl;(focus with_reducible (repeat first | exact Qh | apply Qk);done);(simp only [List.size_toArray,List.length_cons,List.length_nil];omega);rfl;rfl;(simp only [Uc,Uz])) | ((with_reducible apply wl_ldSN (i := 3) (k := 0) (c' := [.int .i64 a1,.int .i64 a2,.int .i64 a3,.int .i64 a4,.int .i64 a5,.int .i64 a6,.int .i64 a7,.int .i64 2,.int .i64 5]) hs);infer_instance;rfl;assumption;(focus with_reducible (repeat first | exact Qh | apply Qk);done);rfl;(exact map_get (by assumption));(exact Vb rfl);rfl;rfl;(simp only [Uc,Uz])) | ((with_reducible apply wl_ldS (i := 4) (k := 5) hs);infer_instance;rfl;assumption;(focus with_reducible (repeat first | exact Qh | apply Qk);done);rfl;(exact map_get (by assumption));rfl;rfl;(simp only [Uc,Uz])) | ((with_reducible apply wl_ldS (i := 5) (k := 4) hs);infer_instance;rfl;assumption;(focus with_reducible (repeat first | exact Qh | apply Qk);done);rfl;(exact map_get (by assumption));rfl;rfl;(simp only [Uc,Uz])) | ((with_reducible apply wl_ldS (i := 5) (k := 2) hs);infer_instance;rfl;assumption;(focus with_reducible (repeat first | exact Qh | apply Qk);done);rfl;(exact map_get (by assumption));rfl;rfl;(simp only [Uc,Uz])) | (go_at_call 68;((refine (hS.out).at hs (by (focus ((repeat (with_reducible exact Qn));done))) ?_);clear hs;intro w hs;(try simp only [emp_mul,mul_assoc'] at hs))) | (go_at_call 32;((refine ((h1.out _)).at hs (by (focus ((repeat (first | exact Qh | with_reducible apply Qk));done))) ?_);clear hs;intro v w hs;(try simp only [emp_mul,mul_assoc'] at hs))) | (go_at_call 32;((refine ((h2.out _)).at hs (by (focus ((repeat (first | exact Qh | with_reducible apply Qk));done))) ?_);clear hs;intro v w hs;(try simp only [emp_mul,mul_assoc'] at hs))) | (go_at_call 32;((refine ((h3.out _)).at hs (by (focus ((repeat (first | exact Qh | with_reducible apply Qk));done))) ?_);clear hs;intro v w hs;(try simp only [emp_mul,mul_assoc'] at hs))) | (go_at_call 32;((refine ((h4.out _)).at hs (by (focus ((repeat (first | exact Qh | with_reducible apply Qk));done))) ?_);clear hs;intro v w hs;(try simp only [emp_mul,mul_assoc'] at hs))) | (go_at_call 32;((refine ((h5.out _)).at hs (by (focus ((repeat (exact Qh));done))) ?_);clear hs;intro v w hs;(try simp only [emp_mul,mul_assoc'] at hs))) | (go_at_call 15;((refine ((hP.out _)).at hs (by (with_reducible exact Qh)) ?_);clear hs;intro v w hs;(try simp only [emp_mul,mul_assoc'] at hs));(unfold RunE RunR at hs);(simp only [sat_ex,mul_assoc',sat_pu,hyy.out] at hs);(obtain ⟨vr,rfl,vc,vt,vs,vw,rfl,hs⟩ := hs);(obtain ⟨_,_,rfl⟩ := sl_len (hs.pull (A := sl 50 9 _ vc) (by (with_reducible exact Qh))));(obtain ⟨_,_,rfl⟩ := sl_len (hs.pull (A := sl 138 7 _ vt) (by (focus with_reducible (repeat first | exact Qh | apply Qk);done))));(obtain ⟨_,_,rfl⟩ := sl_len (hs.pull (A := sl 127 5 _ vs) (by (focus with_reducible (repeat first | exact Qh | apply Qk);done))));(obtain ⟨_,_,rfl⟩ := sl_len (hs.pull (A := sl 57 1 _ vw) (by (focus with_reducible (repeat first | exact Qh | apply Qk);done))));(obtain ⟨_,_,rfl⟩ := sl_len (hs.pull (A := sl 86 4 _ v) (by (focus with_reducible (repeat first | exact Qh | apply Qk);done))));(simp only [List.length_map,l1,l2,l3,lM] at hs ⊢)))
  (go_ret)
  exact ⟨rfl,by ((with_reducible apply Sat.fin hs);(focus with_reducible (repeat first | exact Ql | exact Qn | apply Qb | apply Qk);done))⟩
end Go.Proofs.YtegafhhdegnigaaGreat
end
