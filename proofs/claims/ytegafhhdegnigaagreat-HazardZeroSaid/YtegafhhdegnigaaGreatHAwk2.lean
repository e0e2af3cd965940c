/-
  What the examples' script computes.
-/
import Derived.Test.YtegafhhdegnigaaGreatHEra
import Derived.KernelRfl
set_option linter.all false
section
namespace Go.Proofs.YtegafhhdegnigaaGreat
open Go.RowKit Hp
set_option maxRecDepth 100000
set_option maxHeartbeats 1000000
attribute [local irreducible] Go.Calls

def e0 (c : Cfg) : HW := (wst0 c 0 .nilIface).er
def runE (c : Cfg) (mvs : List Mv) : HW := mvs.foldl moveE (e0 c)
def smallC : Cfg := ⟨2, 2, 3, 1, 0, 3, 1⟩
abbrev stepsM (t : Int) (n : Nat) : List Mv := List.replicate n ⟨t, 0, 0, 0⟩
def awM : List Mv := ((((([⟨0, 20, 0, 0⟩] ++ stepsM 0 2) ++ [⟨0, 22, 5, 0⟩] ++ stepsM 0 6) ++ [⟨1, 20, 0, 0⟩] ++ stepsM 1 3) ++ [⟨1, 23, 0, 0⟩] ++ stepsM 1 4) ++ [⟨0, 22, 6, 0⟩] ++ stepsM 0 13)

def awOk (y : HW) : Bool := decide (y.m.calls.length = 5) && decide (y.m.shifts.length = 6) && decide (y.m.mem.log.length = 28) &&
  (match y.m.calls[3]? with | some c => decide (c.kind = 2) && decide (c.value = 5) | none => false) &&
  (match y.m.calls[4]? with | some c => decide (c.end_ = 32) | none => false) &&
  (match y.m.shifts[5]? with | some s => decide (s.to = 5) && decide (s.slot = 0) | none => false)
theorem PI.er {c : Cfg} {n : Nat} {y : HW} (P : PI c n y) : PI c n y.er := by
  obtain ⟨p1, p2, p3, p4, p5, p6, p7⟩ := P
  refine ⟨p1, p2, p3.of rfl rfl rfl rfl, p4, by simp only [Wst.er, Mch.er, List.length_map]; exact p5, p6, ?_⟩
  intro t k se hk hse
  simp only [Wst.er, Mch.er, List.getElem?_map] at hk hse
  cases hs : y.m.seats[t]? with
  | none => rw [hs] at hse; simp at hse
  | some s =>
    rw [hs] at hse
    simp at hse
    subst hse
    exact p7 t k s hk hs

/-- what Play leaves -/
def RunE (c : Cfg) (mvs : List Mv) (u : Value) : SProp := ex fun v => pu (u = .tuple #[v, .int .i64 0]) * RunR (runE c mvs).m.calls (runE c mvs).m.mem.log (runE c mvs).m.shifts (runE c mvs).m.mem.words v

theorem runE_take {c : Cfg} {mvs : List Mv} {k : Nat} {mv : Mv} (h : mvs[k]? = some mv) : runE c (mvs.take (k + 1)) = moveE (runE c (mvs.take k)) mv := by
  have e : mvs.take (k + 1) = mvs.take k ++ [mv] := by
    rw [List.take_add_one, h]; rfl
  rw [e]
  simp only [runE, List.foldl_append, List.foldl_cons, List.foldl_nil]

theorem haz_play_run (c : Cfg) (h : c.Ok) (v : Value) (mvs : List Mv) (hl : mvs.length ≤ 65536) :
    Does Tryz.prog 15 #[c.v, v] (sl 86 4 (mvs.map Mv.e) v) (fun u => RunE c mvs u * sl 86 4 (mvs.map Mv.e) v) := by
  intro O w F hs
  have hT := h.T2
  have hT1 := h.T1
  refine (haz_play c h v mvs hl (fun k y => PI c k y ∧ y.er = runE c (mvs.take k)) (by omega) (fun km vs => ⟨PI.start h km vs, ?_⟩) ?_ ?_ ?_ O w F hs).mono ?_
  · simp only [List.take_zero]
    show _ = e0 c
    simp only [e0, Wst.er, wst0, Mch.er, mch0]
  · intro bh ba x k y mv hmv hJ
    have := (List.getElem?_eq_some_iff.1 hmv).1
    exact hJ.1.may (by omega) mv
  · intro bh ba x k y mv b y' hmv hJ hm
    have := (List.getElem?_eq_some_iff.1 hmv).1
    exact ⟨hJ.1.move (by omega) hm, by rw [runE_take hmv, ← hJ.2]; exact (moveE_of hm).1⟩
  · intro y hJ
    obtain ⟨p1, p2, p3, p4, p5, p6, p7⟩ := hJ.1
    have := p3.log
    have := p3.shifts
    have := p3.words
    have := base14_le h
    omega
  · rintro e w' ⟨u, rfl, hs'⟩
    refine ⟨u, rfl, ?_⟩
    unfold playR at hs'
    unfold RunE
    simp only [sat_ex, mul_assoc', sat_pu] at hs' ⊢
    obtain ⟨y, v', ⟨⟨hP, hE⟩, hu⟩, hs'⟩ := hs'
    rw [List.take_length] at hE
    refine ⟨v', hu, ?_⟩
    rw [← hE]
    exact hs'

theorem aw_ok : awOk (runE smallC awM) = true := by kernel_rfl
end Go.Proofs.YtegafhhdegnigaaGreat
end
/-
  The examples end as the document tells.
-/
section
namespace Go.Proofs.YtegafhhdegnigaaGreat
open Go.RowKit Hp
set_option maxRecDepth 100000
set_option maxHeartbeats 1000000
attribute [local irreducible] Go.Calls

theorem law_small : Gives Tryz.prog 68 #[] emp smallC.v emp := by
  intro O w F hs
  go_enter Tryz.func68, Tryz.ntmps68
  go_wp2_with (first | ((with_reducible apply wl_stF hs); infer_instance; rfl; rfl; (with_reducible exact Pull.here _ _); rfl; rfl; rfl; rfl; clear hs; intro w hs) | ((with_reducible apply wl_alloc hs); infer_instance; rfl; clear hs; intro w b hs; (simp only [List.set_cons_succ, List.set_cons_zero])))
  ((try simp only [Exit.inBlock, Exit.then]); (with_reducible apply bodyPost_ret); ((with_reducible apply results_c); rfl; rfl; (with_reducible apply loadF hs); infer_instance; (with_reducible exact Pull.here _ _); rfl; rfl))
  exact ⟨rfl, by ((with_reducible apply Sat.fin hs); (focus ((repeat (first | with_reducible exact Pull.last _ | with_reducible exact Pull.none _ | with_reducible apply Pull.both | with_reducible apply Pull.skip)); done)))⟩

theorem law_steps (v : Value) (ms : List Mv) (t : Int) (n : Nat) (hn : n ≤ 64) (hl : ms.length ≤ 1000000) :
    Does Tryz.prog 32 #[v, .int .i64 t, .int .i64 (n : Int)] (sl 86 4 (ms.map Mv.e) v) (fun u => sl 86 4 ((ms ++ stepsM t n).map Mv.e) u) := by
  intro O w F hs
  go_enter Tryz.func32, Tryz.ntmps32
  go_wp2_with (fail)
  go_loopw [0, 7] (fun u q wr => ∃ k : Nat, k ≤ n ∧ q = .int .i64 (k : Int) ∧ Sat O wr (sl 86 4 ((ms ++ stepsM t k).map Mv.e) u * F)) (fun _ q _ => 65 - (intOf q).toNat)
  case atStart => exact ⟨0, by omega, rfl, by simp only [stepsM, List.replicate_zero, List.append_nil]; exact hs⟩
  case round =>
    obtain ⟨k, k1, rfl, hs⟩ := hrel
    by_cases hkr : k = n
    · subst hkr
      have hlt : decide ((k : Int) < (k : Int)) = false := by simp
      go_wp2_with (fail)
      (go_ret)
      exact ⟨_, rfl, by ((with_reducible apply Sat.fin hs); (focus ((repeat (first | with_reducible exact Pull.last _ | with_reducible apply Pull.both | exact Pull.here _ _)); done)))⟩
    · have hlt : decide ((k : Int) < (n : Int)) = true := by simp; omega
      have hlt2 : decide (k < n) = true := by simp; omega
      go_wp2_with (first | ((with_reducible apply wl_bs hs); infer_instance; infer_instance; rfl; rfl; rfl; rfl; (exact Nat.le_of_ble_eq_true rfl); rfl; clear hs; intro w v hs; (simp only [List.set_cons_succ, List.set_cons_zero])) | ((with_reducible apply wl_app hs); infer_instance; infer_instance; rfl; rfl; (focus ((repeat (first | with_reducible exact Pull.here _ _ | with_reducible apply Pull.skip)); done)); (with_reducible exact Pull.here _ _); (simp only [List.length_map, List.length_set, List.length_append, List.length_cons, List.length_nil, List.length_replicate] at *; omega); (exact Nat.le_of_ble_eq_true rfl); rfl; clear hs; intro w v hs; (simp only [List.set_cons_succ, List.set_cons_zero])))
      have e : (ms ++ stepsM t (k + 1)).map Mv.e = (ms ++ stepsM t k).map Mv.e ++ [[.int .i64 t, .int .i64 0, .int .i64 0, .int .i64 0]] := by
        simp only [stepsM, List.replicate_succ', List.map_append, List.map_cons, List.map_nil, List.append_assoc]
      go_roundw
      case rel => exact ⟨k + 1, by omega, by simp, by rw [e]; ((with_reducible apply Sat.fin hs); (focus ((repeat (first | with_reducible exact Pull.last _ | with_reducible exact Pull.here _ _ | with_reducible apply Pull.both | with_reducible apply Pull.skip)); done)))⟩
      case measure => simp [intOf]; omega
end Go.Proofs.YtegafhhdegnigaaGreat
end
