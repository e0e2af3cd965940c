/-
  Any move of a machine, and a list of moves.
-/
import Derived.Test.YtegafhhdegnigaaGreatHMach3
set_option linter.all false
namespace Go.Proofs.YtegafhhdegnigaaGreat
open Go.RowKit Hp
set_option maxRecDepth 100000
set_option maxHeartbeats 1000000
attribute [local irreducible] Go.Calls

structure Wst (σ τ : Type) where
  s : σ
  m : Mch
  tasks : List (Option τ)
def Wst.tick {σ τ : Type} (x : Wst σ τ) : Wst σ τ := { x with m := { x.m with moves := x.m.moves + 1 } }

section
variable {σ τ : Type} (T : Tasks σ τ) (bx bm : Nat) (K : Int → Option Value) (mkr : σ → Nat → Mv → Option τ)

def WR (x : Wst σ τ) : SProp := MchR bx bm x.m * (mp .i64 K x.m.kit * (T.X x.s * tskR T.R x.tasks x.m.seats))

inductive MoveTo (x : Wst σ τ) (mv : Mv) : Bool → Wst σ τ → Prop where
  | out : (mv.thread < 0 ∨ (x.tasks.length : Int) ≤ mv.thread) → MoveTo x mv false x.tick
  | idle (t : Nat) : mv.thread = (t : Int) → mv.op = 0 → x.tasks[t]? = some none → MoveTo x mv false x.tick
  | busy (t : Nat) (k : τ) : mv.thread = (t : Int) → mv.op ≠ 0 → x.tasks[t]? = some (some k) → MoveTo x mv false x.tick
  | nokit (t : Nat) : mv.thread = (t : Int) → mv.op ≠ 0 → x.tasks[t]? = some none → K mv.op = none → MoveTo x mv false x.tick
  | refused (t : Nat) : mv.thread = (t : Int) → mv.op ≠ 0 → x.tasks[t]? = some none → K mv.op ≠ none → mkr x.s t mv = none → MoveTo x mv false x.tick
  | step (t i : Nat) (c : Cll) (se : Sea) (k : τ) : mv.thread = (t : Int) → mv.op = 0 → x.tasks[t]? = some (some k) → x.m.seats[t]? = some se → se.last = (i : Int) → x.m.calls[i]? = some c →
      MoveTo x mv true ⟨(machStep T x.s x.tick.m i t c se k x.m.moves).1, (machStep T x.s x.tick.m i t c se k x.m.moves).2.1, x.tasks.set t (machStep T x.s x.tick.m i t c se k x.m.moves).2.2⟩
  | begin_ (t : Nat) (k : τ) (v vc : Value) : mv.thread = (t : Int) → mv.op ≠ 0 → x.tasks[t]? = some none → K mv.op ≠ none → mkr x.s t mv = some k → MoveTo x mv true ⟨x.s, machBegin x.m t mv v vc, x.tasks.set t (some k)⟩

structure MayMove (ok : σ → Prop) (n : Nat) (x : Wst σ τ) (mv : Mv) : Prop where
  cur : x.m.cur = none
  m0 : 0 ≤ x.m.moves
  m1 : x.m.moves < 65536
  n0 : 0 < n
  len : x.tasks.length = n
  seats : x.m.seats.length = n
  ok : ok x.s
  calls : x.m.calls.length < 4294967296
  step : ∀ (t : Nat) (k : τ) (se : Sea), mv.thread = (t : Int) → mv.op = 0 → x.tasks[t]? = some (some k) → x.m.seats[t]? = some se → ∃ (i : Nat) (c : Cll), se.last = (i : Int) ∧ x.m.calls[i]? = some c ∧
    (se.ready = false → T.okr x.s (x.tick.m.prep t i x.m.moves se) t k) ∧
    ((stepReady T x.s x.tick.m i t c se k x.m.moves).1 = false → T.oks (stepReady T x.s x.tick.m i t c se k x.m.moves).2.1 (stepReady T x.s x.tick.m i t c se k x.m.moves).2.2.1 t (stepReady T x.s x.tick.m i t c se k x.m.moves).2.2.2)

def moved (x : Wst σ τ) (mv : Mv) (v : Value) : SProp := ex fun b => ex fun x' => pu (v = .bool b ∧ MoveTo T K mkr x mv b x') * WR T bx bm K x'

variable {T bx bm K mkr}
theorem moved_mk {x : Wst σ τ} {mv : Mv} {b : Bool} {x' : Wst σ τ} {O w : World} {F : SProp} (h : MoveTo T K mkr x mv b x') (hs : Sat O w (WR T bx bm K x' * F)) : Sat O w (moved T bx bm K mkr x mv (.bool b) * F) := by
  unfold moved
  simp only [sat_ex, mul_assoc', sat_pu]
  exact ⟨b, x', ⟨rfl, h⟩, hs⟩
theorem moved_iff {x : Wst σ τ} {mv : Mv} {v : Value} {O w : World} {F : SProp} : Sat O w (moved T bx bm K mkr x mv v * F) ↔ ∃ b x', (v = .bool b ∧ MoveTo T K mkr x mv b x') ∧ Sat O w (WR T bx bm K x' * F) := by
  unfold moved
  simp only [sat_ex, mul_assoc', sat_pu]

theorem move_any (hT : T.Good) {ok : σ → Prop} {n : Nat} (hKO : KitOk T K mkr ok n) (x : Wst σ τ) (mv : Mv) (h : MayMove T ok n x mv) :
    Does Tryz.prog 41 #[.pointer (some ⟨bx, 0, none⟩), mv.v] (WR T bx bm K x) (moved T bx bm K mkr x mv) := by
  intro O w F hs
  have of : ∀ {A B : SProp} {b : Bool} {x' : Wst σ τ} (Z : SProp), Gives Tryz.prog 41 #[.pointer (some ⟨bx, 0, none⟩), mv.v] A (.bool b) B → Sat O w (A * (Z * F)) → MoveTo T K mkr x mv b x' → (∀ w', Sat O w' (B * (Z * F)) → Sat O w' (WR T bx bm K x' * F)) →
      Calls Tryz.prog 41 #[.pointer (some ⟨bx, 0, none⟩), mv.v] w fun e w' => ∃ v, e = .returned v ∧ Sat O w' (moved T bx bm K mkr x mv v * F) := by
    intro A B b x' Z hG hA hM hB
    refine (hG O w (Z * F) hA).mono ?_
    rintro e w' ⟨rfl, hs'⟩
    exact ⟨_, rfl, moved_mk hM (hB w' hs')⟩
  have h0 : 0 < x.m.seats.length := by rw [h.seats]; exact h.n0
  by_cases hth : mv.thread < 0 ∨ (x.tasks.length : Int) ≤ mv.thread
  · refine of (mp .i64 K x.m.kit * (T.X x.s * tskR T.R x.tasks x.m.seats)) (move_thread bx bm x.m mv h.m1 h.m0 h0 (by rw [h.seats, ← h.len]; exact hth)) ?_ (.out hth) ?_
    · unfold WR at hs; exact hs.cast (by ac_rfl)
    · intro w' hs'; unfold WR; exact hs'.cast (by simp only [Wst.tick]; ac_rfl)
  have hlt : mv.thread.toNat < x.tasks.length := by omega
  have ht : mv.thread = (mv.thread.toNat : Int) := by omega
  generalize mv.thread.toNat = t at hlt ht
  obtain ⟨o, ho⟩ : ∃ o, x.tasks[t]? = some o := ⟨_, List.getElem?_eq_getElem hlt⟩
  have hlt2 : t < x.m.seats.length := by rw [h.seats, ← h.len]; exact hlt
  obtain ⟨se, hse⟩ : ∃ se, x.m.seats[t]? = some se := ⟨_, List.getElem?_eq_getElem hlt2⟩
  have hlen : x.tasks.length = x.m.seats.length := h.len.trans h.seats.symm
  have hs0 := hs
  unfold WR at hs
  have htick : ∀ w', Sat O w' (MchR bx bm { x.m with moves := x.m.moves + 1 } * ((mp .i64 K x.m.kit * (T.X x.s * tskR T.R x.tasks x.m.seats)) * F)) → Sat O w' (WR T bx bm K x.tick * F) := fun w' hs' => by
    unfold WR; exact hs'.cast (by simp only [Wst.tick]; ac_rfl)
  cases o with
  | none =>
    have hidle : se.task = .nilIface := by
      rw [tsk_at ho hse] at hs
      have : Sat O w (pu (se.task = .nilIface) * (MchR bx bm x.m * (mp .i64 K x.m.kit * (T.X x.s * (tskR T.R (x.tasks.eraseIdx t) (x.m.seats.eraseIdx t) * F))))) := hs.cast (by simp only [tskR, mul_emp]; ac_rfl)
      exact (sat_pu.1 this).1
    by_cases hop : mv.op = 0
    · exact of _ (move_no bx bm h.m1 h.m0 ht hse (.inl ⟨hop, hidle⟩)) (hs.cast (by ac_rfl)) (.idle t ht hop ho) htick
    · cases hK : K mv.op with
      | none =>
        refine of (T.X x.s * tskR T.R x.tasks x.m.seats) (move_nokit bx bm rfl h.m1 h.m0 ht hop hse hidle hK) (hs.cast (by ac_rfl)) (.nokit t ht hop ho hK) ?_
        intro w' hs'
        exact htick w' (hs'.cast (by ac_rfl))
      | some u =>
        have hKn : K mv.op ≠ none := by rw [hK]; simp
        have htn : t < n := by rw [← h.len]; exact hlt
        cases hmk : mkr x.s t mv with
        | none =>
          refine of (tskR T.R x.tasks x.m.seats) (move_refused T bx bm hKO x.s h.ok rfl h.m1 h.m0 ht htn hop hse hidle hK hmk) (hs.cast (by ac_rfl)) (.refused t ht hop ho hKn hmk) ?_
          intro w' hs'
          exact htick w' (hs'.cast (by ac_rfl))
        | some k =>
          refine (move_begin T bx bm hT hKO x.s h.ok rfl h.cur h.m1 h.m0 ht htn hop hse hidle hK hmk h.calls ho hlen O w F hs).mono ?_
          rintro e w' ⟨rfl, hs'⟩
          simp only [sat_ex, mul_assoc'] at hs'
          obtain ⟨v, vc, hs'⟩ := hs'
          refine ⟨_, rfl, moved_mk (.begin_ t k v vc ht hop ho hKn hmk) ?_⟩
          unfold WR
          exact hs'.cast (by simp only [machBegin]; ac_rfl)
  | some k =>
    by_cases hop : mv.op = 0
    · obtain ⟨i, c, hl, hc, hr, hs2⟩ := h.step t k se ht hop ho hse
      refine of (mp .i64 K x.m.kit) (move_step T bx bm hT x.s x.tasks h.cur h.m1 h.m0 ht hop hse ho hl hc hlen hr hs2) (hs.cast (by ac_rfl)) (.step t i c se k ht hop ho hse hl hc) ?_
      intro w' hs'
      unfold WR
      have hci : CurIn (x.tick.m.prep t i x.m.moves se) i t c { se with ready := true } := ⟨rfl, hc, by simp [Mch.prep, Wst.tick, hlt2]⟩
      have hkit : (machStep T x.s x.tick.m i t c se k x.m.moves).2.1.kit = x.m.kit := by
        have e1 : ∀ (m' : Mch) (b : Bool) (c' : Cll) (s' : Sea), (stepEnd m' t i x.m.moves c' s' b).kit = m'.kit := by
          intro m' b c' s'; unfold stepEnd; split <;> rfl
        have e2 : (stepReady T x.s x.tick.m i t c se k x.m.moves).2.2.1.kit = x.m.kit ∧ ∃ c' s', CurIn (stepReady T x.s x.tick.m i t c se k x.m.moves).2.2.1 i t c' s' := by
          unfold stepReady
          split
          · have fr := hT.fr x.s _ i t c { se with ready := true } k hci
            obtain ⟨z, kk, vv, hcc⟩ := fr.curIn hci
            exact ⟨fr.kit, _, _, hcc⟩
          · exact ⟨rfl, _, _, hci⟩
        obtain ⟨e2, c', s', hcc⟩ := e2
        have e3 : (stepMore T i t (stepReady T x.s x.tick.m i t c se k x.m.moves)).2.2.1.kit = x.m.kit := by
          unfold stepMore
          split
          · have fs := hT.fs (stepReady T x.s x.tick.m i t c se k x.m.moves).2.1 _ i t c' s' (stepReady T x.s x.tick.m i t c se k x.m.moves).2.2.2 hcc
            rw [← hcc.getC, ← hcc.getS] at fs
            exact fs.kit.trans e2
          · exact e2
        unfold machStep
        simp only [e1]
        exact e3
      simp only [hkit]
      exact hs'.cast (by simp only [Wst.tick]; ac_rfl)
    · have hif : ∃ ty y, se.task = .iface ty y := by
        rw [tsk_at ho hse] at hs
        have : Sat O w (T.R k se.task * (MchR bx bm x.m * (mp .i64 K x.m.kit * (T.X x.s * (tskR T.R (x.tasks.eraseIdx t) (x.m.seats.eraseIdx t) * F))))) := hs.cast (by simp only [tskR, mul_emp]; ac_rfl)
        exact hT.iface this
      exact of _ (move_no bx bm h.m1 h.m0 ht hse (.inr ⟨hop, hif⟩)) (hs.cast (by ac_rfl)) (.busy t k ht hop ho) htick
end
end Go.Proofs.YtegafhhdegnigaaGreat
