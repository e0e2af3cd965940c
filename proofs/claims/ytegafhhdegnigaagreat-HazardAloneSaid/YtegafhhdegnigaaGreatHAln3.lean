/-
  Any call that is alone comes nearer to its end with each step.
-/
import Derived.Test.YtegafhhdegnigaaGreatHAln
import Derived.Test.YtegafhhdegnigaaGreatHOw7
set_option linter.all false
section
namespace Go.Proofs.YtegafhhdegnigaaGreat
open Go.RowKit Hp
set_option maxRecDepth 100000
set_option maxHeartbeats 1000000
attribute [local irreducible] Go.Calls

section
variable {c : Cfg} {Lg S N Lg' S' N' : Nat} {h : Haz} {a : Are} {m : Mch} {t : Nat}

theorem scC_ge {s : Scn} (hok : c.Ok) (I : ScI c s) (hd : Int) : 1 ≤ scC c hd s := by
  obtain ⟨i1, i2, i3, i4, i5, i6, i7, i8, i9⟩ := I
  have hR := hok.R1
  have hS := hok.S1
  have hA : 0 ≤ c.R * c.Hz := Int.mul_nonneg (by omega) (by have := hok.H1; omega)
  unfold scC scA
  split
  · have := i6 (by omega); omega
  · split
    · have := i6 (by omega); omega
    · split
      · have := i6 (by omega); omega
      · split
        · have := (i8 (by omega)).1; omega
        · obtain ⟨p, e1, e2, e3, e4⟩ := i9 (by omega)
          have := psC_1 hd p
          simp only [giC, e1]
          omega

theorem unr_c {u : Unr} (C : Core c Lg S N h a m) (ht : (t : Int) < c.T) (hu : u.thread = (t : Int)) (I : UnI c (a.caches.getD t []) u) (hl : ∀ r : Nat, ((h.lists.getD r []).length : Int) ≤ c.Sl)
    (C' : Core c Lg' S' N' (unregStep h a m u).2.1 (unregStep h a m u).2.2.1 (unregStep h a m u).2.2.2.1) (hf : (unregStep h a m u).1 = false) :
    unC c ((unregStep h a m u).2.2.2.1.word (adr c 1 0)) (((unregStep h a m u).2.2.1.caches.getD t []).length : Int) (unregStep h a m u).2.2.2.2 ≤ unC c (m.word (adr c 1 0)) ((a.caches.getD t []).length : Int) u - 1 := by
  have hok := C.ok
  have hc := C.hc
  have hC1 := hok.C1
  have hS1 := hok.S1
  have hR1 := hok.R1
  have hH1 := hok.H1
  have hA : 0 ≤ c.R * c.Hz := Int.mul_nonneg (by omega) (by omega)
  obtain ⟨j1, j2, j3, j4⟩ := I
  unfold unregStep at C' hf ⊢
  simp only [hc] at C' hf ⊢
  split
  · rename_i h0
    rw [if_pos h0] at C' hf
    obtain ⟨k0, k1⟩ := j2 h0
    have e0 : unC c (m.word (adr c 1 0)) ((a.caches.getD t []).length : Int) u = (c.Hz - u.k) + scB c + 3 * c.Ca + 1 := by simp only [unC, if_pos h0]
    rw [e0]
    split
    · simp only [unC, if_pos h0]; omega
    · rename_i h1
      rw [if_neg h1] at C' hf
      have hB : 0 ≤ scB c := by unfold scB scA; omega
      split
      · refine Int.le_trans (empty_c C ht ?_ _) ?_
        · exact hu
        · omega
      · rename_i h2
        simp only [unC, soC]
        simp only [show ¬ (1 : Int) = 0 by decide, if_false, if_true]
        have := ready_c hok hc ((m.store (base c 9 + h.held.getD u.thread.toNat 0 * c.Hz + u.k).toNat (m.word (base c 9 + h.held.getD u.thread.toNat 0 * c.Hz + u.k).toNat) 0).word (adr c 1 0)) (Bool.eq_false_iff.2 h2)
        omega
  · rename_i h0
    rw [if_neg h0] at C' hf
    split
    · rename_i h1
      rw [if_pos h1] at C' hf
      obtain ⟨s, e1, e2, e3⟩ := j3 h1
      have e0 : unC c (m.word (adr c 1 0)) ((a.caches.getD t []).length : Int) u = scC c (m.word (adr c 1 0)) s + 3 * c.Ca + 1 := by simp only [unC, if_neg h0, if_pos h1, e1, soC]
      rw [e0]
      have g1 := scC_ge hok e2 (m.word (adr c 1 0))
      have g2 := scan_c C e2 (hl _)
      rw [e1] at C' hf ⊢
      simp only [] at C' hf ⊢
      split
      · rename_i h2
        rw [if_pos h2] at C'
        refine Int.le_trans (empty_c C' ht ?_ _) ?_
        · exact hu
        · omega
      · rename_i h2
        have := g2 (by simpa using h2)
        simp only [unC, if_neg h0, if_pos h1, soC]
        omega
    · rename_i h1
      rw [if_neg h1] at C' hf
      split
      · rename_i h2
        rw [if_pos h2] at C' hf
        obtain ⟨p, e1, e2, e3, e4⟩ := j4 h2
        have e0 : unC c (m.word (adr c 1 0)) ((a.caches.getD t []).length : Int) u = psC (m.word (adr c 1 0)) p + 3 * (((a.caches.getD t []).length : Int) - 1) + 1 := by simp only [unC, if_neg h0, if_neg h1, if_pos h2, e1, poC]
        rw [e0]
        have g1 := (psC_1 (m.word (adr c 1 0)) p).1
        have g2 := flush_c C e2 ht (e3.trans hu) e4
        rw [e1] at C' hf ⊢
        simp only [] at C' hf ⊢
        by_cases h3 : (flushStep a m p).1 = true
        · simp only [if_pos h3, unC]
          simp only [show ¬ (3 : Int) = 0 by decide, show ¬ (3 : Int) = 1 by decide, show ¬ (3 : Int) = 2 by decide, if_false]
          omega
        · have := g2 (by simpa using h3)
          simp only [if_neg h3, unC, poC]
          simp only [show ¬ (2 : Int) = 0 by decide, show ¬ (2 : Int) = 1 by decide, if_false, if_true]
          omega
      · rename_i h2
        rw [if_neg h2] at hf
        cases hf

theorem post_c {p : Pst} {i : Nat} {cl : Cll} {se : Sea} (C : Core c Lg S N h a m) (T : PoI c p) (hl : ∀ r : Nat, ((h.lists.getD r []).length : Int) ≤ c.Sl) (hf : (postStep h a m i t cl se p).1 = false) :
    ptC c ((postStep h a m i t cl se p).2.2.2.1.word (adr c 1 0)) ((postStep h a m i t cl se p).2.2.2.1.word (adr c 2 0)) (postStep h a m i t cl se p).2.2.2.2 ≤ ptC c (m.word (adr c 1 0)) (m.word (adr c 2 0)) p - 1 := by
  have hok := C.ok
  have hc := C.hc
  obtain ⟨⟨k, e1, t0, t1⟩, j1, j2, j3⟩ := T
  unfold postStep at hf ⊢
  rw [e1] at hf ⊢
  simp only [hc] at hf ⊢
  split
  · rename_i h0
    rw [if_pos h0] at hf
    have e0 : ptC c (m.word (adr c 1 0)) (m.word (adr c 2 0)) p = tkC (m.word (adr c 1 0)) k + 3 + scB c := by simp only [ptC, if_pos h0, e1, toC]
    rw [e0]
    have g1 := (tkC_1 (m.word (adr c 1 0)) k).1
    have g2 := take_c (k := k) C
    split
    · rename_i h1
      rw [if_pos h1] at hf
      simp only [] at hf ⊢
      unfold postTook at hf ⊢
      split
      · rename_i h2
        rw [if_pos h2] at hf
        cases hf
      · simp only [ptC]
        simp only [show ¬ (1 : Int) = 0 by decide, if_false, if_true]
        omega
    · rename_i h1
      have := g2 (by simpa using h1)
      simp only [ptC, if_pos h0, toC]
      omega
  · rename_i h0
    rw [if_neg h0] at hf
    split
    · rename_i h1
      have e0 : ptC c (m.word (adr c 1 0)) (m.word (adr c 2 0)) p = 3 + scB c := by simp only [ptC, if_neg h0, if_pos h1]
      rw [e0]
      simp only [ptC]
      simp only [show ¬ (2 : Int) = 0 by decide, show ¬ (2 : Int) = 1 by decide, if_false, if_true]
      omega
    · rename_i h1
      rw [if_neg h1] at hf
      split
      · rename_i h2
        have e0 : ptC c (m.word (adr c 1 0)) (m.word (adr c 2 0)) p = 2 + scB c := by simp only [ptC, if_neg h0, if_neg h1, if_pos h2]
        rw [e0]
        have e3 : (m.load (adr c 2 0) (m.word (adr c 2 0))).word (adr c 2 0) = m.word (adr c 2 0) := rfl
        simp only [ptC, e3]
        simp only [show ¬ (3 : Int) = 0 by decide, show ¬ (3 : Int) = 1 by decide, show ¬ (3 : Int) = 2 by decide, if_false, if_true]
        omega
      · rename_i h2
        rw [if_neg h2] at hf
        split
        · rename_i h3
          rw [if_pos h3] at hf
          split
          · rename_i h4
            rw [if_pos h4] at hf
            have e0 : ptC c (m.word (adr c 1 0)) (m.word (adr c 2 0)) p = 1 + scB c := by simp only [ptC, if_neg h0, if_neg h1, if_neg h2, if_pos h3, if_pos h4]
            rw [e0]
            unfold postDone at hf ⊢
            simp only [] at hf ⊢
            split
            · rename_i h5
              rw [if_pos h5] at hf
              cases hf
            · rename_i h5
              rw [if_neg h5] at hf
              simp only [] at hf ⊢
              unfold retireReady at hf ⊢
              simp only [] at hf ⊢
              split
              · rename_i h6
                rw [if_pos h6] at hf
                cases hf
              · rename_i h6
                rw [if_neg h6] at hf
                simp only [] at hf
                simp only [ptC, roC, soC]
                simp only [show ¬ (4 : Int) = 0 by decide, show ¬ (4 : Int) = 1 by decide, show ¬ (4 : Int) = 2 by decide, show ¬ (4 : Int) = 3 by decide, if_false]
                refine Int.le_trans (ready_c hok ?_ _ hf) (by omega)
                exact hc
          · rename_i h4
            have e0 : ptC c (m.word (adr c 1 0)) (m.word (adr c 2 0)) p = 3 + scB c := by simp only [ptC, if_neg h0, if_neg h1, if_neg h2, if_pos h3, if_neg h4]
            rw [e0]
            simp only [ptC]
            simp only [show ¬ (2 : Int) = 0 by decide, show ¬ (2 : Int) = 1 by decide, if_false, if_true]
            omega
        · rename_i h3
          rw [if_neg h3] at hf
          have h4 : p.stage = 4 := by clear j2 j3 t1; omega
          obtain ⟨r, sc, e2, e3, e4, e5⟩ := j3 h4
          have e0 : ptC c (m.word (adr c 1 0)) (m.word (adr c 2 0)) p = scC c (m.word (adr c 1 0)) sc := by simp only [ptC, if_neg h0, if_neg h1, if_neg h2, if_neg h3, e2, roC, e3, soC]
          rw [e0]
          have g := scan_c C e4 (hl _)
          rw [e2] at hf ⊢
          simp only [] at hf ⊢
          rw [e3] at hf ⊢
          simp only [] at hf ⊢
          have := g hf
          simp only [ptC, if_neg h0, if_neg h1, if_neg h2, if_neg h3, roC, soC]
          exact this

theorem read_c {r : Rdg} {i : Nat} {cl : Cll} {se : Sea} (C : Core c Lg S N h a m) (I : RdI c r) (hf : (readStep h m i t cl se r).1 = false) :
    rdC ((readStep h m i t cl se r).2.1.word (adr c 2 0)) (readStep h m i t cl se r).2.2 ≤ rdC (m.word (adr c 2 0)) r - 1 := by
  have hok := C.ok
  have hc := C.hc
  have saw : ∀ (u : Int), u = m.word (adr c 2 0) → (readSaw (m.load (adr c 2 0) (m.word (adr c 2 0))) i t cl se r u).1 = false → rdC ((readSaw (m.load (adr c 2 0) (m.word (adr c 2 0))) i t cl se r u).2.1.word (adr c 2 0)) (readSaw (m.load (adr c 2 0) (m.word (adr c 2 0))) i t cl se r u).2.2 ≤ 3 := by
    intro u hu hf
    unfold readSaw at hf ⊢
    split
    · rename_i h1
      rw [if_pos h1] at hf
      cases hf
    · have e : (m.load (adr c 2 0) (m.word (adr c 2 0))).word (adr c 2 0) = u := hu.symm
      simp only [e, rdC]
      simp
  unfold readStep at hf ⊢
  simp only [hc] at hf ⊢
  split
  · rename_i h0
    rw [if_pos h0] at hf
    have := saw _ rfl hf
    have e0 : rdC (m.word (adr c 2 0)) r = 4 := by simp only [rdC, if_pos h0]
    omega
  · rename_i h0
    rw [if_neg h0] at hf
    split
    · rename_i h1
      obtain ⟨a0, a1, _, _⟩ := I
      have hA : r.addr.toNat < m.mem.words.length := by
        obtain ⟨b1, b2, b8, b9, b10, b11, b12, b13, b14, rh, rh2⟩ := bases hok
        have := C.words
        have := hok.S1
        have := hok.R1
        omega
      have hA2 : 2 ≤ r.addr.toNat := by
        obtain ⟨b1, b2, b8, b9, b10, b11, b12, b13, b14, rh, rh2⟩ := bases hok
        have := hok.R1
        omega
      have e : (m.store r.addr.toNat (m.word r.addr.toNat) r.w).word (adr c 2 0) = m.word (adr c 2 0) := by
        rw [word_set (m := m) (A := r.addr.toNat) rfl hA, if_neg (a2_ne hok hA2)]
      simp only [e, rdC, h1]
      simp
      split <;> omega
    · rename_i h1
      rw [if_neg h1] at hf
      split
      · rename_i h2
        rw [if_pos h2] at hf
        split
        · rename_i h3
          have e0 : rdC (m.word (adr c 2 0)) r = 2 := by simp only [rdC, if_neg h0, if_neg h1, if_pos h2, if_pos h3]
          rw [e0]
          simp [rdC]
        · rename_i h3
          rw [if_neg h3] at hf
          have := saw _ rfl hf
          have e0 : rdC (m.word (adr c 2 0)) r = 4 := by simp only [rdC, if_neg h0, if_neg h1, if_pos h2, if_neg h3]
          omega
      · rename_i h2
        rw [if_neg h2] at hf
        cases hf

theorem reg_c {r : Reg} {se : Sea} (C : Core c Lg S N h a m) (hf : (regStep h m t se r).1 = false) : rgC c (regStep h m t se r).2.2.2 ≤ rgC c r - 1 := by
  have hc := C.hc
  have nx : ∀ m', (regNext h m' t se r).1 = false → rgC c (regNext h m' t se r).2.2.2 ≤ 2 * (c.R - r.i) - 2 := by
    intro m' hf
    unfold regNext at hf ⊢
    rw [hc] at hf ⊢
    split
    · simp [rgC]; omega
    · rename_i h1
      rw [if_neg h1] at hf
      cases hf
  unfold regStep at hf ⊢
  simp only [] at hf ⊢
  split
  · rename_i h0
    rw [if_pos h0] at hf
    have e0 : rgC c r = 2 * (c.R - r.i) := by simp [rgC, h0]
    rw [e0]
    split
    · rename_i h1
      rw [if_pos h1] at hf
      have := nx _ hf
      omega
    · simp [rgC]
  · rename_i h0
    rw [if_neg h0] at hf
    have h0' : r.seen = true := by simpa using h0
    have e0 : rgC c r = 2 * (c.R - r.i) - 1 := by simp [rgC, h0']
    rw [e0]
    split
    · rename_i h1
      rw [if_pos h1] at hf
      cases hf
    · rename_i h1
      rw [if_neg h1] at hf
      have := nx _ hf
      omega

theorem cost_step {k : HTask} {i : Nat} {cl : Cll} {se : Sea} (C : Core c Lg S N h a m) (ht : (t : Int) < c.T) (I : TI c t true (h.held.getD t 0) (a.caches.getD t []) k) (hl : ∀ r : Nat, ((h.lists.getD r []).length : Int) ≤ c.Sl)
    (C' : Core c Lg' S' N' (htStep (h, a) m i t cl se k).2.1.1 (htStep (h, a) m i t cl se k).2.1.2 (htStep (h, a) m i t cl se k).2.2.1) (hf : (htStep (h, a) m i t cl se k).1 = false) :
    coC c ((htStep (h, a) m i t cl se k).2.2.1.word (adr c 1 0)) ((htStep (h, a) m i t cl se k).2.2.1.word (adr c 2 0)) (((htStep (h, a) m i t cl se k).2.1.2.caches.getD t []).length : Int) (htStep (h, a) m i t cl se k).2.2.2 ≤
      coC c (m.word (adr c 1 0)) (m.word (adr c 2 0)) ((a.caches.getD t []).length : Int) k - 1 := by
  cases k with
  | reg r => exact reg_c C hf
  | unr u => exact unr_c C ht I.1 I.2.2 hl C' hf
  | pst p => exact post_c C (I.2.2.1 rfl) hl hf
  | rdg r => exact read_c C I hf
  | clr ad => cases hf
  | scn s => exact scan_c C (I.2.2 rfl) (hl _) hf

theorem co_1 {k : HTask} {hd : Int} {ca : List Int} (hok : c.Ok) (I : TI c t true hd ca k) (w1 w2 : Int) : 1 ≤ coC c w1 w2 (ca.length : Int) k := by
  have hR := hok.R1
  have hS := hok.S1
  have hC := hok.C1
  have hA : 0 ≤ c.R * c.Hz := Int.mul_nonneg (by omega) (by have := hok.H1; omega)
  have hB : 0 ≤ scB c := by unfold scB scA; omega
  cases k with
  | reg r =>
    obtain ⟨_, i1, i2⟩ := I
    simp only [coC, rgC]
    split <;> omega
  | unr u =>
    obtain ⟨_, _, j1, j2, j3, j4⟩ := I
    simp only [coC, unC]
    split
    · have := j2 (by omega); omega
    · split
      · obtain ⟨s, e1, e2, e3⟩ := j3 (by omega)
        have := scC_ge hok e2 w1
        simp only [e1, soC]; omega
      · split
        · obtain ⟨p, e1, e2, e3, e4⟩ := j4 (by omega)
          have := (psC_1 w1 p).1
          simp only [e1, poC]; omega
        · omega
  | pst p =>
    obtain ⟨⟨k, e1, t0, t1⟩, j1, j2, j3⟩ := I.2.2.1 rfl
    simp only [coC, ptC]
    split
    · have := (tkC_1 w1 k).1
      simp only [e1, toC]; omega
    · split
      · omega
      · split
        · omega
        · split
          · split <;> omega
          · have h4 : p.stage = 4 := by clear j2 j3 t1 I; omega
            obtain ⟨r, sc, e2, e3, e4, e5⟩ := j3 h4
            have := scC_ge hok e4 w1
            simp only [e2, roC, e3, soC]; omega
  | rdg r =>
    simp only [coC, rdC]
    split
    · omega
    · split
      · split <;> omega
      · split
        · split <;> omega
        · omega
  | clr ad => exact Int.le_refl 1
  | scn s => exact scC_ge hok (I.2.2 rfl) w1

theorem co_2 {k : HTask} {hd : Int} {ca : List Int} (hok : c.Ok) (I : TI c t true hd ca k) (hca : (ca.length : Int) ≤ c.Ca) (hp : ∀ s, scOf k = some s → (s.pending.length : Int) ≤ c.Sl) (w1 w2 : Int) : coC c w1 w2 (ca.length : Int) k ≤ scB c + c.Hz + 3 * c.Ca + 10 := by
  have hR := hok.R1
  have hS := hok.S1
  have hC := hok.C1
  have hH := hok.H1
  have hA : 0 ≤ c.R * c.Hz := Int.mul_nonneg (by omega) (by omega)
  have hB : 3 * c.R ≤ scB c := by unfold scB scA; omega
  cases k with
  | reg r =>
    obtain ⟨_, i1, i2⟩ := I
    simp only [coC, rgC]
    split <;> omega
  | unr u =>
    obtain ⟨_, _, j1, j2, j3, j4⟩ := I
    simp only [coC, unC]
    split
    · have := j2 (by omega); omega
    · split
      · rename_i h1
        obtain ⟨s, e1, e2, e3⟩ := j3 (by omega)
        have := (scC_1 hok e2 (hp s (by simp only [scOf, if_pos h1, e1])) w1).2
        simp only [e1, soC]; omega
      · split
        · obtain ⟨p, e1, e2, e3, e4⟩ := j4 (by omega)
          have := (psC_1 w1 p).2
          simp only [e1, poC]; omega
        · omega
  | pst p =>
    obtain ⟨⟨k, e1, t0, t1⟩, j1, j2, j3⟩ := I.2.2.1 rfl
    simp only [coC, ptC]
    split
    · have := (tkC_1 w1 k).2
      simp only [e1, toC]; omega
    · split
      · omega
      · split
        · omega
        · split
          · split <;> omega
          · have h4 : p.stage = 4 := by clear j2 j3 t1 I; omega
            obtain ⟨r, sc, e2, e3, e4, e5⟩ := j3 h4
            have := (scC_1 hok e4 (hp sc (by simp only [scOf, if_pos h4, e2, e3])) w1).2
            simp only [e2, roC, e3, soC]; omega
  | rdg r =>
    simp only [coC, rdC]
    split
    · omega
    · split
      · split <;> omega
      · split
        · split <;> omega
        · omega
  | clr ad => show (1 : Int) ≤ _; omega
  | scn s => 
    have := (scC_1 hok (I.2.2 rfl) (hp s rfl) w1).2
    show scC c w1 s ≤ _; omega
end
end Go.Proofs.YtegafhhdegnigaaGreat
end
/-
  Behind any script a thread that makes all steps ends its call soon.
-/
section
namespace Go.Proofs.YtegafhhdegnigaaGreat
open Go.RowKit Hp
set_option maxRecDepth 100000
set_option maxHeartbeats 1000000
attribute [local irreducible] Go.Calls

def dropE (a : Int) : List Int → List Int
  | [] => []
  | x :: l => if x = a then dropE a l else x :: dropE a l
theorem len_drop (a : Int) : ∀ l : List Int, l.length = (dropE a l).length + l.count a
  | [] => rfl
  | x :: l => by
    have := len_drop a l
    unfold dropE
    by_cases e : x = a
    · subst e; rw [if_pos rfl, List.count_cons_self, List.length_cons]; omega
    · rw [if_neg e, List.count_cons_of_ne (by simpa using e), List.length_cons, List.length_cons]; omega
theorem count_drop (a s : Int) : ∀ l : List Int, (dropE a l).count s = if s = a then 0 else l.count s
  | [] => by simp [dropE]
  | x :: l => by
    have := count_drop a s l
    unfold dropE
    by_cases e : x = a
    · subst e
      rw [if_pos rfl, this]
      by_cases e2 : s = x
      · rw [if_pos e2, if_pos e2]
      · rw [if_neg e2, if_neg e2, List.count_cons_of_ne (by simpa using Ne.symm e2)]
    · rw [if_neg e, List.count_cons, List.count_cons, this]
      by_cases e2 : s = a
      · subst e2
        rw [if_pos rfl, if_pos rfl, if_neg (by simpa using e)]
      · rw [if_neg e2, if_neg e2]
theorem len_counts : ∀ (n : Nat) (l : List Int), (∀ s, l.count s ≤ if 0 ≤ s ∧ s < (n : Int) then 1 else 0) → l.length ≤ n
  | 0, l, h => by
    cases l with
    | nil => simp
    | cons x l =>
      have := h x
      rw [List.count_cons_self, if_neg (by omega)] at this
      omega
  | n + 1, l, h => by
    have h1 := len_drop (n : Int) l
    have h2 := len_counts n (dropE (n : Int) l) (fun s => by
      rw [count_drop]
      have := h s
      by_cases e : s = (n : Int)
      · rw [if_pos e]; omega
      · rw [if_neg e]
        by_cases hs : 0 ≤ s ∧ s < (n : Int)
        · rw [if_pos hs]; rw [if_pos (by omega)] at this; exact this
        · rw [if_neg hs]; rw [if_neg (by omega)] at this; exact this)
    have h3 := h (n : Int)
    rw [if_pos (by omega)] at h3
    omega

section
variable {c : Cfg} {n : Nat} {y y' : HW} {t : Nat} {pr : Int → Prop} {F : List Int}

theorem DI.at_most {k' : Int} {l : List Int} (D : DI c pr F k' y) (hS : 0 ≤ c.Sl) (h : ∀ s, l.count s ≤ cnt2 y.s.1.lists s ∨ l.count s ≤ cnt2 (y.tasks.map tS) s) : (l.length : Int) ≤ c.Sl := by
  have := len_counts c.Sl.toNat l (fun s => by
    have ht := D.gd.tot s
    have h2 := h s
    have e : (sx pr c y.s.1 y.s.2 y.m).lists = y.s.1.lists := rfl
    rw [e] at ht
    unfold ind at ht
    by_cases hs : 0 ≤ s ∧ s < c.Sl
    · rw [if_pos (by omega)]
      rw [if_pos hs] at ht
      omega
    · rw [if_neg (by omega)]
      rw [if_neg hs] at ht
      omega)
  omega
theorem DI.lists_le {k' : Int} (D : DI c pr F k' y) (hS : 0 ≤ c.Sl) (r : Nat) : ((y.s.1.lists.getD r []).length : Int) ≤ c.Sl := by
  refine D.at_most hS (fun s => .inl ?_)
  rw [List.getD_eq_getElem?_getD]
  cases e : y.s.1.lists[r]? with
  | none => simp
  | some l => exact cnt2_get s e
theorem giveL_len (g : Option Psh) (l : List Int) : l.length ≤ (giveL g l).length := by
  unfold giveL
  split <;> simp
theorem DI.pend_le {k' : Int} {k : HTask} {s : Scn} (D : DI c pr F k' y) (hS : 0 ≤ c.Sl) (hk : y.tasks[t]? = some (some k)) (hs : scOf k = some s) (h5 : s.stage = 5) : (s.pending.length : Int) ≤ c.Sl := by
  have h1 := giveL_len s.give s.pending
  have h2 : ((giveL s.give s.pending).length : Int) ≤ c.Sl := by
    refine D.at_most hS (fun z => .inr ?_)
    have e : (y.tasks.map tS)[t]? = some (Go.Proofs.YtegafhhdegnigaaGreat.hS k) := by rw [List.getElem?_map, hk]; rfl
    refine Nat.le_trans ?_ (cnt2_get z e)
    unfold Go.Proofs.YtegafhhdegnigaaGreat.hS hP
    rw [hs, List.count_append]
    simp only [scnP, if_pos h5]
    omega
  omega

/-- what a thread's call still costs -/
def alC (c : Cfg) (t : Nat) (y : HW) (k : HTask) : Int := coC c (y.m.word (adr c 1 0)) (y.m.word (adr c 2 0)) ((y.s.2.caches.getD t []).length : Int) k
theorem alC_bd {k' : Int} {k : HTask} {se : Sea} (P : PI c n y) (D : DI c pr F k' y) (hk : y.tasks[t]? = some (some k)) (hse : y.m.seats[t]? = some se) (hr : se.ready = true) : 1 ≤ alC c t y k ∧ alC c t y k ≤ scB c + c.Hz + 3 * c.Ca + 10 := by
  have hok := P.core.ok
  have hS1 := hok.S1
  obtain ⟨_, I⟩ := P.task t k se hk hse
  rw [hr] at I
  have hlt := (List.getElem?_eq_some_iff.1 hk).1
  have htc : t < y.s.2.caches.length := by rw [P.core.caches, ← P.tasks]; exact hlt
  have hy : y.s.2.caches[t]? = some (y.s.2.caches.getD t []) := by rw [List.getD_eq_getElem?_getD, List.getElem?_eq_getElem htc]; rfl
  have hl := P.core.clens _ (List.mem_of_getElem? hy)
  refine ⟨co_1 hok I _ _, co_2 hok I hl (fun s hs => ?_) _ _⟩
  by_cases h5 : s.stage = 5
  · exact D.pend_le (by omega) hk hs h5
  · have hp : s.pending = [] := by
      have key : ScI c s := by
        cases k with
        | reg r => cases hs
        | rdg r => cases hs
        | clr r => cases hs
        | scn z => simp only [scOf, Option.some.injEq] at hs; subst hs; exact I.2.2 rfl
        | unr u =>
          obtain ⟨_, _, J⟩ := I
          simp only [scOf] at hs
          split at hs
          · rename_i h1
            obtain ⟨z, e1, e2, _⟩ := J.scan h1
            rw [e1] at hs; cases hs; exact e2
          · cases hs
        | pst p =>
          obtain ⟨_, _, J1, J2⟩ := I
          simp only [scOf] at hs
          split at hs
          · rename_i h1
            obtain ⟨r, z, e1, e2, e3, _⟩ := (J1 rfl).ret h1
            rw [e1] at hs; simp only [e2] at hs; cases hs; exact e3
          · cases hs
      refine key.pend ?_
      have := key.stage
      omega
    rw [hp]; simp; omega

theorem step_alC {k' : Int} {k : HTask} {se : Sea} {bh ba : Nat} {CX : SProp} {K : Int → Option Value} {ar da : Int} {b : Bool} (P : PI c n y) (hn : n < 65536) (D : DI c pr F k' y) (hk : y.tasks[t]? = some (some k)) (hse : y.m.seats[t]? = some se)
    (hM : MoveTo (hzT bh ba CX) K kitTask y ⟨(t : Int), 0, ar, da⟩ b y') :
    y'.tasks[t]? = some none ∨ ∃ k' se', y'.tasks[t]? = some (some k') ∧ y'.m.seats[t]? = some se' ∧ se'.ready = true ∧ (se.ready = true → alC c t y' k' ≤ alC c t y k - 1) := by
  have hlt := (List.getElem?_eq_some_iff.1 hk).1
  have hlts := (List.getElem?_eq_some_iff.1 hse).1
  have P' := P.move hn hM
  cases hM with
  | out h => exact absurd h (by simp only []; omega)
  | idle j ht hop hj =>
    have e : t = j := by simp only [] at ht; omega
    subst e
    rw [hk] at hj; cases hj
  | busy j kj ht hop hj => exact absurd rfl hop
  | nokit j ht hop => exact absurd rfl hop
  | refused j ht hop => exact absurd rfl hop
  | begin_ j kj v vc ht hop => exact absurd rfl hop
  | step j i cl sj kj ht hop hj hsj hl hc =>
    have e : t = j := by simp only [] at ht; omega
    subst e
    rw [hk] at hj; cases hj
    rw [hse] at hsj; cases hsj
    have hok := P.core.ok
    have hS1 := hok.S1
    have htT : (t : Int) < c.T := by have := P.tasks; have := hok.T1; omega
    have I := (P.task t k se hk hse).2
    have C1 : Core c n (100 * n) n y.s.1 y.s.2 y.tick.m := P.core.of rfl rfl rfl rfl
    have C0 : Core c n (100 * n) n y.s.1 y.s.2 (y.tick.m.prep t i y.m.moves se) := P.core.of rfl rfl rfl rfl
    have hci : CurIn (y.tick.m.prep t i y.m.moves se) i t cl { se with ready := true } := ⟨rfl, hc, by simp [Mch.prep, Wst.tick, hlts]⟩
    obtain ⟨⟨e1, e2, e3⟩, e4⟩ := more_core (bh := bh) (ba := ba) (CX := CX) (now := y.m.moves) C1 (by omega) htT hc hlts I
    have hsd : y.s = (y.s.1, y.s.2) := rfl
    have hrd : se.ready = true → stepMore (hzT bh ba CX) i t (stepReady (hzT bh ba CX) (y.s.1, y.s.2) y.tick.m i t cl se k y.m.moves) = htStep (y.s.1, y.s.2) (y.tick.m.prep t i y.m.moves se) i t (getC (y.tick.m.prep t i y.m.moves se) i) (getS (y.tick.m.prep t i y.m.moves se) t) k := by
      intro hr
      unfold stepReady
      rw [if_neg (by rw [hr]; simp)]
      unfold stepMore
      rw [if_pos rfl]
      rfl
    unfold machStep
    rw [hsd]
    simp only []
    obtain ⟨k1, v1, hk1⟩ := e4.seats
    by_cases hb : (stepMore (hzT bh ba CX) i t (stepReady (hzT bh ba CX) (y.s.1, y.s.2) y.tick.m i t cl se k y.m.moves)).1 = true
    · left
      rw [if_pos hb, List.getElem?_set_self hlt]
    · right
      rw [if_neg hb, List.getElem?_set_self hlt]
      refine ⟨_, { se with ready := true, kind := k1, value := v1 }, rfl, ?_, rfl, ?_⟩
      · unfold stepEnd
        rw [if_neg hb]
        simp only []
        rw [hk1, List.getElem?_set_self (by simp [Mch.prep, Wst.tick]; exact hlts)]
      · intro hr
        have hb' : (stepMore (hzT bh ba CX) i t (stepReady (hzT bh ba CX) (y.s.1, y.s.2) y.tick.m i t cl se k y.m.moves)).1 = false := by simpa using hb
        rw [hrd hr] at e1 hb'
        rw [hr] at I
        have := cost_step C0 htT I (D.lists_le (by omega)) e1 hb'
        rw [hrd hr]
        unfold stepEnd
        rw [if_neg (by simp [hb'])]
        exact this

/-- a state behind n moves -/
structure Bhv (c : Cfg) (mvs : List Mv) (y : HW) : Prop where
  pi : PI c mvs.length y
  ok : RunOk c mvs.length y
  er : y.er = runE c mvs
  di : ∃ pr F, DI c pr F mvs.length y
theorem Bhv.beh {mvs : List Mv} (B : Bhv c mvs y) : Beh c mvs y := ⟨B.pi, B.ok, B.er⟩
def x0 : Caps := ⟨0, 0, 0, 0, 0, 0⟩
theorem Bhv.move {mvs : List Mv} (B : Bhv c mvs y) (hl : mvs.length < 65536) (mv : Mv) : ∃ b y', Bhv c (mvs ++ [mv]) y' ∧ MoveTo (hzT 0 0 emp) (kitFn x0) kitTask y mv b y' := by
  obtain ⟨P, R, e, pr, F, D⟩ := B
  obtain ⟨b, y', hm⟩ := move_total P 0 0 emp x0 mv
  obtain ⟨pr', F', Z, t, D', _⟩ := D.move P hl hm
  refine ⟨b, y', ⟨?_, ?_, ?_, pr', F', ?_⟩, hm⟩
  · simpa using P.move hl hm
  · simpa using R.move P hl hm
  · simp only [runE, List.foldl_append, List.foldl_cons, List.foldl_nil]
    have := (moveE_of hm).1
    rw [this, e]; rfl
  · simpa using D'
theorem bhv_ex {c : Cfg} (hok : c.Ok) (mvs : List Mv) (hl : mvs.length ≤ 65536) : ∃ y, Bhv c mvs y := by
  have : ∀ k, k ≤ mvs.length → ∃ y, Bhv c (mvs.take k) y := by
    intro k
    induction k with
    | zero =>
      intro _
      exact ⟨wst0 c 0 .nilIface, by simpa using PI.start hok 0 .nilIface, by simpa using RunOk.start hok 0 .nilIface, by simp only [List.take_zero]; show _ = e0 c; simp only [e0, Wst.er, wst0, Mch.er, mch0], _, _, by simpa using DI.start hok 0 .nilIface⟩
    | succ k ih =>
      intro hk
      obtain ⟨y, B⟩ := ih (by omega)
      obtain ⟨mv, hmv⟩ : ∃ mv, mvs[k]? = some mv := ⟨_, List.getElem?_eq_getElem (by omega)⟩
      obtain ⟨b, y', B', _⟩ := B.move (by simp; omega) mv
      refine ⟨y', ?_⟩
      rw [List.take_add_one, hmv]
      exact B'
  obtain ⟨y, h⟩ := this mvs.length (Nat.le_refl _)
  rw [List.take_length] at h
  exact ⟨y, h⟩

/-- j steps of one thread behind a script: its call has ended, or it is nearer to its end -/
theorem alone_k {M : List Mv} (hok : c.Ok) (t : Nat) (ht : (t : Int) < c.T) (N : Nat) (hl : M.length + N ≤ 65536) : ∀ j, j ≤ N → ∃ y, Bhv c (M ++ List.replicate j ⟨(t : Int), 0, 0, 0⟩) y ∧
    (y.tasks[t]? = some none ∨ ∃ k se, y.tasks[t]? = some (some k) ∧ y.m.seats[t]? = some se ∧ (1 ≤ j → se.ready = true ∧ alC c t y k + j ≤ scB c + c.Hz + 3 * c.Ca + 11))
  | 0, _ => by
    obtain ⟨y, B⟩ := bhv_ex hok M (by omega)
    refine ⟨y, by simpa using B, ?_⟩
    have hT := hok.T1
    have h1 : t < y.tasks.length := by rw [B.pi.tasks]; omega
    have h2 : t < y.m.seats.length := by rw [B.pi.seats]; omega
    obtain ⟨o, ho⟩ : ∃ o, y.tasks[t]? = some o := ⟨_, List.getElem?_eq_getElem h1⟩
    cases o with
    | none => exact .inl ho
    | some k => exact .inr ⟨k, _, ho, List.getElem?_eq_getElem h2, fun h => by omega⟩
  | j + 1, hj => by
    obtain ⟨y, B, H⟩ := alone_k hok t ht N hl j (by omega)
    have hlen : (M ++ List.replicate j (⟨(t : Int), 0, 0, 0⟩ : Mv)).length < 65536 := by simp; omega
    obtain ⟨b, y', B', hm⟩ := B.move hlen ⟨(t : Int), 0, 0, 0⟩
    refine ⟨y', by rw [List.replicate_succ', ← List.append_assoc]; exact B', ?_⟩
    rcases H with H | ⟨k, se, hk, hse, H⟩
    · left
      have hlt := (List.getElem?_eq_some_iff.1 H).1
      cases hm with
      | out h => exact H
      | idle => exact H
      | busy => exact H
      | nokit => exact H
      | refused => exact H
      | begin_ j' kj v vc ht' hop => exact absurd rfl hop
      | step j' i cl sj kj ht' hop hj' hsj hl' hc =>
        have e : t = j' := by simp only [] at ht'; omega
        subst e
        rw [H] at hj'; cases hj'
    · obtain ⟨pr, F, D⟩ := B.di
      obtain ⟨pr', F', D'⟩ := B'.di
      rcases step_alC B.pi hlen D hk hse hm with h | ⟨k', se', h1, h2, h3, h4⟩
      · exact .inl h
      · refine .inr ⟨k', se', h1, h2, fun _ => ⟨h3, ?_⟩⟩
        by_cases j0 : 1 ≤ j
        · obtain ⟨h5, h6⟩ := H j0
          have := h4 h5
          omega
        · have := (alC_bd B'.pi D' h1 h2 h3).2
          omega

def soloC (c : Cfg) (Ls : Int) : Int := 56 * c.Sl + (c.T + 2) * (3 * c.R + c.R * c.Hz + 3 * Ls + 3) + 3 * c.Ca + 2 * c.R + c.Hz + 100
theorem alone_ends {M : List Mv} (hok : c.Ok) (t : Nat) (ht : (t : Int) < c.T) (N : Nat) (hl : M.length + N ≤ 65536) {Ls : Int} (hLs : 0 ≤ Ls) (hN : (N : Int) = soloC c Ls) :
    ∃ y, Bhv c (M ++ List.replicate N ⟨(t : Int), 0, 0, 0⟩) y ∧ ∀ x ∈ y.m.calls, x.thread = (t : Int) → 0 ≤ x.end_ := by
  have hT := hok.T1
  have hR := hok.R1
  have hS := hok.S1
  have hC := hok.C1
  have hH := hok.H1
  have hA : 0 ≤ c.R * c.Hz := Int.mul_nonneg (by omega) (by omega)
  have hX : 1 * (3 * c.R + c.R * c.Hz + 3 * Ls + 3) ≤ (c.T + 2) * (3 * c.R + c.R * c.Hz + 3 * Ls + 3) := Int.mul_le_mul_of_nonneg_right (by omega) (by omega)
  have hsol : scB c + c.Hz + 3 * c.Ca + 12 ≤ (N : Int) := by
    rw [hN]; unfold soloC scB scA; omega
  obtain ⟨y, B, H⟩ := alone_k hok t ht N hl N (Nat.le_refl _)
  refine ⟨y, B, ?_⟩
  have hB : 0 ≤ scB c := by unfold scB scA; omega
  rcases H with H | ⟨k, se, hk, hse, H⟩
  · intro x hx hxt
    have hcl := (B.ok.cl x hx).e
    rcases hcl with h | h
    · exfalso
      obtain ⟨k, hk⟩ := B.ok.idle x hx h.1
      rw [hxt] at hk
      simp only [Int.toNat_natCast] at hk
      rw [H] at hk; cases hk
    · have := (B.ok.cl x hx).b0
      omega
  · exfalso
    obtain ⟨h5, h6⟩ := H (by omega)
    obtain ⟨pr, F, D⟩ := B.di
    have := (alC_bd B.pi D hk hse h5).1
    omega
end
end Go.Proofs.YtegafhhdegnigaaGreat
end
