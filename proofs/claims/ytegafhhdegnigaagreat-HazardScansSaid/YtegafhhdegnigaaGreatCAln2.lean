/-
  Any call that is alone comes nearer to its end with each step.
-/
import Derived.Test.YtegafhhdegnigaaGreatCAln
set_option linter.all false
namespace Go.Proofs.YtegafhhdegnigaaGreat
open Go.RowKit Hp
set_option maxRecDepth 100000
set_option maxHeartbeats 1000000
attribute [local irreducible] Go.Calls
section
variable {c : Cfg} {Lg S N Lg' S' N' : Nat} {h : Haz} {a : Are} {m : Mch} {t : Nat}
theorem scC_ge {s : Scn} (hok : c.Ok) (I : ScI c s) (hd : Int) : 1 ≤ scC c hd s := by
 obtain ⟨i1,i2,i3,i4,i5,i6,i7,i8,i9⟩ := I
 have hR := hok.R1
 have hS := hok.S1
 have hA : 0 ≤ c.R * c.Hz := Int.mul_nonneg (by omega) (by have := hok.H1;omega)
 unfold scC scA
 split
 ·have := i6 (by omega);omega
 ·split
  ·have := i6 (by omega);omega
  ·split
   ·have := i6 (by omega);omega
   ·split
    ·have := (i8 (by omega)).1;omega
    ·obtain ⟨p,e1,e2,e3,e4⟩ := i9 (by omega)
     have := psC_1 hd p
     simp only [giC,e1]
     omega
theorem unr_c {u : Unr} (C : Core c Lg S N h a m) (ht : (t : Int) < c.T) (hu : u.thread = (t : Int)) (I : UnI c (a.caches.getD t []) u) (hl : ∀ r : Nat,((h.lists.getD r []).length : Int) ≤ c.Sl)
  (C' : Core c Lg' S' N' (unregStep h a m u).2.1 (unregStep h a m u).2.2.1 (unregStep h a m u).2.2.2.1) (hf : (unregStep h a m u).1 = false) :
  unC c ((unregStep h a m u).2.2.2.1.word (adr c 1 0)) (((unregStep h a m u).2.2.1.caches.getD t []).length : Int) (unregStep h a m u).2.2.2.2 ≤ unC c (m.word (adr c 1 0)) ((a.caches.getD t []).length : Int) u - 1 := by
 have hok := C.ok
 have hc := C.hc
 have hC1 := hok.C1
 have hS1 := hok.S1
 have hR1 := hok.R1
 have hH1 := hok.H1
 have hA : 0 ≤ c.R * c.Hz := Int.mul_nonneg (by omega) (by omega)
 obtain ⟨j1,j2,j3,j4⟩ := I
 unfold unregStep at C' hf ⊢
 simp only [hc] at C' hf ⊢
 split
 ·rename_i h0
  rw [if_pos h0] at C' hf
  obtain ⟨k0,k1⟩ := j2 h0
  have e0 : unC c (m.word (adr c 1 0)) ((a.caches.getD t []).length : Int) u = (c.Hz - u.k) + scB c + 3 * c.Ca + 1 := by simp only [unC,if_pos h0]
  rw [e0]
  split
  ·simp only [unC,if_pos h0];omega
  ·rename_i h1
   rw [if_neg h1] at C' hf
   have hB : 0 ≤ scB c := by unfold scB scA;omega
   split
   ·refine Int.le_trans (empty_c C ht ?_ _) ?_
    ·exact hu
    ·omega
   ·rename_i h2
    simp only [unC,soC]
    simp only [show ¬ (1 : Int) = 0 by decide,if_false,if_true]
    have := ready_c hok hc ((m.store (base c 9 + h.held.getD u.thread.toNat 0 * c.Hz + u.k).toNat (m.word (base c 9 + h.held.getD u.thread.toNat 0 * c.Hz + u.k).toNat) 0).word (adr c 1 0)) (Bool.eq_false_iff.2 h2)
    omega
 ·rename_i h0
  rw [if_neg h0] at C' hf
  split
  ·rename_i h1
   rw [if_pos h1] at C' hf
   obtain ⟨s,e1,e2,e3⟩ := j3 h1
   have e0 : unC c (m.word (adr c 1 0)) ((a.caches.getD t []).length : Int) u = scC c (m.word (adr c 1 0)) s + 3 * c.Ca + 1 := by simp only [unC,if_neg h0,if_pos h1,e1,soC]
   rw [e0]
   have g1 := scC_ge hok e2 (m.word (adr c 1 0))
   have g2 := scan_c C e2 (hl _)
   rw [e1] at C' hf ⊢
   simp only [] at C' hf ⊢
   split
   ·rename_i h2
    rw [if_pos h2] at C'
    refine Int.le_trans (empty_c C' ht ?_ _) ?_
    ·exact hu
    ·omega
   ·rename_i h2
    have := g2 (by simpa using h2)
    simp only [unC,if_neg h0,if_pos h1,soC]
    omega
  ·rename_i h1
   rw [if_neg h1] at C' hf
   split
   ·rename_i h2
    rw [if_pos h2] at C' hf
    obtain ⟨p,e1,e2,e3,e4⟩ := j4 h2
    have e0 : unC c (m.word (adr c 1 0)) ((a.caches.getD t []).length : Int) u = psC (m.word (adr c 1 0)) p + 3 * (((a.caches.getD t []).length : Int) - 1) + 1 := by simp only [unC,if_neg h0,if_neg h1,if_pos h2,e1,poC]
    rw [e0]
    have g1 := (psC_1 (m.word (adr c 1 0)) p).1
    have g2 := flush_c C e2 ht (e3.trans hu) e4
    rw [e1] at C' hf ⊢
    simp only [] at C' hf ⊢
    by_cases h3 : (flushStep a m p).1 = true
    ·simp only [if_pos h3,unC]
     simp only [show ¬ (3 : Int) = 0 by decide,show ¬ (3 : Int) = 1 by decide,show ¬ (3 : Int) = 2 by decide,if_false]
     omega
    ·have := g2 (by simpa using h3)
     simp only [if_neg h3,unC,poC]
     simp only [show ¬ (2 : Int) = 0 by decide,show ¬ (2 : Int) = 1 by decide,if_false,if_true]
     omega
   ·rename_i h2
    rw [if_neg h2] at hf
    cases hf
theorem post_c {p : Pst} {i : Nat} {cl : Cll} {se : Sea} (C : Core c Lg S N h a m) (T : PoI c p) (hl : ∀ r : Nat,((h.lists.getD r []).length : Int) ≤ c.Sl) (hf : (postStep h a m i t cl se p).1 = false) :
  ptC c ((postStep h a m i t cl se p).2.2.2.1.word (adr c 1 0)) ((postStep h a m i t cl se p).2.2.2.1.word (adr c 2 0)) (postStep h a m i t cl se p).2.2.2.2 ≤ ptC c (m.word (adr c 1 0)) (m.word (adr c 2 0)) p - 1 := by
 have hok := C.ok
 have hc := C.hc
 obtain ⟨⟨k,e1,t0,t1⟩,j1,j2,j3⟩ := T
 unfold postStep at hf ⊢
 rw [e1] at hf ⊢
 simp only [hc] at hf ⊢
 split
 ·rename_i h0
  rw [if_pos h0] at hf
  have e0 : ptC c (m.word (adr c 1 0)) (m.word (adr c 2 0)) p = tkC (m.word (adr c 1 0)) k + 3 + scB c := by simp only [ptC,if_pos h0,e1,toC]
  rw [e0]
  have g1 := (tkC_1 (m.word (adr c 1 0)) k).1
  have g2 := take_c (k := k) C
  split
  ·rename_i h1
   rw [if_pos h1] at hf
   simp only [] at hf ⊢
   unfold postTook at hf ⊢
   split
   ·rename_i h2
    rw [if_pos h2] at hf
    cases hf
   ·simp only [ptC]
    simp only [show ¬ (1 : Int) = 0 by decide,if_false,if_true]
    omega
  ·rename_i h1
   have := g2 (by simpa using h1)
   simp only [ptC,if_pos h0,toC]
   omega
 ·rename_i h0
  rw [if_neg h0] at hf
  split
  ·rename_i h1
   have e0 : ptC c (m.word (adr c 1 0)) (m.word (adr c 2 0)) p = 3 + scB c := by simp only [ptC,if_neg h0,if_pos h1]
   rw [e0]
   simp only [ptC]
   simp only [show ¬ (2 : Int) = 0 by decide,show ¬ (2 : Int) = 1 by decide,if_false,if_true]
   omega
  ·rename_i h1
   rw [if_neg h1] at hf
   split
   ·rename_i h2
    have e0 : ptC c (m.word (adr c 1 0)) (m.word (adr c 2 0)) p = 2 + scB c := by simp only [ptC,if_neg h0,if_neg h1,if_pos h2]
    rw [e0]
    have e3 : (m.load (adr c 2 0) (m.word (adr c 2 0))).word (adr c 2 0) = m.word (adr c 2 0) := rfl
    simp only [ptC,e3]
    simp only [show ¬ (3 : Int) = 0 by decide,show ¬ (3 : Int) = 1 by decide,show ¬ (3 : Int) = 2 by decide,if_false,if_true]
    omega
   ·rename_i h2
    rw [if_neg h2] at hf
    split
    ·rename_i h3
     rw [if_pos h3] at hf
     split
     ·rename_i h4
      rw [if_pos h4] at hf
      have e0 : ptC c (m.word (adr c 1 0)) (m.word (adr c 2 0)) p = 1 + scB c := by simp only [ptC,if_neg h0,if_neg h1,if_neg h2,if_pos h3,if_pos h4]
      rw [e0]
      unfold postDone at hf ⊢
      simp only [] at hf ⊢
      split
      ·rename_i h5
       rw [if_pos h5] at hf
       cases hf
      ·rename_i h5
       rw [if_neg h5] at hf
       simp only [] at hf ⊢
       unfold retireReady at hf ⊢
       simp only [] at hf ⊢
       split
       ·rename_i h6
        rw [if_pos h6] at hf
        cases hf
       ·rename_i h6
        rw [if_neg h6] at hf
        simp only [] at hf
        simp only [ptC,roC,soC]
        simp only [show ¬ (4 : Int) = 0 by decide,show ¬ (4 : Int) = 1 by decide,show ¬ (4 : Int) = 2 by decide,show ¬ (4 : Int) = 3 by decide,if_false]
        refine Int.le_trans (ready_c hok ?_ _ hf) (by omega)
        exact hc
     ·rename_i h4
      have e0 : ptC c (m.word (adr c 1 0)) (m.word (adr c 2 0)) p = 3 + scB c := by simp only [ptC,if_neg h0,if_neg h1,if_neg h2,if_pos h3,if_neg h4]
      rw [e0]
      simp only [ptC]
      simp only [show ¬ (2 : Int) = 0 by decide,show ¬ (2 : Int) = 1 by decide,if_false,if_true]
      omega
    ·rename_i h3
     rw [if_neg h3] at hf
     have h4 : p.stage = 4 := by clear j2 j3 t1;omega
     obtain ⟨r,sc,e2,e3,e4,e5⟩ := j3 h4
     have e0 : ptC c (m.word (adr c 1 0)) (m.word (adr c 2 0)) p = scC c (m.word (adr c 1 0)) sc := by simp only [ptC,if_neg h0,if_neg h1,if_neg h2,if_neg h3,e2,roC,e3,soC]
     rw [e0]
     have g := scan_c C e4 (hl _)
     rw [e2] at hf ⊢
     simp only [] at hf ⊢
     rw [e3] at hf ⊢
     simp only [] at hf ⊢
     have := g hf
     simp only [ptC,if_neg h0,if_neg h1,if_neg h2,if_neg h3,roC,soC]
     exact this
theorem read_c {r : Rdg} {i : Nat} {cl : Cll} {se : Sea} (C : Core c Lg S N h a m) (I : RdI c r) (hf : (readStep h m i t cl se r).1 = false) :
  rdC ((readStep h m i t cl se r).2.1.word (adr c 2 0)) (readStep h m i t cl se r).2.2 ≤ rdC (m.word (adr c 2 0)) r - 1 := by
 have hok := C.ok
 have hc := C.hc
 have saw : ∀ (u : Int),u = m.word (adr c 2 0) → (readSaw (m.load (adr c 2 0) (m.word (adr c 2 0))) i t cl se r u).1 = false → rdC ((readSaw (m.load (adr c 2 0) (m.word (adr c 2 0))) i t cl se r u).2.1.word (adr c 2 0)) (readSaw (m.load (adr c 2 0) (m.word (adr c 2 0))) i t cl se r u).2.2 ≤ 3 := by
  intro u hu hf
  unfold readSaw at hf ⊢
  split
  ·rename_i h1
   rw [if_pos h1] at hf
   cases hf
  ·have e : (m.load (adr c 2 0) (m.word (adr c 2 0))).word (adr c 2 0) = u := hu.symm
   simp only [e,rdC]
   simp
 unfold readStep at hf ⊢
 simp only [hc] at hf ⊢
 split
 ·rename_i h0
  rw [if_pos h0] at hf
  have := saw _ rfl hf
  have e0 : rdC (m.word (adr c 2 0)) r = 4 := by simp only [rdC,if_pos h0]
  omega
 ·rename_i h0
  rw [if_neg h0] at hf
  split
  ·rename_i h1
   obtain ⟨a0,a1,_,_⟩ := I
   have hA : r.addr.toNat < m.mem.words.length := by
    obtain ⟨b1,b2,b8,b9,b10,b11,b12,b13,b14,rh,rh2⟩ := bases hok
    have := C.words
    have := hok.S1
    have := hok.R1
    omega
   have hA2 : 2 ≤ r.addr.toNat := by
    obtain ⟨b1,b2,b8,b9,b10,b11,b12,b13,b14,rh,rh2⟩ := bases hok
    have := hok.R1
    omega
   have e : (m.store r.addr.toNat (m.word r.addr.toNat) r.w).word (adr c 2 0) = m.word (adr c 2 0) := by
    rw [word_set (m := m) (A := r.addr.toNat) rfl hA,if_neg (a2_ne hok hA2)]
   simp only [e,rdC,h1]
   simp
   split <;> omega
  ·rename_i h1
   rw [if_neg h1] at hf
   split
   ·rename_i h2
    rw [if_pos h2] at hf
    split
    ·rename_i h3
     have e0 : rdC (m.word (adr c 2 0)) r = 2 := by simp only [rdC,if_neg h0,if_neg h1,if_pos h2,if_pos h3]
     rw [e0]
     simp [rdC]
    ·rename_i h3
     rw [if_neg h3] at hf
     have := saw _ rfl hf
     have e0 : rdC (m.word (adr c 2 0)) r = 4 := by simp only [rdC,if_neg h0,if_neg h1,if_pos h2,if_neg h3]
     omega
   ·rename_i h2
    rw [if_neg h2] at hf
    cases hf
theorem reg_c {r : Reg} {se : Sea} (C : Core c Lg S N h a m) (hf : (regStep h m t se r).1 = false) : rgC c (regStep h m t se r).2.2.2 ≤ rgC c r - 1 := by
 have hc := C.hc
 have nx : ∀ m',(regNext h m' t se r).1 = false → rgC c (regNext h m' t se r).2.2.2 ≤ 2 * (c.R - r.i) - 2 := by
  intro m' hf
  unfold regNext at hf ⊢
  rw [hc] at hf ⊢
  split
  ·simp [rgC];omega
  ·rename_i h1
   rw [if_neg h1] at hf
   cases hf
 unfold regStep at hf ⊢
 simp only [] at hf ⊢
 split
 ·rename_i h0
  rw [if_pos h0] at hf
  have e0 : rgC c r = 2 * (c.R - r.i) := by simp [rgC,h0]
  rw [e0]
  split
  ·rename_i h1
   rw [if_pos h1] at hf
   have := nx _ hf
   omega
  ·simp [rgC]
 ·rename_i h0
  rw [if_neg h0] at hf
  have h0' : r.seen = true := by simpa using h0
  have e0 : rgC c r = 2 * (c.R - r.i) - 1 := by simp [rgC,h0']
  rw [e0]
  split
  ·rename_i h1
   rw [if_pos h1] at hf
   cases hf
  ·rename_i h1
   rw [if_neg h1] at hf
   have := nx _ hf
   omega
theorem cost_step {k : HTask} {i : Nat} {cl : Cll} {se : Sea} (C : Core c Lg S N h a m) (ht : (t : Int) < c.T) (I : TI c t true (h.held.getD t 0) (a.caches.getD t []) k) (hl : ∀ r : Nat,((h.lists.getD r []).length : Int) ≤ c.Sl)
  (C' : Core c Lg' S' N' (htStep (h,a) m i t cl se k).2.1.1 (htStep (h,a) m i t cl se k).2.1.2 (htStep (h,a) m i t cl se k).2.2.1) (hf : (htStep (h,a) m i t cl se k).1 = false) :
  coC c ((htStep (h,a) m i t cl se k).2.2.1.word (adr c 1 0)) ((htStep (h,a) m i t cl se k).2.2.1.word (adr c 2 0)) (((htStep (h,a) m i t cl se k).2.1.2.caches.getD t []).length : Int) (htStep (h,a) m i t cl se k).2.2.2 ≤
   coC c (m.word (adr c 1 0)) (m.word (adr c 2 0)) ((a.caches.getD t []).length : Int) k - 1 := by
 cases k with
 | reg r => exact reg_c C hf
 | unr u => exact unr_c C ht I.1 I.2.2 hl C' hf
 | pst p => exact post_c C (I.2.2.1 rfl) hl hf
 | rdg r => exact read_c C I hf
 | clr ad => cases hf
 | scn s => exact scan_c C (I.2.2 rfl) (hl _) hf
theorem co_1 {k : HTask} {hd : Int} {ca : List Int} (hok : c.Ok) (I : TI c t true hd ca k) (w1 w2 : Int) : 1 ≤ coC c w1 w2 (ca.length : Int) k := by
 have hR := hok.R1
 have hS := hok.S1
 have hC := hok.C1
 have hA : 0 ≤ c.R * c.Hz := Int.mul_nonneg (by omega) (by have := hok.H1;omega)
 have hB : 0 ≤ scB c := by unfold scB scA;omega
 cases k with
 | reg r =>
  obtain ⟨_,i1,i2⟩ := I
  simp only [coC,rgC]
  split <;> omega
 | unr u =>
  obtain ⟨_,_,j1,j2,j3,j4⟩ := I
  simp only [coC,unC]
  split
  ·have := j2 (by omega);omega
  ·split
   ·obtain ⟨s,e1,e2,e3⟩ := j3 (by omega)
    have := scC_ge hok e2 w1
    simp only [e1,soC];omega
   ·split
    ·obtain ⟨p,e1,e2,e3,e4⟩ := j4 (by omega)
     have := (psC_1 w1 p).1
     simp only [e1,poC];omega
    ·omega
 | pst p =>
  obtain ⟨⟨k,e1,t0,t1⟩,j1,j2,j3⟩ := I.2.2.1 rfl
  simp only [coC,ptC]
  split
  ·have := (tkC_1 w1 k).1
   simp only [e1,toC];omega
  ·split
   ·omega
   ·split
    ·omega
    ·split
     ·split <;> omega
     ·have h4 : p.stage = 4 := by clear j2 j3 t1 I;omega
      obtain ⟨r,sc,e2,e3,e4,e5⟩ := j3 h4
      have := scC_ge hok e4 w1
      simp only [e2,roC,e3,soC];omega
 | rdg r =>
  simp only [coC,rdC]
  split
  ·omega
  ·split
   ·split <;> omega
   ·split
    ·split <;> omega
    ·omega
 | clr ad => exact Int.le_refl 1
 | scn s => exact scC_ge hok (I.2.2 rfl) w1
theorem co_2 {k : HTask} {hd : Int} {ca : List Int} (hok : c.Ok) (I : TI c t true hd ca k) (hca : (ca.length : Int) ≤ c.Ca) (hp : ∀ s,scOf k = some s → (s.pending.length : Int) ≤ c.Sl) (w1 w2 : Int) : coC c w1 w2 (ca.length : Int) k ≤ scB c + c.Hz + 3 * c.Ca + 10 := by
 have hR := hok.R1
 have hS := hok.S1
 have hC := hok.C1
 have hH := hok.H1
 have hA : 0 ≤ c.R * c.Hz := Int.mul_nonneg (by omega) (by omega)
 have hB : 3 * c.R ≤ scB c := by unfold scB scA;omega
 cases k with
 | reg r =>
  obtain ⟨_,i1,i2⟩ := I
  simp only [coC,rgC]
  split <;> omega
 | unr u =>
  obtain ⟨_,_,j1,j2,j3,j4⟩ := I
  simp only [coC,unC]
  split
  ·have := j2 (by omega);omega
  ·split
   ·rename_i h1
    obtain ⟨s,e1,e2,e3⟩ := j3 (by omega)
    have := (scC_1 hok e2 (hp s (by simp only [scOf,if_pos h1,e1])) w1).2
    simp only [e1,soC];omega
   ·split
    ·obtain ⟨p,e1,e2,e3,e4⟩ := j4 (by omega)
     have := (psC_1 w1 p).2
     simp only [e1,poC];omega
    ·omega
 | pst p =>
  obtain ⟨⟨k,e1,t0,t1⟩,j1,j2,j3⟩ := I.2.2.1 rfl
  simp only [coC,ptC]
  split
  ·have := (tkC_1 w1 k).2
   simp only [e1,toC];omega
  ·split
   ·omega
   ·split
    ·omega
    ·split
     ·split <;> omega
     ·have h4 : p.stage = 4 := by clear j2 j3 t1 I;omega
      obtain ⟨r,sc,e2,e3,e4,e5⟩ := j3 h4
      have := (scC_1 hok e4 (hp sc (by simp only [scOf,if_pos h4,e2,e3])) w1).2
      simp only [e2,roC,e3,soC];omega
 | rdg r =>
  simp only [coC,rdC]
  split
  ·omega
  ·split
   ·split <;> omega
   ·split
    ·split <;> omega
    ·omega
 | clr ad => show (1 : Int) ≤ _;omega
 | scn s =>
  have := (scC_1 hok (I.2.2 rfl) (hp s rfl) w1).2
  show scC c w1 s ≤ _;omega
end
end Go.Proofs.YtegafhhdegnigaaGreat
