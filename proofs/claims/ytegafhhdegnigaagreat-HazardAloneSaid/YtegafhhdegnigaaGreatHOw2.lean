/-
  Records; what each call knows, and that others leave it so.
-/
import Derived.Test.YtegafhhdegnigaaGreatHOw
set_option linter.all false
namespace Go.Proofs.YtegafhhdegnigaaGreat
open Go.RowKit Hp
set_option maxRecDepth 100000
set_option maxHeartbeats 1000000
attribute [local irreducible] Go.Calls

theorem count_set : ∀ {l : List Int} {i : Nat} {u : Int} (v s : Int), l[i]? = some u → (l.set i v).count s + [u].count s = l.count s + [v].count s
  | [], _, _, _, _, h => by simp at h
  | a :: r, 0, u, v, s, h => by simp at h; subst h; simp only [List.set_cons_zero, List.count_cons, List.count_nil]; omega
  | a :: r, i + 1, u, v, s, h => by
    simp only [List.getElem?_cons_succ] at h
    have := count_set v s h
    simp only [List.set_cons_succ, List.count_cons] at this ⊢; omega

section
variable {c : Cfg} {n : Int} {Z Y : Int → Nat} {F : List Int} {x : Sx} {K L : List Int} {t : Nat} {W : Int → Prop}

theorem getD_some {l : List (List Int)} {i : Nat} {y : List Int} (h : l[i]? = some y) : l.getD i [] = y := by
  rw [List.getD_eq_getElem?_getD, h]; rfl

/-- another record is taken, and its list -/
theorem Gd.lock (G : Gd c n Z Y F x K []) {r q : Int} (r0 : 0 ≤ r) (r1 : r < c.R) (h : x.held[t]? = some r) (q0 : 0 ≤ q) (q1 : q < c.R) (hne : q ≠ r) (ha : x.V.act q = 0) {l l' : List Int} (hl : x.lists[r.toNat]? = some l) (hl' : x.lists[q.toNat]? = some l') :
    Gd c n Z Y F { x with V := { x.V with act := upd x.V.act q 1 }, lists := (x.lists.set r.toNat (l ++ l')).set q.toNat [] } K [q] ∧ Rl Z t W x { x with V := { x.V with act := upd x.V.act q 1 }, lists := (x.lists.set r.toNat (l ++ l')).set q.toNat [] } := by
  have hq : x.held.count q + Y q = 0 := by
    have := G.rcd q q0 q1
    rw [ha] at this
    simp only [List.count_nil] at this
    omega
  have hlq : (x.lists.set r.toNat (l ++ l'))[q.toNat]? = some l' := by rw [set_ne (by omega)]; exact hl'
  refine ⟨⟨?_, G.stF, G.stC, G.stX, ?_, G.stZ, G.chain, G.hd0, G.tag, ?_, ?_, G.pr1, G.pr2⟩, .inl rfl, fun _ _ _ _ => rfl, fun _ _ => rfl, fun _ _ => rfl, fun _ _ => rfl, fun _ _ => rfl, ?_, fun _ _ => ⟨rfl, id⟩, fun _ h => .inl ⟨h, rfl⟩, fun _ _ => rfl⟩
  · intro s'
    have := G.tot s'
    have h1 := cnt2_set (l ++ l') s' hl
    have h2 := cnt2_set [] s' hlq
    show F.count s' + cnt2 x.caches s' + Z s' + K.count s' + ind (0 ≤ s' ∧ x.V.cell = s' + 1) + cnt2 ((x.lists.set r.toNat (l ++ l')).set q.toNat []) s' = _
    simp only [List.count_append, List.count_nil] at h1 h2
    omega
  · intro l2 h2 s' h'
    have h2 : l2 ∈ (x.lists.set r.toNat (l ++ l')).set q.toNat [] := h2
    rcases List.mem_or_eq_of_mem_set h2 with h2 | rfl
    · rcases List.mem_or_eq_of_mem_set h2 with h2 | rfl
      · exact G.stL l2 h2 s' h'
      · rcases List.mem_append.1 h' with h' | h'
        · exact G.stL l (List.mem_of_getElem? hl) s' h'
        · exact G.stL l' (List.mem_of_getElem? hl') s' h'
    · simp at h'
  · intro r' r0' r1'
    have := G.rcd r' r0' r1'
    show ((x.held.count r' + Y r' + [q].count r' : Nat) : Int) = upd x.V.act q 1 r'
    simp only [List.count_nil] at this
    by_cases e : r' = q
    · subst e
      rw [upd_self]
      have : [r'].count r' = 1 := by simp
      omega
    · rw [upd_ne _ _ e]
      have : [q].count r' = 0 := by simp [Ne.symm e]
      omega
  · intro r' r0' r1'
    show upd x.V.act q 1 r' = 0 ∨ upd x.V.act q 1 r' = 1
    by_cases e : r' = q
    · subst e; rw [upd_self]; exact .inr rfl
    · rw [upd_ne _ _ e]; exact G.act1 r' r0' r1'
  · intro j r' hj hr' r0'
    show ((x.lists.set r.toNat (l ++ l')).set q.toNat []).getD r'.toNat [] = _
    have h1 : r'.toNat ≠ r.toNat := by
      intro e
      have : r' = r := by omega
      subst this
      exact hj (G.alone r0 r1 h hr')
    have h2 : r'.toNat ≠ q.toNat := by
      intro e
      have : r' = q := by omega
      subst this
      have := cpos (List.mem_of_getElem? hr')
      omega
    simp only [List.getD_eq_getElem?_getD, set_ne h2, set_ne h1]
/-- and left again -/
theorem Gd.unlock {q : Int} (G : Gd c n Z Y F x K [q]) :
    Gd c n Z Y F { x with V := { x.V with act := upd x.V.act q 0 } } K [] ∧ Rl Z t W x { x with V := { x.V with act := upd x.V.act q 0 } } := by
  refine ⟨⟨G.tot, G.stF, G.stC, G.stX, G.stL, G.stZ, G.chain, G.hd0, G.tag, ?_, ?_, G.pr1, G.pr2⟩, .inl rfl, fun _ _ _ _ => rfl, fun _ _ => rfl, fun _ _ => rfl, fun _ _ => rfl, fun _ _ => rfl, fun _ _ _ _ _ => rfl, fun _ _ => ⟨rfl, id⟩, fun _ h => .inl ⟨h, rfl⟩, fun _ _ => rfl⟩
  · intro r' r0' r1'
    have h1 := G.rcd r' r0' r1'
    have h2 := G.act1 r' r0' r1'
    show ((x.held.count r' + Y r' + [].count r' : Nat) : Int) = upd x.V.act q 0 r'
    by_cases e : r' = q
    · subst e
      rw [upd_self]
      have : [r'].count r' = 1 := by simp
      simp only [List.count_nil]
      omega
    · rw [upd_ne _ _ e]
      have : [q].count r' = 0 := by simp [Ne.symm e]
      simp only [List.count_nil]
      omega
  · intro r' r0' r1'
    show upd x.V.act q 0 r' = 0 ∨ upd x.V.act q 0 r' = 1
    by_cases e : r' = q
    · subst e; rw [upd_self]; exact .inl rfl
    · rw [upd_ne _ _ e]; exact G.act1 r' r0' r1'
/-- a record becomes one's own -/
theorem Gd.register (G : Gd c n Z Y F x K L) {r u : Int} (r0 : 0 ≤ r) (r1 : r < c.R) (h : x.held[t]? = some u) (hu : u < 0) (ha : x.V.act r = 0) :
    Gd c n Z Y F { x with V := { x.V with act := upd x.V.act r 1 }, held := x.held.set t r } K L ∧ Rl Z t W x { x with V := { x.V with act := upd x.V.act r 1 }, held := x.held.set t r } := by
  refine ⟨⟨G.tot, G.stF, G.stC, G.stX, G.stL, G.stZ, G.chain, G.hd0, G.tag, ?_, ?_, G.pr1, G.pr2⟩, .inl rfl, fun _ _ _ _ => rfl, fun _ _ => rfl, fun _ _ => rfl, fun _ _ => rfl, fun j hj => set_ne hj, fun _ _ _ _ _ => rfl, fun _ _ => ⟨rfl, id⟩, fun _ h => .inl ⟨h, rfl⟩, fun _ _ => rfl⟩
  · intro r' r0' r1'
    have h1 := G.rcd r' r0' r1'
    have h2 := count_set r r' h
    have h3 : [u].count r' = 0 := List.count_eq_zero.2 (by simp only [List.mem_singleton]; omega)
    show (((x.held.set t r).count r' + Y r' + L.count r' : Nat) : Int) = upd x.V.act r 1 r'
    by_cases e : r' = r
    · subst e
      rw [upd_self]
      have : [r'].count r' = 1 := by simp
      omega
    · rw [upd_ne _ _ e]
      have : [r].count r' = 0 := by simp [Ne.symm e]
      omega
  · intro r' r0' r1'
    show upd x.V.act r 1 r' = 0 ∨ upd x.V.act r 1 r' = 1
    by_cases e : r' = r
    · subst e; rw [upd_self]; exact .inr rfl
    · rw [upd_ne _ _ e]; exact G.act1 r' r0' r1'
theorem Gd.unregister (G : Gd c n Z Y F x K L) {r : Int} (r0 : 0 ≤ r) (r1 : r < c.R) (h : x.held[t]? = some r) :
    Gd c n Z Y F { x with V := { x.V with act := upd x.V.act r 0 }, held := x.held.set t (-1) } K L ∧ Rl Z t W x { x with V := { x.V with act := upd x.V.act r 0 }, held := x.held.set t (-1) } := by
  refine ⟨⟨G.tot, G.stF, G.stC, G.stX, G.stL, G.stZ, G.chain, G.hd0, G.tag, ?_, ?_, G.pr1, G.pr2⟩, .inl rfl, fun _ _ _ _ => rfl, fun _ _ => rfl, fun _ _ => rfl, fun _ _ => rfl, fun j hj => set_ne hj, fun _ _ _ _ _ => rfl, fun _ _ => ⟨rfl, id⟩, fun _ h => .inl ⟨h, rfl⟩, fun _ _ => rfl⟩
  · intro r' r0' r1'
    have h1 := G.rcd r' r0' r1'
    have h4 := G.act1 r' r0' r1'
    have h2 := count_set (-1) r' h
    have h3 : [(-1 : Int)].count r' = 0 := List.count_eq_zero.2 (by simp only [List.mem_singleton]; omega)
    show (((x.held.set t (-1)).count r' + Y r' + L.count r' : Nat) : Int) = upd x.V.act r 0 r'
    by_cases e : r' = r
    · subst e
      rw [upd_self]
      have : [r'].count r' = 1 := by simp
      omega
    · rw [upd_ne _ _ e]
      have : [r].count r' = 0 := by simp [Ne.symm e]
      omega
  · intro r' r0' r1'
    show upd x.V.act r 0 r' = 0 ∨ upd x.V.act r 0 r' = 1
    by_cases e : r' = r
    · subst e; rw [upd_self]; exact .inl rfl
    · rw [upd_ne _ _ e]; exact G.act1 r' r0' r1'
end

/-! ## what a call knows -/
def PD (x : Sx) (p : Psh) : Prop := p.at_ = 3 → x.V.nx p.slot = p.head % 4294967296
structure TkD (x : Sx) (k : Tak) : Prop where
  tag : k.at_ ≠ 1 → k.head / 4294967296 ≤ x.V.hd / 4294967296
  next : k.at_ = 3 → x.V.hd = k.head → x.V.nx (k.head % 4294967296 - 1) = k.next
def giveL (g : Option Psh) (l : List Int) : List Int := match g with | some p => p.slot :: l | none => l
def scnP (s : Scn) : List Int := if s.stage = 5 then giveL s.give s.pending else []
structure ScD (t : Nat) (x : Sx) (s : Scn) : Prop where
  rcd : x.held[t]? = some s.record
  look : s.stage = 3 → ∀ s0 ∈ x.lists.getD s.record.toNat [], ∀ j, 0 ≤ j → j < s.at_ → x.pr j → x.V.hz j = s0 + 1 → 0 < s.named s0
  give : s.stage = 5 → ∀ p, s.give = some p → PD x p
  st : ∀ s0 ∈ scnP s, (x.sl s0).state = 5
  pr : ∀ s0 ∈ scnP s, ∀ j, x.pr j → x.V.hz j ≠ s0 + 1

def scOf : HTask → Option Scn
  | .scn s => some s
  | .unr u => if u.stage = 1 then u.scan else none
  | .pst p => if p.stage = 4 then (match p.retire with | some r => r.scan | none => none) else none
  | _ => none
def hO : HTask → List Int
  | .pst p => if p.stage = 1 ∨ p.stage = 2 ∨ p.stage = 3 then [p.link - 1] else []
  | _ => []
def hP (k : HTask) : List Int := match scOf k with | some s => scnP s | none => []
def hL (k : HTask) : List Int := match scOf k with | some s => (if s.stage = 2 then [s.at_] else []) | none => []
def hS (k : HTask) : List Int := hO k ++ hP k
def tS : Option HTask → List Int
  | some k => hS k
  | none => []
def tL : Option HTask → List Int
  | some k => hL k
  | none => []

/-- a hazard of a thread's own -/
def Own (c : Cfg) (t : Nat) (x : Sx) (j : Int) : Prop := ∃ r, x.held[t]? = some r ∧ 0 ≤ r ∧ r < c.R ∧ r * c.Hz ≤ j ∧ j < r * c.Hz + c.Hz

structure TD (c : Cfg) (t : Nat) (x : Sx) (k : HTask) : Prop where
  scan : ∀ s, scOf k = some s → ScD t x s
  own : ∀ s ∈ hO k, x.sl s = ⟨2, (t : Int)⟩
  flush : ∀ u, k = .unr u → u.stage = 2 → ∀ p, u.flush = some p → PD x p ∧ ∃ y, x.caches[t]? = some (y ++ [p.slot])
  take : ∀ p, k = .pst p → p.stage = 0 → ∀ k', p.take = some k' → TkD x k'
  val : ∀ p, k = .pst p → p.stage = 2 ∨ p.stage = 3 → x.V.val (p.link - 1) = p.value % 18446744073709551616
  rd : ∀ r, k = .rdg r → Own c t x (r.addr - base c 9) ∧ (r.stage = 2 → x.V.hz (r.addr - base c 9) = r.w) ∧ (r.stage = 3 → x.pr (r.addr - base c 9) ∧ x.V.hz (r.addr - base c 9) = r.w)
  cl : ∀ ad : Nat, k = .clr ad → Own c t x (ad - base c 9)
  reg : ∀ r, k = .reg r → ∃ u, x.held[t]? = some u ∧ u < 0

section
variable {c : Cfg} {n : Int} {Z Y : Int → Nat} {F : List Int} {x x' : Sx} {K L : List Int} {t t' : Nat} {W : Int → Prop}

theorem PD.rely {p : Psh} (D : PD x p) (R : Rl Z t W x x') (h : 0 < Z p.slot ∨ Oc t x p.slot) : PD x' p := by
  intro h3; rw [R.nx _ h]; exact D h3
theorem TkD.rely {k : Tak} (D : TkD x k) (R : Rl Z t W x x') (h : k.at_ = 3 → 1 ≤ k.head % 4294967296) : TkD x' k := by
  refine ⟨fun h1 => ?_, fun h3 e => ?_⟩
  · have := D.tag h1
    rcases R.hd with e | e
    · rw [e]; exact this
    · omega
  · have h1 := D.tag (by omega)
    rcases R.hd with a | a
    · have e' : x.V.hd = k.head := by rw [← a]; exact e
      rw [R.top a (k.head % 4294967296 - 1) (by have := h h3; omega) (by rw [e']; omega)]
      exact D.next h3 e'
    · exfalso; rw [e] at a; omega
theorem Own.he {j : Int} (h : Own c t x j) (e : x'.held[t]? = x.held[t]?) : Own c t x' j := by
  obtain ⟨r, h1, h2⟩ := h
  exact ⟨r, by rw [e]; exact h1, h2⟩
theorem own_two (G : Gd c n Z Y F x K L) (hok : c.Ok) {j : Int} (h1 : Own c t x j) (h2 : Own c t' x j) : t' = t := by
  obtain ⟨r, a1, a2, a3, a4, a5⟩ := h1
  obtain ⟨q, b1, b2, b3, b4, b5⟩ := h2
  have hH := hok.H1
  have e : r = q := by
    rcases Int.lt_trichotomy r q with h | h | h
    · have : (r + 1) * c.Hz ≤ q * c.Hz := Int.mul_le_mul_of_nonneg_right (by omega) (by omega)
      rw [Int.add_mul, Int.one_mul] at this; omega
    · exact h
    · have : (q + 1) * c.Hz ≤ r * c.Hz := Int.mul_le_mul_of_nonneg_right (by omega) (by omega)
      rw [Int.add_mul, Int.one_mul] at this; omega
  subst e
  exact G.alone a2 a3 a1 b1
theorem ScD.rely {s : Scn} (D : ScD t' x s) (R : Rl Z t W x x') (hne : t' ≠ t) (r0 : 0 ≤ s.record) (hZ : ∀ s0 ∈ scnP s, 0 < Z s0) : ScD t' x' s := by
  have hl := R.li t' s.record hne D.rcd r0
  refine ⟨by rw [R.he t' hne]; exact D.rcd, ?_, ?_, ?_, ?_⟩
  · intro h3 s0 hs0 j j0 j1 hp hz
    rw [hl] at hs0
    rcases R.prn j hp with ⟨h1, h2⟩ | h1
    · exact D.look h3 s0 hs0 j j0 j1 h1 (by rw [← h2]; exact hz)
    · exfalso; apply h1
      rw [hz, show s0 + 1 - 1 = s0 by omega]
      exact .inr ⟨t', s.record, hne, D.rcd, r0, hs0⟩
  · intro h5 p hp
    exact (D.give h5 p hp).rely R (.inl (hZ _ (by unfold scnP; rw [if_pos h5, hp]; exact List.mem_cons_self ..)))
  · intro s0 h0; rw [R.sl s0 (hZ s0 h0)]; exact D.st s0 h0
  · intro s0 h0 j hp hz
    rcases R.prn j hp with ⟨h1, h2⟩ | h1
    · exact D.pr s0 h0 j h1 (by rw [← h2]; exact hz)
    · apply h1
      rw [hz, show s0 + 1 - 1 = s0 by omega]
      exact .inl (hZ s0 h0)

/-- what has to be known of a call besides -/
def TkS (k : HTask) : Prop := (∀ s, scOf k = some s → 0 ≤ s.record) ∧ ∀ p, k = .pst p → p.stage = 0 → ∀ k', p.take = some k' → k'.at_ = 3 → 1 ≤ k'.head % 4294967296

theorem TD.rely {k : HTask} (D : TD c t' x k) (R : Rl Z t W x x') (hne : t' ≠ t) (hT : TkS k) (hZ : ∀ s ∈ hS k, 0 < Z s) (hW : ∀ j, W j → ¬ Own c t' x j) : TD c t' x' k := by
  refine ⟨?_, ?_, ?_, ?_, ?_, ?_, ?_, ?_⟩
  · intro s hs
    refine (D.scan s hs).rely R hne (hT.1 s hs) fun s0 h0 => hZ s0 ?_
    unfold Go.Proofs.YtegafhhdegnigaaGreat.hS hP
    rw [hs]
    exact List.mem_append_right _ h0
  · intro s hs
    rw [R.sl s (hZ s (List.mem_append_left _ hs))]; exact D.own s hs
  · intro u hu h2 p hp
    obtain ⟨d1, y, d2⟩ := D.flush u hu h2 p hp
    exact ⟨d1.rely R (.inr ⟨t', _, hne, d2, by simp⟩), y, by rw [R.ca t' hne]; exact d2⟩
  · intro p hp h0 k' hk
    exact (D.take p hp h0 k' hk).rely R (hT.2 p hp h0 k' hk)
  · intro p hp h2
    rw [R.val _ (hZ _ (List.mem_append_left _ ?_))]
    · exact D.val p hp h2
    · subst hp; simp only [hO]; rw [if_pos (by omega)]; exact List.mem_cons_self ..
  · intro r hr
    obtain ⟨d1, d2, d3⟩ := D.rd r hr
    have hw := R.hz _ (fun h => hW _ h d1)
    exact ⟨d1.he (R.he t' hne), fun h => by rw [hw.1]; exact d2 h, fun h => ⟨hw.2 (d3 h).1, by rw [hw.1]; exact (d3 h).2⟩⟩
  · intro ad h
    exact (D.cl ad h).he (R.he t' hne)
  · intro r hr
    rw [R.he t' hne]; exact D.reg r hr
end
end Go.Proofs.YtegafhhdegnigaaGreat
