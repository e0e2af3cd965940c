/-
  The hazards: records and lists.
-/
import Derived.Test.YtegafhhdegnigaaGreatHParts4
import Derived.Test.YtegafhhdegnigaaGreatHParts5
import Derived.Test.YtegafhhdegnigaaGreatHTypes2
set_option linter.all false
section
namespace Go.Proofs.YtegafhhdegnigaaGreat
open Go.RowKit Hp
set_option maxRecDepth 100000
set_option maxHeartbeats 1000000
attribute [local irreducible] Go.Calls

structure Haz where
  c : Cfg
  held : List Int
  lists : List (List Int)

def HazR (b ba : Nat) (h : Haz) : SProp := ex fun vh => ex fun vl =>
  pt b (.cells #[.pointer (some ⟨ba, 0, none⟩), .int .i64 h.c.T, .int .i64 h.c.R, .int .i64 h.c.Hz, .int .i64 h.c.Rt, .int .i64 h.c.Ca, .int .i64 h.c.Sl, .int .i64 h.c.Bu, vh, vl, .int .i64 (base h.c 8), .int .i64 (base h.c 9), .int .i64 (base h.c 2), .int .i64 (base h.c 11)] 93) * (sl 3 1 (h.held.map eI) vh * nest 44 3 h.lists vl)
theorem hazR {O w : World} {b ba : Nat} {h : Haz} {R : SProp} : Sat O w (HazR b ba h * R) ↔ ∃ vh vl, Sat O w (pt b (.cells #[.pointer (some ⟨ba, 0, none⟩), .int .i64 h.c.T, .int .i64 h.c.R, .int .i64 h.c.Hz, .int .i64 h.c.Rt, .int .i64 h.c.Ca, .int .i64 h.c.Sl, .int .i64 h.c.Bu, vh, vl, .int .i64 (base h.c 8), .int .i64 (base h.c 9), .int .i64 (base h.c 2), .int .i64 (base h.c 11)] 93) * (sl 3 1 (h.held.map eI) vh * (nest 44 3 h.lists vl * R))) := by
  unfold HazR
  simp only [sat_ex, mul_assoc']
theorem hazR_mk {O w : World} {b ba : Nat} {h : Haz} {R : SProp} {vh vl : Value} (hs : Sat O w (pt b (.cells #[.pointer (some ⟨ba, 0, none⟩), .int .i64 h.c.T, .int .i64 h.c.R, .int .i64 h.c.Hz, .int .i64 h.c.Rt, .int .i64 h.c.Ca, .int .i64 h.c.Sl, .int .i64 h.c.Bu, vh, vl, .int .i64 (base h.c 8), .int .i64 (base h.c 9), .int .i64 (base h.c 2), .int .i64 (base h.c 11)] 93) * (sl 3 1 (h.held.map eI) vh * (nest 44 3 h.lists vl * R)))) : Sat O w (HazR b ba h * R) := hazR.2 ⟨_, _, hs⟩
attribute [irreducible] HazR
section



end

theorem haz_record (b ba : Nat) (h : Haz) (t : Nat) (r : Int) (ht : h.held[t]? = some r) : Gives Tryz.prog 50 #[.pointer (some ⟨b, 0, none⟩), .int .i64 (t : Int)] (HazR b ba h) (.int .i64 r) (HazR b ba h) := by
  intro O w F hs
  (obtain ⟨vhh, vhl, hs⟩ := hazR.1 hs)
  have hlt := (List.getElem?_eq_some_iff.1 ht).1
  have n1 : decide ((t : Int) < 0) = false := by simp
  have n2 : decide ((t : Int) ≥ (h.held.length : Int)) = false := by simp; omega
  go_enter Tryz.func50, Tryz.ntmps50
  go_wp2_with (first | ((with_reducible apply wl_ld hs); infer_instance; rfl; (focus ((repeat (first | with_reducible exact Pull.here _ _ | with_reducible apply Pull.skip)); done)); rfl; rfl; (simp only [List.set_cons_succ, List.set_cons_zero])) | ((with_reducible apply wl_ldS0 hs); infer_instance; rfl; assumption; (focus ((repeat (first | with_reducible exact Pull.here _ _ | with_reducible apply Pull.skip)); done)); rfl; (exact map_get (by assumption)); rfl; rfl; (simp only [List.set_cons_succ, List.set_cons_zero])) | ((with_reducible apply wl_ia hs); infer_instance; infer_instance; rfl; rfl; (focus ((repeat (first | with_reducible exact Pull.here _ _ | with_reducible apply Pull.skip)); done)); (rfl); (simp only [List.length_map, List.length_set, List.length_append, List.length_cons, List.length_nil, List.length_replicate] at *; omega); rfl; intro b off hat; (simp only [List.set_cons_succ, List.set_cons_zero])) | ((with_reducible apply wl_len hs); infer_instance; rfl; (focus ((repeat (first | with_reducible exact Pull.here _ _ | with_reducible apply Pull.skip)); done)); rfl; (simp only [List.set_cons_succ, List.set_cons_zero])))
  (go_ret)
  refine ⟨rfl, ?_⟩
  (apply hazR_mk; ((try simp only [List.map_append, List.map_cons, List.map_nil, List.map_set, List.set_set]); (try simp only [List.map_append, List.map_cons, List.map_nil, List.map_set, List.set_set] at hs); ((with_reducible apply Sat.fin hs); (with_reducible exact Pull.last _))))

theorem haz_addr (b ba : Nat) (h : Haz) (hc : h.c.Ok) (t : Nat) (r k : Int) (ht : h.held[t]? = some r) (r0 : 0 ≤ r) (r1 : r < h.c.R) (k0 : 0 ≤ k) (k1 : k < h.c.Hz) :
    Gives Tryz.prog 51 #[.pointer (some ⟨b, 0, none⟩), .int .i64 (t : Int), .int .i64 k] (HazR b ba h) (.int .i64 (base h.c 9 + r * h.c.Hz + k)) (HazR b ba h) := by
  intro O w F hs
  have hR := Lib.hid (haz_record b ba h t r ht)
  have n1 : decide (r < 0) = false := by simp; omega
  have n2 : decide (k < 0) = false := by simp; omega
  have n3 : decide (k ≥ h.c.Hz) = false := by simp; omega
  have hm : 0 ≤ r * h.c.Hz ∧ r * h.c.Hz ≤ 128 := by
    have := hc.H2; have := hc.R2
    exact ⟨Int.mul_nonneg r0 (by omega), by
      calc r * h.c.Hz ≤ 16 * 8 := Int.mul_le_mul (by omega) (by omega) (by omega) (by omega)
        _ = 128 := rfl⟩
  obtain ⟨m0, m1⟩ := hm
  have hb := base_le hc 9
  obtain ⟨b0, b1⟩ := hb
  have hw : wrap64 (r * h.c.Hz) = r * h.c.Hz := by unfold wrap64; omega
  have hH2 := hc.H2
  go_enter Tryz.func51, Tryz.ntmps51
  go_wp2_with (first | (first | (first | (with_reducible refine NQ.mk ?_) | ((with_reducible apply pl_neu); rfl; rfl) | (with_reducible refine pl_end ?_)) | ((with_reducible apply wl_ld hs); infer_instance; rfl; (with_reducible exact Pull.here _ _); rfl; rfl; (simp only [List.set_cons_succ, List.set_cons_zero]))) | (go_at_call 50; ((refine (hR.out).at hs (by (with_reducible exact Pull.here _ _)) ?_); clear hs; intro w hs; (try simp only [emp_mul, mul_assoc'] at hs)); (obtain ⟨vhh, vhl, hs⟩ := hazR.1 hs)) | ((with_reducible refine wp_plan_sat (id := 4) [.neu 0, .neu 1, .neu 2, .neu 3, .neu 4, .neu 5, .neu 6, .neu 7, .neu 8, .neu 9, .neu 10, .neu 11, .neu 12, .neu 13, .neu 14] hs rfl ?_ ?_); kernel_rfl; clear hs; intro w hs))
  (go_ret)
  refine ⟨rfl, ?_⟩
  (apply hazR_mk; ((try simp only [List.map_append, List.map_cons, List.map_nil, List.map_set, List.set_set]); (try simp only [List.map_append, List.map_cons, List.map_nil, List.map_set, List.set_set] at hs); ((with_reducible apply Sat.fin hs); (with_reducible exact Pull.last _))))

/-! ### One record's list in hand -/
theorem hazT {O w : World} {b ba : Nat} {h : Haz} {R : SProp} {t : Nat} {x : List Int} (hs : Sat O w (HazR b ba h * R)) (hi : h.lists[t]? = some x) : ∃ (vh vl : Value) (us : List Value) (u : Value), us.length = h.lists.length ∧ us[t]? = some u ∧
    Sat O w (pt b (.cells #[.pointer (some ⟨ba, 0, none⟩), .int .i64 h.c.T, .int .i64 h.c.R, .int .i64 h.c.Hz, .int .i64 h.c.Rt, .int .i64 h.c.Ca, .int .i64 h.c.Sl, .int .i64 h.c.Bu, vh, vl, .int .i64 (base h.c 8), .int .i64 (base h.c 9), .int .i64 (base h.c 2), .int .i64 (base h.c 11)] 93) * (sl 3 1 (h.held.map eI) vh *
      (sl 44 1 (us.map fun u => [u]) vl * (sl 3 1 (x.map eI) u * (stars 3 (h.lists.eraseIdx t) (us.eraseIdx t) * R))))) := by
  obtain ⟨vh, vl, hs⟩ := hazR.1 hs
  obtain ⟨us, u, h1, h2, hs⟩ := nest_at (hs.pull (A := nest 44 3 h.lists vl) (by (focus ((repeat (first | with_reducible exact Pull.here _ _ | with_reducible apply Pull.skip)); done)))) hi
  refine ⟨vh, vl, us, u, h1, h2, ?_⟩
  ((with_reducible apply Sat.fin hs); (focus ((repeat (first | with_reducible exact Pull.last _ | with_reducible exact Pull.here _ _ | with_reducible apply Pull.both | with_reducible apply Pull.skip)); done)))
theorem hazT_back {O w : World} {b ba : Nat} {h : Haz} {R : SProp} {t : Nat} {x : List Int} {vh vl u : Value} {us : List Value} (hl : us.length = h.lists.length) (hu : us[t]? = some u) (hi : h.lists[t]? = some x)
    (hs : Sat O w (pt b (.cells #[.pointer (some ⟨ba, 0, none⟩), .int .i64 h.c.T, .int .i64 h.c.R, .int .i64 h.c.Hz, .int .i64 h.c.Rt, .int .i64 h.c.Ca, .int .i64 h.c.Sl, .int .i64 h.c.Bu, vh, vl, .int .i64 (base h.c 8), .int .i64 (base h.c 9), .int .i64 (base h.c 2), .int .i64 (base h.c 11)] 93) * (sl 3 1 (h.held.map eI) vh *
      (sl 44 1 (us.map fun u => [u]) vl * (sl 3 1 (x.map eI) u * (stars 3 (h.lists.eraseIdx t) (us.eraseIdx t) * R)))))) : Sat O w (HazR b ba h * R) := by
  apply hazR_mk
  have := nest_back (xss := h.lists) hl hi hu (hs.fin (T := sl 44 1 (us.map fun u => [u]) vl * (sl 3 1 (x.map eI) u * (stars 3 (h.lists.eraseIdx t) (us.eraseIdx t) * (pt b (.cells #[.pointer (some ⟨ba, 0, none⟩), .int .i64 h.c.T, .int .i64 h.c.R, .int .i64 h.c.Hz, .int .i64 h.c.Rt, .int .i64 h.c.Ca, .int .i64 h.c.Sl, .int .i64 h.c.Bu, vh, vl, .int .i64 (base h.c 8), .int .i64 (base h.c 9), .int .i64 (base h.c 2), .int .i64 (base h.c 11)] 93) * (sl 3 1 (h.held.map eI) vh * R))))) (by (focus ((repeat (first | with_reducible exact Pull.last _ | with_reducible exact Pull.here _ _ | with_reducible apply Pull.both | with_reducible apply Pull.skip)); done))))
  have hs := this
  ((with_reducible apply Sat.fin hs); (focus ((repeat (first | with_reducible exact Pull.last _ | with_reducible exact Pull.here _ _ | with_reducible apply Pull.both | with_reducible apply Pull.skip)); done)))
theorem hazT_mk {O w : World} {b ba : Nat} {h : Haz} {R : SProp} {t : Nat} {x : List Int} {xc : List (List Value)} {vh vl u : Value} {us : List Value} (hl : us.length = h.lists.length) (ht : t < h.lists.length)
    (hs : Sat O w (pt b (.cells #[.pointer (some ⟨ba, 0, none⟩), .int .i64 h.c.T, .int .i64 h.c.R, .int .i64 h.c.Hz, .int .i64 h.c.Rt, .int .i64 h.c.Ca, .int .i64 h.c.Sl, .int .i64 h.c.Bu, vh, vl, .int .i64 (base h.c 8), .int .i64 (base h.c 9), .int .i64 (base h.c 2), .int .i64 (base h.c 11)] 93) * (sl 3 1 (h.held.map eI) vh *
      (sl 44 1 ((us.map fun u => [u]).set t [u]) vl * (sl 3 1 xc u * (stars 3 (h.lists.eraseIdx t) (us.eraseIdx t) * R)))))) (hxc : xc = x.map eI) : Sat O w (HazR b ba { h with lists := h.lists.set t x } * R) := by
  subst hxc
  have e : (us.map fun u => [u]).set t [u] = (us.set t u).map fun u => [u] := by rw [List.map_set]
  rw [e] at hs
  apply hazR_mk
  have := nest_mk (xss := h.lists) hl ht (hs.fin (T := sl 44 1 ((us.set t u).map fun u => [u]) vl * (sl 3 1 (x.map eI) u * (stars 3 (h.lists.eraseIdx t) (us.eraseIdx t) * (pt b (.cells #[.pointer (some ⟨ba, 0, none⟩), .int .i64 h.c.T, .int .i64 h.c.R, .int .i64 h.c.Hz, .int .i64 h.c.Rt, .int .i64 h.c.Ca, .int .i64 h.c.Sl, .int .i64 h.c.Bu, vh, vl, .int .i64 (base h.c 8), .int .i64 (base h.c 9), .int .i64 (base h.c 2), .int .i64 (base h.c 11)] 93) * (sl 3 1 (h.held.map eI) vh * R))))) (by (focus ((repeat (first | with_reducible exact Pull.last _ | with_reducible exact Pull.here _ _ | with_reducible apply Pull.both | with_reducible apply Pull.skip)); done))))
  have hs := this
  ((with_reducible apply Sat.fin hs); (focus ((repeat (first | with_reducible exact Pull.last _ | with_reducible exact Pull.here _ _ | with_reducible apply Pull.both | with_reducible apply Pull.skip)); done)))
section



end

/-! ### A scan -/
structure Scn where
  thread : Int
  record : Int
  stage : Int
  at_ : Int
  hasMap : Bool
  named : Int → Int
  pending : List Int
  give : Option Psh

def namedR (b : Bool) (c : Int → Int) (v : Value) : SProp := match b with
  | true => ex fun f => pu (∀ k, (f k).getD (.int .i64 0) = .int .i64 (c k)) * mp .i64 f v
  | false => pu (v = .map none)
def giveR (ba : Nat) (o : Option Psh) (v : Value) : SProp := match o with
  | none => pu (v = .pointer none)
  | some p => ex fun g => pu (v = .pointer (some ⟨g, 0, none⟩)) * PshR g ba 309 p
def ScnR (g bh ba : Nat) (s : Scn) : SProp := ex fun vn => ex fun vp => ex fun vg =>
  pt g (.cells #[.pointer (some ⟨bh, 0, none⟩), .int .i64 s.thread, .int .i64 s.record, .int .i64 s.stage, .int .i64 s.at_, vn, vp, vg] 208) * (namedR s.hasMap s.named vn * (sl 3 1 (s.pending.map eI) vp * giveR ba s.give vg))
theorem scnR {O w : World} {g bh ba : Nat} {s : Scn} {R : SProp} : Sat O w (ScnR g bh ba s * R) ↔ ∃ vn vp vg, Sat O w (pt g (.cells #[.pointer (some ⟨bh, 0, none⟩), .int .i64 s.thread, .int .i64 s.record, .int .i64 s.stage, .int .i64 s.at_, vn, vp, vg] 208) * (namedR s.hasMap s.named vn * (sl 3 1 (s.pending.map eI) vp * (giveR ba s.give vg * R)))) := by
  unfold ScnR
  simp only [sat_ex, mul_assoc']
theorem scnR_mk {O w : World} {g bh ba : Nat} {s : Scn} {R : SProp} {vn vp vg : Value} (hs : Sat O w (pt g (.cells #[.pointer (some ⟨bh, 0, none⟩), .int .i64 s.thread, .int .i64 s.record, .int .i64 s.stage, .int .i64 s.at_, vn, vp, vg] 208) * (namedR s.hasMap s.named vn * (sl 3 1 (s.pending.map eI) vp * (giveR ba s.give vg * R))))) : Sat O w (ScnR g bh ba s * R) := scnR.2 ⟨_, _, _, hs⟩
theorem named_empty {O w : World} {v : Value} {R : SProp} (hs : Sat O w (mp .i64 (fun _ => none) v * R)) : Sat O w (namedR true (fun _ => 0) v * R) := by
  unfold namedR
  simp only [sat_ex, mul_assoc', sat_pu]
  exact ⟨_, fun k => rfl, hs⟩
theorem named_get {O w : World} {v : Value} {c : Int → Int} {R : SProp} : Sat O w (namedR true c v * R) ↔ ∃ f, (∀ k, (f k).getD (.int .i64 0) = .int .i64 (c k)) ∧ Sat O w (mp .i64 f v * R) := by
  unfold namedR
  simp only [sat_ex, mul_assoc', sat_pu]
theorem named_no {O w : World} {c : Int → Int} {R : SProp} (hs : Sat O w R) : Sat O w (namedR false c (.map none) * R) := by
  unfold namedR
  simp only [sat_pu]
  exact ⟨trivial, hs⟩
theorem give_none {O w : World} {ba : Nat} {R : SProp} (hs : Sat O w R) : Sat O w (giveR ba none (.pointer none) * R) := by
  unfold giveR
  simp only [sat_pu]
  exact ⟨trivial, hs⟩
theorem give_get {O w : World} {ba : Nat} {p : Psh} {v : Value} {R : SProp} : Sat O w (giveR ba (some p) v * R) ↔ ∃ g, v = .pointer (some ⟨g, 0, none⟩) ∧ Sat O w (PshR g ba 309 p * R) := by
  unfold giveR
  simp only [sat_ex, mul_assoc', sat_pu]
attribute [irreducible] ScnR namedR giveR

theorem haz_scan (b ba : Nat) (h : Haz) (t : Nat) (r : Int) (ht : h.held[t]? = some r) :
    Makes Tryz.prog 45 #[.pointer (some ⟨b, 0, none⟩), .int .i64 (t : Int)] (HazR b ba h) (fun g => ScnR g b ba ⟨t, r, 6, 0, false, fun _ => 0, [], none⟩ * HazR b ba h) := by
  intro O w F hs
  have hR := Lib.hid (haz_record b ba h t r ht)
  go_enter Tryz.func45, Tryz.ntmps45
  go_wp2_with (first | ((with_reducible apply wl_box hs); rfl; rfl; rfl; clear hs; intro w b hs; (simp only [List.set_cons_succ, List.set_cons_zero])) | (go_at_call 50; ((refine (hR.out).at hs (by (with_reducible exact Pull.here _ _)) ?_); clear hs; intro w hs; (try simp only [emp_mul, mul_assoc'] at hs))))
  (go_ret)
  refine ⟨_, rfl, ?_⟩
  rw [mul_assoc']
  apply scnR_mk (vn := .map none) (vp := .slice none 0 0) (vg := .pointer none)
  have h2 := give_none (ba := ba) (sl_nil (E := 3) (sz := 1) hs (by omega))
  have hs := named_no (c := fun _ => 0) h2
  ((with_reducible apply Sat.fin hs); (focus ((repeat (first | with_reducible exact Pull.last _ | with_reducible exact Pull.here _ _ | with_reducible apply Pull.both | exact Pull.here _ _ | with_reducible apply Pull.skip)); done)))

/-- what a scan has found -/
def scanNext (h : Haz) (s : Scn) : Bool × Scn :=
  let k := if s.at_ + 1 = s.record then s.at_ + 2 else s.at_ + 1
  if k < h.c.R then (false, { s with at_ := k, stage := 0 })
  else if (h.lists.getD s.record.toNat []).length = 0 then (true, { s with at_ := 0, named := fun _ => 0, hasMap := true, stage := 6 })
  else (false, { s with at_ := 0, named := fun _ => 0, hasMap := true, stage := 3 })
end Go.Proofs.YtegafhhdegnigaaGreat
end
/-
  A scan: on to the next record; the beginning.
-/
section
namespace Go.Proofs.YtegafhhdegnigaaGreat
open Go.RowKit Hp
set_option maxRecDepth 100000
set_option maxHeartbeats 1000000
attribute [local irreducible] Go.Calls

theorem jump_ret {l : Nat} {J : Act → World → Prop} {Q : Exit → Act → World → Prop} {a : Act} {w : World} (h : Q .ret a w) : Exit.jump l J Q .ret a w := h
theorem jump_goto {l : Nat} {J : Act → World → Prop} {Q : Exit → Act → World → Prop} {a : Act} {w : World} (h : J a w) : Exit.jump l J Q (.goto l) a w := ⟨rfl, h⟩

theorem wp_scope_once {P : Program} {Q : Exit → Act → World → Prop} {a : Act} {w : World} {c rest : Code} {l : Nat} (hf : findLabel c l = some rest)
    (first : c.wp P (Exit.jump l (fun a w => rest.wp P (Exit.jump l (fun _ _ => False) Q) a w) Q) a w) : (Code.scope c).wp P Q a w := by
  refine wp_scope_jumps l (fun a w => rest.wp P (Exit.jump l (fun _ _ => False) Q) a w) (fun _ _ => 0) hf first ?_
  intro a w h
  refine Go.wp_mono h ?_
  intro e a' w' hh
  cases e <;> first | exact hh | exact hh.2.elim

theorem scan_next (g b ba : Nat) (h : Haz) (s : Scn) (n : Nat) (x : List Int) (hn : s.record = (n : Int)) (hx : h.lists[n]? = some x) (hat : -1 ≤ s.at_ ∧ s.at_ ≤ 16) (hR : h.c.R ≤ 16) :
    Gives Tryz.prog 107 #[.pointer (some ⟨g, 0, none⟩)] (ScnR g b ba s * HazR b ba h) (.bool (scanNext h s).1) (ScnR g b ba (scanNext h s).2 * HazR b ba h) := by
  intro O w F hs
  simp only [mul_assoc'] at hs
  obtain ⟨s1, s2, s3, s4, s5, s6, s7, s8⟩ := s
  simp only [] at hn hat
  subst hn
  obtain ⟨vn, vp, vg, hs⟩ := scnR.1 hs
  simp only [] at hs
  (replace hs := hs.pull (A := HazR b _ _) (by (focus ((repeat (first | with_reducible exact Pull.here _ _ | with_reducible apply Pull.skip)); done))); obtain ⟨vhh, vhl, hus_, hu_, husl, husg, hs⟩ := hazT hs hx)
  have hlt := (List.getElem?_eq_some_iff.1 hx).1
  have hltu : n < hus_.length := by omega
  have hxd : h.lists.getD n [] = x := by simp [List.getD_eq_getElem?_getD, hx]
  obtain ⟨a0, a1⟩ := hat
  by_cases hj : s4 + 1 = (n : Int)
  · have hj' : (s4 + 1 == (n : Int)) = true := by simpa using hj
    have hj2 : (s4 + 2 == (n : Int)) = false := by simp; omega
    have e12 : s4 + 1 + 1 = s4 + 2 := by omega
    by_cases hk : s4 + 2 < h.c.R
    · have e : scanNext h ⟨s1, n, s3, s4, s5, s6, s7, s8⟩ = (false, ⟨s1, n, 0, s4 + 2, s5, s6, s7, s8⟩) := by
        unfold scanNext; simp only [if_pos hj, if_pos hk]
      rw [e]; clear e
      have hk' : decide (s4 + 2 < h.c.R) = true := by simpa using hk
      have HJ := Lib.hid hj; clear hj hk hxd
      go_enter Tryz.func107, Tryz.ntmps107
      go_wp2
      refine wp_scope_once (l := 0) rfl ?_
      go_wp2
      go_step3
      go_wp2_with (first | (first | (first | (with_reducible refine NQ.mk ?_) | ((with_reducible apply pl_neu); rfl; rfl) | (with_reducible refine pl_end ?_)) | ((with_reducible apply wl_ld hs); infer_instance; rfl; (focus ((repeat (first | with_reducible exact Pull.here _ _ | with_reducible apply Pull.skip)); done)); rfl; rfl; (simp only [List.set_cons_succ, List.set_cons_zero])) | ((with_reducible apply wl_st hs); infer_instance; rfl; rfl; (focus ((repeat (first | with_reducible exact Pull.here _ _ | with_reducible apply Pull.skip)); done)); (rfl); (exact Nat.le_of_ble_eq_true rfl); rfl; clear hs; intro w hs; simp only [List.setIfInBounds_toArray, List.set_cons_succ, List.set_cons_zero] at hs)) | go_step3 | ((with_reducible refine wp_plan_sat (id := 2) [.neu 0, .neu 1, .neu 2, .neu 3, .neu 4, .neu 5, .neu 6, .neu 7, .neu 8] hs rfl ?_ ?_); kernel_rfl; clear hs; intro w hs))
      refine jump_goto ?_
      go_wp2_with (first | (first | (first | (with_reducible refine NQ.mk ?_) | ((with_reducible apply pl_neu); rfl; rfl) | (with_reducible refine pl_end ?_)) | ((with_reducible apply wl_ld hs); infer_instance; rfl; (focus ((repeat (first | with_reducible exact Pull.here _ _ | with_reducible apply Pull.skip)); done)); rfl; rfl; (simp only [List.set_cons_succ, List.set_cons_zero])) | ((with_reducible apply wl_st hs); infer_instance; rfl; rfl; (with_reducible exact Pull.here _ _); (rfl); (exact Nat.le_of_ble_eq_true rfl); rfl; clear hs; intro w hs; simp only [List.setIfInBounds_toArray, List.set_cons_succ, List.set_cons_zero] at hs)) | ((with_reducible refine wp_plan_sat (id := 2) [.neu 0, .neu 1, .neu 2, .neu 3, .neu 4, .neu 5, .neu 6, .neu 7, .neu 8] hs rfl ?_ ?_); kernel_rfl; clear hs; intro w hs) | ((with_reducible refine wp_plan_sat (id := 3) [.neu 0, .neu 1, .neu 2, .neu 3, .neu 4, .neu 5, .neu 6, .neu 7, .neu 8, .neu 9, .neu 10, .neu 11, .neu 12] hs rfl ?_ ?_); kernel_rfl; clear hs; intro w hs))
      refine jump_ret ?_
      (go_ret)
      refine ⟨rfl, ?_⟩
      (replace hs := hazT_back husl husg hx (hs.fin (by (focus ((repeat (first | with_reducible exact Pull.last _ | with_reducible exact Pull.here _ _ | with_reducible apply Pull.both | with_reducible apply Pull.skip)); done)))))
      rw [mul_assoc']
      apply scnR_mk (vn := vn) (vp := vp) (vg := vg)
      ((with_reducible apply Sat.fin hs); (focus ((repeat (first | with_reducible exact Pull.last _ | with_reducible exact Pull.here _ _ | with_reducible apply Pull.both | with_reducible apply Pull.skip)); done)))
    · have hk' : decide (s4 + 2 < h.c.R) = false := by simpa using hk
      by_cases h0 : x.length = 0
      · have e : scanNext h ⟨s1, n, s3, s4, s5, s6, s7, s8⟩ = (true, ⟨s1, n, 6, 0, true, fun _ => 0, s7, s8⟩) := by
          unfold scanNext; simp only [if_pos hj, if_neg hk, Int.toNat_natCast, hxd, if_pos h0]
        rw [e]; clear e
        have h0' : ((x.length : Int) == 0) = true := by simp; exact List.length_eq_zero_iff.1 h0
        have HJ := Lib.hid hj; clear hj hk hxd h0
        go_enter Tryz.func107, Tryz.ntmps107
        go_wp2
        refine wp_scope_once (l := 0) rfl ?_
        go_wp2
        go_step3
        go_wp2_with (first | (first | (first | (with_reducible refine NQ.mk ?_) | ((with_reducible apply pl_neu); rfl; rfl) | (with_reducible refine pl_end ?_)) | ((with_reducible apply wl_ld hs); infer_instance; rfl; (focus ((repeat (first | with_reducible exact Pull.here _ _ | with_reducible apply Pull.skip)); done)); rfl; rfl; (simp only [List.set_cons_succ, List.set_cons_zero])) | ((with_reducible apply wl_st hs); infer_instance; rfl; rfl; (focus ((repeat (first | with_reducible exact Pull.here _ _ | with_reducible apply Pull.skip)); done)); (rfl); (exact Nat.le_of_ble_eq_true rfl); rfl; clear hs; intro w hs; simp only [List.setIfInBounds_toArray, List.set_cons_succ, List.set_cons_zero] at hs)) | go_step3 | ((with_reducible refine wp_plan_sat (id := 2) [.neu 0, .neu 1, .neu 2, .neu 3, .neu 4, .neu 5, .neu 6, .neu 7, .neu 8] hs rfl ?_ ?_); kernel_rfl; clear hs; intro w hs))
        refine jump_goto ?_
        go_wp2_with (first | (first | (first | (with_reducible refine NQ.mk ?_) | ((with_reducible apply pl_neu); rfl; rfl) | (with_reducible refine pl_end ?_)) | ((with_reducible apply wl_ld hs); infer_instance; rfl; (focus ((repeat (first | with_reducible exact Pull.here _ _ | with_reducible apply Pull.skip)); done)); rfl; rfl; (simp only [List.set_cons_succ, List.set_cons_zero])) | ((with_reducible apply wl_st hs); infer_instance; rfl; rfl; (focus ((repeat (first | with_reducible exact Pull.here _ _ | with_reducible apply Pull.skip)); done)); (rfl); (exact Nat.le_of_ble_eq_true rfl); rfl; clear hs; intro w hs; simp only [List.setIfInBounds_toArray, List.set_cons_succ, List.set_cons_zero] at hs) | ((with_reducible apply wl_ldS0 hs); infer_instance; rfl; assumption; (focus ((repeat (first | with_reducible exact Pull.here _ _ | with_reducible apply Pull.skip)); done)); rfl; (exact map_get (by assumption)); rfl; rfl; (simp only [List.set_cons_succ, List.set_cons_zero])) | ((with_reducible apply wl_ia hs); infer_instance; infer_instance; rfl; rfl; (focus ((repeat (first | with_reducible exact Pull.here _ _ | with_reducible apply Pull.skip)); done)); (rfl); (simp only [List.length_map, List.length_set, List.length_append, List.length_cons, List.length_nil, List.length_replicate] at *; omega); rfl; intro b off hat; (simp only [List.set_cons_succ, List.set_cons_zero])) | ((with_reducible apply wl_len hs); infer_instance; rfl; (focus ((repeat (first | with_reducible exact Pull.here _ _ | with_reducible apply Pull.skip)); done)); rfl; (simp only [List.set_cons_succ, List.set_cons_zero]))) | ((with_reducible apply wl_mkmap hs); infer_instance; rfl; clear hs; intro w r hs; (simp only [List.set_cons_succ, List.set_cons_zero])) | ((with_reducible refine wp_plan_sat (id := 2) [.neu 0, .neu 1, .neu 2, .neu 3, .neu 4, .neu 5, .neu 6, .neu 7, .neu 8] hs rfl ?_ ?_); kernel_rfl; clear hs; intro w hs) | ((with_reducible refine wp_plan_sat (id := 3) [.neu 0, .neu 1, .neu 2, .neu 3, .neu 4, .neu 5, .neu 6, .neu 7, .neu 8, .neu 9, .neu 10, .neu 11, .neu 12] hs rfl ?_ ?_); kernel_rfl; clear hs; intro w hs) | ((with_reducible refine wp_plan_sat (id := 8) [.neu 0, .neu 1, .neu 2, .neu 3, .neu 4, .neu 5, .neu 6, .neu 7, .neu 8, .neu 9, .neu 10, .neu 11, .neu 12, .neu 13, .neu 14] hs rfl ?_ ?_); kernel_rfl; clear hs; intro w hs))
        refine jump_ret ?_
        (go_ret)
        refine ⟨rfl, ?_⟩
        replace hs := named_empty (hs.pull (by (focus ((repeat (first | with_reducible exact Pull.here _ _ | with_reducible apply Pull.skip)); done))))
        (replace hs := hazT_back husl husg hx (hs.fin (by (focus ((repeat (first | with_reducible exact Pull.last _ | with_reducible exact Pull.here _ _ | with_reducible apply Pull.both | with_reducible apply Pull.skip)); done)))))
        rw [mul_assoc']
        apply scnR_mk (vn := .map (some r)) (vp := vp) (vg := vg)
        ((with_reducible apply Sat.fin hs); (focus ((repeat (first | with_reducible exact Pull.last _ | with_reducible exact Pull.here _ _ | with_reducible apply Pull.both | with_reducible apply Pull.skip)); done)))
      · have e : scanNext h ⟨s1, n, s3, s4, s5, s6, s7, s8⟩ = (false, ⟨s1, n, 3, 0, true, fun _ => 0, s7, s8⟩) := by
          unfold scanNext; simp only [if_pos hj, if_neg hk, Int.toNat_natCast, hxd, if_neg h0]
        rw [e]; clear e
        have h0' : ((x.length : Int) == 0) = false := by simp; intro e; simp [e] at h0
        have HJ := Lib.hid hj; clear hj hk hxd h0
        go_enter Tryz.func107, Tryz.ntmps107
        go_wp2
        refine wp_scope_once (l := 0) rfl ?_
        go_wp2
        go_step3
        go_wp2_with (first | (first | (first | (with_reducible refine NQ.mk ?_) | ((with_reducible apply pl_neu); rfl; rfl) | (with_reducible refine pl_end ?_)) | ((with_reducible apply wl_ld hs); infer_instance; rfl; (focus ((repeat (first | with_reducible exact Pull.here _ _ | with_reducible apply Pull.skip)); done)); rfl; rfl; (simp only [List.set_cons_succ, List.set_cons_zero])) | ((with_reducible apply wl_st hs); infer_instance; rfl; rfl; (focus ((repeat (first | with_reducible exact Pull.here _ _ | with_reducible apply Pull.skip)); done)); (rfl); (exact Nat.le_of_ble_eq_true rfl); rfl; clear hs; intro w hs; simp only [List.setIfInBounds_toArray, List.set_cons_succ, List.set_cons_zero] at hs)) | go_step3 | ((with_reducible refine wp_plan_sat (id := 2) [.neu 0, .neu 1, .neu 2, .neu 3, .neu 4, .neu 5, .neu 6, .neu 7, .neu 8] hs rfl ?_ ?_); kernel_rfl; clear hs; intro w hs))
        refine jump_goto ?_
        go_wp2_with (first | (first | (first | (with_reducible refine NQ.mk ?_) | ((with_reducible apply pl_neu); rfl; rfl) | (with_reducible refine pl_end ?_)) | ((with_reducible apply wl_ld hs); infer_instance; rfl; (focus ((repeat (first | with_reducible exact Pull.here _ _ | with_reducible apply Pull.skip)); done)); rfl; rfl; (simp only [List.set_cons_succ, List.set_cons_zero])) | ((with_reducible apply wl_st hs); infer_instance; rfl; rfl; (focus ((repeat (first | with_reducible exact Pull.here _ _ | with_reducible apply Pull.skip)); done)); (rfl); (exact Nat.le_of_ble_eq_true rfl); rfl; clear hs; intro w hs; simp only [List.setIfInBounds_toArray, List.set_cons_succ, List.set_cons_zero] at hs) | ((with_reducible apply wl_ldS0 hs); infer_instance; rfl; assumption; (focus ((repeat (first | with_reducible exact Pull.here _ _ | with_reducible apply Pull.skip)); done)); rfl; (exact map_get (by assumption)); rfl; rfl; (simp only [List.set_cons_succ, List.set_cons_zero])) | ((with_reducible apply wl_ia hs); infer_instance; infer_instance; rfl; rfl; (focus ((repeat (first | with_reducible exact Pull.here _ _ | with_reducible apply Pull.skip)); done)); (rfl); (simp only [List.length_map, List.length_set, List.length_append, List.length_cons, List.length_nil, List.length_replicate] at *; omega); rfl; intro b off hat; (simp only [List.set_cons_succ, List.set_cons_zero])) | ((with_reducible apply wl_len hs); infer_instance; rfl; (focus ((repeat (first | with_reducible exact Pull.here _ _ | with_reducible apply Pull.skip)); done)); rfl; (simp only [List.set_cons_succ, List.set_cons_zero]))) | ((with_reducible apply wl_mkmap hs); infer_instance; rfl; clear hs; intro w r hs; (simp only [List.set_cons_succ, List.set_cons_zero])) | ((with_reducible refine wp_plan_sat (id := 2) [.neu 0, .neu 1, .neu 2, .neu 3, .neu 4, .neu 5, .neu 6, .neu 7, .neu 8] hs rfl ?_ ?_); kernel_rfl; clear hs; intro w hs) | ((with_reducible refine wp_plan_sat (id := 3) [.neu 0, .neu 1, .neu 2, .neu 3, .neu 4, .neu 5, .neu 6, .neu 7, .neu 8, .neu 9, .neu 10, .neu 11, .neu 12] hs rfl ?_ ?_); kernel_rfl; clear hs; intro w hs) | ((with_reducible refine wp_plan_sat (id := 8) [.neu 0, .neu 1, .neu 2, .neu 3, .neu 4, .neu 5, .neu 6, .neu 7, .neu 8, .neu 9, .neu 10, .neu 11, .neu 12, .neu 13, .neu 14] hs rfl ?_ ?_); kernel_rfl; clear hs; intro w hs))
        refine jump_ret ?_
        (go_ret)
        refine ⟨rfl, ?_⟩
        replace hs := named_empty (hs.pull (by (focus ((repeat (first | with_reducible exact Pull.here _ _ | with_reducible apply Pull.skip)); done))))
        (replace hs := hazT_back husl husg hx (hs.fin (by (focus ((repeat (first | with_reducible exact Pull.last _ | with_reducible exact Pull.here _ _ | with_reducible apply Pull.both | with_reducible apply Pull.skip)); done)))))
        rw [mul_assoc']
        apply scnR_mk (vn := .map (some r)) (vp := vp) (vg := vg)
        ((with_reducible apply Sat.fin hs); (focus ((repeat (first | with_reducible exact Pull.last _ | with_reducible exact Pull.here _ _ | with_reducible apply Pull.both | with_reducible apply Pull.skip)); done)))
  · have hj' : (s4 + 1 == (n : Int)) = false := by simpa using hj
    by_cases hk : s4 + 1 < h.c.R
    · have e : scanNext h ⟨s1, n, s3, s4, s5, s6, s7, s8⟩ = (false, ⟨s1, n, 0, s4 + 1, s5, s6, s7, s8⟩) := by
        unfold scanNext; simp only [if_neg hj, if_pos hk]
      rw [e]; clear e
      have hk' : decide (s4 + 1 < h.c.R) = true := by simpa using hk
      clear hj hk hxd
      go_enter Tryz.func107, Tryz.ntmps107
      go_wp2
      refine wp_scope_jumps 0 (fun _ _ => False) (fun _ _ => 0) rfl ?_ (fun _ _ h => h.elim)
      go_wp2
      go_step3
      go_wp2_with (first | (first | (first | (with_reducible refine NQ.mk ?_) | ((with_reducible apply pl_neu); rfl; rfl) | (with_reducible refine pl_end ?_)) | ((with_reducible apply wl_ld hs); infer_instance; rfl; (focus ((repeat (first | with_reducible exact Pull.here _ _ | with_reducible apply Pull.skip)); done)); rfl; rfl; (simp only [List.set_cons_succ, List.set_cons_zero])) | ((with_reducible apply wl_st hs); infer_instance; rfl; rfl; (focus ((repeat (first | with_reducible exact Pull.here _ _ | with_reducible apply Pull.skip)); done)); (rfl); (exact Nat.le_of_ble_eq_true rfl); rfl; clear hs; intro w hs; simp only [List.setIfInBounds_toArray, List.set_cons_succ, List.set_cons_zero] at hs)) | ((with_reducible refine wp_plan_sat (id := 2) [.neu 0, .neu 1, .neu 2, .neu 3, .neu 4, .neu 5, .neu 6, .neu 7, .neu 8] hs rfl ?_ ?_); kernel_rfl; clear hs; intro w hs) | ((with_reducible refine wp_plan_sat (id := 3) [.neu 0, .neu 1, .neu 2, .neu 3, .neu 4, .neu 5, .neu 6, .neu 7, .neu 8, .neu 9, .neu 10, .neu 11, .neu 12] hs rfl ?_ ?_); kernel_rfl; clear hs; intro w hs))
      refine jump_ret ?_
      (go_ret)
      refine ⟨rfl, ?_⟩
      (replace hs := hazT_back husl husg hx (hs.fin (by (focus ((repeat (first | with_reducible exact Pull.last _ | with_reducible exact Pull.here _ _ | with_reducible apply Pull.both | with_reducible apply Pull.skip)); done)))))
      rw [mul_assoc']
      apply scnR_mk (vn := vn) (vp := vp) (vg := vg)
      ((with_reducible apply Sat.fin hs); (focus ((repeat (first | with_reducible exact Pull.last _ | with_reducible exact Pull.here _ _ | with_reducible apply Pull.both | with_reducible apply Pull.skip)); done)))
    · have hk' : decide (s4 + 1 < h.c.R) = false := by simpa using hk
      by_cases h0 : x.length = 0
      · have e : scanNext h ⟨s1, n, s3, s4, s5, s6, s7, s8⟩ = (true, ⟨s1, n, 6, 0, true, fun _ => 0, s7, s8⟩) := by
          unfold scanNext; simp only [if_neg hj, if_neg hk, Int.toNat_natCast, hxd, if_pos h0]
        rw [e]; clear e
        have h0' : ((x.length : Int) == 0) = true := by simp; exact List.length_eq_zero_iff.1 h0
        clear hj hk hxd h0
        go_enter Tryz.func107, Tryz.ntmps107
        go_wp2
        refine wp_scope_jumps 0 (fun _ _ => False) (fun _ _ => 0) rfl ?_ (fun _ _ h => h.elim)
        go_wp2
        go_step3
        go_wp2_with (first | (first | (first | (with_reducible refine NQ.mk ?_) | ((with_reducible apply pl_neu); rfl; rfl) | (with_reducible refine pl_end ?_)) | ((with_reducible apply wl_ld hs); infer_instance; rfl; (focus ((repeat (first | with_reducible exact Pull.here _ _ | with_reducible apply Pull.skip)); done)); rfl; rfl; (simp only [List.set_cons_succ, List.set_cons_zero])) | ((with_reducible apply wl_st hs); infer_instance; rfl; rfl; (focus ((repeat (first | with_reducible exact Pull.here _ _ | with_reducible apply Pull.skip)); done)); (rfl); (exact Nat.le_of_ble_eq_true rfl); rfl; clear hs; intro w hs; simp only [List.setIfInBounds_toArray, List.set_cons_succ, List.set_cons_zero] at hs) | ((with_reducible apply wl_ldS0 hs); infer_instance; rfl; assumption; (focus ((repeat (first | with_reducible exact Pull.here _ _ | with_reducible apply Pull.skip)); done)); rfl; (exact map_get (by assumption)); rfl; rfl; (simp only [List.set_cons_succ, List.set_cons_zero])) | ((with_reducible apply wl_ia hs); infer_instance; infer_instance; rfl; rfl; (focus ((repeat (first | with_reducible exact Pull.here _ _ | with_reducible apply Pull.skip)); done)); (rfl); (simp only [List.length_map, List.length_set, List.length_append, List.length_cons, List.length_nil, List.length_replicate] at *; omega); rfl; intro b off hat; (simp only [List.set_cons_succ, List.set_cons_zero])) | ((with_reducible apply wl_len hs); infer_instance; rfl; (focus ((repeat (first | with_reducible exact Pull.here _ _ | with_reducible apply Pull.skip)); done)); rfl; (simp only [List.set_cons_succ, List.set_cons_zero]))) | ((with_reducible apply wl_mkmap hs); infer_instance; rfl; clear hs; intro w r hs; (simp only [List.set_cons_succ, List.set_cons_zero])) | ((with_reducible refine wp_plan_sat (id := 2) [.neu 0, .neu 1, .neu 2, .neu 3, .neu 4, .neu 5, .neu 6, .neu 7, .neu 8] hs rfl ?_ ?_); kernel_rfl; clear hs; intro w hs) | ((with_reducible refine wp_plan_sat (id := 3) [.neu 0, .neu 1, .neu 2, .neu 3, .neu 4, .neu 5, .neu 6, .neu 7, .neu 8, .neu 9, .neu 10, .neu 11, .neu 12] hs rfl ?_ ?_); kernel_rfl; clear hs; intro w hs) | ((with_reducible refine wp_plan_sat (id := 8) [.neu 0, .neu 1, .neu 2, .neu 3, .neu 4, .neu 5, .neu 6, .neu 7, .neu 8, .neu 9, .neu 10, .neu 11, .neu 12, .neu 13, .neu 14] hs rfl ?_ ?_); kernel_rfl; clear hs; intro w hs))
        refine jump_ret ?_
        (go_ret)
        refine ⟨rfl, ?_⟩
        replace hs := named_empty (hs.pull (by (focus ((repeat (first | with_reducible exact Pull.here _ _ | with_reducible apply Pull.skip)); done))))
        (replace hs := hazT_back husl husg hx (hs.fin (by (focus ((repeat (first | with_reducible exact Pull.last _ | with_reducible exact Pull.here _ _ | with_reducible apply Pull.both | with_reducible apply Pull.skip)); done)))))
        rw [mul_assoc']
        apply scnR_mk (vn := .map (some r)) (vp := vp) (vg := vg)
        ((with_reducible apply Sat.fin hs); (focus ((repeat (first | with_reducible exact Pull.last _ | with_reducible exact Pull.here _ _ | with_reducible apply Pull.both | with_reducible apply Pull.skip)); done)))
      · have e : scanNext h ⟨s1, n, s3, s4, s5, s6, s7, s8⟩ = (false, ⟨s1, n, 3, 0, true, fun _ => 0, s7, s8⟩) := by
          unfold scanNext; simp only [if_neg hj, if_neg hk, Int.toNat_natCast, hxd, if_neg h0]
        rw [e]; clear e
        have h0' : ((x.length : Int) == 0) = false := by simp; intro e; simp [e] at h0
        clear hj hk hxd h0
        go_enter Tryz.func107, Tryz.ntmps107
        go_wp2
        refine wp_scope_jumps 0 (fun _ _ => False) (fun _ _ => 0) rfl ?_ (fun _ _ h => h.elim)
        go_wp2
        go_step3
        go_wp2_with (first | (first | (first | (with_reducible refine NQ.mk ?_) | ((with_reducible apply pl_neu); rfl; rfl) | (with_reducible refine pl_end ?_)) | ((with_reducible apply wl_ld hs); infer_instance; rfl; (focus ((repeat (first | with_reducible exact Pull.here _ _ | with_reducible apply Pull.skip)); done)); rfl; rfl; (simp only [List.set_cons_succ, List.set_cons_zero])) | ((with_reducible apply wl_st hs); infer_instance; rfl; rfl; (focus ((repeat (first | with_reducible exact Pull.here _ _ | with_reducible apply Pull.skip)); done)); (rfl); (exact Nat.le_of_ble_eq_true rfl); rfl; clear hs; intro w hs; simp only [List.setIfInBounds_toArray, List.set_cons_succ, List.set_cons_zero] at hs) | ((with_reducible apply wl_ldS0 hs); infer_instance; rfl; assumption; (focus ((repeat (first | with_reducible exact Pull.here _ _ | with_reducible apply Pull.skip)); done)); rfl; (exact map_get (by assumption)); rfl; rfl; (simp only [List.set_cons_succ, List.set_cons_zero])) | ((with_reducible apply wl_ia hs); infer_instance; infer_instance; rfl; rfl; (focus ((repeat (first | with_reducible exact Pull.here _ _ | with_reducible apply Pull.skip)); done)); (rfl); (simp only [List.length_map, List.length_set, List.length_append, List.length_cons, List.length_nil, List.length_replicate] at *; omega); rfl; intro b off hat; (simp only [List.set_cons_succ, List.set_cons_zero])) | ((with_reducible apply wl_len hs); infer_instance; rfl; (focus ((repeat (first | with_reducible exact Pull.here _ _ | with_reducible apply Pull.skip)); done)); rfl; (simp only [List.set_cons_succ, List.set_cons_zero]))) | ((with_reducible apply wl_mkmap hs); infer_instance; rfl; clear hs; intro w r hs; (simp only [List.set_cons_succ, List.set_cons_zero])) | ((with_reducible refine wp_plan_sat (id := 2) [.neu 0, .neu 1, .neu 2, .neu 3, .neu 4, .neu 5, .neu 6, .neu 7, .neu 8] hs rfl ?_ ?_); kernel_rfl; clear hs; intro w hs) | ((with_reducible refine wp_plan_sat (id := 3) [.neu 0, .neu 1, .neu 2, .neu 3, .neu 4, .neu 5, .neu 6, .neu 7, .neu 8, .neu 9, .neu 10, .neu 11, .neu 12] hs rfl ?_ ?_); kernel_rfl; clear hs; intro w hs) | ((with_reducible refine wp_plan_sat (id := 8) [.neu 0, .neu 1, .neu 2, .neu 3, .neu 4, .neu 5, .neu 6, .neu 7, .neu 8, .neu 9, .neu 10, .neu 11, .neu 12, .neu 13, .neu 14] hs rfl ?_ ?_); kernel_rfl; clear hs; intro w hs))
        refine jump_ret ?_
        (go_ret)
        refine ⟨rfl, ?_⟩
        replace hs := named_empty (hs.pull (by (focus ((repeat (first | with_reducible exact Pull.here _ _ | with_reducible apply Pull.skip)); done))))
        (replace hs := hazT_back husl husg hx (hs.fin (by (focus ((repeat (first | with_reducible exact Pull.last _ | with_reducible exact Pull.here _ _ | with_reducible apply Pull.both | with_reducible apply Pull.skip)); done)))))
        rw [mul_assoc']
        apply scnR_mk (vn := .map (some r)) (vp := vp) (vg := vg)
        ((with_reducible apply Sat.fin hs); (focus ((repeat (first | with_reducible exact Pull.last _ | with_reducible exact Pull.here _ _ | with_reducible apply Pull.both | with_reducible apply Pull.skip)); done)))
end Go.Proofs.YtegafhhdegnigaaGreat
end
