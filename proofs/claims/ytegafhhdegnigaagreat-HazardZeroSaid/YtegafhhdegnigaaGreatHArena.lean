/-
  The arena.
-/
import Derived.Test.YtegafhhdegnigaaGreatHAddr2
set_option linter.all false
namespace Go.Proofs.YtegafhhdegnigaaGreat
open Go.RowKit Hp
set_option maxRecDepth 100000
set_option maxHeartbeats 1000000

structure Slt where
  state : Int
  holder : Int
abbrev Slt.e (s : Slt) : List Value := [.int .i64 s.state, .int .i64 s.holder]
structure Are where
  c : Cfg
  slots : List Slt
  caches : List (List Int)

def AreR (b : Nat) (a : Are) : SProp := ex fun vs => ex fun vc =>
  pt b (.cells #[.int .i64 a.c.T, .int .i64 a.c.R, .int .i64 a.c.Hz, .int .i64 a.c.Rt, .int .i64 a.c.Ca, .int .i64 a.c.Sl, .int .i64 a.c.Bu, vs, vc] 154) * (sl 156 2 (a.slots.map Slt.e) vs * nest 44 3 a.caches vc)
theorem areR {O w : World} {b : Nat} {a : Are} {R : SProp} : Sat O w (AreR b a * R) ↔ ∃ vs vc, Sat O w (pt b (.cells #[.int .i64 a.c.T, .int .i64 a.c.R, .int .i64 a.c.Hz, .int .i64 a.c.Rt, .int .i64 a.c.Ca, .int .i64 a.c.Sl, .int .i64 a.c.Bu, vs, vc] 154) * (sl 156 2 (a.slots.map Slt.e) vs * (nest 44 3 a.caches vc * R))) := by
  unfold AreR
  simp only [sat_ex, mul_assoc']
theorem areR_mk {O w : World} {b : Nat} {a : Are} {R : SProp} {vs vc : Value} (h : Sat O w (pt b (.cells #[.int .i64 a.c.T, .int .i64 a.c.R, .int .i64 a.c.Hz, .int .i64 a.c.Rt, .int .i64 a.c.Ca, .int .i64 a.c.Sl, .int .i64 a.c.Bu, vs, vc] 154) * (sl 156 2 (a.slots.map Slt.e) vs * (nest 44 3 a.caches vc * R)))) : Sat O w (AreR b a * R) := areR.2 ⟨_, _, h⟩
attribute [irreducible] AreR
section


end

theorem arena_has (b : Nat) (a : Are) (i : Nat) (hi : i < a.slots.length) :
    Gives Tryz.prog 132 #[.pointer (some ⟨b, 0, none⟩), .int .i64 (i : Int)] (AreR b a) (.bool true) (AreR b a) := by
  intro O w F hs
  (obtain ⟨vas, vac, hs⟩ := areR.1 hs)
  have hz : decide ((i : Int) ≥ 0) = true := by simp
  have hl : decide ((i : Int) < (a.slots.length : Int)) = true := by simp; exact hi
  go_enter Tryz.func132, Tryz.ntmps132
  go_wp2_with (first | ((with_reducible apply wl_ld hs); infer_instance; rfl; (with_reducible exact Pull.here _ _); rfl; rfl; (simp only [List.set_cons_succ, List.set_cons_zero])) | ((with_reducible apply wl_len hs); infer_instance; rfl; (focus ((repeat (first | with_reducible exact Pull.here _ _ | with_reducible apply Pull.skip)); done)); rfl; (simp only [List.set_cons_succ, List.set_cons_zero])))
  (go_ret)
  refine ⟨by simp [hl], ?_⟩
  (apply areR_mk; ((try simp only [List.map_append, List.map_cons, List.map_nil, List.map_set, List.set_set]); (try simp only [List.map_append, List.map_cons, List.map_nil, List.map_set, List.set_set] at hs); ((with_reducible apply Sat.fin hs); (with_reducible exact Pull.last _))))

/-- a place's address -/
def adr (c : Cfg) (r : Nat) (i : Int) : Nat := (base c r + i).toNat

theorem arena_addr (b : Nat) (a : Are) (hc : a.c.Ok) (r : Nat) (h1 : 1 ≤ r) (h2 : r ≤ 13) (h9 : r ≠ 9) (i : Int) (hi : InReg a.c r i) :
    Gives Tryz.prog 203 #[.pointer (some ⟨b, 0, none⟩), .int .i64 (r : Int), .int .i64 i] (AreR b a) (.int .i64 (adr a.c r i : Int)) (AreR b a) := by
  intro O w F hs
  (obtain ⟨vas, vac, hs⟩ := areR.1 hs)
  have hA := word_addr a.c hc r h1 h2 i hi
  rw [if_neg h9] at hA
  have e : base a.c r + i = (adr a.c r i : Int) := by
    have := (base_le hc r).1
    have := hi.1
    unfold adr; omega
  rw [e] at hA
  have hA := Lib.hid hA
  go_enter Tryz.func203, Tryz.ntmps203
  go_wp2_with (first | ((with_reducible apply wl_ldN hs); infer_instance; rfl; (with_reducible exact Pull.here _ _); (simp only [List.size_toArray, List.length_cons, List.length_nil]; omega); rfl; rfl; (simp only [List.set_cons_succ, List.set_cons_zero])) | (go_at_call 90; ((refine (hA.out).at hs (by (focus ((repeat (with_reducible exact Pull.none _)); done))) ?_); clear hs; intro w hs; (try simp only [emp_mul, mul_assoc'] at hs))))
  (go_ret)
  refine ⟨by simp, ?_⟩
  (apply areR_mk; ((try simp only [List.map_append, List.map_cons, List.map_nil, List.map_set, List.set_set]); (try simp only [List.map_append, List.map_cons, List.map_nil, List.map_set, List.set_set] at hs); ((with_reducible apply Sat.fin hs); (with_reducible exact Pull.last _))))

def Are.shift (a : Are) (i : Nat) (t to : Int) : Are := { a with slots := a.slots.set i ⟨to, if to = 0 ∨ to = 3 then -1 else t⟩ }

theorem arena_shift (b d bx bm : Nat) (a : Are) (m : Mch) (i : Nat) (s : Slt) (to : Int) (hi : a.slots[i]? = some s) (h0 : 0 ≤ to) (h5 : to ≤ 5) (hl : m.shifts.length < 4294967296) :
    Gives Tryz.prog 108 #[.pointer (some ⟨b, 0, none⟩), .pointer (some ⟨d, 0, none⟩), .int .i64 (i : Int), .int .i64 to] (AreR b a * DkR d bx bm m) (.tuple #[]) (AreR b (a.shift i m.thread to) * DkR d bx bm (m.shift i s.state to)) := by
  intro O w F hs
  rw [mul_assoc'] at hs
  have n1 : decide (to < 0) = false := by simp; omega
  have n2 : decide (to > 5) = false := by simp; omega
  have hlt := (List.getElem?_eq_some_iff.1 hi).1
  have hH := Lib.hid (arena_has b a i (List.getElem?_eq_some_iff.1 hi).1)
  have hT := Lib.hid (desk_thread d bx bm m)
  have hS := Lib.hid (desk_shift d bx bm m i s.state to hl)
  by_cases e0 : to = 0
  · subst e0
    go_enter Tryz.func108, Tryz.ntmps108
    go_wp2_with (first | (first | (first | (with_reducible refine NQ.mk ?_) | ((with_reducible apply pl_neu); rfl; rfl) | ((with_reducible apply pl_eff); rfl) | (with_reducible refine EQ.mk ?_ ?_) | (first | (with_reducible exact chk_nil) | ((with_reducible refine chk_cons ?_ ?_); (focus ((with_reducible apply pl_chk); rfl; rfl)))) | (with_reducible refine pl_end ?_) | (show SameA _ _ _; rfl)) | ((with_reducible apply wl_ld hs); infer_instance; rfl; (focus ((repeat (first | with_reducible exact Pull.here _ _ | with_reducible apply Pull.skip)); done)); rfl; rfl; (simp only [List.set_cons_succ, List.set_cons_zero])) | ((with_reducible apply wl_ldS0 hs); infer_instance; rfl; assumption; (focus ((repeat (first | with_reducible exact Pull.here _ _ | with_reducible apply Pull.skip)); done)); rfl; (exact map_get (by assumption)); rfl; rfl; (simp only [List.set_cons_succ, List.set_cons_zero])) | ((with_reducible apply wl_stS hs); infer_instance; rfl; rfl; assumption; (with_reducible exact Pull.here _ _); rfl; (exact set_get (by exact map_get (by assumption))); (exact Nat.le_of_ble_eq_true rfl); (rfl); rfl; clear hs; intro w hs) | ((with_reducible apply wl_stSN (k := 0) hs); infer_instance; rfl; rfl; assumption; (focus ((repeat (first | with_reducible exact Pull.here _ _ | with_reducible apply Pull.skip)); done)); (exact (Nat.add_zero _).symm); (exact map_get (by assumption)); (exact Nat.le_of_ble_eq_true rfl); rfl; rfl; rfl; rfl; clear hs; intro w hs; simp only [List.take_succ_cons, List.take_zero, List.drop_succ_cons, List.drop_zero, List.cons_append, List.nil_append, List.append_nil] at hs) | ((with_reducible apply wl_ia2 hs); infer_instance; infer_instance; rfl; assumption; rfl; (focus ((repeat (first | with_reducible exact Pull.here _ _ | with_reducible apply Pull.skip)); done)); (rfl); (simp only [List.length_map, List.length_set, List.length_append, List.length_cons, List.length_nil, List.length_replicate] at *; omega); rfl; (simp only [List.set_cons_succ, List.set_cons_zero])) | ((with_reducible apply wl_ia hs); infer_instance; infer_instance; rfl; rfl; (focus ((repeat (first | with_reducible exact Pull.here _ _ | with_reducible apply Pull.skip)); done)); (rfl); (simp only [List.length_map, List.length_set, List.length_append, List.length_cons, List.length_nil, List.length_replicate] at *; omega); rfl; intro b off hat; (simp only [List.set_cons_succ, List.set_cons_zero]))) | (go_at_call 132; ((refine (hH.out).at hs (by (with_reducible exact Pull.here _ _)) ?_); clear hs; intro w hs; (try simp only [emp_mul, mul_assoc'] at hs)); (obtain ⟨vas, vac, hs⟩ := areR.1 hs)) | (go_at_call 133; ((refine (hT.out).at hs (by (focus ((repeat (first | with_reducible exact Pull.here _ _ | with_reducible apply Pull.skip)); done))) ?_); clear hs; intro w hs; (try simp only [emp_mul, mul_assoc'] at hs))) | (go_at_call 134; ((refine (hS.out).at hs (by (focus ((repeat (first | with_reducible exact Pull.here _ _ | with_reducible apply Pull.skip)); done))) ?_); clear hs; intro w hs; (try simp only [emp_mul, mul_assoc'] at hs))) | ((with_reducible refine wp_plan_sat (id := 2) [.neu 0, .neu 1, .neu 2, .neu 3, .neu 4, .neu 5, .neu 6, .eff 7 [0, 1, 2, 3, 4, 5], .neu 8, .neu 9, .eff 10 []] hs rfl ?_ ?_); kernel_rfl; clear hs; intro w hs))
    (go_end0)
    refine ⟨rfl, ?_⟩
    rw [mul_assoc']
    unfold Are.shift
    rw [if_pos (.inl rfl)]
    (apply areR_mk; ((try simp only [List.map_append, List.map_cons, List.map_nil, List.map_set, List.set_set]); (try simp only [List.map_append, List.map_cons, List.map_nil, List.map_set, List.set_set] at hs); ((with_reducible apply Sat.fin hs); (focus ((repeat (first | with_reducible exact Pull.last _ | with_reducible exact Pull.here _ _ | with_reducible apply Pull.both | exact Pull.here _ _ | with_reducible apply Pull.skip)); done)))))
  by_cases e3 : to = 3
  · subst e3
    go_enter Tryz.func108, Tryz.ntmps108
    go_wp2_with (first | (first | (first | (with_reducible refine NQ.mk ?_) | ((with_reducible apply pl_neu); rfl; rfl) | ((with_reducible apply pl_eff); rfl) | (with_reducible refine EQ.mk ?_ ?_) | (first | (with_reducible exact chk_nil) | ((with_reducible refine chk_cons ?_ ?_); (focus ((with_reducible apply pl_chk); rfl; rfl)))) | (with_reducible refine pl_end ?_) | (show SameA _ _ _; rfl)) | ((with_reducible apply wl_ld hs); infer_instance; rfl; (focus ((repeat (first | with_reducible exact Pull.here _ _ | with_reducible apply Pull.skip)); done)); rfl; rfl; (simp only [List.set_cons_succ, List.set_cons_zero])) | ((with_reducible apply wl_ldS0 hs); infer_instance; rfl; assumption; (focus ((repeat (first | with_reducible exact Pull.here _ _ | with_reducible apply Pull.skip)); done)); rfl; (exact map_get (by assumption)); rfl; rfl; (simp only [List.set_cons_succ, List.set_cons_zero])) | ((with_reducible apply wl_stS hs); infer_instance; rfl; rfl; assumption; (with_reducible exact Pull.here _ _); rfl; (exact set_get (by exact map_get (by assumption))); (exact Nat.le_of_ble_eq_true rfl); (rfl); rfl; clear hs; intro w hs) | ((with_reducible apply wl_stSN (k := 0) hs); infer_instance; rfl; rfl; assumption; (focus ((repeat (first | with_reducible exact Pull.here _ _ | with_reducible apply Pull.skip)); done)); (exact (Nat.add_zero _).symm); (exact map_get (by assumption)); (exact Nat.le_of_ble_eq_true rfl); rfl; rfl; rfl; rfl; clear hs; intro w hs; simp only [List.take_succ_cons, List.take_zero, List.drop_succ_cons, List.drop_zero, List.cons_append, List.nil_append, List.append_nil] at hs) | ((with_reducible apply wl_ia2 hs); infer_instance; infer_instance; rfl; assumption; rfl; (focus ((repeat (first | with_reducible exact Pull.here _ _ | with_reducible apply Pull.skip)); done)); (rfl); (simp only [List.length_map, List.length_set, List.length_append, List.length_cons, List.length_nil, List.length_replicate] at *; omega); rfl; (simp only [List.set_cons_succ, List.set_cons_zero])) | ((with_reducible apply wl_ia hs); infer_instance; infer_instance; rfl; rfl; (focus ((repeat (first | with_reducible exact Pull.here _ _ | with_reducible apply Pull.skip)); done)); (rfl); (simp only [List.length_map, List.length_set, List.length_append, List.length_cons, List.length_nil, List.length_replicate] at *; omega); rfl; intro b off hat; (simp only [List.set_cons_succ, List.set_cons_zero]))) | (go_at_call 132; ((refine (hH.out).at hs (by (with_reducible exact Pull.here _ _)) ?_); clear hs; intro w hs; (try simp only [emp_mul, mul_assoc'] at hs)); (obtain ⟨vas, vac, hs⟩ := areR.1 hs)) | (go_at_call 133; ((refine (hT.out).at hs (by (focus ((repeat (first | with_reducible exact Pull.here _ _ | with_reducible apply Pull.skip)); done))) ?_); clear hs; intro w hs; (try simp only [emp_mul, mul_assoc'] at hs))) | (go_at_call 134; ((refine (hS.out).at hs (by (focus ((repeat (first | with_reducible exact Pull.here _ _ | with_reducible apply Pull.skip)); done))) ?_); clear hs; intro w hs; (try simp only [emp_mul, mul_assoc'] at hs))) | ((with_reducible refine wp_plan_sat (id := 2) [.neu 0, .neu 1, .neu 2, .neu 3, .neu 4, .neu 5, .neu 6, .eff 7 [0, 1, 2, 3, 4, 5], .neu 8, .neu 9, .eff 10 []] hs rfl ?_ ?_); kernel_rfl; clear hs; intro w hs))
    (go_end0)
    refine ⟨rfl, ?_⟩
    rw [mul_assoc']
    unfold Are.shift
    rw [if_pos (.inr rfl)]
    (apply areR_mk; ((try simp only [List.map_append, List.map_cons, List.map_nil, List.map_set, List.set_set]); (try simp only [List.map_append, List.map_cons, List.map_nil, List.map_set, List.set_set] at hs); ((with_reducible apply Sat.fin hs); (focus ((repeat (first | with_reducible exact Pull.last _ | with_reducible exact Pull.here _ _ | with_reducible apply Pull.both | exact Pull.here _ _ | with_reducible apply Pull.skip)); done)))))
  · have b1 : (to == 0) = false := by simpa using e0
    have b2 : (to == 3) = false := by simpa using e3
    have b3 : decide (to = 0) = false := by simpa using e0
    have b4 : decide (to = 3) = false := by simpa using e3
    have hif : ¬ (to = 0 ∨ to = 3) := by omega
    have hif := Lib.hid hif
    clear e0 e3
    go_enter Tryz.func108, Tryz.ntmps108
    go_wp2_with (first | (first | (first | (with_reducible refine NQ.mk ?_) | ((with_reducible apply pl_neu); rfl; rfl) | ((with_reducible apply pl_eff); rfl) | (with_reducible refine EQ.mk ?_ ?_) | (first | (with_reducible exact chk_nil) | ((with_reducible refine chk_cons ?_ ?_); (focus ((with_reducible apply pl_chk); rfl; rfl)))) | (with_reducible refine pl_end ?_) | (show SameA _ _ _; rfl)) | ((with_reducible apply wl_ld hs); infer_instance; rfl; (focus ((repeat (first | with_reducible exact Pull.here _ _ | with_reducible apply Pull.skip)); done)); rfl; rfl; (simp only [List.set_cons_succ, List.set_cons_zero])) | ((with_reducible apply wl_ldS0 hs); infer_instance; rfl; assumption; (focus ((repeat (first | with_reducible exact Pull.here _ _ | with_reducible apply Pull.skip)); done)); rfl; (exact map_get (by assumption)); rfl; rfl; (simp only [List.set_cons_succ, List.set_cons_zero])) | ((with_reducible apply wl_stSN (k := 0) hs); infer_instance; rfl; rfl; assumption; (focus ((repeat (first | with_reducible exact Pull.here _ _ | with_reducible apply Pull.skip)); done)); (exact (Nat.add_zero _).symm); (exact map_get (by assumption)); (exact Nat.le_of_ble_eq_true rfl); rfl; rfl; rfl; rfl; clear hs; intro w hs; simp only [List.take_succ_cons, List.take_zero, List.drop_succ_cons, List.drop_zero, List.cons_append, List.nil_append, List.append_nil] at hs) | ((with_reducible apply wl_ia2 hs); infer_instance; infer_instance; rfl; assumption; rfl; (focus ((repeat (first | with_reducible exact Pull.here _ _ | with_reducible apply Pull.skip)); done)); (rfl); (simp only [List.length_map, List.length_set, List.length_append, List.length_cons, List.length_nil, List.length_replicate] at *; omega); rfl; (simp only [List.set_cons_succ, List.set_cons_zero])) | ((with_reducible apply wl_ia hs); infer_instance; infer_instance; rfl; rfl; (focus ((repeat (first | with_reducible exact Pull.here _ _ | with_reducible apply Pull.skip)); done)); (rfl); (simp only [List.length_map, List.length_set, List.length_append, List.length_cons, List.length_nil, List.length_replicate] at *; omega); rfl; intro b off hat; (simp only [List.set_cons_succ, List.set_cons_zero]))) | (go_at_call 132; ((refine (hH.out).at hs (by (with_reducible exact Pull.here _ _)) ?_); clear hs; intro w hs; (try simp only [emp_mul, mul_assoc'] at hs)); (obtain ⟨vas, vac, hs⟩ := areR.1 hs)) | (go_at_call 133; ((refine (hT.out).at hs (by (focus ((repeat (first | with_reducible exact Pull.here _ _ | with_reducible apply Pull.skip)); done))) ?_); clear hs; intro w hs; (try simp only [emp_mul, mul_assoc'] at hs))) | (go_at_call 134; ((refine (hS.out).at hs (by (focus ((repeat (first | with_reducible exact Pull.here _ _ | with_reducible apply Pull.skip)); done))) ?_); clear hs; intro w hs; (try simp only [emp_mul, mul_assoc'] at hs))) | ((with_reducible refine wp_plan_sat (id := 2) [.neu 0, .neu 1, .neu 2, .neu 3, .neu 4, .neu 5, .neu 6, .eff 7 [0, 1, 2, 3, 4, 5], .neu 8, .neu 9, .eff 10 []] hs rfl ?_ ?_); kernel_rfl; clear hs; intro w hs))
    (go_end0)
    refine ⟨rfl, ?_⟩
    rw [mul_assoc']
    unfold Are.shift
    rw [if_neg hif.out]
    (apply areR_mk; ((try simp only [List.map_append, List.map_cons, List.map_nil, List.map_set, List.set_set]); (try simp only [List.map_append, List.map_cons, List.map_nil, List.map_set, List.set_set] at hs); ((with_reducible apply Sat.fin hs); (focus ((repeat (first | with_reducible exact Pull.last _ | with_reducible exact Pull.here _ _ | with_reducible apply Pull.both | with_reducible apply Pull.skip)); done)))))

/-! ### One thread's cache in hand -/
theorem areT {O w : World} {b : Nat} {a : Are} {R : SProp} {t : Nat} {x : List Int} (hs : Sat O w (AreR b a * R)) (hi : a.caches[t]? = some x) : ∃ (vs vc : Value) (us : List Value) (u : Value), us.length = a.caches.length ∧ us[t]? = some u ∧
    Sat O w (pt b (.cells #[.int .i64 a.c.T, .int .i64 a.c.R, .int .i64 a.c.Hz, .int .i64 a.c.Rt, .int .i64 a.c.Ca, .int .i64 a.c.Sl, .int .i64 a.c.Bu, vs, vc] 154) * (sl 156 2 (a.slots.map Slt.e) vs *
      (sl 44 1 (us.map fun u => [u]) vc * (sl 3 1 (x.map eI) u * (stars 3 (a.caches.eraseIdx t) (us.eraseIdx t) * R))))) := by
  obtain ⟨vs, vc, hs⟩ := areR.1 hs
  obtain ⟨us, u, h1, h2, hs⟩ := nest_at (hs.pull (A := nest 44 3 a.caches vc) (by (focus ((repeat (first | with_reducible exact Pull.here _ _ | with_reducible apply Pull.skip)); done)))) hi
  refine ⟨vs, vc, us, u, h1, h2, ?_⟩
  ((with_reducible apply Sat.fin hs); (focus ((repeat (first | with_reducible exact Pull.last _ | with_reducible exact Pull.here _ _ | with_reducible apply Pull.both | with_reducible apply Pull.skip)); done)))
theorem areT_back {O w : World} {b : Nat} {a : Are} {R : SProp} {t : Nat} {x : List Int} {vs vc u : Value} {us : List Value} (hl : us.length = a.caches.length) (hu : us[t]? = some u) (hi : a.caches[t]? = some x)
    (hs : Sat O w (pt b (.cells #[.int .i64 a.c.T, .int .i64 a.c.R, .int .i64 a.c.Hz, .int .i64 a.c.Rt, .int .i64 a.c.Ca, .int .i64 a.c.Sl, .int .i64 a.c.Bu, vs, vc] 154) * (sl 156 2 (a.slots.map Slt.e) vs *
      (sl 44 1 (us.map fun u => [u]) vc * (sl 3 1 (x.map eI) u * (stars 3 (a.caches.eraseIdx t) (us.eraseIdx t) * R)))))) : Sat O w (AreR b a * R) := by
  apply areR_mk
  have := nest_back (xss := a.caches) hl hi hu (hs.fin (T := sl 44 1 (us.map fun u => [u]) vc * (sl 3 1 (x.map eI) u * (stars 3 (a.caches.eraseIdx t) (us.eraseIdx t) * (pt b (.cells #[.int .i64 a.c.T, .int .i64 a.c.R, .int .i64 a.c.Hz, .int .i64 a.c.Rt, .int .i64 a.c.Ca, .int .i64 a.c.Sl, .int .i64 a.c.Bu, vs, vc] 154) * (sl 156 2 (a.slots.map Slt.e) vs * R))))) (by (focus ((repeat (first | with_reducible exact Pull.last _ | with_reducible exact Pull.here _ _ | with_reducible apply Pull.both | with_reducible apply Pull.skip)); done))))
  have hs := this
  ((with_reducible apply Sat.fin hs); (focus ((repeat (first | with_reducible exact Pull.last _ | with_reducible exact Pull.here _ _ | with_reducible apply Pull.both | with_reducible apply Pull.skip)); done)))
theorem areT_mk {O w : World} {b : Nat} {a : Are} {R : SProp} {t : Nat} {x : List Int} {vs vc u : Value} {us : List Value} (hl : us.length = a.caches.length) (ht : t < a.caches.length)
    (hs : Sat O w (pt b (.cells #[.int .i64 a.c.T, .int .i64 a.c.R, .int .i64 a.c.Hz, .int .i64 a.c.Rt, .int .i64 a.c.Ca, .int .i64 a.c.Sl, .int .i64 a.c.Bu, vs, vc] 154) * (sl 156 2 (a.slots.map Slt.e) vs *
      (sl 44 1 ((us.set t u).map fun u => [u]) vc * (sl 3 1 (x.map eI) u * (stars 3 (a.caches.eraseIdx t) (us.eraseIdx t) * R)))))) : Sat O w (AreR b { a with caches := a.caches.set t x } * R) := by
  apply areR_mk
  have := nest_mk (xss := a.caches) hl ht (hs.fin (T := sl 44 1 ((us.set t u).map fun u => [u]) vc * (sl 3 1 (x.map eI) u * (stars 3 (a.caches.eraseIdx t) (us.eraseIdx t) * (pt b (.cells #[.int .i64 a.c.T, .int .i64 a.c.R, .int .i64 a.c.Hz, .int .i64 a.c.Rt, .int .i64 a.c.Ca, .int .i64 a.c.Sl, .int .i64 a.c.Bu, vs, vc] 154) * (sl 156 2 (a.slots.map Slt.e) vs * R))))) (by (focus ((repeat (first | with_reducible exact Pull.last _ | with_reducible exact Pull.here _ _ | with_reducible apply Pull.both | with_reducible apply Pull.skip)); done))))
  have hs := this
  ((with_reducible apply Sat.fin hs); (focus ((repeat (first | with_reducible exact Pull.last _ | with_reducible exact Pull.here _ _ | with_reducible apply Pull.both | with_reducible apply Pull.skip)); done)))
end Go.Proofs.YtegafhhdegnigaaGreat
