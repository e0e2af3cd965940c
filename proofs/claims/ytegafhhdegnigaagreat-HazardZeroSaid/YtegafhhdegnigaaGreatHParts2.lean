/-
  The arena's parts.
-/
import Derived.Test.YtegafhhdegnigaaGreatHArena
set_option linter.all false
section
namespace Go.Proofs.YtegafhhdegnigaaGreat
open Go.RowKit Hp
set_option maxRecDepth 100000
set_option maxHeartbeats 1000000
attribute [local irreducible] Go.Calls

theorem areT_mk2 {O w : World} {b : Nat} {a : Are} {R : SProp} {t : Nat} {x : List Int} {xc : List (List Value)} {vs vc u : Value} {us : List Value} (hl : us.length = a.caches.length) (ht : t < a.caches.length)
    (hs : Sat O w (pt b (.cells #[.int .i64 a.c.T, .int .i64 a.c.R, .int .i64 a.c.Hz, .int .i64 a.c.Rt, .int .i64 a.c.Ca, .int .i64 a.c.Sl, .int .i64 a.c.Bu, vs, vc] 154) * (sl 156 2 (a.slots.map Slt.e) vs *
      (sl 44 1 ((us.map fun u => [u]).set t [u]) vc * (sl 3 1 xc u * (stars 3 (a.caches.eraseIdx t) (us.eraseIdx t) * R)))))) (hxc : xc = x.map eI) : Sat O w (AreR b { a with caches := a.caches.set t x } * R) := by
  subst hxc
  refine areT_mk (vs := vs) (vc := vc) (u := u) hl ht ?_
  rw [List.map_set]
  exact hs
section





end

theorem arena_thread (b : Nat) (a : Are) (t : Nat) (x : List Int) (hi : a.caches[t]? = some x) :
    Gives Tryz.prog 141 #[.pointer (some ⟨b, 0, none⟩), .int .i64 (t : Int)] (AreR b a) (.bool true) (AreR b a) := by
  intro O w F hs
  have hlt := (List.getElem?_eq_some_iff.1 hi).1
  (obtain ⟨vas, vac, us, u, hus, hu, hs⟩ := areT hs hi)
  have hz : decide ((t : Int) ≥ 0) = true := by simp
  have hl : decide ((t : Int) < (us.length : Int)) = true := by simp; omega
  go_enter Tryz.func141, Tryz.ntmps141
  go_wp2_with (first | ((with_reducible apply wl_ld hs); infer_instance; rfl; (with_reducible exact Pull.here _ _); rfl; rfl; (simp only [List.set_cons_succ, List.set_cons_zero])) | ((with_reducible apply wl_len hs); infer_instance; rfl; (focus ((repeat (first | with_reducible exact Pull.here _ _ | with_reducible apply Pull.skip)); done)); rfl; (simp only [List.set_cons_succ, List.set_cons_zero])))
  (go_ret)
  refine ⟨?_, ?_⟩
  · rw [← hus] at hlt; simp [hlt]
  · (apply areT_back hus hu hi; ((try simp only [List.map_append, List.map_cons, List.map_nil, List.map_set, List.set_set]); (try simp only [List.map_append, List.map_cons, List.map_nil, List.map_set, List.set_set] at hs); ((with_reducible apply Sat.fin hs); (with_reducible exact Pull.last _))))

structure Psh where
  slot : Int
  at_ : Int
  head : Int
  thread : Int
def PshR (g ba : Nat) (E : TypeId) (p : Psh) : SProp := pt g (.cells #[.pointer (some ⟨ba, 0, none⟩), .int .i64 p.slot, .int .i64 p.at_, .int .u64 p.head, .int .i64 p.thread] E)

theorem arena_give (b : Nat) (a : Are) (t i : Nat) (x : List Int) (ht : a.caches[t]? = some x) (hi : i < a.slots.length) :
    Makes Tryz.prog 197 #[.pointer (some ⟨b, 0, none⟩), .int .i64 (t : Int), .int .i64 (i : Int)] (AreR b a) (fun g => PshR g b 309 ⟨i, 1, 0, t⟩ * AreR b a) := by
  intro O w F hs
  have hH := Lib.hid (arena_has b a i hi)
  have hT := Lib.hid (arena_thread b a t x ht)
  go_enter Tryz.func197, Tryz.ntmps197
  go_wp2_with (first | ((with_reducible apply wl_box hs); rfl; rfl; rfl; clear hs; intro w b hs; (simp only [List.set_cons_succ, List.set_cons_zero])) | (go_at_call 132; ((refine (hH.out).at hs (by (focus ((repeat (first | with_reducible exact Pull.here _ _ | with_reducible apply Pull.skip)); done))) ?_); clear hs; intro w hs; (try simp only [emp_mul, mul_assoc'] at hs))) | (go_at_call 141; ((refine (hT.out).at hs (by (with_reducible exact Pull.here _ _)) ?_); clear hs; intro w hs; (try simp only [emp_mul, mul_assoc'] at hs))))
  (go_ret)
  refine ⟨_, rfl, ?_⟩
  unfold PshR
  ((with_reducible apply Sat.fin hs); (focus ((repeat (first | with_reducible exact Pull.last _ | with_reducible exact Pull.here _ _ | with_reducible apply Pull.both | with_reducible apply Pull.skip)); done)))

theorem arena_flush (b : Nat) (t : Int) :
    Makes Tryz.prog 216 #[.pointer (some ⟨b, 0, none⟩), .int .i64 t] emp (fun g => PshR g b 320 ⟨0, 0, 0, t⟩) := by
  intro O w F hs
  go_enter Tryz.func216, Tryz.ntmps216
  go_wp2_with ((with_reducible apply wl_box hs); rfl; rfl; rfl; clear hs; intro w b hs; (simp only [List.set_cons_succ, List.set_cons_zero]))
  (go_ret)
  refine ⟨_, rfl, ?_⟩
  unfold PshR
  ((with_reducible apply Sat.fin hs); (focus ((repeat (first | with_reducible exact Pull.last _ | with_reducible exact Pull.here _ _ | with_reducible apply Pull.both | with_reducible apply Pull.skip)); done)))

def Mch.word (m : Mch) (i : Nat) : Int := m.mem.words.getD i 0
/-- an access may be made at address i -/
structure Mch.May (m : Mch) (i : Nat) : Prop where
  used : m.used = false
  lt : i < m.mem.words.length
  log : m.mem.log.length < 4294967296
  ahead : m.mem.ahead.length < 4294967296
theorem Mch.May.acs {m : Mch} {i : Nat} (h : m.May i) : Acs m i (m.word i) :=
  ⟨h.used, by have := h.lt; simp [Mch.word, this], h.log, h.ahead⟩
/-- a head that may be -/
structure HeadOk (u : Int) : Prop where
  nn : 0 ≤ u
  lt : u < 18446744073709551616
  ix : u % 4294967296 ≤ 2147483647

/-- pushing.step, stage by stage -/
def pushStep (a : Are) (m : Mch) (p : Psh) : Bool × Are × Mch × Psh :=
  if p.at_ = 1 then (false, a, m.load (adr a.c 1 0) (m.word (adr a.c 1 0)), { p with head := m.word (adr a.c 1 0), at_ := 2 })
  else if p.at_ = 2 then (false, a, m.store (adr a.c 10 p.slot) (m.word (adr a.c 10 p.slot)) (p.head % 4294967296), { p with at_ := 3 })
  else
    let m' := m.swap (adr a.c 1 0) (m.word (adr a.c 1 0)) p.head ((p.head / 4294967296 + 1) % 4294967296 * 4294967296 + (p.slot + 1))
    if m.word (adr a.c 1 0) = p.head then (true, a.shift p.slot.toNat m.thread 0, m'.shift p.slot (a.slots.getD p.slot.toNat ⟨0, 0⟩).state 0, { p with at_ := 0 })
    else (false, a, m', { p with at_ := 1 })

structure PushOk (a : Are) (m : Mch) (p : Psh) : Prop where
  c : a.c.Ok
  used : m.used = false
  words : m.mem.words.length = (base a.c 14).toNat
  log : m.mem.log.length < 4294967296
  ahead : m.mem.ahead.length < 4294967296
  shifts : m.shifts.length < 4294967296
  slots : a.slots.length = a.c.Sl.toNat
  s0 : 0 ≤ p.slot
  s1 : p.slot < a.c.Sl
  at0 : p.at_ = 1 ∨ p.at_ = 2 ∨ p.at_ = 3
  head : p.at_ ≠ 1 → HeadOk p.head

theorem in_free (c : Cfg) : InReg c 1 0 := ⟨by omega, by omega, by show (0 : Int) < 1; omega⟩
theorem in_spare {c : Cfg} {i : Int} (h0 : 0 ≤ i) (h1 : i < c.Sl) : InReg c 10 i := ⟨h0, by omega, h1⟩

theorem base_succ (c : Cfg) (r : Nat) (h : 1 ≤ r) : base c (r + 1) = base c r + many c r := by
  cases r with
  | zero => omega
  | succ j => rfl
theorem base_mono {c : Cfg} (h : c.Ok) (r k : Nat) (h1 : 1 ≤ r) : base c r ≤ base c (r + k) := by
  induction k with
  | zero => exact Int.le_refl _
  | succ k ih =>
    have := base_succ c (r + k) (by omega)
    have := many_le h (r + k)
    rw [← Nat.add_assoc]; omega
theorem adr_lt {c : Cfg} (h : c.Ok) {r : Nat} (h1 : 1 ≤ r) (h2 : r ≤ 13) {i : Int} (hi : InReg c r i) : adr c r i < (base c 14).toNat := by
  have e := base_succ c r h1
  have := base_mono h (r + 1) (13 - r) (by omega)
  rw [show r + 1 + (13 - r) = 14 by omega] at this
  have := (base_le h r).1
  have := hi.1
  have := hi.2.2
  unfold adr
  omega

theorem push_step (g b d bx bm : Nat) (E : TypeId) (a : Are) (m : Mch) (p : Psh) (h : PushOk a m p) :
    Gives Tryz.prog 199 #[.pointer (some ⟨g, 0, none⟩), .pointer (some ⟨d, 0, none⟩)] (PshR g b E p * (AreR b a * DkR d bx bm m))
      (.bool (pushStep a m p).1) (PshR g b E (pushStep a m p).2.2.2 * (AreR b (pushStep a m p).2.1 * DkR d bx bm (pushStep a m p).2.2.1)) := by
  intro O w F hs
  simp only [mul_assoc'] at hs
  unfold PshR at hs
  obtain ⟨ps, pa, ph, pt_⟩ := p
  obtain ⟨hc, hu, hw, hl, ha, hsh, hsl, s0, s1, hat, hhd⟩ := h
  simp only [] at s0 s1 hat hhd hs
  have hF := Lib.hid (arena_addr b a hc 1 (by omega) (by omega) (by omega) 0 (in_free a.c))
  have hS := Lib.hid (arena_addr b a hc 10 (by omega) (by omega) (by omega) ps (in_spare s0 s1))
  have mF : m.May (adr a.c 1 0) := ⟨hu, by rw [hw]; exact adr_lt hc (by omega) (by omega) (in_free a.c), hl, ha⟩
  have mS : m.May (adr a.c 10 ps) := ⟨hu, by rw [hw]; exact adr_lt hc (by omega) (by omega) (in_spare s0 s1), hl, ha⟩
  rcases hat with e | e | e
  · subst e
    have hL := Lib.hid (desk_load d bx bm m _ _ mF.acs)
    go_enter Tryz.func199, Tryz.ntmps199
    go_wp2_with (first | (first | ((with_reducible apply wl_ld hs); infer_instance; rfl; (focus ((repeat (first | with_reducible exact Pull.here _ _ | with_reducible apply Pull.skip)); done)); rfl; rfl; (simp only [List.set_cons_succ, List.set_cons_zero])) | ((with_reducible apply wl_st hs); infer_instance; rfl; rfl; (focus ((repeat (first | with_reducible exact Pull.here _ _ | with_reducible apply Pull.skip)); done)); (rfl); (exact Nat.le_of_ble_eq_true rfl); rfl; clear hs; intro w hs; simp only [List.setIfInBounds_toArray, List.set_cons_succ, List.set_cons_zero] at hs)) | (go_at_call 203; ((refine (hF.out).at hs (by (focus ((repeat (first | with_reducible exact Pull.here _ _ | with_reducible apply Pull.skip)); done))) ?_); clear hs; intro w hs; (try simp only [emp_mul, mul_assoc'] at hs))) | (go_at_call 187; ((refine (hL.out).at hs (by (focus ((repeat (first | with_reducible exact Pull.here _ _ | with_reducible apply Pull.skip)); done))) ?_); clear hs; intro w hs; (try simp only [emp_mul, mul_assoc'] at hs))))
    (go_ret)
    simp only [pushStep, if_true, mul_assoc']
    refine ⟨rfl, ?_⟩
    unfold PshR
    ((with_reducible apply Sat.fin hs); (focus ((repeat (first | with_reducible exact Pull.last _ | with_reducible exact Pull.here _ _ | with_reducible apply Pull.both | with_reducible apply Pull.skip)); done)))
  · subst e
    obtain ⟨g0, g1, g2⟩ := hhd (by omega)
    have hU := Lib.hid (word_unhead ph g0 g1 g2)
    have hK := Lib.hid (word_link (ph % 4294967296 - 1) (by omega) (by omega))
    have hL := Lib.hid (desk_store d bx bm m _ _ (ph % 4294967296) mS.acs)
    have e1 : ph % 4294967296 - 1 + 1 = ph % 4294967296 := by omega
    rw [e1] at hK
    go_enter Tryz.func199, Tryz.ntmps199
    go_wp2_with (first | (first | (first | (with_reducible refine NQ.mk ?_) | ((with_reducible apply pl_neu); rfl; rfl) | ((with_reducible apply pl_eff); rfl) | (with_reducible refine EQ.mk ?_ ?_) | (first | (with_reducible exact chk_nil) | ((with_reducible refine chk_cons ?_ ?_); (focus ((with_reducible apply pl_chk); rfl; rfl)))) | (with_reducible refine pl_end ?_) | (show SameA _ _ _; rfl)) | ((with_reducible apply wl_ld hs); infer_instance; rfl; (focus ((repeat (first | with_reducible exact Pull.here _ _ | with_reducible apply Pull.skip)); done)); rfl; rfl; (simp only [List.set_cons_succ, List.set_cons_zero])) | ((with_reducible apply wl_st hs); infer_instance; rfl; rfl; (focus ((repeat (first | with_reducible exact Pull.here _ _ | with_reducible apply Pull.skip)); done)); (rfl); (exact Nat.le_of_ble_eq_true rfl); rfl; clear hs; intro w hs; simp only [List.setIfInBounds_toArray, List.set_cons_succ, List.set_cons_zero] at hs)) | (go_at_call 203; first | ((refine (hF.out).at hs (by (focus ((repeat (first | with_reducible exact Pull.here _ _ | with_reducible apply Pull.skip)); done))) ?_); clear hs; intro w hs; (try simp only [emp_mul, mul_assoc'] at hs)) | ((refine (hS.out).at hs (by (with_reducible exact Pull.here _ _)) ?_); clear hs; intro w hs; (try simp only [emp_mul, mul_assoc'] at hs))) | (go_at_call 204; ((refine (hU.out).at hs (by (focus ((repeat (with_reducible exact Pull.none _)); done))) ?_); clear hs; intro w hs; (try simp only [emp_mul, mul_assoc'] at hs))) | (go_at_call 205; ((refine (hK.out).at hs (by (focus ((repeat (with_reducible exact Pull.none _)); done))) ?_); clear hs; intro w hs; (try simp only [emp_mul, mul_assoc'] at hs))) | (go_at_call 189; ((refine (hL.out).at hs (by (focus ((repeat (first | with_reducible exact Pull.here _ _ | with_reducible apply Pull.skip)); done))) ?_); clear hs; intro w hs; (try simp only [emp_mul, mul_assoc'] at hs))) | ((with_reducible refine wp_plan_sat (id := 9) [.neu 0, .neu 1, .neu 2, .neu 3, .neu 4, .neu 5, .neu 6, .neu 7, .neu 8, .neu 10, .eff 9 [0, 10], .eff 11 []] hs rfl ?_ ?_); kernel_rfl; clear hs; intro w hs))
    (go_ret)
    simp only [pushStep, if_true, mul_assoc']
    refine ⟨rfl, ?_⟩
    unfold PshR
    ((with_reducible apply Sat.fin hs); (focus ((repeat (first | with_reducible exact Pull.last _ | with_reducible apply Pull.both | exact Pull.here _ _ | with_reducible apply Pull.skip)); done)))
  · subst e
    obtain ⟨g0, g1, g2⟩ := hhd (by omega)
    have hU := Lib.hid (word_unhead ph g0 g1 g2)
    have hS2 := hc.S2
    have hK := Lib.hid (word_head ((ph / 4294967296 + 1) % 4294967296) ps (by omega) (by omega) (by omega) (by omega))
    have hL := Lib.hid (desk_swap d bx bm m _ _ ph ((ph / 4294967296 + 1) % 4294967296 * 4294967296 + (ps + 1)) mF.acs)
    by_cases hq : m.word (adr a.c 1 0) = ph
    · have hq' : decide (m.word (adr a.c 1 0) = ph) = true := by simpa using hq
      rw [hq'] at hL
      have hq := Lib.hid hq
      obtain ⟨n, rfl⟩ := Int.eq_ofNat_of_zero_le s0
      have hn : n < a.slots.length := by omega
      have hSh := Lib.hid (arena_shift b d bx bm a (m.swap (adr a.c 1 0) (m.word (adr a.c 1 0)) ph ((ph / 4294967296 + 1) % 4294967296 * 4294967296 + ((n : Int) + 1))) n (a.slots.getD n ⟨0, 0⟩) 0 (by simp [hn]) (by omega) (by omega) hsh)
      go_enter Tryz.func199, Tryz.ntmps199
      go_wp2_with (first | (first | (first | (with_reducible refine NQ.mk ?_) | ((with_reducible apply pl_neu); rfl; rfl) | ((with_reducible apply pl_eff); rfl) | (with_reducible refine EQ.mk ?_ ?_) | (with_reducible exact chk_nil) | (with_reducible refine pl_end ?_)) | ((with_reducible apply wl_ld hs); infer_instance; rfl; (focus ((repeat (first | with_reducible exact Pull.here _ _ | with_reducible apply Pull.skip)); done)); rfl; rfl; (simp only [List.set_cons_succ, List.set_cons_zero])) | ((with_reducible apply wl_st hs); infer_instance; rfl; rfl; (focus ((repeat (first | with_reducible exact Pull.here _ _ | with_reducible apply Pull.skip)); done)); (rfl); (exact Nat.le_of_ble_eq_true rfl); rfl; clear hs; intro w hs; simp only [List.setIfInBounds_toArray, List.set_cons_succ, List.set_cons_zero] at hs)) | (go_at_call 203; ((refine (hF.out).at hs (by (focus ((repeat (first | with_reducible exact Pull.here _ _ | with_reducible apply Pull.skip)); done))) ?_); clear hs; intro w hs; (try simp only [emp_mul, mul_assoc'] at hs))) | (go_at_call 204; ((refine (hU.out).at hs (by (focus ((repeat (with_reducible exact Pull.none _)); done))) ?_); clear hs; intro w hs; (try simp only [emp_mul, mul_assoc'] at hs))) | (go_at_call 206; ((refine (hK.out).at hs (by (focus ((repeat (with_reducible exact Pull.none _)); done))) ?_); clear hs; intro w hs; (try simp only [emp_mul, mul_assoc'] at hs))) | (go_at_call 188; ((refine (hL.out).at hs (by (focus ((repeat (first | with_reducible exact Pull.here _ _ | with_reducible apply Pull.skip)); done))) ?_); clear hs; intro w hs; (try simp only [emp_mul, mul_assoc'] at hs))) | (go_at_call 108; ((refine (hSh.out).at hs (by (focus ((repeat (first | with_reducible exact Pull.here _ _ | with_reducible apply Pull.both | with_reducible apply Pull.skip)); done))) ?_); clear hs; intro w hs; (try simp only [emp_mul, mul_assoc'] at hs))) | ((with_reducible refine wp_plan_sat (id := 16) [.neu 0, .neu 1, .neu 2, .neu 3, .neu 4, .neu 5, .neu 6, .neu 7, .neu 8, .eff 9 []] hs rfl ?_ ?_); kernel_rfl; clear hs; intro w hs))
      (go_ret)
      simp only [pushStep, if_pos hq.out, mul_assoc']
      refine ⟨rfl, ?_⟩
      unfold PshR
      ((with_reducible apply Sat.fin hs); (focus ((repeat (first | with_reducible exact Pull.last _ | with_reducible apply Pull.both | exact Pull.here _ _ | with_reducible apply Pull.skip)); done)))
    · have hq' : decide (m.word (adr a.c 1 0) = ph) = false := by simpa using hq
      rw [hq'] at hL
      have hq := Lib.hid hq
      go_enter Tryz.func199, Tryz.ntmps199
      go_wp2_with (first | (first | ((with_reducible apply wl_ld hs); infer_instance; rfl; (focus ((repeat (first | with_reducible exact Pull.here _ _ | with_reducible apply Pull.skip)); done)); rfl; rfl; (simp only [List.set_cons_succ, List.set_cons_zero])) | ((with_reducible apply wl_st hs); infer_instance; rfl; rfl; (focus ((repeat (first | with_reducible exact Pull.here _ _ | with_reducible apply Pull.skip)); done)); (rfl); (exact Nat.le_of_ble_eq_true rfl); rfl; clear hs; intro w hs; simp only [List.setIfInBounds_toArray, List.set_cons_succ, List.set_cons_zero] at hs)) | (go_at_call 203; ((refine (hF.out).at hs (by (focus ((repeat (first | with_reducible exact Pull.here _ _ | with_reducible apply Pull.skip)); done))) ?_); clear hs; intro w hs; (try simp only [emp_mul, mul_assoc'] at hs))) | (go_at_call 204; ((refine (hU.out).at hs (by (focus ((repeat (with_reducible exact Pull.none _)); done))) ?_); clear hs; intro w hs; (try simp only [emp_mul, mul_assoc'] at hs))) | (go_at_call 206; ((refine (hK.out).at hs (by (focus ((repeat (with_reducible exact Pull.none _)); done))) ?_); clear hs; intro w hs; (try simp only [emp_mul, mul_assoc'] at hs))) | (go_at_call 188; ((refine (hL.out).at hs (by (focus ((repeat (first | with_reducible exact Pull.here _ _ | with_reducible apply Pull.skip)); done))) ?_); clear hs; intro w hs; (try simp only [emp_mul, mul_assoc'] at hs))))
      (go_ret)
      simp only [pushStep, if_neg hq.out, mul_assoc']
      refine ⟨rfl, ?_⟩
      unfold PshR
      ((with_reducible apply Sat.fin hs); (focus ((repeat (first | with_reducible exact Pull.last _ | with_reducible apply Pull.both | exact Pull.here _ _ | with_reducible apply Pull.skip)); done)))
end Go.Proofs.YtegafhhdegnigaaGreat
end
/-
  The arena's parts: giving, flushing.
-/
section
namespace Go.Proofs.YtegafhhdegnigaaGreat
open Go.RowKit Hp
set_option maxRecDepth 100000
set_option maxHeartbeats 1000000
attribute [local irreducible] Go.Calls

/-- Giving.Ready: into the cache, if there is room -/
theorem give_ready_full (g b d bx bm : Nat) (E : TypeId) (a : Are) (m : Mch) (p : Psh) (t : Nat) (x : List Int) (ht : p.thread = (t : Int)) (hx : a.caches[t]? = some x) (hp : p.at_ = 1) (hf : a.c.Ca ≤ x.length) :
    Gives Tryz.prog 198 #[.pointer (some ⟨g, 0, none⟩), .pointer (some ⟨d, 0, none⟩)] (PshR g b E p * (AreR b a * DkR d bx bm m))
      (.bool false) (PshR g b E p * (AreR b a * DkR d bx bm m)) := by
  intro O w F hs
  simp only [mul_assoc'] at hs
  unfold PshR at hs
  obtain ⟨ps, pa, ph, pt_⟩ := p
  simp only [] at ht hp hs
  subst ht hp
  have hs := hs.pull (A := AreR b a) (by (focus ((repeat (first | with_reducible exact Pull.here _ _ | with_reducible apply Pull.skip)); done)))
  have hlt := (List.getElem?_eq_some_iff.1 hx).1
  (obtain ⟨vas, vac, us, u, hus, hu, hs⟩ := areT hs hx)
  have hltu : t < us.length := by omega
  have hge : decide ((x.length : Int) ≥ a.c.Ca) = true := by simpa using hf
  go_enter Tryz.func198, Tryz.ntmps198
  go_wp2_with (first | (first | (first | (with_reducible refine NQ.mk ?_) | ((with_reducible apply pl_neu); rfl; rfl) | (with_reducible refine pl_end ?_)) | ((with_reducible apply wl_ld hs); infer_instance; rfl; (focus ((repeat (first | with_reducible exact Pull.here _ _ | with_reducible apply Pull.skip)); done)); rfl; rfl; (simp only [List.set_cons_succ, List.set_cons_zero])) | ((with_reducible apply wl_ldS0 hs); infer_instance; rfl; assumption; (focus ((repeat (first | with_reducible exact Pull.here _ _ | with_reducible apply Pull.skip)); done)); rfl; (exact map_get (by assumption)); rfl; rfl; (simp only [List.set_cons_succ, List.set_cons_zero])) | ((with_reducible apply wl_ia hs); infer_instance; infer_instance; rfl; rfl; (focus ((repeat (first | with_reducible exact Pull.here _ _ | with_reducible apply Pull.skip)); done)); (rfl); (simp only [List.length_map, List.length_set, List.length_append, List.length_cons, List.length_nil, List.length_replicate] at *; omega); rfl; intro b off hat; (simp only [List.set_cons_succ, List.set_cons_zero])) | ((with_reducible apply wl_len hs); infer_instance; rfl; (focus ((repeat (first | with_reducible exact Pull.here _ _ | with_reducible apply Pull.skip)); done)); rfl; (simp only [List.set_cons_succ, List.set_cons_zero]))) | ((with_reducible refine wp_plan_sat (id := 3) [.neu 0, .neu 1, .neu 2, .neu 3, .neu 4, .neu 5, .neu 6, .neu 7, .neu 8, .neu 9, .neu 10, .neu 11, .neu 12, .neu 13, .neu 14, .neu 15, .neu 16, .neu 17, .neu 18, .neu 19, .neu 20, .neu 21, .neu 22, .neu 23, .neu 24] hs rfl ?_ ?_); kernel_rfl; clear hs; intro w hs))
  (go_ret)
  refine ⟨rfl, ?_⟩
  (replace hs := areT_back hus hu hx (hs.fin (by (with_reducible exact Pull.last _))))
  unfold PshR
  simp only [mul_assoc']
  ((with_reducible apply Sat.fin hs); (focus ((repeat (first | with_reducible exact Pull.last _ | with_reducible exact Pull.here _ _ | with_reducible apply Pull.both | with_reducible apply Pull.skip)); done)))

theorem give_ready_room (g b d bx bm : Nat) (E : TypeId) (a : Are) (m : Mch) (p : Psh) (t n : Nat) (s : Slt) (x : List Int) (ht : p.thread = (t : Int)) (hn : p.slot = (n : Int)) (hx : a.caches[t]? = some x) (hsn : a.slots[n]? = some s) (hp : p.at_ = 1) (hf : ¬ a.c.Ca ≤ x.length) (hl : m.shifts.length < 4294967296) (hxl : x.length < 4294967296) :
    Gives Tryz.prog 198 #[.pointer (some ⟨g, 0, none⟩), .pointer (some ⟨d, 0, none⟩)] (PshR g b E p * (AreR b a * DkR d bx bm m))
      (.bool true) (PshR g b E { p with at_ := 0 } * (AreR b ({ a with caches := a.caches.set t (x ++ [p.slot]) }.shift n m.thread 1) * DkR d bx bm (m.shift n s.state 1))) := by
  intro O w F hs
  simp only [mul_assoc'] at hs
  unfold PshR at hs
  obtain ⟨ps, pa, ph, pt_⟩ := p
  simp only [] at ht hp hs hn
  subst ht hp hn
  have hs := hs.pull (A := AreR b a) (by (focus ((repeat (first | with_reducible exact Pull.here _ _ | with_reducible apply Pull.skip)); done)))
  have hlt := (List.getElem?_eq_some_iff.1 hx).1
  have hSh := Lib.hid (arena_shift b d bx bm { a with caches := a.caches.set t (x ++ [(n : Int)]) } m n s 1 hsn (by omega) (by omega) hl)
  (obtain ⟨vas, vac, us, u, hus, hu, hs⟩ := areT hs hx)
  have hltu : t < us.length := by omega
  have hge : decide ((x.length : Int) ≥ a.c.Ca) = false := by simpa using hf
  have hf := Lib.hid hf
  go_enter Tryz.func198, Tryz.ntmps198
  go_wp2_with (first | (first | (first | (with_reducible refine NQ.mk ?_) | ((with_reducible apply pl_neu); rfl; rfl) | ((with_reducible apply pl_eff); rfl) | (with_reducible refine EQ.mk ?_ ?_) | (first | (with_reducible exact chk_nil) | ((with_reducible refine chk_cons ?_ ?_); (focus ((with_reducible apply pl_chk); rfl; rfl)))) | (with_reducible refine pl_end ?_) | (show SameA _ _ _; rfl)) | ((with_reducible apply wl_ld hs); infer_instance; rfl; (focus ((repeat (first | with_reducible exact Pull.here _ _ | with_reducible apply Pull.skip)); done)); rfl; rfl; (simp only [List.set_cons_succ, List.set_cons_zero])) | ((with_reducible apply wl_st hs); infer_instance; rfl; rfl; (focus ((repeat (first | with_reducible exact Pull.here _ _ | with_reducible apply Pull.skip)); done)); (rfl); (exact Nat.le_of_ble_eq_true rfl); rfl; clear hs; intro w hs; simp only [List.setIfInBounds_toArray, List.set_cons_succ, List.set_cons_zero] at hs) | ((with_reducible apply wl_ldS0 hs); infer_instance; rfl; assumption; (focus ((repeat (first | with_reducible exact Pull.here _ _ | with_reducible apply Pull.skip)); done)); rfl; (exact map_get (by assumption)); rfl; rfl; (simp only [List.set_cons_succ, List.set_cons_zero])) | ((with_reducible apply wl_stS0 hs); infer_instance; rfl; rfl; assumption; (focus ((repeat (first | with_reducible exact Pull.here _ _ | with_reducible apply Pull.skip)); done)); rfl; (exact map_get (by assumption)); (exact Nat.le_of_ble_eq_true rfl); (apply sl_one; apply hs.pull; (with_reducible exact Pull.here _ _)); rfl; clear hs; intro w hs) | ((with_reducible apply wl_ia2 hs); infer_instance; infer_instance; rfl; assumption; rfl; (focus ((repeat (first | with_reducible exact Pull.here _ _ | with_reducible apply Pull.skip)); done)); (rfl); (simp only [List.length_map, List.length_set, List.length_append, List.length_cons, List.length_nil, List.length_replicate] at *; omega); rfl; (simp only [List.set_cons_succ, List.set_cons_zero])) | ((with_reducible apply wl_ia hs); infer_instance; infer_instance; rfl; rfl; (focus ((repeat (first | with_reducible exact Pull.here _ _ | with_reducible apply Pull.skip)); done)); (rfl); (simp only [List.length_map, List.length_set, List.length_append, List.length_cons, List.length_nil, List.length_replicate] at *; omega); rfl; intro b off hat; (simp only [List.set_cons_succ, List.set_cons_zero])) | ((with_reducible apply wl_len hs); infer_instance; rfl; (focus ((repeat (first | with_reducible exact Pull.here _ _ | with_reducible apply Pull.skip)); done)); rfl; (simp only [List.set_cons_succ, List.set_cons_zero])) | ((with_reducible apply wl_bs hs); infer_instance; infer_instance; rfl; rfl; rfl; rfl; (exact Nat.le_of_ble_eq_true rfl); rfl; clear hs; intro w v hs; (simp only [List.set_cons_succ, List.set_cons_zero])) | ((with_reducible apply wl_app hs); infer_instance; infer_instance; rfl; rfl; (focus ((repeat (first | with_reducible exact Pull.here _ _ | with_reducible apply Pull.skip)); done)); (with_reducible exact Pull.here _ _); (simp only [List.length_map, List.length_set, List.length_append, List.length_cons, List.length_nil, List.length_replicate] at *; omega); (exact Nat.le_of_ble_eq_true rfl); rfl; clear hs; intro w v hs; (simp only [List.set_cons_succ, List.set_cons_zero]))) | (go_at_call 108; (replace hs := areT_mk2 (x := ((x ++ [(n : Int)]))) hus hlt (hs.fin (by (focus ((repeat (first | with_reducible exact Pull.last _ | with_reducible exact Pull.here _ _ | with_reducible apply Pull.both | exact Pull.here _ _ | with_reducible apply Pull.skip)); done)))) (by simp)); ((refine (hSh.out).at hs (by (focus ((repeat (first | with_reducible exact Pull.here _ _ | with_reducible apply Pull.both | with_reducible apply Pull.skip)); done))) ?_); clear hs; intro w hs; (try simp only [emp_mul, mul_assoc'] at hs))) | ((with_reducible refine wp_plan_sat (id := 3) [.neu 0, .neu 1, .neu 2, .neu 3, .neu 4, .neu 5, .neu 6, .neu 7, .neu 8, .neu 9, .neu 10, .neu 11, .neu 12, .neu 13, .neu 14, .neu 15, .neu 16, .neu 17, .neu 18, .neu 19, .neu 20, .neu 21, .neu 22, .neu 23, .neu 24] hs rfl ?_ ?_); kernel_rfl; clear hs; intro w hs) | ((with_reducible refine wp_plan_sat (id := 5) [.neu 0, .neu 1, .neu 2, .neu 3, .neu 4, .neu 5, .neu 6, .neu 7, .neu 8, .neu 9, .neu 10, .neu 11, .neu 12, .neu 13, .neu 14, .neu 15, .neu 16, .neu 17, .neu 18, .neu 19, .neu 20, .neu 21, .neu 22, .neu 23, .neu 24, .neu 25, .neu 26, .neu 27, .neu 28, .neu 29, .neu 30, .eff 31 [0, 1, 2, 3, 4, 5, 6, 7, 8, 9, 10, 11, 12, 13, 14, 15, 16, 17, 18, 19, 20, 21, 22, 23, 24, 25], .eff 32 [0, 1, 2, 3, 4, 5, 6, 7, 8, 9, 10, 11], .neu 33, .eff 34 []] hs rfl ?_ ?_); kernel_rfl; clear hs; intro w hs) | ((with_reducible refine wp_plan_sat (id := 6) [.neu 0, .neu 1, .neu 2, .neu 3, .neu 4, .neu 5, .neu 6, .neu 7, .neu 8, .neu 9, .neu 10, .eff 11 []] hs rfl ?_ ?_); kernel_rfl; clear hs; intro w hs))
  (go_ret)
  refine ⟨rfl, ?_⟩
  simp only [mul_assoc']
  unfold PshR
  ((with_reducible apply Sat.fin hs); (focus ((repeat (first | with_reducible exact Pull.last _ | with_reducible exact Pull.here _ _ | with_reducible apply Pull.both | with_reducible apply Pull.skip)); done)))
end Go.Proofs.YtegafhhdegnigaaGreat
end
