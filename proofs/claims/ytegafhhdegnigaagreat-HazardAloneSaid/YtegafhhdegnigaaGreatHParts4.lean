/-
  The arena's parts: a step of taking.
-/
import Derived.Test.YtegafhhdegnigaaGreatHParts3
set_option linter.all false
namespace Go.Proofs.YtegafhhdegnigaaGreat
open Go.RowKit Hp
set_option maxRecDepth 100000
set_option maxHeartbeats 1000000
attribute [local irreducible] Go.Calls

/-- Taking.Step -/
def takeStep (a : Are) (m : Mch) (t : Tak) : Bool × Are × Mch × Tak :=
  if t.at_ = 1 then (decide (m.word (adr a.c 1 0) % 4294967296 = 0), a, m.load (adr a.c 1 0) (m.word (adr a.c 1 0)), { t with head := m.word (adr a.c 1 0), at_ := if m.word (adr a.c 1 0) % 4294967296 = 0 then 0 else 2 })
  else if t.at_ = 2 then (false, a, m.load (adr a.c 10 (t.head % 4294967296 - 1)) (m.word (adr a.c 10 (t.head % 4294967296 - 1))), { t with next := m.word (adr a.c 10 (t.head % 4294967296 - 1)), at_ := 3 })
  else
    let m' := m.swap (adr a.c 1 0) (m.word (adr a.c 1 0)) t.head ((t.head / 4294967296 + 1) % 4294967296 * 4294967296 + t.next)
    if m.word (adr a.c 1 0) = t.head then (true, takeGot a m' t (t.head % 4294967296 - 1)) else (false, a, m', { t with at_ := 1 })

structure TakeOk (a : Are) (m : Mch) (t : Tak) : Prop where
  ok : AOk a m
  at0 : t.at_ = 1 ∨ t.at_ = 2 ∨ t.at_ = 3
  word : t.at_ = 1 → HeadOk (m.word (adr a.c 1 0))
  head : t.at_ ≠ 1 → HeadOk t.head
  s0 : t.at_ ≠ 1 → 1 ≤ t.head % 4294967296
  s1 : t.at_ ≠ 1 → t.head % 4294967296 ≤ a.c.Sl
  n0 : t.at_ = 3 → 0 ≤ t.next
  n1 : t.at_ = 3 → t.next ≤ 2147483647

theorem take_step (g b d bx bm : Nat) (a : Are) (m : Mch) (t : Tak) (h : TakeOk a m t) :
    Gives Tryz.prog 224 #[.pointer (some ⟨g, 0, none⟩), .pointer (some ⟨d, 0, none⟩)] (TakR g b t * (AreR b a * DkR d bx bm m)) (.bool (takeStep a m t).1)
      (TakR g b (takeStep a m t).2.2.2 * (AreR b (takeStep a m t).2.1 * DkR d bx bm (takeStep a m t).2.2.1)) := by
  intro O w F hs
  simp only [mul_assoc'] at hs
  unfold TakR at hs
  obtain ⟨t1, t2, t3, t4, t5, t6⟩ := t
  obtain ⟨hok, hat, hwd, hhd, hs0, hs1, hn0, hn1⟩ := h
  simp only [] at hat hwd hhd hs0 hs1 hn0 hn1 hs
  have hc := hok.c
  have hF := Lib.hid (arena_addr b a hc 1 (by omega) (by omega) (by omega) 0 (in_free a.c))
  have mF := hok.may (r := 1) (by omega) (by omega) (in_free a.c)
  rcases hat with e | e | e
  · subst e
    obtain ⟨g0, g1, g2⟩ := hwd rfl
    clear hhd hs0 hs1 hn0 hn1 hwd
    have hL := Lib.hid (desk_load d bx bm m _ _ mF.acs)
    have hU := word_unhead (m.word (adr a.c 1 0)) g0 g1 g2
    have e0 : takeStep a m ⟨t1, 1, t3, t4, t5, t6⟩ = (decide (m.word (adr a.c 1 0) % 4294967296 = 0), a, m.load (adr a.c 1 0) (m.word (adr a.c 1 0)), ⟨t1, if m.word (adr a.c 1 0) % 4294967296 = 0 then 0 else 2, m.word (adr a.c 1 0), t4, t5, t6⟩) := rfl
    rw [e0]; clear e0
    generalize hsu : m.word (adr a.c 1 0) % 4294967296 - 1 = s at hU
    by_cases hz : m.word (adr a.c 1 0) % 4294967296 = 0
    · have hlt : decide (s < 0) = true := by simp; omega
      rw [if_pos hz]
      rw [show (decide (m.word (adr a.c 1 0) % 4294967296 = 0)) = true by simpa using hz]
      clear hz hsu g0 g1 g2
      have HU := Lib.hid hU; clear hU
      go_enter Tryz.func224, Tryz.ntmps224
      go_wp2_with (first | (first | ((with_reducible apply wl_ld hs); infer_instance; rfl; (with_reducible exact Pull.here _ _); rfl; rfl; (simp only [List.set_cons_succ, List.set_cons_zero])) | ((with_reducible apply wl_st hs); infer_instance; rfl; rfl; (focus ((repeat (first | with_reducible exact Pull.here _ _ | with_reducible apply Pull.skip)); done)); (rfl); (exact Nat.le_of_ble_eq_true rfl); rfl; clear hs; intro w hs; simp only [List.setIfInBounds_toArray, List.set_cons_succ, List.set_cons_zero] at hs)) | (go_at_call 203; ((refine (hF.out).at hs (by (focus ((repeat (first | with_reducible exact Pull.here _ _ | with_reducible apply Pull.skip)); done))) ?_); clear hs; intro w hs; (try simp only [emp_mul, mul_assoc'] at hs))) | (go_at_call 187; ((refine (hL.out).at hs (by (focus ((repeat (first | with_reducible exact Pull.here _ _ | with_reducible apply Pull.skip)); done))) ?_); clear hs; intro w hs; (try simp only [emp_mul, mul_assoc'] at hs))) | (go_at_call 204; ((refine (HU.out).at hs (by (focus ((repeat (with_reducible exact Pull.none _)); done))) ?_); clear hs; intro w hs; (try simp only [emp_mul, mul_assoc'] at hs))))
      (go_ret)
      refine ⟨rfl, ?_⟩
      unfold TakR
      simp only [mul_assoc']
      ((with_reducible apply Sat.fin hs); (focus ((repeat (first | with_reducible exact Pull.last _ | with_reducible exact Pull.here _ _ | with_reducible apply Pull.both | with_reducible apply Pull.skip)); done)))
    · have hlt : decide (s < 0) = false := by simp; omega
      rw [if_neg hz]
      rw [show (decide (m.word (adr a.c 1 0) % 4294967296 = 0)) = false by simpa using hz]
      clear hz hsu g0 g1 g2
      have HU := Lib.hid hU; clear hU
      go_enter Tryz.func224, Tryz.ntmps224
      go_wp2_with (first | (first | ((with_reducible apply wl_ld hs); infer_instance; rfl; (with_reducible exact Pull.here _ _); rfl; rfl; (simp only [List.set_cons_succ, List.set_cons_zero])) | ((with_reducible apply wl_st hs); infer_instance; rfl; rfl; (focus ((repeat (first | with_reducible exact Pull.here _ _ | with_reducible apply Pull.skip)); done)); (rfl); (exact Nat.le_of_ble_eq_true rfl); rfl; clear hs; intro w hs; simp only [List.setIfInBounds_toArray, List.set_cons_succ, List.set_cons_zero] at hs)) | (go_at_call 203; ((refine (hF.out).at hs (by (focus ((repeat (first | with_reducible exact Pull.here _ _ | with_reducible apply Pull.skip)); done))) ?_); clear hs; intro w hs; (try simp only [emp_mul, mul_assoc'] at hs))) | (go_at_call 187; ((refine (hL.out).at hs (by (focus ((repeat (first | with_reducible exact Pull.here _ _ | with_reducible apply Pull.skip)); done))) ?_); clear hs; intro w hs; (try simp only [emp_mul, mul_assoc'] at hs))) | (go_at_call 204; ((refine (HU.out).at hs (by (focus ((repeat (with_reducible exact Pull.none _)); done))) ?_); clear hs; intro w hs; (try simp only [emp_mul, mul_assoc'] at hs))))
      (go_ret)
      refine ⟨rfl, ?_⟩
      unfold TakR
      simp only [mul_assoc']
      ((with_reducible apply Sat.fin hs); (focus ((repeat (first | with_reducible exact Pull.last _ | with_reducible exact Pull.here _ _ | with_reducible apply Pull.both | with_reducible apply Pull.skip)); done)))
  · subst e
    obtain ⟨g0, g1, g2⟩ := hhd (by omega)
    have s0 := hs0 (by omega)
    have s1 := hs1 (by omega)
    clear hhd hs0 hs1 hn0 hn1 hwd
    have hiS : InReg a.c 10 (t3 % 4294967296 - 1) := in_spare (by omega) (by omega)
    have hS := Lib.hid (arena_addr b a hc 10 (by omega) (by omega) (by omega) _ hiS)
    have mS := hok.may (r := 10) (by omega) (by omega) hiS
    have hU := Lib.hid (word_unhead t3 g0 g1 g2)
    have hL := Lib.hid (desk_load d bx bm m _ _ mS.acs)
    clear hiS s0 s1 g0 g1 g2
    go_enter Tryz.func224, Tryz.ntmps224
    go_wp2_with (first | (first | ((with_reducible apply wl_ld hs); infer_instance; rfl; (with_reducible exact Pull.here _ _); rfl; rfl; (simp only [List.set_cons_succ, List.set_cons_zero])) | ((with_reducible apply wl_st hs); infer_instance; rfl; rfl; (focus ((repeat (first | with_reducible exact Pull.here _ _ | with_reducible apply Pull.skip)); done)); (rfl); (exact Nat.le_of_ble_eq_true rfl); rfl; clear hs; intro w hs; simp only [List.setIfInBounds_toArray, List.set_cons_succ, List.set_cons_zero] at hs)) | (go_at_call 203; ((refine (hS.out).at hs (by (focus ((repeat (first | with_reducible exact Pull.here _ _ | with_reducible apply Pull.skip)); done))) ?_); clear hs; intro w hs; (try simp only [emp_mul, mul_assoc'] at hs))) | (go_at_call 187; ((refine (hL.out).at hs (by (focus ((repeat (first | with_reducible exact Pull.here _ _ | with_reducible apply Pull.skip)); done))) ?_); clear hs; intro w hs; (try simp only [emp_mul, mul_assoc'] at hs))) | (go_at_call 204; ((refine (hU.out).at hs (by (focus ((repeat (with_reducible exact Pull.none _)); done))) ?_); clear hs; intro w hs; (try simp only [emp_mul, mul_assoc'] at hs))))
    (go_ret)
    refine ⟨rfl, ?_⟩
    simp only [takeStep]
    unfold TakR
    simp only [mul_assoc']
    ((with_reducible apply Sat.fin hs); (focus ((repeat (first | with_reducible exact Pull.last _ | with_reducible apply Pull.both | exact Pull.here _ _ | with_reducible apply Pull.skip)); done)))
  · subst e
    obtain ⟨g0, g1, g2⟩ := hhd (by omega)
    have s0 := hs0 (by omega)
    have s1 := hs1 (by omega)
    have n0 := hn0 rfl
    have n1 := hn1 rfl
    clear hhd hs0 hs1 hn0 hn1 hwd
    have hS2 := hc.S2
    have hU := Lib.hid (word_unhead t3 g0 g1 g2)
    have hK := Lib.hid (word_unlink0 t4 n0 n1)
    have hH := word_head ((t3 / 4294967296 + 1) % 4294967296) (t4 - 1) (by omega) (by omega) (by omega) (by omega)
    rw [show t4 - 1 + 1 = t4 by omega] at hH
    have hH := Lib.hid hH
    have hL := desk_swap d bx bm m _ _ t3 ((t3 / 4294967296 + 1) % 4294967296 * 4294967296 + t4) mF.acs
    obtain ⟨k, hk⟩ := Int.eq_ofNat_of_zero_le (show 0 ≤ t3 % 4294967296 - 1 by omega)
    have hkl : k < a.slots.length := by rw [hok.slots]; omega
    by_cases hq : m.word (adr a.c 1 0) = t3
    · have hq' : decide (m.word (adr a.c 1 0) = t3) = true := by simpa using hq
      rw [hq'] at hL
      have e0 : takeStep a m ⟨t1, 3, t3, t4, t5, t6⟩ = (true, takeGot a (m.swap (adr a.c 1 0) (m.word (adr a.c 1 0)) t3 ((t3 / 4294967296 + 1) % 4294967296 * 4294967296 + t4)) ⟨t1, 3, t3, t4, t5, t6⟩ k) := by
        unfold takeStep; simp only [hq, if_true, hk]; rfl
      rw [e0]; clear e0
      have hG := take_got g b d bx bm a (m.swap (adr a.c 1 0) (m.word (adr a.c 1 0)) t3 ((t3 / 4294967296 + 1) % 4294967296 * 4294967296 + t4)) ⟨t1, 3, t3, t4, t5, t6⟩ k hkl hok.shifts
      generalize takeGot a (m.swap (adr a.c 1 0) (m.word (adr a.c 1 0)) t3 ((t3 / 4294967296 + 1) % 4294967296 * 4294967296 + t4)) ⟨t1, 3, t3, t4, t5, t6⟩ k = r at hG ⊢
      obtain ⟨a1, m1, tt⟩ := r
      unfold TakR at hG
      rw [← hk] at hG
      have HG := Lib.hid hG; clear hG
      have HL := Lib.hid hL; clear hL
      clear hq hq' hk s0 s1 n0 n1 g0 g1 g2
      go_enter Tryz.func224, Tryz.ntmps224
      go_wp2_with (first | (first | (first | (with_reducible refine NQ.mk ?_) | ((with_reducible apply pl_neu); rfl; rfl) | ((with_reducible apply pl_eff); rfl) | (with_reducible refine EQ.mk ?_ ?_) | (first | (with_reducible exact chk_nil) | ((with_reducible refine chk_cons ?_ ?_); (focus ((with_reducible apply pl_chk); rfl; rfl)))) | (with_reducible refine pl_end ?_) | (show SameA _ _ _; rfl)) | ((with_reducible apply wl_ld hs); infer_instance; rfl; (focus ((repeat (first | with_reducible exact Pull.here _ _ | with_reducible apply Pull.skip)); done)); rfl; rfl; (simp only [List.set_cons_succ, List.set_cons_zero]))) | (go_at_call 203; ((refine (hF.out).at hs (by (focus ((repeat (first | with_reducible exact Pull.here _ _ | with_reducible apply Pull.skip)); done))) ?_); clear hs; intro w hs; (try simp only [emp_mul, mul_assoc'] at hs))) | (go_at_call 188; ((refine (HL.out).at hs (by (focus ((repeat (first | with_reducible exact Pull.here _ _ | with_reducible apply Pull.skip)); done))) ?_); clear hs; intro w hs; (try simp only [emp_mul, mul_assoc'] at hs))) | (go_at_call 204; ((refine (hU.out).at hs (by (focus ((repeat (with_reducible exact Pull.none _)); done))) ?_); clear hs; intro w hs; (try simp only [emp_mul, mul_assoc'] at hs))) | (go_at_call 190; ((refine (hK.out).at hs (by (focus ((repeat (with_reducible exact Pull.none _)); done))) ?_); clear hs; intro w hs; (try simp only [emp_mul, mul_assoc'] at hs))) | (go_at_call 206; ((refine (hH.out).at hs (by (focus ((repeat (with_reducible exact Pull.none _)); done))) ?_); clear hs; intro w hs; (try simp only [emp_mul, mul_assoc'] at hs))) | (go_at_call 229; ((refine (HG.out).at hs (by (focus ((repeat (first | with_reducible exact Pull.here _ _ | with_reducible apply Pull.both | with_reducible apply Pull.skip)); done))) ?_); clear hs; intro w hs; (try simp only [emp_mul, mul_assoc'] at hs))) | ((with_reducible refine wp_plan_sat (id := 18) [.neu 0, .neu 1, .neu 2, .neu 3, .neu 4, .neu 6, .neu 7, .neu 8, .neu 9, .neu 10, .eff 5 [0, 6, 7, 8, 9, 10], .eff 11 []] hs rfl ?_ ?_); kernel_rfl; clear hs; intro w hs))
      (go_ret)
      refine ⟨rfl, ?_⟩
      unfold TakR
      simp only [mul_assoc']
      ((with_reducible apply Sat.fin hs); (with_reducible exact Pull.last _))
    · have hq' : decide (m.word (adr a.c 1 0) = t3) = false := by simpa using hq
      rw [hq'] at hL
      have e0 : takeStep a m ⟨t1, 3, t3, t4, t5, t6⟩ = (false, a, m.swap (adr a.c 1 0) (m.word (adr a.c 1 0)) t3 ((t3 / 4294967296 + 1) % 4294967296 * 4294967296 + t4), ⟨t1, 1, t3, t4, t5, t6⟩) := by
        unfold takeStep; simp [hq]
      rw [e0]; clear e0
      have HL := Lib.hid hL; clear hL
      clear hq hq' hk s0 s1 n0 n1 g0 g1 g2
      go_enter Tryz.func224, Tryz.ntmps224
      go_wp2_with (first | (first | (first | (with_reducible refine NQ.mk ?_) | ((with_reducible apply pl_neu); rfl; rfl) | ((with_reducible apply pl_eff); rfl) | (with_reducible refine EQ.mk ?_ ?_) | (first | (with_reducible exact chk_nil) | ((with_reducible refine chk_cons ?_ ?_); (focus ((with_reducible apply pl_chk); rfl; rfl)))) | (with_reducible refine pl_end ?_) | (show SameA _ _ _; rfl)) | ((with_reducible apply wl_ld hs); infer_instance; rfl; (focus ((repeat (first | with_reducible exact Pull.here _ _ | with_reducible apply Pull.skip)); done)); rfl; rfl; (simp only [List.set_cons_succ, List.set_cons_zero])) | ((with_reducible apply wl_st hs); infer_instance; rfl; rfl; (focus ((repeat (first | with_reducible exact Pull.here _ _ | with_reducible apply Pull.skip)); done)); (rfl); (exact Nat.le_of_ble_eq_true rfl); rfl; clear hs; intro w hs; simp only [List.setIfInBounds_toArray, List.set_cons_succ, List.set_cons_zero] at hs)) | (go_at_call 203; ((refine (hF.out).at hs (by (focus ((repeat (first | with_reducible exact Pull.here _ _ | with_reducible apply Pull.skip)); done))) ?_); clear hs; intro w hs; (try simp only [emp_mul, mul_assoc'] at hs))) | (go_at_call 188; ((refine (HL.out).at hs (by (focus ((repeat (first | with_reducible exact Pull.here _ _ | with_reducible apply Pull.skip)); done))) ?_); clear hs; intro w hs; (try simp only [emp_mul, mul_assoc'] at hs))) | (go_at_call 204; ((refine (hU.out).at hs (by (focus ((repeat (with_reducible exact Pull.none _)); done))) ?_); clear hs; intro w hs; (try simp only [emp_mul, mul_assoc'] at hs))) | (go_at_call 190; ((refine (hK.out).at hs (by (focus ((repeat (with_reducible exact Pull.none _)); done))) ?_); clear hs; intro w hs; (try simp only [emp_mul, mul_assoc'] at hs))) | (go_at_call 206; ((refine (hH.out).at hs (by (focus ((repeat (with_reducible exact Pull.none _)); done))) ?_); clear hs; intro w hs; (try simp only [emp_mul, mul_assoc'] at hs))) | ((with_reducible refine wp_plan_sat (id := 18) [.neu 0, .neu 1, .neu 2, .neu 3, .neu 4, .neu 6, .neu 7, .neu 8, .neu 9, .neu 10, .eff 5 [0, 6, 7, 8, 9, 10], .eff 11 []] hs rfl ?_ ?_); kernel_rfl; clear hs; intro w hs))
      (go_ret)
      refine ⟨rfl, ?_⟩
      unfold TakR
      simp only [mul_assoc']
      ((with_reducible apply Sat.fin hs); (focus ((repeat (first | with_reducible exact Pull.last _ | with_reducible exact Pull.here _ _ | with_reducible apply Pull.both | with_reducible apply Pull.skip)); done)))
end Go.Proofs.YtegafhhdegnigaaGreat
