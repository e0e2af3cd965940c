/-
  The calls: Register, Clear, Read.
-/
import Derived.Test.YtegafhhdegnigaaGreatHHaz8
import Derived.Test.YtegafhhdegnigaaGreatHMach
set_option linter.all false
namespace Go.Proofs.YtegafhhdegnigaaGreat
open Go.RowKit Hp
set_option maxRecDepth 100000
set_option maxHeartbeats 1000000
attribute [local irreducible] Go.Calls

structure Reg where
  thread : Int
  i : Int
  seen : Bool
def RegR (g bh : Nat) (r : Reg) : SProp := pt g (.cells #[.pointer (some ⟨bh, 0, none⟩), .int .i64 r.thread, .int .i64 r.i, .bool r.seen] 182)

def regNext (h : Haz) (m : Mch) (t : Nat) (s : Sea) (r : Reg) : Bool × Haz × Mch × Reg :=
  if r.i + 1 < h.c.R then (false, h, m, { r with seen := false, i := r.i + 1 }) else (true, h, m.answer t s 4 0, { r with seen := false, i := r.i + 1 })
def regStep (h : Haz) (m : Mch) (t : Nat) (s : Sea) (r : Reg) : Bool × Haz × Mch × Reg :=
  let A := adr h.c 8 r.i
  if r.seen = false then
    if m.word A = 1 then regNext h (m.load A (m.word A)) t s r else (false, h, m.load A (m.word A), { r with seen := true })
  else if m.word A = 0 then (true, { h with held := h.held.set r.thread.toNat r.i }, (m.swap A (m.word A) 0 1).answer t s 2 r.i, r)
  else regNext h (m.swap A (m.word A) 0 1) t s r

set_option maxHeartbeats 2000000 in
theorem reg_step (gr bh ba d bx bm : Nat) (h : Haz) (a : Are) (m : Mch) (r : Reg) (i t : Nat) (c : Cll) (s : Sea) (hz : HazOk h a m) (hcur : CurIn m i t c s) (t0 : 0 ≤ r.thread) (t1 : r.thread < h.c.T) (i0 : 0 ≤ r.i) (i1 : r.i < h.c.R) :
    Gives Tryz.prog 210 #[.pointer (some ⟨gr, 0, none⟩), .pointer (some ⟨d, 0, none⟩)] (RegR gr bh r * (HazR bh ba h * DkR d bx bm m)) (.bool (regStep h m t s r).1)
      (RegR gr bh (regStep h m t s r).2.2.2 * (HazR bh ba (regStep h m t s r).2.1 * DkR d bx bm (regStep h m t s r).2.2.1)) := by
  intro O w F hs
  simp only [mul_assoc'] at hs
  obtain ⟨rt, ri, rs⟩ := r
  simp only [] at t0 t1 i0 i1
  obtain ⟨tn, rfl⟩ := Int.eq_ofNat_of_zero_le t0
  have hOk : h.c.Ok := hz.c ▸ hz.ok.c
  have hR2 := hOk.R2
  have hm : m.May (adr h.c 8 ri) := by rw [hz.c]; exact hz.ok.may (by omega) (by omega) (in_active i0 (hz.c ▸ i1))
  have he := adr_eq hOk 8 i0
  obtain ⟨b0, b1⟩ := base_le hOk 8
  have hlt : tn < h.held.length := by rw [hz.held]; omega
  obtain ⟨hz0, hz1⟩ : ∃ z, h.held[tn]? = some z := ⟨_, List.getElem?_eq_getElem hlt⟩
  have hL := Lib.hid (desk_load d bx bm m _ _ hm.acs)
  have hW := desk_swap d bx bm m _ _ 0 1 hm.acs
  have hA1 := Lib.hid (desk_answer d bx bm (m.load (adr h.c 8 ri) (m.word (adr h.c 8 ri))) i t s 4 0 hcur.cur hcur.seat)
  have hA2 := Lib.hid (desk_answer d bx bm (m.swap (adr h.c 8 ri) (m.word (adr h.c 8 ri)) 0 1) i t s 4 0 hcur.cur hcur.seat)
  have hA3 := Lib.hid (desk_answer d bx bm (m.swap (adr h.c 8 ri) (m.word (adr h.c 8 ri)) 0 1) i t s 2 ri hcur.cur hcur.seat)
  unfold regStep regNext
  simp only []
  unfold RegR at hs
  replace hs := hs.pull (A := HazR bh ba h) (by (focus ((repeat (first | with_reducible exact Pull.here _ _ | with_reducible apply Pull.skip)); done)))
  (obtain ⟨vhh, vhl, hs⟩ := hazR.1 hs)
  clear hz hcur hm
  generalize m.word (adr h.c 8 ri) = u at *
  cases rs with
  | false =>
    by_cases hu : u = 1
    · subst hu
      simp only [if_true]
      by_cases hn : ri + 1 < h.c.R
      · have hn' : decide (ri + 1 < h.c.R) = true := by simpa using hn
        have HN := Lib.hid hn; clear hn
        simp only [if_pos HN.out]
        go_enter Tryz.func210, Tryz.ntmps210
        go_wp2_with (first | (first | (first | (with_reducible refine NQ.mk ?_) | ((with_reducible apply pl_neu); rfl; rfl) | ((with_reducible apply pl_eff); rfl) | (with_reducible refine EQ.mk ?_ ?_) | (with_reducible exact chk_nil) | (with_reducible refine pl_end ?_)) | ((with_reducible apply wl_ld hs); infer_instance; rfl; (focus ((repeat (first | with_reducible exact Pull.here _ _ | with_reducible apply Pull.skip)); done)); rfl; rfl; (simp only [List.set_cons_succ, List.set_cons_zero])) | ((with_reducible apply wl_st hs); infer_instance; rfl; rfl; (focus ((repeat (first | with_reducible exact Pull.here _ _ | with_reducible apply Pull.skip)); done)); (rfl); (exact Nat.le_of_ble_eq_true rfl); rfl; clear hs; intro w hs; simp only [List.setIfInBounds_toArray, List.set_cons_succ, List.set_cons_zero] at hs)) | (go_at_call 187; ((refine (hL.out).at hs (by (focus ((repeat (first | with_reducible exact Pull.here _ _ | with_reducible apply Pull.skip)); done))) ?_); clear hs; intro w hs; (try simp only [emp_mul, mul_assoc'] at hs))) | ((with_reducible refine wp_plan_sat (id := 1) [.neu 0, .neu 1, .neu 2, .neu 3, .neu 4, .neu 5, .neu 6, .neu 7, .neu 8, .neu 9, .neu 10, .neu 11, .neu 12, .neu 13, .neu 14, .neu 15, .neu 16, .neu 17, .neu 18, .eff 19 [], .neu 20, .neu 21] hs rfl ?_ ?_); kernel_rfl; clear hs; intro w hs) | ((with_reducible refine wp_plan_sat (id := 4) [.neu 0, .neu 1, .neu 2, .neu 3, .neu 4, .neu 5, .neu 6, .neu 7, .neu 8, .neu 9, .neu 10, .neu 11, .neu 12, .neu 13, .neu 14, .neu 15, .neu 16, .neu 17, .eff 18 [], .neu 19] hs rfl ?_ ?_); kernel_rfl; clear hs; intro w hs) | ((with_reducible refine wp_plan_sat (id := 10) [.neu 0, .neu 1, .neu 2, .neu 3, .neu 4, .neu 5, .neu 6, .neu 7, .neu 8, .neu 9, .neu 10, .neu 11, .neu 12] hs rfl ?_ ?_); kernel_rfl; clear hs; intro w hs))
        (go_ret)
        refine ⟨rfl, ?_⟩
        simp only [mul_assoc']
        (replace hs := hazR_mk (hs.fin (by (focus ((repeat (first | with_reducible exact Pull.last _ | with_reducible exact Pull.here _ _ | with_reducible apply Pull.both | with_reducible apply Pull.skip)); done)))))
        unfold RegR
        ((with_reducible apply Sat.fin hs); (focus ((repeat (first | with_reducible exact Pull.last _ | with_reducible exact Pull.here _ _ | with_reducible apply Pull.both | with_reducible apply Pull.skip)); done)))
      · have hn' : decide (ri + 1 < h.c.R) = false := by simpa using hn
        have HN := Lib.hid hn; clear hn
        simp only [if_neg HN.out]
        go_enter Tryz.func210, Tryz.ntmps210
        go_wp2_with (first | (first | (first | (with_reducible refine NQ.mk ?_) | ((with_reducible apply pl_neu); rfl; rfl) | ((with_reducible apply pl_eff); rfl) | (with_reducible refine EQ.mk ?_ ?_) | (with_reducible exact chk_nil) | (with_reducible refine pl_end ?_)) | ((with_reducible apply wl_ld hs); infer_instance; rfl; (focus ((repeat (first | with_reducible exact Pull.here _ _ | with_reducible apply Pull.skip)); done)); rfl; rfl; (simp only [List.set_cons_succ, List.set_cons_zero])) | ((with_reducible apply wl_st hs); infer_instance; rfl; rfl; (focus ((repeat (first | with_reducible exact Pull.here _ _ | with_reducible apply Pull.skip)); done)); (rfl); (exact Nat.le_of_ble_eq_true rfl); rfl; clear hs; intro w hs; simp only [List.setIfInBounds_toArray, List.set_cons_succ, List.set_cons_zero] at hs)) | (go_at_call 187; ((refine (hL.out).at hs (by (focus ((repeat (first | with_reducible exact Pull.here _ _ | with_reducible apply Pull.skip)); done))) ?_); clear hs; intro w hs; (try simp only [emp_mul, mul_assoc'] at hs))) | (go_at_call 211; ((refine (hA1.out).at hs (by (focus ((repeat (first | with_reducible exact Pull.here _ _ | with_reducible apply Pull.skip)); done))) ?_); clear hs; intro w hs; (try simp only [emp_mul, mul_assoc'] at hs))) | ((with_reducible refine wp_plan_sat (id := 1) [.neu 0, .neu 1, .neu 2, .neu 3, .neu 4, .neu 5, .neu 6, .neu 7, .neu 8, .neu 9, .neu 10, .neu 11, .neu 12, .neu 13, .neu 14, .neu 15, .neu 16, .neu 17, .neu 18, .eff 19 [], .neu 20, .neu 21] hs rfl ?_ ?_); kernel_rfl; clear hs; intro w hs) | ((with_reducible refine wp_plan_sat (id := 4) [.neu 0, .neu 1, .neu 2, .neu 3, .neu 4, .neu 5, .neu 6, .neu 7, .neu 8, .neu 9, .neu 10, .neu 11, .neu 12, .neu 13, .neu 14, .neu 15, .neu 16, .neu 17, .eff 18 [], .neu 19] hs rfl ?_ ?_); kernel_rfl; clear hs; intro w hs) | ((with_reducible refine wp_plan_sat (id := 10) [.neu 0, .neu 1, .neu 2, .neu 3, .neu 4, .neu 5, .neu 6, .neu 7, .neu 8, .neu 9, .neu 10, .neu 11, .neu 12] hs rfl ?_ ?_); kernel_rfl; clear hs; intro w hs))
        (go_ret)
        refine ⟨rfl, ?_⟩
        simp only [mul_assoc']
        (replace hs := hazR_mk (hs.fin (by (focus ((repeat (first | with_reducible exact Pull.last _ | with_reducible exact Pull.here _ _ | with_reducible apply Pull.both | with_reducible apply Pull.skip)); done)))))
        unfold RegR
        ((with_reducible apply Sat.fin hs); (focus ((repeat (first | with_reducible exact Pull.last _ | with_reducible exact Pull.here _ _ | with_reducible apply Pull.both | with_reducible apply Pull.skip)); done)))
    · have hu' : (u == 1) = false := by simpa using hu
      have hu2 : (u != 1) = true := by simpa using hu
      have HU := Lib.hid hu; clear hu
      simp only [if_neg HU.out, if_true]
      go_enter Tryz.func210, Tryz.ntmps210
      go_wp2_with (first | (first | (first | (with_reducible refine NQ.mk ?_) | ((with_reducible apply pl_neu); rfl; rfl) | ((with_reducible apply pl_eff); rfl) | (with_reducible refine EQ.mk ?_ ?_) | (with_reducible exact chk_nil) | (with_reducible refine pl_end ?_)) | ((with_reducible apply wl_ld hs); infer_instance; rfl; (focus ((repeat (first | with_reducible exact Pull.here _ _ | with_reducible apply Pull.skip)); done)); rfl; rfl; (simp only [List.set_cons_succ, List.set_cons_zero])) | ((with_reducible apply wl_st hs); infer_instance; rfl; rfl; (focus ((repeat (first | with_reducible exact Pull.here _ _ | with_reducible apply Pull.skip)); done)); (rfl); (exact Nat.le_of_ble_eq_true rfl); rfl; clear hs; intro w hs; simp only [List.setIfInBounds_toArray, List.set_cons_succ, List.set_cons_zero] at hs)) | (go_at_call 187; ((refine (hL.out).at hs (by (focus ((repeat (first | with_reducible exact Pull.here _ _ | with_reducible apply Pull.skip)); done))) ?_); clear hs; intro w hs; (try simp only [emp_mul, mul_assoc'] at hs))) | ((with_reducible refine wp_plan_sat (id := 1) [.neu 0, .neu 1, .neu 2, .neu 3, .neu 4, .neu 5, .neu 6, .neu 7, .neu 8, .neu 9, .neu 10, .neu 11, .neu 12, .neu 13, .neu 14, .neu 15, .neu 16, .neu 17, .neu 18, .eff 19 [], .neu 20, .neu 21] hs rfl ?_ ?_); kernel_rfl; clear hs; intro w hs))
      (go_ret)
      refine ⟨rfl, ?_⟩
      simp only [mul_assoc']
      (replace hs := hazR_mk (hs.fin (by (focus ((repeat (first | with_reducible exact Pull.last _ | with_reducible exact Pull.here _ _ | with_reducible apply Pull.both | with_reducible apply Pull.skip)); done)))))
      unfold RegR
      ((with_reducible apply Sat.fin hs); (focus ((repeat (first | with_reducible exact Pull.last _ | with_reducible exact Pull.here _ _ | with_reducible apply Pull.both | with_reducible apply Pull.skip)); done)))
  | true =>
    simp only [Bool.true_eq_false, if_false]
    by_cases hu : u = 0
    · have hu' : decide (u = 0) = true := by simpa using hu
      rw [hu'] at hW
      have HW := Lib.hid hW; clear hW hu'
      simp only [if_pos hu]
      clear hu
      go_enter Tryz.func210, Tryz.ntmps210
      go_wp2_with (first | (first | (first | (with_reducible refine NQ.mk ?_) | ((with_reducible apply pl_neu); rfl; rfl) | ((with_reducible apply pl_eff); rfl) | (with_reducible refine EQ.mk ?_ ?_) | (with_reducible exact chk_nil) | (with_reducible refine pl_end ?_)) | ((with_reducible apply wl_ld hs); infer_instance; rfl; (focus ((repeat (first | with_reducible exact Pull.here _ _ | with_reducible apply Pull.skip)); done)); rfl; rfl; (simp only [List.set_cons_succ, List.set_cons_zero])) | ((with_reducible apply wl_stS0 hs); infer_instance; rfl; rfl; assumption; (focus ((repeat (first | with_reducible exact Pull.here _ _ | with_reducible apply Pull.skip)); done)); rfl; (exact map_get (by assumption)); (exact Nat.le_of_ble_eq_true rfl); (rfl); rfl; clear hs; intro w hs) | ((with_reducible apply wl_ia hs); infer_instance; infer_instance; rfl; rfl; (focus ((repeat (first | with_reducible exact Pull.here _ _ | with_reducible apply Pull.skip)); done)); (rfl); (simp only [List.length_map, List.length_set, List.length_append, List.length_cons, List.length_nil, List.length_replicate] at *; omega); rfl; intro b off hat; (simp only [List.set_cons_succ, List.set_cons_zero]))) | (go_at_call 188; ((refine (HW.out).at hs (by (focus ((repeat (first | with_reducible exact Pull.here _ _ | with_reducible apply Pull.skip)); done))) ?_); clear hs; intro w hs; (try simp only [emp_mul, mul_assoc'] at hs))) | (go_at_call 211; ((refine (hA3.out).at hs (by (focus ((repeat (first | with_reducible exact Pull.here _ _ | with_reducible apply Pull.skip)); done))) ?_); clear hs; intro w hs; (try simp only [emp_mul, mul_assoc'] at hs))) | ((with_reducible refine wp_plan_sat (id := 1) [.neu 0, .neu 1, .neu 2, .neu 3, .neu 4, .neu 5, .neu 6, .neu 7, .neu 8, .neu 9, .neu 10, .neu 11, .neu 12, .neu 13, .neu 14, .neu 15, .neu 16, .neu 17, .neu 18, .eff 19 [], .neu 20, .neu 21] hs rfl ?_ ?_); kernel_rfl; clear hs; intro w hs) | ((with_reducible refine wp_plan_sat (id := 4) [.neu 0, .neu 1, .neu 2, .neu 3, .neu 4, .neu 5, .neu 6, .neu 7, .neu 8, .neu 9, .neu 10, .neu 11, .neu 12, .neu 13, .neu 14, .neu 15, .neu 16, .neu 17, .eff 18 [], .neu 19] hs rfl ?_ ?_); kernel_rfl; clear hs; intro w hs) | ((with_reducible refine wp_plan_sat (id := 5) [.neu 0, .neu 1, .neu 2, .neu 3, .neu 4, .neu 5, .neu 6, .neu 7, .neu 8, .neu 9, .neu 10, .neu 11, .neu 12, .neu 13, .neu 14, .neu 15, .eff 16 []] hs rfl ?_ ?_); kernel_rfl; clear hs; intro w hs))
      (go_ret)
      refine ⟨rfl, ?_⟩
      simp only [mul_assoc', Int.toNat_natCast]
      rw [show (h.held.map eI).set tn ([Value.int .i64 hz0].set 0 (Value.int .i64 ri)) = (h.held.set tn ri).map eI by simp] at hs
      replace hs := hazR_mk (h := { h with held := h.held.set tn ri }) (hs.fin (by (focus ((repeat (first | with_reducible exact Pull.last _ | with_reducible exact Pull.here _ _ | with_reducible apply Pull.both | with_reducible apply Pull.skip)); done))))
      unfold RegR
      ((with_reducible apply Sat.fin hs); (focus ((repeat (first | with_reducible exact Pull.last _ | with_reducible exact Pull.here _ _ | with_reducible apply Pull.both | with_reducible apply Pull.skip)); done)))
    · have hu' : decide (u = 0) = false := by simpa using hu
      rw [hu'] at hW
      have HW := Lib.hid hW; clear hW hu'
      simp only [if_neg hu]
      clear hu
      by_cases hn : ri + 1 < h.c.R
      · have hn' : decide (ri + 1 < h.c.R) = true := by simpa using hn
        have HN := Lib.hid hn; clear hn
        simp only [if_pos HN.out]
        go_enter Tryz.func210, Tryz.ntmps210
        go_wp2_with (first | (first | (first | (with_reducible refine NQ.mk ?_) | ((with_reducible apply pl_neu); rfl; rfl) | ((with_reducible apply pl_eff); rfl) | (with_reducible refine EQ.mk ?_ ?_) | (with_reducible exact chk_nil) | (with_reducible refine pl_end ?_)) | ((with_reducible apply wl_ld hs); infer_instance; rfl; (focus ((repeat (first | with_reducible exact Pull.here _ _ | with_reducible apply Pull.skip)); done)); rfl; rfl; (simp only [List.set_cons_succ, List.set_cons_zero])) | ((with_reducible apply wl_st hs); infer_instance; rfl; rfl; (focus ((repeat (first | with_reducible exact Pull.here _ _ | with_reducible apply Pull.skip)); done)); (rfl); (exact Nat.le_of_ble_eq_true rfl); rfl; clear hs; intro w hs; simp only [List.setIfInBounds_toArray, List.set_cons_succ, List.set_cons_zero] at hs)) | (go_at_call 188; ((refine (HW.out).at hs (by (focus ((repeat (first | with_reducible exact Pull.here _ _ | with_reducible apply Pull.skip)); done))) ?_); clear hs; intro w hs; (try simp only [emp_mul, mul_assoc'] at hs))) | ((with_reducible refine wp_plan_sat (id := 1) [.neu 0, .neu 1, .neu 2, .neu 3, .neu 4, .neu 5, .neu 6, .neu 7, .neu 8, .neu 9, .neu 10, .neu 11, .neu 12, .neu 13, .neu 14, .neu 15, .neu 16, .neu 17, .neu 18, .eff 19 [], .neu 20, .neu 21] hs rfl ?_ ?_); kernel_rfl; clear hs; intro w hs) | ((with_reducible refine wp_plan_sat (id := 4) [.neu 0, .neu 1, .neu 2, .neu 3, .neu 4, .neu 5, .neu 6, .neu 7, .neu 8, .neu 9, .neu 10, .neu 11, .neu 12, .neu 13, .neu 14, .neu 15, .neu 16, .neu 17, .eff 18 [], .neu 19] hs rfl ?_ ?_); kernel_rfl; clear hs; intro w hs) | ((with_reducible refine wp_plan_sat (id := 10) [.neu 0, .neu 1, .neu 2, .neu 3, .neu 4, .neu 5, .neu 6, .neu 7, .neu 8, .neu 9, .neu 10, .neu 11, .neu 12] hs rfl ?_ ?_); kernel_rfl; clear hs; intro w hs))
        (go_ret)
        refine ⟨rfl, ?_⟩
        simp only [mul_assoc']
        (replace hs := hazR_mk (hs.fin (by (focus ((repeat (first | with_reducible exact Pull.last _ | with_reducible exact Pull.here _ _ | with_reducible apply Pull.both | with_reducible apply Pull.skip)); done)))))
        unfold RegR
        ((with_reducible apply Sat.fin hs); (focus ((repeat (first | with_reducible exact Pull.last _ | with_reducible exact Pull.here _ _ | with_reducible apply Pull.both | with_reducible apply Pull.skip)); done)))
      · have hn' : decide (ri + 1 < h.c.R) = false := by simpa using hn
        have HN := Lib.hid hn; clear hn
        simp only [if_neg HN.out]
        go_enter Tryz.func210, Tryz.ntmps210
        go_wp2_with (first | (first | (first | (with_reducible refine NQ.mk ?_) | ((with_reducible apply pl_neu); rfl; rfl) | ((with_reducible apply pl_eff); rfl) | (with_reducible refine EQ.mk ?_ ?_) | (with_reducible exact chk_nil) | (with_reducible refine pl_end ?_)) | ((with_reducible apply wl_ld hs); infer_instance; rfl; (focus ((repeat (first | with_reducible exact Pull.here _ _ | with_reducible apply Pull.skip)); done)); rfl; rfl; (simp only [List.set_cons_succ, List.set_cons_zero])) | ((with_reducible apply wl_st hs); infer_instance; rfl; rfl; (focus ((repeat (first | with_reducible exact Pull.here _ _ | with_reducible apply Pull.skip)); done)); (rfl); (exact Nat.le_of_ble_eq_true rfl); rfl; clear hs; intro w hs; simp only [List.setIfInBounds_toArray, List.set_cons_succ, List.set_cons_zero] at hs)) | (go_at_call 188; ((refine (HW.out).at hs (by (focus ((repeat (first | with_reducible exact Pull.here _ _ | with_reducible apply Pull.skip)); done))) ?_); clear hs; intro w hs; (try simp only [emp_mul, mul_assoc'] at hs))) | (go_at_call 211; ((refine (hA2.out).at hs (by (focus ((repeat (first | with_reducible exact Pull.here _ _ | with_reducible apply Pull.skip)); done))) ?_); clear hs; intro w hs; (try simp only [emp_mul, mul_assoc'] at hs))) | ((with_reducible refine wp_plan_sat (id := 1) [.neu 0, .neu 1, .neu 2, .neu 3, .neu 4, .neu 5, .neu 6, .neu 7, .neu 8, .neu 9, .neu 10, .neu 11, .neu 12, .neu 13, .neu 14, .neu 15, .neu 16, .neu 17, .neu 18, .eff 19 [], .neu 20, .neu 21] hs rfl ?_ ?_); kernel_rfl; clear hs; intro w hs) | ((with_reducible refine wp_plan_sat (id := 4) [.neu 0, .neu 1, .neu 2, .neu 3, .neu 4, .neu 5, .neu 6, .neu 7, .neu 8, .neu 9, .neu 10, .neu 11, .neu 12, .neu 13, .neu 14, .neu 15, .neu 16, .neu 17, .eff 18 [], .neu 19] hs rfl ?_ ?_); kernel_rfl; clear hs; intro w hs) | ((with_reducible refine wp_plan_sat (id := 10) [.neu 0, .neu 1, .neu 2, .neu 3, .neu 4, .neu 5, .neu 6, .neu 7, .neu 8, .neu 9, .neu 10, .neu 11, .neu 12] hs rfl ?_ ?_); kernel_rfl; clear hs; intro w hs))
        (go_ret)
        refine ⟨rfl, ?_⟩
        simp only [mul_assoc']
        (replace hs := hazR_mk (hs.fin (by (focus ((repeat (first | with_reducible exact Pull.last _ | with_reducible exact Pull.here _ _ | with_reducible apply Pull.both | with_reducible apply Pull.skip)); done)))))
        unfold RegR
        ((with_reducible apply Sat.fin hs); (focus ((repeat (first | with_reducible exact Pull.last _ | with_reducible exact Pull.here _ _ | with_reducible apply Pull.both | with_reducible apply Pull.skip)); done)))
end Go.Proofs.YtegafhhdegnigaaGreat
