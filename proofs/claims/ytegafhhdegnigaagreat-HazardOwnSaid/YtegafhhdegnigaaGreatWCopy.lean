/-
  The reference's comparisons, where the lists are the same (written by gensame.py).
-/
import Derived.Test.YtegafhhdegnigaaGreatWRun
set_option linter.all false
section
namespace Go.Proofs.YtegafhhdegnigaaGreat
open Go.RowKit Hp
set_option maxRecDepth 100000
set_option maxHeartbeats 1000000
attribute [local irreducible] Go.Calls
theorem same_calls (xs : List Cll) (u v : Value) (hl : xs.length < 4294967296) : Gives Tryz.prog 64 #[u,v] (sl 50 9 (xs.map Cll.e) u * sl 50 9 (xs.map Cll.e) v) (.bool true) (sl 50 9 (xs.map Cll.e) u * sl 50 9 (xs.map Cll.e) v) := by
  intro O w F hs
  simp only [mul_assoc'] at hs
  obtain ⟨a0,cap0,rfl⟩ := sl_len (hs.pull (A := sl 50 9 (xs.map Cll.e) u) (by (with_reducible exact Qh)))
  obtain ⟨a1,cap1,rfl⟩ := sl_len (hs.pull (A := sl 50 9 (xs.map Cll.e) v) (by (focus with_reducible (repeat first | exact Qh | apply Qk);done)))
  simp only [List.length_map] at hs ⊢
  have n1 : ((xs.length : Int) != (xs.length : Int)) = false := by simp
  go_enter Tryz.func64,Tryz.ntmps64
  go_wp2_with ((with_reducible apply wl_len hs);infer_instance;rfl;(focus with_reducible (repeat first | exact Qh | apply Qk);done);rfl;(simp only [Uc,Uz]))
  go_loopw [5] (fun q wr => ∃ n : Nat,n ≤ xs.length ∧ q = .int .i64 (n : Int) ∧ Sat O wr (sl 50 9 (xs.map Cll.e) (.slice a0 xs.length cap0) * (sl 50 9 (xs.map Cll.e) (.slice a1 xs.length cap1) * F))) (fun q _ => xs.length + 1 - (intOf q).toNat)
  case atStart => exact ⟨0,by omega,rfl,by ((with_reducible apply Sat.fin hs);(with_reducible exact Ql))⟩
  case round =>
    obtain ⟨n,k1,rfl,hs⟩ := hrel
    by_cases hkr : n = xs.length
    · subst hkr
      have hlt : decide ((xs.length : Int) < (xs.length : Int)) = false := by simp
      go_wp2_with ((with_reducible apply wl_len hs);infer_instance;rfl;(with_reducible exact Qh);rfl;(simp only [Uc,Uz]))
      (go_ret)
      exact ⟨rfl,by simp only [mul_assoc'];((with_reducible apply Sat.fin hs);(with_reducible exact Ql))⟩
    · have hlt : decide ((n : Int) < (xs.length : Int)) = true := by simp;omega
      have hlt2 : decide (n < xs.length) = true := by simp;omega
      have hln : n < (xs.map Cll.e).length := by simp;omega
      obtain ⟨x,hx⟩ : ∃ x,xs[n]? = some x := ⟨_,List.getElem?_eq_getElem (by omega)⟩
      obtain ⟨c1,c2,c3,c4,c5,c6,c7,c8,c9⟩ := x
      have hw : wrap64 ((n : Int) + 1) = (n : Int) + 1 := by unfold wrap64;omega
      have hgv : (xs.map Cll.e)[n]? = some (Cll.e ⟨c1,c2,c3,c4,c5,c6,c7,c8,c9⟩) := by rw [List.getElem?_map,hx];rfl
      go_wp2_with (first | (first | (first | (with_reducible refine NQ.mk ?_) | ((with_reducible apply pl_neu);rfl;rfl) | (with_reducible refine pl_end ?_)) | ((with_reducible apply wl_ldSN (k := 0) hs);infer_instance;rfl;assumption;(focus with_reducible (repeat first | exact Qh | apply Qk);done);(exact (Nat.add_zero _).symm);(assumption);(exact Vb rfl);rfl;rfl;(simp only [Uc,Uz])) | ((with_reducible apply wl_ia hs);infer_instance;infer_instance;rfl;rfl;(focus with_reducible (repeat first | exact Qh | apply Qk);done);(rfl);(assumption);rfl;intro b off hat;(simp only [Uc,Uz])) | ((with_reducible apply wl_len hs);infer_instance;rfl;(with_reducible exact Qh);rfl;(simp only [Uc,Uz]))) | ((with_reducible refine wp_plan_sat (id := 6) [.neu 0,.neu 1,.neu 2,.neu 3,.neu 4,.neu 5,.neu 6,.neu 7,.neu 8] hs rfl ?_ ?_);kernel_rfl;clear hs;intro w hs))
      go_roundw
      case rel => exact ⟨n + 1,by omega,by simp,by ((with_reducible apply Sat.fin hs);(with_reducible exact Ql))⟩
      case measure => simp [intOf];omega
theorem same_trace (xs : List Acc) (u v : Value) (hl : xs.length < 4294967296) : Gives Tryz.prog 65 #[u,v] (sl 138 7 (xs.map Acc.e) u * sl 138 7 (xs.map Acc.e) v) (.bool true) (sl 138 7 (xs.map Acc.e) u * sl 138 7 (xs.map Acc.e) v) := by
  intro O w F hs
  simp only [mul_assoc'] at hs
  obtain ⟨a0,cap0,rfl⟩ := sl_len (hs.pull (A := sl 138 7 (xs.map Acc.e) u) (by (with_reducible exact Qh)))
  obtain ⟨a1,cap1,rfl⟩ := sl_len (hs.pull (A := sl 138 7 (xs.map Acc.e) v) (by (focus with_reducible (repeat first | exact Qh | apply Qk);done)))
  simp only [List.length_map] at hs ⊢
  have n1 : ((xs.length : Int) != (xs.length : Int)) = false := by simp
  go_enter Tryz.func65,Tryz.ntmps65
  go_wp2_with ((with_reducible apply wl_len hs);infer_instance;rfl;(focus with_reducible (repeat first | exact Qh | apply Qk);done);rfl;(simp only [Uc,Uz]))
  go_loopw [5] (fun q wr => ∃ n : Nat,n ≤ xs.length ∧ q = .int .i64 (n : Int) ∧ Sat O wr (sl 138 7 (xs.map Acc.e) (.slice a0 xs.length cap0) * (sl 138 7 (xs.map Acc.e) (.slice a1 xs.length cap1) * F))) (fun q _ => xs.length + 1 - (intOf q).toNat)
  case atStart => exact ⟨0,by omega,rfl,by ((with_reducible apply Sat.fin hs);(with_reducible exact Ql))⟩
  case round =>
    obtain ⟨n,k1,rfl,hs⟩ := hrel
    by_cases hkr : n = xs.length
    · subst hkr
      have hlt : decide ((xs.length : Int) < (xs.length : Int)) = false := by simp
      go_wp2_with ((with_reducible apply wl_len hs);infer_instance;rfl;(with_reducible exact Qh);rfl;(simp only [Uc,Uz]))
      (go_ret)
      exact ⟨rfl,by simp only [mul_assoc'];((with_reducible apply Sat.fin hs);(with_reducible exact Ql))⟩
    · have hlt : decide ((n : Int) < (xs.length : Int)) = true := by simp;omega
      have hlt2 : decide (n < xs.length) = true := by simp;omega
      have hln : n < (xs.map Acc.e).length := by simp;omega
      obtain ⟨x,hx⟩ : ∃ x,xs[n]? = some x := ⟨_,List.getElem?_eq_getElem (by omega)⟩
      obtain ⟨c1,c2,c3,c4,c5,c6,c7⟩ := x
      have hw : wrap64 ((n : Int) + 1) = (n : Int) + 1 := by unfold wrap64;omega
      have hgv : (xs.map Acc.e)[n]? = some (Acc.e ⟨c1,c2,c3,c4,c5,c6,c7⟩) := by rw [List.getElem?_map,hx];rfl
      go_wp2_with (first | (first | (first | (with_reducible refine NQ.mk ?_) | ((with_reducible apply pl_neu);rfl;rfl) | (with_reducible refine pl_end ?_)) | ((with_reducible apply wl_ldSN (k := 0) hs);infer_instance;rfl;assumption;(focus with_reducible (repeat first | exact Qh | apply Qk);done);(exact (Nat.add_zero _).symm);(assumption);(exact Vb rfl);rfl;rfl;(simp only [Uc,Uz])) | ((with_reducible apply wl_ia hs);infer_instance;infer_instance;rfl;rfl;(focus with_reducible (repeat first | exact Qh | apply Qk);done);(rfl);(assumption);rfl;intro b off hat;(simp only [Uc,Uz])) | ((with_reducible apply wl_len hs);infer_instance;rfl;(with_reducible exact Qh);rfl;(simp only [Uc,Uz]))) | ((with_reducible refine wp_plan_sat (id := 6) [.neu 0,.neu 1,.neu 2,.neu 3,.neu 4,.neu 5,.neu 6,.neu 7,.neu 8] hs rfl ?_ ?_);kernel_rfl;clear hs;intro w hs))
      go_roundw
      case rel => exact ⟨n + 1,by omega,by simp,by ((with_reducible apply Sat.fin hs);(with_reducible exact Ql))⟩
      case measure => simp [intOf];omega
theorem same_shifts (xs : List Shf) (u v : Value) (hl : xs.length < 4294967296) : Gives Tryz.prog 66 #[u,v] (sl 127 5 (xs.map Shf.e) u * sl 127 5 (xs.map Shf.e) v) (.bool true) (sl 127 5 (xs.map Shf.e) u * sl 127 5 (xs.map Shf.e) v) := by
  intro O w F hs
  simp only [mul_assoc'] at hs
  obtain ⟨a0,cap0,rfl⟩ := sl_len (hs.pull (A := sl 127 5 (xs.map Shf.e) u) (by (with_reducible exact Qh)))
  obtain ⟨a1,cap1,rfl⟩ := sl_len (hs.pull (A := sl 127 5 (xs.map Shf.e) v) (by (focus with_reducible (repeat first | exact Qh | apply Qk);done)))
  simp only [List.length_map] at hs ⊢
  have n1 : ((xs.length : Int) != (xs.length : Int)) = false := by simp
  go_enter Tryz.func66,Tryz.ntmps66
  go_wp2_with ((with_reducible apply wl_len hs);infer_instance;rfl;(focus with_reducible (repeat first | exact Qh | apply Qk);done);rfl;(simp only [Uc,Uz]))
  go_loopw [5] (fun q wr => ∃ n : Nat,n ≤ xs.length ∧ q = .int .i64 (n : Int) ∧ Sat O wr (sl 127 5 (xs.map Shf.e) (.slice a0 xs.length cap0) * (sl 127 5 (xs.map Shf.e) (.slice a1 xs.length cap1) * F))) (fun q _ => xs.length + 1 - (intOf q).toNat)
  case atStart => exact ⟨0,by omega,rfl,by ((with_reducible apply Sat.fin hs);(with_reducible exact Ql))⟩
  case round =>
    obtain ⟨n,k1,rfl,hs⟩ := hrel
    by_cases hkr : n = xs.length
    · subst hkr
      have hlt : decide ((xs.length : Int) < (xs.length : Int)) = false := by simp
      go_wp2_with ((with_reducible apply wl_len hs);infer_instance;rfl;(with_reducible exact Qh);rfl;(simp only [Uc,Uz]))
      (go_ret)
      exact ⟨rfl,by simp only [mul_assoc'];((with_reducible apply Sat.fin hs);(with_reducible exact Ql))⟩
    · have hlt : decide ((n : Int) < (xs.length : Int)) = true := by simp;omega
      have hlt2 : decide (n < xs.length) = true := by simp;omega
      have hln : n < (xs.map Shf.e).length := by simp;omega
      obtain ⟨x,hx⟩ : ∃ x,xs[n]? = some x := ⟨_,List.getElem?_eq_getElem (by omega)⟩
      obtain ⟨c1,c2,c3,c4,c5⟩ := x
      have hw : wrap64 ((n : Int) + 1) = (n : Int) + 1 := by unfold wrap64;omega
      have hgv : (xs.map Shf.e)[n]? = some (Shf.e ⟨c1,c2,c3,c4,c5⟩) := by rw [List.getElem?_map,hx];rfl
      go_wp2_with (first | (first | (first | (with_reducible refine NQ.mk ?_) | ((with_reducible apply pl_neu);rfl;rfl) | (with_reducible refine pl_end ?_)) | ((with_reducible apply wl_ldSN (k := 0) hs);infer_instance;rfl;assumption;(focus with_reducible (repeat first | exact Qh | apply Qk);done);(exact (Nat.add_zero _).symm);(assumption);(exact Vb rfl);rfl;rfl;(simp only [Uc,Uz])) | ((with_reducible apply wl_ia hs);infer_instance;infer_instance;rfl;rfl;(focus with_reducible (repeat first | exact Qh | apply Qk);done);(rfl);(assumption);rfl;intro b off hat;(simp only [Uc,Uz])) | ((with_reducible apply wl_len hs);infer_instance;rfl;(with_reducible exact Qh);rfl;(simp only [Uc,Uz]))) | ((with_reducible refine wp_plan_sat (id := 6) [.neu 0,.neu 1,.neu 2,.neu 3,.neu 4,.neu 5,.neu 6,.neu 7,.neu 8] hs rfl ?_ ?_);kernel_rfl;clear hs;intro w hs))
      go_roundw
      case rel => exact ⟨n + 1,by omega,by simp,by ((with_reducible apply Sat.fin hs);(with_reducible exact Ql))⟩
      case measure => simp [intOf];omega
theorem same_words (xs : List Int) (u v : Value) (hl : xs.length < 4294967296) : Gives Tryz.prog 67 #[u,v] (sl 57 1 (xs.map eU) u * sl 57 1 (xs.map eU) v) (.bool true) (sl 57 1 (xs.map eU) u * sl 57 1 (xs.map eU) v) := by
  intro O w F hs
  simp only [mul_assoc'] at hs
  obtain ⟨a0,cap0,rfl⟩ := sl_len (hs.pull (A := sl 57 1 (xs.map eU) u) (by (with_reducible exact Qh)))
  obtain ⟨a1,cap1,rfl⟩ := sl_len (hs.pull (A := sl 57 1 (xs.map eU) v) (by (focus with_reducible (repeat first | exact Qh | apply Qk);done)))
  simp only [List.length_map] at hs ⊢
  have n1 : ((xs.length : Int) != (xs.length : Int)) = false := by simp
  go_enter Tryz.func67,Tryz.ntmps67
  go_wp2_with ((with_reducible apply wl_len hs);infer_instance;rfl;(focus with_reducible (repeat first | exact Qh | apply Qk);done);rfl;(simp only [Uc,Uz]))
  go_loopw [5] (fun q wr => ∃ n : Nat,n ≤ xs.length ∧ q = .int .i64 (n : Int) ∧ Sat O wr (sl 57 1 (xs.map eU) (.slice a0 xs.length cap0) * (sl 57 1 (xs.map eU) (.slice a1 xs.length cap1) * F))) (fun q _ => xs.length + 1 - (intOf q).toNat)
  case atStart => exact ⟨0,by omega,rfl,by ((with_reducible apply Sat.fin hs);(with_reducible exact Ql))⟩
  case round =>
    obtain ⟨n,k1,rfl,hs⟩ := hrel
    by_cases hkr : n = xs.length
    · subst hkr
      have hlt : decide ((xs.length : Int) < (xs.length : Int)) = false := by simp
      go_wp2_with ((with_reducible apply wl_len hs);infer_instance;rfl;(with_reducible exact Qh);rfl;(simp only [Uc,Uz]))
      (go_ret)
      exact ⟨rfl,by simp only [mul_assoc'];((with_reducible apply Sat.fin hs);(with_reducible exact Ql))⟩
    · have hlt : decide ((n : Int) < (xs.length : Int)) = true := by simp;omega
      have hlt2 : decide (n < xs.length) = true := by simp;omega
      have hln : n < (xs.map eU).length := by simp;omega
      obtain ⟨x,hx⟩ : ∃ x,xs[n]? = some x := ⟨_,List.getElem?_eq_getElem (by omega)⟩
      have hw : wrap64 ((n : Int) + 1) = (n : Int) + 1 := by unfold wrap64;omega
      have hgv : (xs.map eU)[n]? = some (eU x) := by rw [List.getElem?_map,hx];rfl
      go_wp2_with (first | (first | (first | (with_reducible refine NQ.mk ?_) | ((with_reducible apply pl_neu);rfl;rfl) | (with_reducible refine pl_end ?_)) | ((with_reducible apply wl_ldS0 hs);infer_instance;rfl;assumption;(focus with_reducible (repeat first | exact Qh | apply Qk);done);rfl;(assumption);rfl;rfl;(simp only [Uc,Uz])) | ((with_reducible apply wl_ia hs);infer_instance;infer_instance;rfl;rfl;(focus with_reducible (repeat first | exact Qh | apply Qk);done);(rfl);(assumption);rfl;intro b off hat;(simp only [Uc,Uz])) | ((with_reducible apply wl_len hs);infer_instance;rfl;(with_reducible exact Qh);rfl;(simp only [Uc,Uz]))) | ((with_reducible refine wp_plan_sat (id := 6) [.neu 0,.neu 1,.neu 2,.neu 3,.neu 4,.neu 5,.neu 6,.neu 7,.neu 8] hs rfl ?_ ?_);kernel_rfl;clear hs;intro w hs))
      go_roundw
      case rel => exact ⟨n + 1,by omega,by simp,by ((with_reducible apply Sat.fin hs);(with_reducible exact Ql))⟩
      case measure => simp [intOf];omega
structure RunLen (cs : List Cll) (lg : List Acc) (sh : List Shf) (ws : List Int) : Prop where
  l1 : cs.length < 100000000
  l2 : lg.length < 100000000
  l3 : sh.length < 100000000
  l4 : ws.length < 100000000
theorem runR_mk {O w : World} {F : SProp} {cs : List Cll} {lg : List Acc} {sh : List Shf} {ws : List Int} {vc vt vs vw : Value}
    (hs : Sat O w (sl 50 9 (cs.map Cll.e) vc * (sl 138 7 (lg.map Acc.e) vt * (sl 127 5 (sh.map Shf.e) vs * (sl 57 1 (ws.map eU) vw * F))))) : Sat O w (RunR cs lg sh ws (.agg #[vc,vt,vs,vw]) * F) := by
  unfold RunR
  simp only [sat_ex,mul_assoc',sat_pu]
  exact ⟨_,_,_,_,rfl,hs⟩
theorem runR_get {O w : World} {F : SProp} {cs : List Cll} {lg : List Acc} {sh : List Shf} {ws : List Int} {v : Value} (hs : Sat O w (RunR cs lg sh ws v * F)) :
    ∃ a1 k1 a2 k2 a3 k3 a4 k4,v = .agg #[.slice a1 cs.length k1,.slice a2 lg.length k2,.slice a3 sh.length k3,.slice a4 ws.length k4] ∧
      Sat O w (sl 50 9 (cs.map Cll.e) (.slice a1 cs.length k1) * (sl 138 7 (lg.map Acc.e) (.slice a2 lg.length k2) * (sl 127 5 (sh.map Shf.e) (.slice a3 sh.length k3) * (sl 57 1 (ws.map eU) (.slice a4 ws.length k4) * F)))) := by
  unfold RunR at hs
  simp only [sat_ex,mul_assoc',sat_pu] at hs
  obtain ⟨vc,vt,vs,vw,rfl,hs⟩ := hs
  obtain ⟨_,_,rfl⟩ := sl_len (hs.pull (A := sl 50 9 _ vc) (by (with_reducible exact Qh)))
  obtain ⟨_,_,rfl⟩ := sl_len (hs.pull (A := sl 138 7 _ vt) (by (focus with_reducible (repeat first | exact Qh | apply Qk);done)))
  obtain ⟨_,_,rfl⟩ := sl_len (hs.pull (A := sl 127 5 _ vs) (by (focus with_reducible (repeat first | exact Qh | apply Qk);done)))
  obtain ⟨_,_,rfl⟩ := sl_len (hs.pull (A := sl 57 1 _ vw) (by (focus with_reducible (repeat first | exact Qh | apply Qk);done)))
  simp only [List.length_map] at hs ⊢
  exact ⟨_,_,_,_,_,_,_,_,rfl,hs⟩
theorem same_run (cs : List Cll) (lg : List Acc) (sh : List Shf) (ws : List Int) (u v : Value) (hl : RunLen cs lg sh ws) :
    Gives Tryz.prog 17 #[u,v] (RunR cs lg sh ws u * RunR cs lg sh ws v) (.bool true) (RunR cs lg sh ws u * RunR cs lg sh ws v) := by
  intro O w F hs
  simp only [mul_assoc'] at hs
  have hg := runR_get hs
  clear hs
  obtain ⟨a1,k1,a2,k2,a3,k3,a4,k4,rfl,hs⟩ := hg
  replace hs := hs.pull (A := RunR cs lg sh ws v) (by (focus with_reducible (repeat first | exact Qh | apply Qk);done))
  have hg := runR_get hs
  clear hs
  obtain ⟨b1,l1,b2,l2,b3,l3,b4,l4,rfl,hs⟩ := hg
  obtain ⟨g1,g2,g3,g4⟩ := hl
  have h1 := Lib.hid (same_calls cs (.slice a1 cs.length k1) (.slice b1 cs.length l1) (by omega))
  have h2 := Lib.hid (same_trace lg (.slice a2 lg.length k2) (.slice b2 lg.length l2) (by omega))
  have h3 := Lib.hid (same_shifts sh (.slice a3 sh.length k3) (.slice b3 sh.length l3) (by omega))
  have h4 := Lib.hid (same_words ws (.slice a4 ws.length k4) (.slice b4 ws.length l4) (by omega))
  go_enter Tryz.func17,Tryz.ntmps17
  go_wp2_with (first | (first | ((with_reducible apply wl_ld hs);infer_instance;rfl;(focus with_reducible (repeat first | exact Qh | apply Qk);done);rfl;rfl;(simp only [Uc,Uz])) | ((with_reducible apply wl_box hs);rfl;rfl;rfl;clear hs;intro w b hs;(simp only [Uc,Uz]))) | (go_at_call 64;((refine (h1.out).at hs (by (focus with_reducible (repeat first | exact Qh | apply Qb | apply Qk);done)) ?_);clear hs;intro w hs;(try simp only [emp_mul,mul_assoc'] at hs))) | (go_at_call 65;((refine (h2.out).at hs (by (focus with_reducible (repeat first | exact Qh | apply Qb | apply Qk);done)) ?_);clear hs;intro w hs;(try simp only [emp_mul,mul_assoc'] at hs))) | (go_at_call 66;((refine (h3.out).at hs (by (focus with_reducible (repeat first | exact Qh | apply Qb | apply Qk);done)) ?_);clear hs;intro w hs;(try simp only [emp_mul,mul_assoc'] at hs))) | (go_at_call 67;((refine (h4.out).at hs (by (focus with_reducible (repeat first | exact Qh | apply Qb | apply Qk);done)) ?_);clear hs;intro w hs;(try simp only [emp_mul,mul_assoc'] at hs))))
  (go_ret)
  refine ⟨rfl,?_⟩
  simp only [mul_assoc']
  apply runR_mk
  have hs2 := hs.pull (A := sl 50 9 (cs.map Cll.e) (.slice b1 cs.length l1) * (sl 138 7 (lg.map Acc.e) (.slice b2 lg.length l2) * (sl 127 5 (sh.map Shf.e) (.slice b3 sh.length l3) * sl 57 1 (ws.map eU) (.slice b4 ws.length l4)))) (by (focus with_reducible (repeat first | exact Qh | apply Qb | apply Qk);done))
  simp only [mul_assoc'] at hs2
  have hs := runR_mk hs2
  ((with_reducible apply Sat.fin hs);(focus with_reducible (repeat first | exact Ql | exact Qh | apply Qb | apply Qk);done))
end Go.Proofs.YtegafhhdegnigaaGreat
end
/-
  A run copied, and spoilt.
-/
section
namespace Go.Proofs.YtegafhhdegnigaaGreat
open Go.RowKit Hp
set_option maxRecDepth 100000
set_option maxHeartbeats 1000000
attribute [local irreducible] Go.Calls
theorem copy_run (cs : List Cll) (lg : List Acc) (sh : List Shf) (ws : List Int) (u : Value) (hl : RunLen cs lg sh ws) :
    Does Tryz.prog 34 #[u] (RunR cs lg sh ws u) (fun v => RunR cs lg sh ws v * RunR cs lg sh ws u) := by
  intro O w F hs
  have hg := runR_get hs
  clear hs
  obtain ⟨a1,k1,a2,k2,a3,k3,a4,k4,rfl,hs⟩ := hg
  obtain ⟨g1,g2,g3,g4⟩ := hl
  have hs := sl_nil (E := 50) (sz := 9) hs (by omega)
  have hs := sl_nil (E := 138) (sz := 7) hs (by omega)
  have hs := sl_nil (E := 127) (sz := 5) hs (by omega)
  have hs := sl_nil (E := 57) (sz := 1) hs (by omega)
  go_enter Tryz.func34,Tryz.ntmps34
  go_wp2_with (first | (((with_reducible apply wl_app hs);infer_instance;infer_instance;rfl;rfl;(focus with_reducible (repeat first | exact Qh | apply Qk);done);(focus with_reducible (repeat first | exact Qh | apply Qk);done);(simp only [Wm,Ws,Wa,Wc,Wn,Wr] at *;omega);(exact Vb rfl);rfl;clear hs;intro w v hs;(simp only [Uc,Uz]));(obtain ⟨_,_,rfl⟩ := sl_len (hs.pull (A := sl _ _ _ v) (by (with_reducible exact Qh))));(simp only [List.nil_append,List.length_map] at hs ⊢)) | (first | (first | (with_reducible refine NQ.mk ?_) | ((with_reducible apply pl_neu);rfl;rfl) | ((with_reducible apply pl_eff);rfl) | (with_reducible refine EQ.mk ?_ ?_) | (first | (with_reducible exact chk_nil) | ((with_reducible refine chk_cons ?_ ?_);(focus ((with_reducible apply pl_chk);rfl;rfl)))) | (with_reducible refine pl_end ?_) | (show SameA _ _ _;rfl)) | ((with_reducible apply wl_ld hs);infer_instance;rfl;(focus with_reducible (repeat first | exact Qh | apply Qk);done);rfl;rfl;(simp only [Uc,Uz])) | ((with_reducible apply wl_stF hs);infer_instance;rfl;rfl;(focus with_reducible (repeat first | exact Qh | apply Qk);done);rfl;rfl;rfl;rfl;clear hs;intro w hs) | ((with_reducible apply wl_alloc hs);infer_instance;rfl;clear hs;intro w b hs;(simp only [Uc,Uz])) | ((with_reducible apply wl_box hs);rfl;rfl;rfl;clear hs;intro w b hs;(simp only [Uc,Uz]))) | ((with_reducible refine wp_plan_sat (id := 1) [.neu 0,.neu 1,.neu 3,.neu 4,.neu 6,.neu 7,.neu 9,.neu 10,.eff 2 [3,4,6,7,9,10],.eff 5 [6,7,9,10],.eff 8 [9,10],.eff 11 [],.neu 12,.eff 13 []] hs rfl ?_ ?_);kernel_rfl;clear hs;intro w hs))
  ((try simp only [Exit.inBlock,Exit.then]);(with_reducible apply bodyPost_ret);((with_reducible apply results_c);rfl;rfl;(with_reducible apply loadF hs);infer_instance;(with_reducible exact Qh);rfl;rfl))
  refine ⟨_,rfl,?_⟩
  simp only [mul_assoc']
  apply runR_mk
  have hs2 := hs.pull (A := sl 50 9 (cs.map Cll.e) (.slice a1 cs.length k1) * (sl 138 7 (lg.map Acc.e) (.slice a2 lg.length k2) * (sl 127 5 (sh.map Shf.e) (.slice a3 sh.length k3) * sl 57 1 (ws.map eU) (.slice a4 ws.length k4)))) (by (focus with_reducible (repeat first | exact Qh | apply Qb | apply Qk);done))
  clear hs
  simp only [mul_assoc'] at hs2
  have hs := runR_mk hs2
  ((with_reducible apply Sat.fin hs);(focus with_reducible (repeat first | exact Ql | exact Qh | apply Qb | apply Qk);done))
end Go.Proofs.YtegafhhdegnigaaGreat
end
