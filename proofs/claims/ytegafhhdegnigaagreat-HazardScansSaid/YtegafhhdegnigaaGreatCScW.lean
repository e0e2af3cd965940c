/-
  HazardScans, walked.
-/
import Derived.Test.YtegafhhdegnigaaGreatCScW0
import Derived.Test.YtegafhhdegnigaaGreatCRef1
import Derived.Test.YtegafhhdegnigaaGreatCOw7
set_option linter.all false
namespace Go.Proofs.YtegafhhdegnigaaGreat
open Go.RowKit Hp
set_option maxRecDepth 100000
set_option maxHeartbeats 8000000
attribute [local irreducible] Go.Calls Go.wpList
theorem gt_no2 {x y : Int} (h : x ≤ y) : decide (x > y) = false ∧ decide (y < x) = false := by simp only [decide_eq_false_iff_not];omega
theorem gt_ye2 {x y : Int} (h : y < x) : decide (x > y) = true ∧ decide (y < x) = true := by simp only [decide_eq_true_eq];omega
theorem ge_ye2 {x y : Int} (h : y ≤ x) : decide (x ≥ y) = true ∧ decide (y ≤ x) = true := by simp only [decide_eq_true_eq];omega
theorem ge_no2 {x y : Int} (h : x < y) : decide (x ≥ y) = false ∧ decide (y ≤ x) = false := by simp only [decide_eq_false_iff_not];omega
set_option maxHeartbeats 16000000 in
theorem haz_scans (c : Cfg) (mvs0 : List Mv) (v0 : Value) (th : Int) (A : SProp) (hRd0 : Rd A 4 (mvs0.map Mv.e) v0) :
  Gives Tryz.prog 11 #[c.v,v0,.int .i64 th] A (.bool true) A := by
 intro O w F hs
 obtain ⟨C,hok,M,hl,hFit⟩ : ∃ C : Cfg,C.Ok ∧ ∃ M : List Mv,M.length ≤ 65536 ∧ Hid (Does Tryz.prog 30 #[c.v,v0] A (fun u => ex fun v => pu (u = .tuple #[C.v,v] ∧ Rd A 4 (M.map Mv.e) v) * A)) := ⟨_,fitC_ok c,_,fitM_len mvs0,Lib.hid (law_fit c mvs0 v0 A hRd0)⟩
 clear hRd0
 have hst := Lib.hid (fun km vs => KI.start hok (jt_ok C) km vs)
 have hA := Lib.hid (arena_new C hok)
 have hW := Lib.hid law_awake
 have hH := Lib.hid (fun ba => hazard_new ba (are0 C) hok)
 have hK := Lib.hid (fun bh ba => haz_kit bh ba (haz0 C))
 have hFi := Lib.hid (ref_first0 C hok)
 have hM := machine_new C.T.toNat
 obtain ⟨S,hSe⟩ : ∃ S,S = soloC C (listedC C) := ⟨_,rfl⟩
 have hSo := law_solo C hok
 rw [← hSe] at hSo
 replace hSo := Lib.hid hSo
 obtain ⟨hS0,hS1⟩ := solo_b hok
 obtain ⟨hB0,hB1⟩ := solo_kb hok
 rw [← hSe] at hS0 hS1 hB1
 clear hSe
 obtain ⟨B,hB⟩ : ∃ B,B = KB C := ⟨_,rfl⟩
 rw [← hB] at hB0 hB1
 replace hB := Lib.hid hB
 have hT1 := hok.T1
 have hT2 := hok.T2
 have hTn : ((C.T.toNat : Nat) : Int) = C.T := Int.toNat_of_nonneg (by omega)
 have hbl := base14_le hok
 rw [hTn] at hM
 have hM := Lib.hid (fun v km => hM v km (firstW C 0) (by omega) (by omega) (by rw [firstW_len];omega))
 go_enter Tryz.func11,Tryz.ntmps11
 (repeat' (first|((with_reducible apply wl_pick);((simp only [ev,Ue,Uf]);rfl);((simp only [cond_true,cond_false,ev,Ue,Uf]);rfl);(with_reducible exact want_none);(simp only [Uc,Uz]))|(go_big_may;(first|((show wpList _ _ _ (Oper.mk (some 3) _ _ _ _ _ :: _) _ _);(with_reducible apply wl_box hs);rfl;rfl;rfl;clear hs;intro w bC hs;(simp only [Uc,Uz]))|(first|(first|(with_reducible refine NQ.mk ?_)|((with_reducible apply pl_neu);rfl;rfl)|((with_reducible apply pl_eff);rfl)|(with_reducible refine EQ.mk ?_ ?_)|(first|(with_reducible exact chk_nil)|((with_reducible refine chk_cons ?_ ?_);(focus ((with_reducible apply pl_chk);rfl;rfl))))|(with_reducible refine pl_end ?_)|(show SameA _ _ _;rfl))|((with_reducible apply wl_ld hs);infer_instance;rfl;(focus with_reducible (repeat first|exact Qh|apply Qk);done);rfl;rfl;(simp only [Uc,Uz]))|((with_reducible apply wl_ldF hs);infer_instance;rfl;(focus with_reducible (repeat first|exact Qh|apply Qk);done);rfl;rfl;(simp only [Uc,Uz]))|((with_reducible apply wl_stF hs);infer_instance;rfl;rfl;(focus with_reducible (repeat first|exact Qh|apply Qk);done);rfl;rfl;rfl;rfl;clear hs;intro w hs))|(go_at_call 30;((refine (hFit.out).at hs (by (focus with_reducible (repeat first|exact Qh|apply Qk);done)) ?_);clear hs;intro v w hs;(try simp only [emp_mul,mul_assoc'] at hs));(simp only [sat_ex,mul_assoc',sat_pu] at hs);(obtain ⟨vm,⟨rfl,hRd⟩,hs⟩ := hs);(obtain ⟨am,cm,rfl⟩ := hRd.len);(simp only [List.length_map] at hRd hs);(have hRd := Lib.hid hRd))|(go_at_call 33;((refine (hA.out).at hs (by (focus ((repeat (with_reducible exact Qn));done))) ?_);clear hs;intro v w hs;(try simp only [emp_mul,mul_assoc'] at hs));(simp only [sat_ex,mul_assoc',sat_pu] at hs);(obtain ⟨ba,rfl,hs⟩ := hs))|(go_at_call 19;((refine (hW.out).at hs (by (focus ((repeat (with_reducible exact Qn));done))) ?_);clear hs;intro w hs;(try simp only [emp_mul,mul_assoc'] at hs)))|(go_at_call 37;((refine ((hH.out ba)).at hs (by (with_reducible exact Qh)) ?_);clear hs;intro g w hs;(try simp only [emp_mul,mul_assoc'] at hs)))|(go_at_call 39;((refine (hFi.out).at hs (by (focus ((repeat (with_reducible exact Qn));done))) ?_);clear hs;intro v w hs;(try simp only [emp_mul,mul_assoc'] at hs)))|(go_at_call 40;((refine ((hK.out g ba)).at hs (by (focus ((repeat (first|exact Qh|with_reducible apply Qk));done))) ?_);clear hs;intro v w hs;(try simp only [emp_mul,mul_assoc'] at hs));(simp only [sat_ex,mul_assoc'] at hs);(obtain ⟨x,hs⟩ := hs);(obtain ⟨km,rfl⟩ := mp_some hs))|(go_at_call 38;((refine ((hM.out _ km)).at hs (by (focus with_reducible (repeat first|exact Qh|apply Qk);done)) ?_);clear hs;intro v w hs;(try simp only [emp_mul,mul_assoc'] at hs));(simp only [sat_ex,mul_assoc',sat_pu] at hs);(obtain ⟨bx,bm,vs,rfl,hs⟩ := hs))|((with_reducible refine wp_plan_sat (id := 6) [.neu 0,.neu 1,.neu 2,.neu 4,.eff 3 [0,1,4],.eff 5 [0,1],.eff 6 [],.neu 7,.neu 8,.neu 9,.neu 10,.neu 11] hs rfl ?_ ?_);kernel_rfl;clear hs;intro w hs)))|go_guarded|go_step|(dsimp only)))
 replace hs := tsk_nones (R := htR g ba) hs C.T.toNat
 have hs2 : Sat O w (WR (hzT g ba (capR g x)) bx bm (kitFn x) (wst0 C km vs) * (pt bC (.cells #[.int .i64 C.T,.int .i64 C.R,.int .i64 C.Hz,.int .i64 C.Rt,.int .i64 C.Ca,.int .i64 C.Sl,.int .i64 C.Bu] 23) * (A * F))) := by
  rw [wr0_eq]
  simp only [mul_assoc']
  ((with_reducible apply Sat.fin hs);(focus with_reducible (repeat first|exact Ql|exact Qh|apply Qb|apply Qk);done))
 clear hs
 have hs := hs2
 clear hs2
 have hGood := Lib.hid (hzT_good g ba (capR g x))
 have hKO := Lib.hid (hzT_kit g ba C.T.toNat x)
 have hst := Lib.hid (hst.out km vs)
 clear hFit hA hW hH hK hFi hM
 simp only [List.length_map]
 go_loopw [61] (fun q wr => ∃ (n : Nat) (y : HW),n ≤ M.length ∧ q = .int .i64 (n : Int) ∧ Hid (KI C JT n y) ∧ Sat O wr (WR (hzT g ba (capR g x)) bx bm (kitFn x) y * (pt bC (.cells #[.int .i64 C.T,.int .i64 C.R,.int .i64 C.Hz,.int .i64 C.Rt,.int .i64 C.Ca,.int .i64 C.Sl,.int .i64 C.Bu] 23) * (A * F)))) (fun q _ => M.length + 1 - (intOf q).toNat)
 case atStart => exact ⟨0,_,by omega,rfl,hst,hs⟩
 case round =>
  clear hst
  obtain ⟨n,y,k1,rfl,hJ,hs⟩ := hrel
  by_cases hkr : n = M.length
  ·have hlt : decide ((M.length : Int) < (M.length : Int)) = false := by simp
   subst hkr
   have hMv := wr_moves (g := g) (ba := ba) (bx := bx) (bm := bm) (CX := capR g x) (K := kitFn x) (y := y)
   rw [hJ.out.pi.moves] at hMv
   replace hMv := Lib.hid hMv
   by_cases hbig : 65536 < (M.length : Int) + 2 * S
   ·obtain ⟨f1,f2⟩ := gt_ye2 hbig
    clear hbig
    (repeat' (first|(go_big_may;(first|(first|(first|(with_reducible refine NQ.mk ?_)|((with_reducible apply pl_neu);rfl;rfl)|((with_reducible apply pl_eff);rfl)|(with_reducible refine EQ.mk ?_ ?_)|(first|(with_reducible exact chk_nil)|((with_reducible refine chk_cons ?_ ?_);(focus ((with_reducible apply pl_chk);rfl;rfl))))|(with_reducible refine pl_end ?_)|(show SameA _ _ _;rfl))|((with_reducible apply wl_ldF hs);infer_instance;rfl;(focus with_reducible (repeat first|exact Qh|apply Qk);done);rfl;rfl;(simp only [Uc,Uz])))|(go_at_call 52;((refine (hMv.out).at hs (by (with_reducible exact Qh)) ?_);clear hs;intro w hs;(try simp only [emp_mul,mul_assoc'] at hs)))|(go_at_call 31;((refine (hSo.out).at hs (by (focus ((repeat (with_reducible exact Qn));done))) ?_);clear hs;intro w hs;(try simp only [emp_mul,mul_assoc'] at hs)))|((with_reducible refine wp_plan_sat (id := 14) [.neu 0,.neu 2,.eff 1 [2],.eff 3 [],.neu 4,.neu 5,.neu 6] hs rfl ?_ ?_);kernel_rfl;clear hs;intro w hs)))|go_step|(dsimp only)))
    (go_ret)
    exact ⟨rfl,by ((with_reducible apply Sat.fin hs);(focus with_reducible (repeat first|exact Ql|exact Qh|apply Qb|apply Qk);done))⟩
   obtain ⟨f1,f2⟩ := gt_no2 (show (M.length : Int) + 2 * S ≤ 65536 by omega)
   have hbg := Lib.hid (show (M.length : Int) + 2 * S ≤ 65536 by omega)
   clear hbig
   by_cases ht0 : th < 0
   ·obtain ⟨g1,g2⟩ := gt_ye2 ht0
    clear ht0
    (repeat' (first|(((with_reducible apply wl_pass2);rfl;rfl;((simp only [ev,Ue,Uf]);rfl);rfl;(simp only [Uc,Uz]));(repeat ((with_reducible apply wl_pass2);rfl;rfl;((simp only [ev,Ue,Uf]);rfl);rfl;(simp only [Uc,Uz]))))|((with_reducible apply wl_pick);((simp only [ev,Ue,Uf]);rfl);((simp only [cond_true,cond_false,ev,Ue,Uf]);rfl);(with_reducible exact want_none);(simp only [Uc,Uz]))|(go_big_may;(first|(first|(first|(with_reducible refine NQ.mk ?_)|((with_reducible apply pl_neu);rfl;rfl)|((with_reducible apply pl_eff);rfl)|(with_reducible refine EQ.mk ?_ ?_)|(first|(with_reducible exact chk_nil)|((with_reducible refine chk_cons ?_ ?_);(focus ((with_reducible apply pl_chk);rfl;rfl))))|(with_reducible refine pl_end ?_)|(show SameA _ _ _;rfl))|((with_reducible apply wl_ldF hs);infer_instance;rfl;(focus with_reducible (repeat first|exact Qh|apply Qk);done);rfl;rfl;(simp only [Uc,Uz])))|(go_at_call 52;((refine (hMv.out).at hs (by (with_reducible exact Qh)) ?_);clear hs;intro w hs;(try simp only [emp_mul,mul_assoc'] at hs)))|(go_at_call 31;((refine (hSo.out).at hs (by (focus ((repeat (with_reducible exact Qn));done))) ?_);clear hs;intro w hs;(try simp only [emp_mul,mul_assoc'] at hs)))|((with_reducible refine wp_plan_sat (id := 14) [.neu 0,.neu 2,.eff 1 [2],.eff 3 [],.neu 4,.neu 5,.neu 6] hs rfl ?_ ?_);kernel_rfl;clear hs;intro w hs)))|go_step|(dsimp only)))
    (go_ret)
    exact ⟨rfl,by ((with_reducible apply Sat.fin hs);(focus with_reducible (repeat first|exact Ql|exact Qh|apply Qb|apply Qk);done))⟩
   by_cases htT : C.T ≤ th
   ·obtain ⟨g1,g2⟩ := gt_no2 (show 0 ≤ th by omega)
    obtain ⟨g3,g4⟩ := ge_ye2 htT
    clear ht0 htT
    (repeat' (first|(((with_reducible apply wl_pass2);rfl;rfl;((simp only [ev,Ue,Uf]);rfl);rfl;(simp only [Uc,Uz]));(repeat ((with_reducible apply wl_pass2);rfl;rfl;((simp only [ev,Ue,Uf]);rfl);rfl;(simp only [Uc,Uz]))))|((with_reducible apply wl_pick);((simp only [ev,Ue,Uf]);rfl);((simp only [cond_true,cond_false,ev,Ue,Uf]);rfl);(with_reducible exact want_none);(simp only [Uc,Uz]))|(go_big_may;(first|(first|(first|(with_reducible refine NQ.mk ?_)|((with_reducible apply pl_neu);rfl;rfl)|((with_reducible apply pl_eff);rfl)|(with_reducible refine EQ.mk ?_ ?_)|(first|(with_reducible exact chk_nil)|((with_reducible refine chk_cons ?_ ?_);(focus ((with_reducible apply pl_chk);rfl;rfl))))|(with_reducible refine pl_end ?_)|(show SameA _ _ _;rfl))|((with_reducible apply wl_ld hs);infer_instance;rfl;(focus with_reducible (repeat first|exact Qh|apply Qk);done);rfl;rfl;(simp only [Uc,Uz]))|((with_reducible apply wl_ldF hs);infer_instance;rfl;(focus with_reducible (repeat first|exact Qh|apply Qk);done);rfl;rfl;(simp only [Uc,Uz])))|(go_at_call 52;((refine (hMv.out).at hs (by (with_reducible exact Qh)) ?_);clear hs;intro w hs;(try simp only [emp_mul,mul_assoc'] at hs)))|(go_at_call 31;((refine (hSo.out).at hs (by (focus ((repeat (with_reducible exact Qn));done))) ?_);clear hs;intro w hs;(try simp only [emp_mul,mul_assoc'] at hs)))|((with_reducible refine wp_plan_sat (id := 14) [.neu 0,.neu 2,.eff 1 [2],.eff 3 [],.neu 4,.neu 5,.neu 6] hs rfl ?_ ?_);kernel_rfl;clear hs;intro w hs)))|go_guarded|go_step|(dsimp only)))
    (go_ret)
    exact ⟨rfl,by ((with_reducible apply Sat.fin hs);(focus with_reducible (repeat first|exact Ql|exact Qh|apply Qb|apply Qk);done))⟩
   obtain ⟨t,rfl⟩ := Int.eq_ofNat_of_zero_le (show 0 ≤ th by omega)
   have g1 : decide ((t : Int) < 0) = false := by simp
   obtain ⟨g3,g4⟩ := ge_no2 (show (t : Int) < C.T by omega)
   have htC := Lib.hid (show (t : Int) < C.T by omega)
   obtain ⟨r,hr⟩ : ∃ r,y.s.1.held[t]? = some r := ⟨_,List.getElem?_eq_getElem (by rw [hJ.out.pi.core.held];omega)⟩
   have hRc := Lib.hid (wr_rec (g := g) (ba := ba) (bx := bx) (bm := bm) (CX := capR g x) (K := kitFn x) hr)
   clear ht0 htT hr
   by_cases hr0 : r < 0
   ·obtain ⟨f3,f4⟩ := gt_ye2 hr0
    clear hr0
    (repeat' (first|((with_reducible apply wl_pick);((simp only [ev,Ue,Uf]);rfl);((simp only [cond_true,cond_false,ev,Ue,Uf]);rfl);(with_reducible exact want_none);(simp only [Uc,Uz]))|(go_big_may;(first|(first|(first|(with_reducible refine NQ.mk ?_)|((with_reducible apply pl_neu);rfl;rfl)|((with_reducible apply pl_eff);rfl)|(with_reducible refine EQ.mk ?_ ?_)|(first|(with_reducible exact chk_nil)|((with_reducible refine chk_cons ?_ ?_);(focus ((with_reducible apply pl_chk);rfl;rfl))))|(with_reducible refine pl_end ?_)|(show SameA _ _ _;rfl))|((with_reducible apply wl_ld hs);infer_instance;rfl;(focus with_reducible (repeat first|exact Qh|apply Qk);done);rfl;rfl;(simp only [Uc,Uz]))|((with_reducible apply wl_ldF hs);infer_instance;rfl;(focus with_reducible (repeat first|exact Qh|apply Qk);done);rfl;rfl;(simp only [Uc,Uz])))|(go_at_call 52;((refine (hMv.out).at hs (by (with_reducible exact Qh)) ?_);clear hs;intro w hs;(try simp only [emp_mul,mul_assoc'] at hs)))|(go_at_call 31;((refine (hSo.out).at hs (by (focus ((repeat (with_reducible exact Qn));done))) ?_);clear hs;intro w hs;(try simp only [emp_mul,mul_assoc'] at hs)))|(go_at_call 50;((refine (hRc.out).at hs (by (with_reducible exact Qh)) ?_);clear hs;intro w hs;(try simp only [emp_mul,mul_assoc'] at hs)))|((with_reducible refine wp_plan_sat (id := 14) [.neu 0,.neu 2,.eff 1 [2],.eff 3 [],.neu 4,.neu 5,.neu 6] hs rfl ?_ ?_);kernel_rfl;clear hs;intro w hs)))|go_guarded|go_step|(dsimp only)))
    (go_ret)
    exact ⟨rfl,by ((with_reducible apply Sat.fin hs);(focus with_reducible (repeat first|exact Ql|exact Qh|apply Qb|apply Qk);done))⟩
   obtain ⟨f3,f4⟩ := gt_no2 (show 0 ≤ r by omega)
   clear hr0
   have hN0 := Lib.hid (near0 hJ.out htC.out)
   (repeat' (first|((with_reducible apply wl_pick);((simp only [ev,Ue,Uf]);rfl);((simp only [cond_true,cond_false,ev,Ue,Uf]);rfl);(with_reducible exact want_none);(simp only [Uc,Uz]))|(go_big_may;(first|(first|(first|(with_reducible refine NQ.mk ?_)|((with_reducible apply pl_neu);rfl;rfl)|((with_reducible apply pl_eff);rfl)|(with_reducible refine EQ.mk ?_ ?_)|(first|(with_reducible exact chk_nil)|((with_reducible refine chk_cons ?_ ?_);(focus ((with_reducible apply pl_chk);rfl;rfl))))|(with_reducible refine pl_end ?_)|(show SameA _ _ _;rfl))|((with_reducible apply wl_ld hs);infer_instance;rfl;(focus with_reducible (repeat first|exact Qh|apply Qk);done);rfl;rfl;(simp only [Uc,Uz]))|((with_reducible apply wl_ldF hs);infer_instance;rfl;(focus with_reducible (repeat first|exact Qh|apply Qk);done);rfl;rfl;(simp only [Uc,Uz])))|(go_at_call 52;((refine (hMv.out).at hs (by (with_reducible exact Qh)) ?_);clear hs;intro w hs;(try simp only [emp_mul,mul_assoc'] at hs)))|(go_at_call 31;((refine (hSo.out).at hs (by (focus ((repeat (with_reducible exact Qn));done))) ?_);clear hs;intro w hs;(try simp only [emp_mul,mul_assoc'] at hs)))|(go_at_call 50;((refine (hRc.out).at hs (by (with_reducible exact Qh)) ?_);clear hs;intro w hs;(try simp only [emp_mul,mul_assoc'] at hs)))|((with_reducible refine wp_plan_sat (id := 14) [.neu 0,.neu 2,.eff 1 [2],.eff 3 [],.neu 4,.neu 5,.neu 6] hs rfl ?_ ?_);kernel_rfl;clear hs;intro w hs)))|go_guarded|go_step|(dsimp only)))
   clear f1 f2 f3 f4 g1 g3 g4 hMv hRc hlt
   go_loopw [13] (fun q wr => ∃ (j n : Nat) (y : HW),(j : Int) ≤ B ∧ n = M.length + j ∧ q = .int .i64 (j : Int) ∧ Hid (KI C JT n y) ∧ Hid (Near C t y j) ∧ Sat O wr (WR (hzT g ba (capR g x)) bx bm (kitFn x) y * (pt bC (.cells #[.int .i64 C.T,.int .i64 C.R,.int .i64 C.Hz,.int .i64 C.Rt,.int .i64 C.Ca,.int .i64 C.Sl,.int .i64 C.Bu] 23) * (A * F)))) (fun q _ => 400000 - (intOf q).toNat)
   case atStart => exact ⟨0,_,y,by omega,rfl,rfl,hJ,hN0,hs⟩
   case round =>
    clear hJ hN0 k1
    obtain ⟨j,n,y,hj,hn,rfl,hJ,hN,hs⟩ := hrel
    have hSt := Lib.hid (wrs hGood.out hs)
    obtain ⟨se,hse⟩ : ∃ se,y.m.seats[t]? = some se := ⟨_,List.getElem?_eq_getElem (by rw [hJ.out.pi.seats];have := htC.out;omega)⟩
    obtain ⟨o,ho⟩ : ∃ o,y.tasks[t]? = some o := ⟨_,List.getElem?_eq_getElem (by rw [hJ.out.pi.tasks];have := htC.out;omega)⟩
    cases o with
    | none =>
     have hBu := Lib.hid (wr_busy (g := g) (ba := ba) (bx := bx) (bm := bm) (CX := capR g x) (K := kitFn x) hse false (.inl ⟨rfl,(hSt.out t se hse).1 ho⟩))
     obtain ⟨r,hr⟩ : ∃ r,y.s.1.held[t]? = some r := ⟨_,List.getElem?_eq_getElem (by rw [hJ.out.pi.core.held];have := htC.out;omega)⟩
     have hRc := Lib.hid (wr_rec (g := g) (ba := ba) (bx := bx) (bm := bm) (CX := capR g x) (K := kitFn x) hr)
     by_cases hr0 : r < 0
     ·obtain ⟨f3,f4⟩ := gt_ye2 hr0
      clear hr0 hr ho hse hSt hN
      (repeat' (first|(go_big_may;(first|(go_at_call 53;((refine (hBu.out).at hs (by (with_reducible exact Qh)) ?_);clear hs;intro w hs;(try simp only [emp_mul,mul_assoc'] at hs)))|(go_at_call 50;((refine (hRc.out).at hs (by (with_reducible exact Qh)) ?_);clear hs;intro w hs;(try simp only [emp_mul,mul_assoc'] at hs)))))|go_step|(dsimp only)))
      (go_ret)
      exact ⟨rfl,by ((with_reducible apply Sat.fin hs);(focus with_reducible (repeat first|exact Ql|exact Qh|apply Qb|apply Qk);done))⟩
     obtain ⟨f3,f4⟩ := gt_no2 (show 0 ≤ r by omega)
     have hn65 : n < 65536 := by have := hbg.out;omega
     have hD := Lib.hid (move_any (bx := bx) (bm := bm) hGood.out hKO.out y ⟨(t : Int),25,0,0⟩ (hJ.out.pi.may hn65 _))
     have hnx := Lib.hid (show ∀ b y2,MoveTo (hzT g ba (capR g x)) (kitFn x) kitTask y ⟨(t : Int),25,0,0⟩ b y2 → b = true ∧ KI C JT (n + 1) y2 ∧ SJ C t r y2 from fun b y2 hm => ⟨(sj_begin hJ.out htC.out ho hr (by omega) hm).1,hJ.out.move (jt_ok C) hn65 hm,(sj_begin hJ.out htC.out ho hr (by omega) hm).2⟩)
     have hr0 := Lib.hid (show 0 ≤ r by omega)
     clear hr ho hse hSt hN hJ
     (repeat' (first|(go_big_may;(first|(go_at_call 53;((refine (hBu.out).at hs (by (with_reducible exact Qh)) ?_);clear hs;intro w hs;(try simp only [emp_mul,mul_assoc'] at hs)))|(go_at_call 50;((refine (hRc.out).at hs (by (with_reducible exact Qh)) ?_);clear hs;intro w hs;(try simp only [emp_mul,mul_assoc'] at hs)))|(go_at_call 41;((refine (hD.out).at hs (by (with_reducible exact Qh)) ?_);clear hs;intro v w hs;(try simp only [emp_mul,mul_assoc'] at hs));(replace hs := moved_iff.1 hs);(obtain ⟨bb,y2,⟨rfl,hmt⟩,hs⟩ := hs);(obtain ⟨rfl,hJ2,hSJ⟩ := hnx.out _ _ hmt);(replace hJ2 := Lib.hid hJ2);(replace hSJ := Lib.hid hSJ))))|go_step|(dsimp only)))
     have hN0 := Lib.hid (near0 hJ2.out htC.out)
     obtain ⟨N1,hN1⟩ : ∃ N1,N1 = n + 1 := ⟨_,rfl⟩
     rw [← hN1] at hJ2
     have hNb : (N1 : Int) ≤ (M.length : Int) + B + 1 := by omega
     replace hNb := Lib.hid hNb
     clear hn hj hN1 hnx hmt hD hBu hRc f3 f4 hn65
     go_loopw [14] (fun q wr => ∃ (j n : Nat) (y : HW),(j : Int) ≤ B ∧ n = N1 + j ∧ q = .int .i64 (j : Int) ∧ Hid (KI C JT n y) ∧ Hid (Near C t y j) ∧ Hid (SJ C t r y) ∧ Sat O wr (WR (hzT g ba (capR g x)) bx bm (kitFn x) y * (pt bC (.cells #[.int .i64 C.T,.int .i64 C.R,.int .i64 C.Hz,.int .i64 C.Rt,.int .i64 C.Ca,.int .i64 C.Sl,.int .i64 C.Bu] 23) * (A * F)))) (fun q _ => 400000 - (intOf q).toNat)
     case atStart => exact ⟨0,_,y2,by omega,rfl,rfl,hJ2,hN0,hSJ,by ((with_reducible apply Sat.fin hs);(with_reducible exact Ql))⟩
     case round =>
      clear hJ2 hN0 hSJ
      obtain ⟨j,n,y,hj,hn,rfl,hJ,hN,hSJ,hs⟩ := hrel
      have hSt := Lib.hid (wrs hGood.out hs)
      obtain ⟨se,hse⟩ : ∃ se,y.m.seats[t]? = some se := ⟨_,List.getElem?_eq_getElem (by rw [hJ.out.pi.seats];have := htC.out;omega)⟩
      obtain ⟨o,ho⟩ : ∃ o,y.tasks[t]? = some o := ⟨_,List.getElem?_eq_getElem (by rw [hJ.out.pi.tasks];have := htC.out;omega)⟩
      cases o with
      | none =>
       have hBu := Lib.hid (mach_busy bx bm y.m t se hse false (.inl ⟨rfl,(hSt.out t se hse).1 ho⟩))
       have hn65 : n < 65536 := by have := hbg.out;have := hNb.out;omega
       obtain ⟨hr,hNL⟩ : y.s.1.held[t]? = some r ∧ NamL C y.s.1 y.m r := by
        obtain ⟨hr,hc|⟨s,se',hk,_⟩⟩ := hSJ.out
        ·exact ⟨hr,hc.2⟩
        ·rw [ho] at hk;cases hk
       have hcore := hJ.out.pi.core
       have hrr := hcore.hin r (List.mem_of_getElem? hr)
       have hRc := Lib.hid (haz_record g ba y.s.1 t r hr)
       obtain ⟨e1,e2,e3⟩ := hcore.lget hr0.out hrr.2
       obtain ⟨rn,rfl⟩ := Int.eq_ofNat_of_zero_le hr0.out
       have hlg := hcore.log
       have hsh := hcore.shifts
       have hcl := hJ.out.pi.calls
       have hwd := hcore.words
       have hse2 := hJ.out.pi.seats
       have hRun := Lib.hid (mach_run bx bm y.m (by omega) (by omega) (by omega) (by omega) (by omega))
       have hSz := Lib.hid (ref_size C hok)
       have hneq : ((y.m.mem.words.length : Int) != base C 14) = false := by
        have : (y.m.mem.words.length : Int) = base C 14 := by have := (base_le hok 14).1;omega
        simpa using this
       simp only [Int.toNat_natCast] at e1 e2 e3
       generalize hld : y.s.1.lists.getD rn [] = l at e1 e2 e3
       have hLs := Lib.hid (haz_list g ba y.s.1 rn l e1 (by omega))
       have hnam := Lib.hid (show ∀ z ∈ l,0 ≤ z ∧ z < C.Sl ∧ NamH C y.m z from fun z hz => ⟨(e3 z hz).1,(e3 z hz).2,hNL z (by rw [Int.toNat_natCast,hld];exact hz)⟩)
       have hwl := Lib.hid (show ∀ k : Nat,(k : Int) < C.R * C.Hz → ∃ u,(y.m.mem.words.map eU)[(base C 9 + (k : Int)).toNat]? = some (eU u) ∧ (base C 9 + (k : Int)).toNat < (y.m.mem.words.map eU).length ∧ (mv C y.m).hz (k : Int) = u from fun k k1 => by
        have hlt : adr C 9 (k : Int) < y.m.mem.words.length := hcore.lt (by have hbs := bases hok;have := adr_i hok 9 (show (0 : Int) ≤ (k : Int) by omega);have := hbs.b10;have := hbs.b11;have := hbs.b12;have := hbs.b13;have := hbs.b14;have := hok.S1;omega)
        refine ⟨y.m.mem.words[adr C 9 (k : Int)],?_,by rw [List.length_map];exact hlt,?_⟩
        ·show (y.m.mem.words.map eU)[adr C 9 (k : Int)]? = _
         rw [List.getElem?_map,List.getElem?_eq_getElem hlt];rfl
        ·rw [hz_at (by omega) k1]
         unfold Mch.word
         rw [List.getD_eq_getElem?_getD,List.getElem?_eq_getElem hlt];rfl)
       have hll : l.length < 4294967296 := by omega
       have hBs := Lib.hid (ref_base C hok 9 (by omega) (by omega))
       have hb9 : 0 ≤ base C 9 ∧ base C 9 ≤ 9216 := by have := base_le hok 9;omega
       obtain ⟨hb0,hb8⟩ := hb9
       have hrh := hok.rh
       obtain ⟨hA0,hA1⟩ := hrh
       obtain ⟨W,hW⟩ : ∃ W,W = y.m.mem.words := ⟨_,rfl⟩
       have hSl1 := hok.S2
       clear hr hNL hcore hrr e1 e2 e3 hlg hsh hcl hwd hse2 hld hJ hN hSJ ho hse hSt hn hj
       obtain ⟨R,hR,hs⟩ := wrp hs
       clear hR
       (repeat' (first|(go_big_may;(first|(go_at_call 53;((refine (hBu.out).at hs (by (with_reducible exact Qh)) ?_);clear hs;intro w hs;(try simp only [emp_mul,mul_assoc'] at hs)))|(go_at_call 44;((refine (hRun.out).at hs (by (with_reducible exact Qh)) ?_);clear hs;intro v w hs;(try simp only [emp_mul,mul_assoc'] at hs));(have hg := runR_get hs);(clear hs);(obtain ⟨a1,k1,a2,k2,a3,k3,a4,k4,rfl,hs⟩ := hg))))|go_step|(dsimp only)))
       have hfW : ∀ w,(Instr.field 32 (.agg #[.slice a1 y.m.calls.length k1,.slice a2 y.m.mem.log.length k2,.slice a3 y.m.shifts.length k3,.slice a4 y.m.mem.words.length k4]) 3).run Tryz.prog w = .ok (.slice a4 y.m.mem.words.length k4) w := fun w => run_fld2 (ft := 30) (off := 3) (by kernel_rfl) inferInstance rfl w
       rw [hfW]
       (repeat' (first|(go_big_may;(first|(first|((with_reducible apply wl_ldF hs);infer_instance;rfl;(focus with_reducible (repeat first|exact Qh|apply Qk);done);rfl;rfl;(simp only [Uc,Uz]))|((with_reducible apply wl_len hs);infer_instance;rfl;(focus with_reducible (repeat first|exact Qh|apply Qk);done);rfl;(simp only [Uc,Uz])))|(go_at_call 50;((refine (hRc.out).at hs (by (focus with_reducible (repeat first|exact Qh|apply Qk);done)) ?_);clear hs;intro w hs;(try simp only [emp_mul,mul_assoc'] at hs)))|(go_at_call 42;((refine (hLs.out).at hs (by (with_reducible exact Qh)) ?_);clear hs;intro v w hs;(try simp only [emp_mul,mul_assoc'] at hs));(obtain ⟨b1,n1,rfl⟩ := sl_len (hs.pull (A := sl 3 1 _ v) (by (with_reducible exact Qh))));(simp only [List.length_map] at hs ⊢))|(go_at_call 22;((refine (hSz.out).at hs (by (focus ((repeat (with_reducible exact Qn));done))) ?_);clear hs;intro w hs;(try simp only [emp_mul,mul_assoc'] at hs)))))|go_step|go_upon|(dsimp only)))
       go_loopw [139] (fun q wr => ∃ i : Nat,i ≤ l.length ∧ q = .int .i64 (i : Int) ∧ Sat O wr (sl 3 1 (l.map eI) (.slice b1 l.length n1) * (sl 57 1 (y.m.mem.words.map eU) (.slice a4 y.m.mem.words.length k4) * (pt bC (.cells #[.int .i64 C.T,.int .i64 C.R,.int .i64 C.Hz,.int .i64 C.Rt,.int .i64 C.Ca,.int .i64 C.Sl,.int .i64 C.Bu] 23) * (A * F))))) (fun q _ => l.length + 1 - (intOf q).toNat)
       case atStart => exact ⟨0,by omega,rfl,by ((with_reducible apply Sat.fin hs);(focus with_reducible (repeat first|exact Ql|exact Qh|apply Qb|apply Qk);done))⟩
       case round =>
        obtain ⟨i,hi,rfl,hs⟩ := hrel
        by_cases hil : i = l.length
        ·have hlt : decide ((i : Int) < (l.length : Int)) = false := by simp;omega
         have hlt2 : decide (i < l.length) = false := by simp;omega
         clear hil hi
         (repeat' (go_step))
         (go_ret)
         exact ⟨rfl,by ((with_reducible apply Sat.fin hs);(focus with_reducible (repeat first|exact Ql|exact Qh|apply Qb|apply Qk);done))⟩
        ·have hlt : decide ((i : Int) < (l.length : Int)) = true := by simp;omega
         have hlt2 : decide (i < l.length) = true := by simp;omega
         obtain ⟨z,hz⟩ : ∃ z,l[i]? = some z := ⟨_,List.getElem?_eq_getElem (by omega)⟩
         have hgz : (l.map eI)[i]? = some (eI z) := by rw [List.getElem?_map,hz];rfl
         have hgzl : i < (l.map eI).length := by simp;omega
         obtain ⟨z0,z1,hzn⟩ := hnam.out z (List.mem_of_getElem? hz)
         replace hzn := Lib.hid hzn
         have hP := Lib.hid (ref_packLink z (by omega) (by omega))
         have hil := Lib.hid (show i < l.length by omega)
         have hi65 : i < 4294967296 := by omega
         clear hz hi
         (repeat' (first|(go_big_may;(first|((with_reducible apply wl_ldS0 hs);infer_instance;rfl;assumption;(with_reducible exact Qh);rfl;(assumption);rfl;rfl;(simp only [Uc,Uz]))|((with_reducible apply wl_ia hs);infer_instance;infer_instance;rfl;rfl;(with_reducible exact Qh);(rfl);(assumption);rfl;intro b off hat;(simp only [Uc,Uz]))))|go_step))
         go_loopw [18,19] (fun nm q wr => ∃ (k : Nat) (b : Bool),(k : Int) ≤ C.R * C.Hz ∧ nm = .bool b ∧ q = .int .i64 (k : Int) ∧ Hid (∀ j : Nat,j < k → (mv C y.m).hz (j : Int) = z + 1 → b = true) ∧ Sat O wr (sl 3 1 (l.map eI) (.slice b1 l.length n1) * (sl 57 1 (y.m.mem.words.map eU) (.slice a4 y.m.mem.words.length k4) * (pt bC (.cells #[.int .i64 C.T,.int .i64 C.R,.int .i64 C.Hz,.int .i64 C.Rt,.int .i64 C.Ca,.int .i64 C.Sl,.int .i64 C.Bu] 23) * (A * F))))) (fun _ q _ => 200 - (intOf q).toNat)
         case atStart => exact ⟨0,false,by omega,rfl,rfl,Lib.hid (fun j h => by omega),by ((with_reducible apply Sat.fin hs);(with_reducible exact Ql))⟩
         case round =>
          obtain ⟨k,b,hk,rfl,rfl,hnm,hs⟩ := hrel
          have hwr : wrap64 (C.R * C.Hz) = C.R * C.Hz := by unfold wrap64;omega
          by_cases hkl : (k : Int) = C.R * C.Hz
          ·obtain ⟨d1,d2⟩ := gt_no2 (show C.R * C.Hz ≤ (k : Int) by omega)
           obtain ⟨d3,d4⟩ := gt_no2 (show wrap64 (C.R * C.Hz) ≤ (k : Int) by omega)
           have hb : b = true := by
            obtain ⟨j,j0,j1,e⟩ := hzn.out
            obtain ⟨jn,rfl⟩ := Int.eq_ofNat_of_zero_le j0
            exact hnm.out jn (by omega) e
           subst hb
           clear hnm hk hkl hwr
           (repeat' (first|(go_big_may;((with_reducible apply wl_ld hs);infer_instance;rfl;(focus with_reducible (repeat first|exact Qh|apply Qk);done);rfl;rfl;(simp only [Uc,Uz])))|go_step))
           go_roundw
           case rel => exact ⟨i + 1,(by have := hil.out;omega),by simp,by ((with_reducible apply Sat.fin hs);(with_reducible exact Ql))⟩
           case measure => have := hil.out;simp [intOf];omega
          ·have hk1 : (k : Int) < C.R * C.Hz := by omega
           obtain ⟨d1,d2⟩ := gt_ye2 hk1
           obtain ⟨d3,d4⟩ := gt_ye2 (show (k : Int) < wrap64 (C.R * C.Hz) by omega)
           obtain ⟨u,hgu,hgul,hu⟩ := hwl.out k hk1
           have hnw : ∀ b' : Bool,(b = true → b' = true) → (u = z + 1 → b' = true) → ∀ j : Nat,j < k + 1 → (mv C y.m).hz (j : Int) = z + 1 → b' = true := by
            intro b' h1 h2 j hj e
            by_cases ej : j = k
            ·subst ej;exact h2 (by omega)
            ·exact h1 (hnm.out j (by omega) e)
           replace hnw := Lib.hid hnw
           have hk65 : k < 128 := by omega
           replace hk1 := Lib.hid hk1
           clear hnm hk hkl hwr hu
           cases b
           all_goals
            (repeat' (first|(((with_reducible apply wl_pass2);rfl;rfl;((simp only [ev,Ue,Uf]);rfl);rfl;(simp only [Uc,Uz]));(repeat (fail)))|((with_reducible apply wl_pick);((simp only [ev,Ue,Uf]);rfl);((simp only [cond_true,cond_false,ev,Ue,Uf]);rfl);(with_reducible exact want_none);(simp only [Uc,Uz]))|(go_big_may;(first|(first|(first|(with_reducible refine NQ.mk ?_)|((with_reducible apply pl_neu);rfl;rfl)|((with_reducible apply pl_eff);rfl)|(with_reducible refine EQ.mk ?_ ?_)|(first|(with_reducible exact chk_nil)|((with_reducible refine chk_cons ?_ ?_);(focus ((with_reducible apply pl_chk);rfl;rfl))))|(with_reducible refine pl_end ?_)|(show SameA _ _ _;rfl))|((with_reducible apply wl_ld hs);infer_instance;rfl;(focus with_reducible (repeat first|exact Qh|apply Qk);done);rfl;rfl;(simp only [Uc,Uz]))|((with_reducible apply wl_ldF hs);infer_instance;rfl;(focus with_reducible (repeat first|exact Qh|apply Qk);done);rfl;rfl;(simp only [Uc,Uz]))|((with_reducible apply wl_ldS0 hs);infer_instance;rfl;assumption;(focus with_reducible (repeat first|exact Qh|apply Qk);done);rfl;(assumption);rfl;rfl;(simp only [Uc,Uz]))|((with_reducible apply wl_ia2 hs);infer_instance;infer_instance;rfl;assumption;rfl;(focus with_reducible (repeat first|exact Qh|apply Qk);done);(exact (Int.toNat_of_nonneg (by omega)).symm);(assumption);rfl;(simp only [Uc,Uz]))|((with_reducible apply wl_ia hs);infer_instance;infer_instance;rfl;rfl;(focus with_reducible (repeat first|exact Qh|apply Qk);done);(exact (Int.toNat_of_nonneg (by omega)).symm);(assumption);rfl;intro b off hat;(simp only [Uc,Uz])))|(go_at_call 23;((refine (hBs.out).at hs (by (focus ((repeat (with_reducible exact Qn));done))) ?_);clear hs;intro w hs;(try simp only [emp_mul,mul_assoc'] at hs)))|(go_at_call 54;((refine (hP.out).at hs (by (focus ((repeat (with_reducible exact Qn));done))) ?_);clear hs;intro w hs;(try simp only [emp_mul,mul_assoc'] at hs)))|((with_reducible refine wp_plan_sat (id := 44) [.neu 0,.neu 1,.neu 2,.neu 3,.neu 5,.neu 9,.eff 4 [2,5,9],.neu 6,.neu 7,.neu 8,.eff 10 [2,5,6,7,8],.neu 11,.neu 12,.neu 13] hs rfl ?_ ?_);kernel_rfl;clear hs;intro w hs)))|go_guarded|go_step|(dsimp only)))
            go_roundw
            case rel => exact ⟨k + 1,_,(by have := hk1.out;omega),rfl,by simp,Lib.hid (hnw.out _ (by simp) (by simp)),by ((with_reducible apply Sat.fin hs);(with_reducible exact Ql))⟩
            case measure => have := hk1.out;simp [intOf];omega
      | some k =>
       have hBu := Lib.hid (wr_busy (g := g) (ba := ba) (bx := bx) (bm := bm) (CX := capR g x) (K := kitFn x) hse true (.inr ⟨rfl,(hSt.out t se hse).2 k ho⟩))
       have hle := hN.out.le hJ.out (by rw [ho];simp)
       have hle : (j : Int) + 1 ≤ B := by rw [hB.out];unfold KB;omega
       obtain ⟨f3,f4⟩ := gt_no2 (show (j : Int) ≤ S by omega)
       have hn65 : n < 65536 := by have := hbg.out;have := hNb.out;omega
       have hD := Lib.hid (move_any (bx := bx) (bm := bm) hGood.out hKO.out y ⟨(t : Int),0,0,0⟩ (hJ.out.pi.may hn65 _))
       have hnx := Lib.hid (show ∀ b y2,MoveTo (hzT g ba (capR g x)) (kitFn x) kitTask y ⟨(t : Int),0,0,0⟩ b y2 → KI C JT (n + 1) y2 ∧ Near C t y2 (j + 1) ∧ SJ C t r y2 from fun b y2 hm => ⟨hJ.out.move (jt_ok C) hn65 hm,hN.out.move hJ.out (hJ.out.move (jt_ok C) hn65 hm) hn65 hm,sj_step hSJ.out hJ.out hn65 hm⟩)
       replace hn := Lib.hid hn
       have hj65 : j < 300000 := by omega
       replace hle := Lib.hid hle
       clear ho hse hSt hN hJ hj hSJ
       (repeat' (first|(go_big_may;(first|((with_reducible apply wl_ldF hs);infer_instance;rfl;(focus with_reducible (repeat first|exact Qh|apply Qk);done);rfl;rfl;(simp only [Uc,Uz]))|(go_at_call 53;((refine (hBu.out).at hs (by (with_reducible exact Qh)) ?_);clear hs;intro w hs;(try simp only [emp_mul,mul_assoc'] at hs)))|(go_at_call 31;((refine (hSo.out).at hs (by (focus ((repeat (with_reducible exact Qn));done))) ?_);clear hs;intro w hs;(try simp only [emp_mul,mul_assoc'] at hs)))|(go_at_call 41;((refine (hD.out).at hs (by (with_reducible exact Qh)) ?_);clear hs;intro v w hs;(try simp only [emp_mul,mul_assoc'] at hs));(replace hs := moved_iff.1 hs);(obtain ⟨bb,y2,⟨rfl,hmt⟩,hs⟩ := hs))))|go_step|(dsimp only)))
       obtain ⟨hJ2,hN2,hSJ2⟩ := hnx.out _ _ hmt
       go_roundw
       case rel => exact ⟨j + 1,n + 1,y2,(by have := hle.out;omega),(by have := hn.out;omega),by simp,Lib.hid hJ2,Lib.hid hN2,Lib.hid hSJ2,by ((with_reducible apply Sat.fin hs);(with_reducible exact Ql))⟩
       case measure => have := hle.out;simp [intOf];omega
    | some k =>
     have hBu := Lib.hid (wr_busy (g := g) (ba := ba) (bx := bx) (bm := bm) (CX := capR g x) (K := kitFn x) hse true (.inr ⟨rfl,(hSt.out t se hse).2 k ho⟩))
     have hle := hN.out.le hJ.out (by rw [ho];simp)
     have hle : (j : Int) + 1 ≤ B := by rw [hB.out];unfold KB;omega
     obtain ⟨f3,f4⟩ := gt_no2 (show (j : Int) ≤ S by omega)
     have hn65 : n < 65536 := by have := hbg.out;omega
     have hD := Lib.hid (move_any (bx := bx) (bm := bm) hGood.out hKO.out y ⟨(t : Int),0,0,0⟩ (hJ.out.pi.may hn65 _))
     have hnx := Lib.hid (show ∀ b y2,MoveTo (hzT g ba (capR g x)) (kitFn x) kitTask y ⟨(t : Int),0,0,0⟩ b y2 → KI C JT (n + 1) y2 ∧ Near C t y2 (j + 1) from fun b y2 hm => ⟨hJ.out.move (jt_ok C) hn65 hm,hN.out.move hJ.out (hJ.out.move (jt_ok C) hn65 hm) hn65 hm⟩)
     replace hn := Lib.hid hn
     have hj65 : j < 300000 := by omega
     replace hle := Lib.hid hle
     clear ho hse hSt hN hJ hj
     (repeat' (first|(go_big_may;(first|((with_reducible apply wl_ldF hs);infer_instance;rfl;(focus with_reducible (repeat first|exact Qh|apply Qk);done);rfl;rfl;(simp only [Uc,Uz]))|(go_at_call 53;((refine (hBu.out).at hs (by (with_reducible exact Qh)) ?_);clear hs;intro w hs;(try simp only [emp_mul,mul_assoc'] at hs)))|(go_at_call 31;((refine (hSo.out).at hs (by (focus ((repeat (with_reducible exact Qn));done))) ?_);clear hs;intro w hs;(try simp only [emp_mul,mul_assoc'] at hs)))|(go_at_call 41;((refine (hD.out).at hs (by (with_reducible exact Qh)) ?_);clear hs;intro v w hs;(try simp only [emp_mul,mul_assoc'] at hs));(replace hs := moved_iff.1 hs);(obtain ⟨bb,y2,⟨rfl,hmt⟩,hs⟩ := hs))))|go_step|(dsimp only)))
     obtain ⟨hJ2,hN2⟩ := hnx.out _ _ hmt
     go_roundw
     case rel => exact ⟨j + 1,n + 1,y2,(by have := hle.out;omega),(by have := hn.out;omega),by simp,Lib.hid hJ2,Lib.hid hN2,by ((with_reducible apply Sat.fin hs);(with_reducible exact Ql))⟩
     case measure => have := hle.out;simp [intOf];omega
  ·have hlt : decide ((n : Int) < (M.length : Int)) = true := by simp;omega
   have hlt2 : decide (n < M.length) = true := by simp;omega
   have hln : n < (M.map Mv.e).length := by simp;omega
   obtain ⟨mv,hmv⟩ : ∃ mv,M[n]? = some mv := ⟨_,List.getElem?_eq_getElem (by omega)⟩
   have hgv : (M.map Mv.e)[n]? = some (Mv.e mv) := by simp [hmv]
   have hD := Lib.hid (move_any (bx := bx) (bm := bm) hGood.out hKO.out y mv (hJ.out.pi.may (by omega) mv))
   have hnx := Lib.hid (show ∀ b y2,MoveTo (hzT g ba (capR g x)) (kitFn x) kitTask y mv b y2 → KI C JT (n + 1) y2 from fun b y2 hm => hJ.out.move (jt_ok C) (by omega) hm)
   have hnL := Lib.hid (show n < M.length by omega)
   have hn65 : n < 65536 := by omega
   obtain ⟨m1,m2,m3,m4⟩ := mv
   clear hmv hkr hJ
   (repeat' (first|(go_big_may;(first|(first|((with_reducible apply wl_ldF hs);infer_instance;rfl;(with_reducible exact Qh);rfl;rfl;(simp only [Uc,Uz]))|((with_reducible apply wl_stF hs);infer_instance;rfl;rfl;(with_reducible exact Qh);rfl;rfl;rfl;rfl;clear hs;intro w hs)|((with_reducible apply wl_alloc hs);infer_instance;rfl;clear hs;intro w b hs;(simp only [Uc,Uz])))|((with_reducible apply wl_ir hRd.out);infer_instance;infer_instance;rfl;rfl;(rfl);(assumption);rfl;intro ao hat;(simp only [Uc,Uz]))|((with_reducible apply wl_lr hs hRd.out);infer_instance;assumption;rfl;(focus with_reducible (repeat first|exact Qh|apply Qk);done);(assumption);rfl;(simp only [Uc,Uz]))|(go_at_call 41;((refine (hD.out).at hs (by (focus with_reducible (repeat first|exact Qh|apply Qk);done)) ?_);clear hs;intro v w hs;(try simp only [emp_mul,mul_assoc'] at hs));(replace hs := moved_iff.1 hs);(obtain ⟨bb,y2,⟨rfl,hmt⟩,hs⟩ := hs))))|go_step|(dsimp only)))
   have hKI := Lib.hid (hnx.out _ _ hmt)
   go_roundw
   case rel => exact ⟨n + 1,y2,(by have := hnL.out;omega),by simp,hKI,by ((with_reducible apply Sat.fin hs);(focus with_reducible (repeat first|exact Ql|exact Qh|apply Qb|apply Qk);done))⟩
   case measure => have := hnL.out;simp [intOf];omega
end Go.Proofs.YtegafhhdegnigaaGreat
