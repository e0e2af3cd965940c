/-
  HazardLists, walked.
-/
import Derived.Test.YtegafhhdegnigaaGreatLFit
import Derived.Test.YtegafhhdegnigaaGreatLVw
import Derived.Test.YtegafhhdegnigaaGreatLLsq
set_option linter.all false
namespace Go.Proofs.YtegafhhdegnigaaGreat
open Go.RowKit Hp
set_option maxRecDepth 100000
set_option maxHeartbeats 8000000
attribute [local irreducible] Go.Calls Go.wpList
theorem haz_list_no (b ba : Nat) (h : Haz) (z : Int) (hz : z < 0) :
  Gives Tryz.prog 42 #[.pointer (some ⟨b,0,none⟩),.int .i64 z] (HazR b ba h) (.slice none 0 0) (HazR b ba h) := by
 intro O w F hs
 (obtain ⟨vhh,vhl,hs⟩ := hazR.1 hs)
 have h0 : decide (z < 0) = true := by simpa using hz
 clear hz
 go_enter Tryz.func42,Tryz.ntmps42
 (repeat' (first|(((with_reducible apply wl_pass2);rfl;rfl;((simp only [ev,Ue,Uf]);rfl);rfl;(simp only [Uc,Uz]));(repeat ((with_reducible apply wl_pass2);rfl;rfl;((simp only [ev,Ue,Uf]);rfl);rfl;(simp only [Uc,Uz]))))|((with_reducible apply wl_pick);((simp only [ev,Ue,Uf]);rfl);((simp only [cond_true,cond_false,ev,Ue,Uf]);rfl);(with_reducible exact want_none);(simp only [Uc,Uz]))|go_guarded|go_step))
 (go_ret)
 refine ⟨rfl,?_⟩
 (apply hazR_mk;((try simp only [List.map_append,List.map_cons,List.map_nil,List.map_set,List.set_set]);(try simp only [List.map_append,List.map_cons,List.map_nil,List.map_set,List.set_set] at hs);((with_reducible apply Sat.fin hs);(with_reducible exact Ql))))
theorem wr_parts {O w : World} {g ba bx bm : Nat} {CX Z : SProp} {K : Int → Option Value} {y : HW} (hs : Sat O w (WR (hzT g ba CX) bx bm K y * Z)) :
  ∃ R,Hid (∀ w' Z',Sat O w' (MchR bx bm y.m * (HazR g ba y.s.1 * (AreR ba y.s.2 * (R * Z')))) → Sat O w' (WR (hzT g ba CX) bx bm K y * Z')) ∧ Sat O w (MchR bx bm y.m * (HazR g ba y.s.1 * (AreR ba y.s.2 * (R * Z)))) := by
 refine ⟨mp .i64 K y.m.kit * (CX * tskR (htR g ba) y.tasks y.m.seats),Lib.hid fun w' Z' h => ?_,?_⟩
 ·unfold WR;exact h.cast (by simp only [hzT];ac_rfl)
 ·unfold WR at hs;exact hs.cast (by simp only [hzT];ac_rfl)
theorem wr_seats {O w : World} {g ba bx bm : Nat} {CX Z : SProp} {K : Int → Option Value} {y : HW} (hT : (hzT g ba CX).Good) (hs : Sat O w (WR (hzT g ba CX) bx bm K y * Z)) :
  ∀ (t : Nat) se,y.m.seats[t]? = some se → (y.tasks[t]? = some none → se.task = .nilIface) ∧ (∀ k,y.tasks[t]? = some (some k) → ∃ ty x,se.task = .iface ty x) := by
 intro t se hse
 unfold WR at hs
 refine ⟨fun ho => ?_,fun k ho => ?_⟩
 ·rw [tsk_at ho hse] at hs
  have : Sat O w (pu (se.task = .nilIface) * (MchR bx bm y.m * (mp .i64 K y.m.kit * ((hzT g ba CX).X y.s * (tskR (hzT g ba CX).R (y.tasks.eraseIdx t) (y.m.seats.eraseIdx t) * Z))))) := hs.cast (by simp only [tskR,mul_emp];ac_rfl)
  exact (sat_pu.1 this).1
 ·rw [tsk_at ho hse,tsk_one] at hs
  have : Sat O w ((hzT g ba CX).R k se.task * (MchR bx bm y.m * (mp .i64 K y.m.kit * ((hzT g ba CX).X y.s * (tskR (hzT g ba CX).R (y.tasks.eraseIdx t) (y.m.seats.eraseIdx t) * Z))))) := hs.cast (by ac_rfl)
  exact hT.iface this
abbrev LJ (C : Cfg) : Nat → (Int → Prop) → HW → Prop := fun n _ y => RcJ C n y ∧ LenJ C n y
set_option maxHeartbeats 16000000 in
theorem haz_lists (c : Cfg) (mvs0 : List Mv) (v0 : Value) (A : SProp) (hRd0 : Rd A 4 (mvs0.map Mv.e) v0) :
  Gives Tryz.prog 13 #[c.v,v0] A (.bool true) A := by
 intro O w F hs
 obtain ⟨C,hok,M,hl,hFit⟩ : ∃ C : Cfg,C.Ok ∧ ∃ M : List Mv,M.length ≤ 65536 ∧ Hid (Does Tryz.prog 30 #[c.v,v0] A (fun u => ex fun v => pu (u = .tuple #[C.v,v] ∧ Rd A 4 (M.map Mv.e) v) * A)) := ⟨_,fitC_ok c,_,fitM_len mvs0,Lib.hid (law_fit c mvs0 v0 A hRd0)⟩
 clear hRd0
 have hst := Lib.hid (fun km vs => KI.start hok (lenJ_ok C hok) km vs)
 have hA := Lib.hid (arena_new C hok)
 have hW := Lib.hid law_awake
 have hH := Lib.hid (fun ba => hazard_new ba (are0 C) hok)
 have hK := Lib.hid (fun bh ba => haz_kit bh ba (haz0 C))
 have hFi := Lib.hid (ref_first0 C hok)
 have hM := machine_new C.T.toNat
 have hT1 := hok.T1
 have hT2 := hok.T2
 have hTn : ((C.T.toNat : Nat) : Int) = C.T := Int.toNat_of_nonneg (by omega)
 have hbl := base14_le hok
 rw [hTn] at hM
 have hM := Lib.hid (fun v km => hM v km (firstW C 0) (by omega) (by omega) (by rw [firstW_len];omega))
 go_enter Tryz.func13,Tryz.ntmps13
 (repeat' (first|((with_reducible apply wl_pick);((simp only [ev,Ue,Uf]);rfl);((simp only [cond_true,cond_false,ev,Ue,Uf]);rfl);(with_reducible exact want_none);(simp only [Uc,Uz]))|(go_big_may;(first|((show wpList _ _ _ (Oper.mk (some 2) _ _ _ _ _ :: _) _ _);(with_reducible apply wl_box hs);rfl;rfl;rfl;clear hs;intro w bC hs;(simp only [Uc,Uz]))|(first|(first|(with_reducible refine NQ.mk ?_)|((with_reducible apply pl_neu);rfl;rfl)|((with_reducible apply pl_eff);rfl)|(with_reducible refine EQ.mk ?_ ?_)|(first|(with_reducible exact chk_nil)|((with_reducible refine chk_cons ?_ ?_);(focus ((with_reducible apply pl_chk);rfl;rfl))))|(with_reducible refine pl_end ?_)|(show SameA _ _ _;rfl))|((with_reducible apply wl_ld hs);infer_instance;rfl;(focus with_reducible (repeat first|exact Qh|apply Qk);done);rfl;rfl;(simp only [Uc,Uz]))|((with_reducible apply wl_ldF hs);infer_instance;rfl;(focus with_reducible (repeat first|exact Qh|apply Qk);done);rfl;rfl;(simp only [Uc,Uz]))|((with_reducible apply wl_stF hs);infer_instance;rfl;rfl;(focus with_reducible (repeat first|exact Qh|apply Qk);done);rfl;rfl;rfl;rfl;clear hs;intro w hs))|(go_at_call 30;((refine (hFit.out).at hs (by (focus with_reducible (repeat first|exact Qh|apply Qk);done)) ?_);clear hs;intro v w hs;(try simp only [emp_mul,mul_assoc'] at hs));(simp only [sat_ex,mul_assoc',sat_pu] at hs);(obtain ⟨vm,⟨rfl,hRd⟩,hs⟩ := hs);(obtain ⟨am,cm,rfl⟩ := hRd.len);(simp only [List.length_map] at hRd hs);(have hRd := Lib.hid hRd))|(go_at_call 33;((refine (hA.out).at hs (by (focus ((repeat (with_reducible exact Qn));done))) ?_);clear hs;intro v w hs;(try simp only [emp_mul,mul_assoc'] at hs));(simp only [sat_ex,mul_assoc',sat_pu] at hs);(obtain ⟨ba,rfl,hs⟩ := hs))|(go_at_call 19;((refine (hW.out).at hs (by (focus ((repeat (with_reducible exact Qn));done))) ?_);clear hs;intro w hs;(try simp only [emp_mul,mul_assoc'] at hs)))|(go_at_call 37;((refine ((hH.out ba)).at hs (by (with_reducible exact Qh)) ?_);clear hs;intro g w hs;(try simp only [emp_mul,mul_assoc'] at hs)))|(go_at_call 39;((refine (hFi.out).at hs (by (focus ((repeat (with_reducible exact Qn));done))) ?_);clear hs;intro v w hs;(try simp only [emp_mul,mul_assoc'] at hs)))|(go_at_call 40;((refine ((hK.out g ba)).at hs (by (focus ((repeat (first|exact Qh|with_reducible apply Qk));done))) ?_);clear hs;intro v w hs;(try simp only [emp_mul,mul_assoc'] at hs));(simp only [sat_ex,mul_assoc'] at hs);(obtain ⟨x,hs⟩ := hs);(obtain ⟨km,rfl⟩ := mp_some hs))|(go_at_call 38;((refine ((hM.out _ km)).at hs (by (focus with_reducible (repeat first|exact Qh|apply Qk);done)) ?_);clear hs;intro v w hs;(try simp only [emp_mul,mul_assoc'] at hs));(simp only [sat_ex,mul_assoc',sat_pu] at hs);(obtain ⟨bx,bm,vs,rfl,hs⟩ := hs))|((with_reducible refine wp_plan_sat (id := 6) [.neu 0,.neu 1,.neu 2,.neu 4,.eff 3 [0,1,4],.eff 5 [0,1],.eff 6 [],.neu 7,.neu 8,.neu 9,.neu 10,.neu 11] hs rfl ?_ ?_);kernel_rfl;clear hs;intro w hs)))|go_guarded|go_step|(dsimp only)))
 replace hs := tsk_nones (R := htR g ba) hs C.T.toNat
 have hs2 : Sat O w (WR (hzT g ba (capR g x)) bx bm (kitFn x) (wst0 C km vs) * (pt bC (.cells #[.int .i64 C.T,.int .i64 C.R,.int .i64 C.Hz,.int .i64 C.Rt,.int .i64 C.Ca,.int .i64 C.Sl,.int .i64 C.Bu] 23) * (A * F))) := by
  rw [wr0_eq]
  simp only [mul_assoc']
  ((with_reducible apply Sat.fin hs);(focus with_reducible (repeat first|exact Ql|exact Qh|apply Qb|apply Qk);done))
 clear hs
 have hs := hs2
 clear hs2
 have hGood := Lib.hid (hzT_good g ba (capR g x))
 have hKO := Lib.hid (hzT_kit g ba C.T.toNat x)
 have hst := Lib.hid (hst.out km vs)
 simp only [List.length_map]
 go_loopw [54] (fun q wr => ∃ (n : Nat) (y : HW),n ≤ M.length ∧ q = .int .i64 (n : Int) ∧ Hid (KI C (LJ C) n y) ∧ Sat O wr (WR (hzT g ba (capR g x)) bx bm (kitFn x) y * (pt bC (.cells #[.int .i64 C.T,.int .i64 C.R,.int .i64 C.Hz,.int .i64 C.Rt,.int .i64 C.Ca,.int .i64 C.Sl,.int .i64 C.Bu] 23) * (A * F)))) (fun q _ => M.length + 1 - (intOf q).toNat)
 case atStart => exact ⟨0,_,by omega,rfl,hst,hs⟩
 case round =>
  clear hst
  obtain ⟨n,y',k1,rfl,hJ,hs⟩ := hrel
  by_cases hkr : n = M.length
  ·have hlt : decide ((M.length : Int) < (M.length : Int)) = false := by simp
   subst hkr
   have hMv := mach_moves bx bm y'.m
   rw [hJ.out.pi.moves] at hMv
   have hMv := Lib.hid hMv
   obtain ⟨R,hR,hs⟩ := wr_parts hs
   have hbq : ((M.length : Int) == (M.length : Int)) = true := by simp
   (repeat' (first|(go_big_may;(go_at_call 52;((refine (hMv.out).at hs (by (with_reducible exact Qh)) ?_);clear hs;intro w hs;(try simp only [emp_mul,mul_assoc'] at hs))))|go_step|(dsimp only)))
   (go_ret)
   exact ⟨rfl,by ((with_reducible apply Sat.fin hs);(focus with_reducible (repeat first|exact Ql|exact Qh|apply Qb|apply Qk);done))⟩
  ·have hlt : decide ((n : Int) < (M.length : Int)) = true := by simp;omega
   have hlt2 : decide (n < M.length) = true := by simp;omega
   have hln : n < (M.map Mv.e).length := by simp;omega
   obtain ⟨mv,hmv⟩ : ∃ mv,M[n]? = some mv := ⟨_,List.getElem?_eq_getElem (by omega)⟩
   have hgv : (M.map Mv.e)[n]? = some (Mv.e mv) := by simp [hmv]
   have hD := Lib.hid (move_any (bx := bx) (bm := bm) hGood.out hKO.out y' mv (hJ.out.pi.may (by omega) mv))
   have hnx := Lib.hid (show ∀ b y2,MoveTo (hzT g ba (capR g x)) (kitFn x) kitTask y' mv b y2 → KI C (LJ C) (n + 1) y2 from fun b y2 hm => hJ.out.move (lenJ_ok C hok) (by omega) hm)
   have hnL := Lib.hid (show n < M.length by omega)
   have hn65 : n < 65536 := by omega
   obtain ⟨m1,m2,m3,m4⟩ := mv
   clear hmv hkr hJ
   obtain ⟨bl,hb2⟩ : ∃ b,((n : Int) == (M.length : Int) - 1) = b := ⟨_,rfl⟩
   cases bl
   all_goals
    (repeat' (first|(((with_reducible apply wl_pass2);rfl;rfl;((simp only [ev,Ue,Uf]);rfl);rfl;(simp only [Uc,Uz]));(repeat ((with_reducible apply wl_pass2);rfl;rfl;((simp only [ev,Ue,Uf]);rfl);rfl;(simp only [Uc,Uz]))))|((with_reducible apply wl_pick);((simp only [ev,Ue,Uf]);rfl);((simp only [cond_true,cond_false,ev,Ue,Uf]);rfl);(with_reducible exact want_none);(simp only [Uc,Uz]))|(go_big_may;(first|(first|((with_reducible apply wl_ld hs);infer_instance;rfl;(focus with_reducible (repeat first|exact Qh|apply Qk);done);rfl;rfl;(simp only [Uc,Uz]))|((with_reducible apply wl_ldF hs);infer_instance;rfl;(focus with_reducible (repeat first|exact Qh|apply Qk);done);rfl;rfl;(simp only [Uc,Uz]))|((with_reducible apply wl_stF hs);infer_instance;rfl;rfl;(with_reducible exact Qh);rfl;rfl;rfl;rfl;clear hs;intro w hs)|((with_reducible apply wl_alloc hs);infer_instance;rfl;clear hs;intro w b hs;(simp only [Uc,Uz])))|((with_reducible apply wl_ir hRd.out);infer_instance;infer_instance;rfl;rfl;(rfl);(assumption);rfl;intro ao hat;(simp only [Uc,Uz]))|((with_reducible apply wl_lr hs hRd.out);infer_instance;assumption;rfl;(focus with_reducible (repeat first|exact Qh|apply Qk);done);(assumption);rfl;(simp only [Uc,Uz]))|(go_at_call 41;((refine (hD.out).at hs (by (focus with_reducible (repeat first|exact Qh|apply Qk);done)) ?_);clear hs;intro v w hs;(try simp only [emp_mul,mul_assoc'] at hs));(replace hs := moved_iff.1 hs);(obtain ⟨bb,y2,⟨rfl,hmt⟩,hs⟩ := hs);(have hSe := wr_seats hGood.out hs);(obtain ⟨R,hR,hs⟩ := wr_parts hs);(replace hSe := Lib.hid hSe))))|go_guarded|go_step|(dsimp only)))
    all_goals
     have hKI := Lib.hid (hnx.out _ _ hmt)
     have hLs : Gives Tryz.prog 59 #[C.v,.pointer (some ⟨ba,0,none⟩),.pointer (some ⟨g,0,none⟩),.pointer (some ⟨bx,0,none⟩)] (MchR bx bm y2.m * (HazR g ba y2.s.1 * AreR ba y2.s.2)) (.bool true) (MchR bx bm y2.m * (HazR g ba y2.s.1 * AreR ba y2.s.2)) := by
      obtain ⟨pr,F0,D,J⟩ := hKI.out.ex
      exact law_lists C hok g ba bx bm y2.s.1 y2.s.2 y2.m _ (lsQ hok (by omega) hKI.out.pi hKI.out.ok D J.2 hSe.out)
     replace hLs := Lib.hid hLs
     clear hD hnx hmt hlt hlt2 hln hgv
     (repeat' (first|((with_reducible apply wl_pick);((simp only [ev,Ue,Uf]);rfl);((simp only [cond_true,cond_false,ev,Ue,Uf]);rfl);(with_reducible exact want_none);(simp only [Uc,Uz]))|(go_big_may;(first|((with_reducible apply wl_ld hs);infer_instance;rfl;(focus with_reducible (repeat first|exact Qh|apply Qk);done);rfl;rfl;(simp only [Uc,Uz]))|(go_at_call 59;((refine (hLs.out).at hs (by (focus with_reducible (repeat first|exact Qh|apply Qb);done)) ?_);clear hs;intro w hs;(try simp only [emp_mul,mul_assoc'] at hs)))))|go_guarded|go_step|(dsimp only)))
     clear hLs hSe
     by_cases htr : m1 < 0 ∨ (y2.m.seats.length : Int) ≤ m1
     ·have hCl := Lib.hid (mach_call_no bx bm y2.m m1 htr)
      clear htr
      (repeat' (first|(((with_reducible apply wl_pass2);rfl;rfl;((simp only [ev,Ue,Uf]);rfl);rfl;(simp only [Uc,Uz]));(repeat (fail)))|((with_reducible apply wl_pick);((simp only [ev,Ue,Uf]);rfl);((simp only [cond_true,cond_false,ev,Ue,Uf]);rfl);(with_reducible exact want_none);(simp only [Uc,Uz]))|(go_big_may;(first|(first|(first|(with_reducible refine NQ.mk ?_)|((with_reducible apply pl_neu);rfl;rfl)|((with_reducible apply pl_eff);rfl)|(with_reducible refine EQ.mk ?_ ?_)|(first|(with_reducible exact chk_nil)|((with_reducible refine chk_cons ?_ ?_);(focus ((with_reducible apply pl_chk);rfl;rfl))))|(with_reducible refine pl_end ?_)|(show SameA _ _ _;rfl))|((with_reducible apply wl_stF hs);infer_instance;rfl;rfl;(with_reducible exact Qh);rfl;rfl;rfl;rfl;clear hs;intro w hs)|((with_reducible apply wl_alloc hs);infer_instance;rfl;clear hs;intro w b hs;(simp only [Uc,Uz])))|(go_at_call 60;((refine (hCl.out).at hs (by (with_reducible exact Qh)) ?_);clear hs;intro w hs;(try simp only [emp_mul,mul_assoc'] at hs)))|((with_reducible refine wp_plan_sat (id := 16) [.neu 0,.neu 1,.neu 2,.neu 3,.neu 4,.neu 5,.neu 6,.neu 7,.neu 8,.neu 9,.neu 10,.neu 11,.neu 12,.neu 13,.neu 14,.neu 15,.neu 16,.neu 20,.neu 21,.neu 22,.neu 23,.neu 24,.eff 17 [13,20,21,22,23,24],.eff 18 [20,21,22,23,24],.neu 19,.neu 25,.neu 26] hs rfl ?_ ?_);kernel_rfl;clear hs;intro w hs)))|go_step|(dsimp only)))
      go_roundw
      case rel => exact ⟨n + 1,y2,(by have := hnL.out;omega),by simp,hKI,hR.out _ _ (by ((with_reducible apply Sat.fin hs);(focus with_reducible (repeat first|exact Ql|exact Qh|apply Qb|apply Qk);done)))⟩
      case measure => have := hnL.out;simp [intOf];omega
     ·obtain ⟨t,rfl⟩ := Int.eq_ofNat_of_zero_le (show 0 ≤ m1 by omega)
      have htl : t < y2.m.seats.length := by omega
      obtain ⟨se,hse⟩ : ∃ se,y2.m.seats[t]? = some se := ⟨_,List.getElem?_eq_getElem htl⟩
      obtain ⟨pr,F0,D,J⟩ := hKI.out.ex
      rcases J.2.se t se hse with hlast|⟨i,xc,h1,h2,h3⟩
      ·have hCl := Lib.hid (mach_call_none bx bm y2.m t se hse hlast)
       clear htr htl hse hlast D J
       (repeat' (first|(((with_reducible apply wl_pass2);rfl;rfl;((simp only [ev,Ue,Uf]);rfl);rfl;(simp only [Uc,Uz]));(repeat (fail)))|((with_reducible apply wl_pick);((simp only [ev,Ue,Uf]);rfl);((simp only [cond_true,cond_false,ev,Ue,Uf]);rfl);(with_reducible exact want_none);(simp only [Uc,Uz]))|(go_big_may;(first|(first|(first|(with_reducible refine NQ.mk ?_)|((with_reducible apply pl_neu);rfl;rfl)|((with_reducible apply pl_eff);rfl)|(with_reducible refine EQ.mk ?_ ?_)|(first|(with_reducible exact chk_nil)|((with_reducible refine chk_cons ?_ ?_);(focus ((with_reducible apply pl_chk);rfl;rfl))))|(with_reducible refine pl_end ?_)|(show SameA _ _ _;rfl))|((with_reducible apply wl_stF hs);infer_instance;rfl;rfl;(with_reducible exact Qh);rfl;rfl;rfl;rfl;clear hs;intro w hs)|((with_reducible apply wl_alloc hs);infer_instance;rfl;clear hs;intro w b hs;(simp only [Uc,Uz])))|(go_at_call 60;((refine (hCl.out).at hs (by (with_reducible exact Qh)) ?_);clear hs;intro w hs;(try simp only [emp_mul,mul_assoc'] at hs)))|((with_reducible refine wp_plan_sat (id := 16) [.neu 0,.neu 1,.neu 2,.neu 3,.neu 4,.neu 5,.neu 6,.neu 7,.neu 8,.neu 9,.neu 10,.neu 11,.neu 12,.neu 13,.neu 14,.neu 15,.neu 16,.neu 20,.neu 21,.neu 22,.neu 23,.neu 24,.eff 17 [13,20,21,22,23,24],.eff 18 [20,21,22,23,24],.neu 19,.neu 25,.neu 26] hs rfl ?_ ?_);kernel_rfl;clear hs;intro w hs)))|go_step|(dsimp only)))
       go_roundw
       case rel => exact ⟨n + 1,y2,(by have := hnL.out;omega),by simp,hKI,hR.out _ _ (by ((with_reducible apply Sat.fin hs);(focus with_reducible (repeat first|exact Ql|exact Qh|apply Qb|apply Qk);done)))⟩
       case measure => have := hnL.out;simp [intOf];omega
      ·have hCl := Lib.hid (mach_call bx bm y2.m t i se hse h1 xc h2)
       have htT : t < y2.s.1.held.length := by rw [hKI.out.pi.core.held,← hKI.out.pi.seats];exact htl
       obtain ⟨r,hr⟩ : ∃ r,y2.s.1.held[t]? = some r := ⟨_,List.getElem?_eq_getElem htT⟩
       have hRc := Lib.hid (haz_record g ba y2.s.1 t r hr)
       have hsc := J.2.sc xc (List.mem_of_getElem? h2)
       obtain ⟨x1,x2,x3,x4,x5,x6,x7,x8,x9⟩ := xc
       simp only [] at hsc h3
       have hrr := hKI.out.pi.core.hin r (List.mem_of_getElem? hr)
       by_cases h25 : x2 = 25
       ·subst h25
        by_cases hen : x6 = (n : Int)
        ·subst hen
         have hq : ((n : Int) == (n : Int)) = true := by simp
         by_cases hrn : r < 0
         ·have hLn := Lib.hid (haz_list_no g ba y2.s.1 r hrn)
          have hrh := hok.rh
          have hwr : wrap64 (C.R * C.Hz) = C.R * C.Hz := by unfold wrap64;omega
          obtain ⟨d1,d2⟩ := gt_no (show (0 : Int) ≤ C.R * C.Hz by omega)
          obtain ⟨d3,d4⟩ := gt_no (show (0 : Int) ≤ wrap64 (C.R * C.Hz) by omega)
          clear hrh
          clear htr htl hse h1 h2 h3 htT hr hsc hrr hrn D J
          (repeat' (first|((with_reducible apply wl_pick);((simp only [ev,Ue,Uf]);rfl);((simp only [cond_true,cond_false,ev,Ue,Uf]);rfl);(with_reducible exact want_none);(simp only [Uc,Uz]))|(go_big_may;(first|(first|(first|(with_reducible refine NQ.mk ?_)|((with_reducible apply pl_neu);rfl;rfl)|((with_reducible apply pl_eff);rfl)|(with_reducible refine EQ.mk ?_ ?_)|(first|(with_reducible exact chk_nil)|((with_reducible refine chk_cons ?_ ?_);(focus ((with_reducible apply pl_chk);rfl;rfl))))|(with_reducible refine pl_end ?_)|(show SameA _ _ _;rfl))|((with_reducible apply wl_ld hs);infer_instance;rfl;(focus with_reducible (repeat first|exact Qh|apply Qk);done);rfl;rfl;(simp only [Uc,Uz]))|((with_reducible apply wl_stF hs);infer_instance;rfl;rfl;(with_reducible exact Qh);rfl;rfl;rfl;rfl;clear hs;intro w hs)|((with_reducible apply wl_alloc hs);infer_instance;rfl;clear hs;intro w b hs;(simp only [Uc,Uz])))|(go_at_call 60;((refine (hCl.out).at hs (by (with_reducible exact Qh)) ?_);clear hs;intro w hs;(try simp only [emp_mul,mul_assoc'] at hs)))|(go_at_call 50;((refine (hRc.out).at hs (by (focus with_reducible (repeat first|exact Qh|apply Qk);done)) ?_);clear hs;intro w hs;(try simp only [emp_mul,mul_assoc'] at hs)))|(go_at_call 42;((refine (hLn.out).at hs (by (with_reducible exact Qh)) ?_);clear hs;intro w hs;(try simp only [emp_mul,mul_assoc'] at hs)))|((with_reducible refine wp_plan_sat (id := 16) [.neu 0,.neu 1,.neu 2,.neu 3,.neu 4,.neu 5,.neu 6,.neu 7,.neu 8,.neu 9,.neu 10,.neu 11,.neu 12,.neu 13,.neu 14,.neu 15,.neu 16,.neu 20,.neu 21,.neu 22,.neu 23,.neu 24,.eff 17 [13,20,21,22,23,24],.eff 18 [20,21,22,23,24],.neu 19,.neu 25,.neu 26] hs rfl ?_ ?_);kernel_rfl;clear hs;intro w hs)))|go_guarded|go_step|(dsimp only)))
          go_roundw
          case rel => exact ⟨n + 1,y2,(by have := hnL.out;omega),by simp,hKI,hR.out _ _ (by ((with_reducible apply Sat.fin hs);(focus with_reducible (repeat first|exact Ql|exact Qh|apply Qb|apply Qk);done)))⟩
          case measure => have := hnL.out;simp [intOf];omega
         ·obtain ⟨rn,rfl⟩ := Int.eq_ofNat_of_zero_le (show 0 ≤ r by omega)
          obtain ⟨l,hx,hlen⟩ : ∃ li : List Int,y2.s.1.lists[rn]? = some li ∧ (li.length : Int) ≤ Am C := by
           obtain ⟨e1,e2,_⟩ := hKI.out.pi.core.lget (r := (rn : Int)) (by omega) hrr.2
           refine ⟨_,e1,?_⟩
           exact hsc rfl (by omega) t (rn : Int) h3 hr (by omega)
          have hA128 : Am C ≤ 128 := hok.rh.2
          have hL1 := Lib.hid (haz_list g ba y2.s.1 rn l hx (by omega))
          have hrh := hok.rh
          have hwr : wrap64 (C.R * C.Hz) = C.R * C.Hz := by unfold wrap64;omega
          obtain ⟨d1,d2⟩ := gt_no (show (l.length : Int) ≤ C.R * C.Hz from hlen)
          obtain ⟨d3,d4⟩ := gt_no (show (l.length : Int) ≤ wrap64 (C.R * C.Hz) by rw [hwr];exact hlen)
          clear hrh
          clear htr htl hse h1 h2 h3 htT hr hsc hrr hrn hx hlen hA128 D J
          (repeat' (first|((with_reducible apply wl_pick);((simp only [ev,Ue,Uf]);rfl);((simp only [cond_true,cond_false,ev,Ue,Uf]);rfl);(with_reducible exact want_none);(simp only [Uc,Uz]))|(go_big_may;(first|(first|(first|(with_reducible refine NQ.mk ?_)|((with_reducible apply pl_neu);rfl;rfl)|((with_reducible apply pl_eff);rfl)|(with_reducible refine EQ.mk ?_ ?_)|(first|(with_reducible exact chk_nil)|((with_reducible refine chk_cons ?_ ?_);(focus ((with_reducible apply pl_chk);rfl;rfl))))|(with_reducible refine pl_end ?_)|(show SameA _ _ _;rfl))|((with_reducible apply wl_ld hs);infer_instance;rfl;(focus with_reducible (repeat first|exact Qh|apply Qk);done);rfl;rfl;(simp only [Uc,Uz]))|((with_reducible apply wl_stF hs);infer_instance;rfl;rfl;(with_reducible exact Qh);rfl;rfl;rfl;rfl;clear hs;intro w hs)|((with_reducible apply wl_alloc hs);infer_instance;rfl;clear hs;intro w b hs;(simp only [Uc,Uz]))|((with_reducible apply wl_len hs);infer_instance;rfl;(with_reducible exact Qh);rfl;(simp only [Uc,Uz])))|(go_at_call 60;((refine (hCl.out).at hs (by (with_reducible exact Qh)) ?_);clear hs;intro w hs;(try simp only [emp_mul,mul_assoc'] at hs)))|(go_at_call 50;((refine (hRc.out).at hs (by (focus with_reducible (repeat first|exact Qh|apply Qk);done)) ?_);clear hs;intro w hs;(try simp only [emp_mul,mul_assoc'] at hs)))|(go_at_call 42;((refine (hL1.out).at hs (by (with_reducible exact Qh)) ?_);clear hs;intro v w hs;(try simp only [emp_mul,mul_assoc'] at hs));(obtain ⟨b1,n1,rfl⟩ := sl_len (hs.pull (A := sl 3 1 _ v) (by (with_reducible exact Qh))));(simp only [List.length_map] at hs ⊢))|((with_reducible refine wp_plan_sat (id := 16) [.neu 0,.neu 1,.neu 2,.neu 3,.neu 4,.neu 5,.neu 6,.neu 7,.neu 8,.neu 9,.neu 10,.neu 11,.neu 12,.neu 13,.neu 14,.neu 15,.neu 16,.neu 20,.neu 21,.neu 22,.neu 23,.neu 24,.eff 17 [13,20,21,22,23,24],.eff 18 [20,21,22,23,24],.neu 19,.neu 25,.neu 26] hs rfl ?_ ?_);kernel_rfl;clear hs;intro w hs)))|go_guarded|go_step|(dsimp only)))
          go_roundw
          case rel => exact ⟨n + 1,y2,(by have := hnL.out;omega),by simp,hKI,hR.out _ _ (by ((with_reducible apply Sat.fin hs);(focus with_reducible (repeat first|exact Ql|exact Qh|apply Qb|apply Qk);done)))⟩
          case measure => have := hnL.out;simp [intOf];omega
        ·have hq : (x6 == (n : Int)) = false := by simpa using hen
         clear htr htl hse h1 h2 h3 htT hr hsc hrr hen D J
         (repeat' (first|(((with_reducible apply wl_pass2);rfl;rfl;((simp only [ev,Ue,Uf]);rfl);rfl;(simp only [Uc,Uz]));(repeat (fail)))|((with_reducible apply wl_pick);((simp only [ev,Ue,Uf]);rfl);((simp only [cond_true,cond_false,ev,Ue,Uf]);rfl);(with_reducible exact want_none);(simp only [Uc,Uz]))|(go_big_may;(first|(first|(first|(with_reducible refine NQ.mk ?_)|((with_reducible apply pl_neu);rfl;rfl)|((with_reducible apply pl_eff);rfl)|(with_reducible refine EQ.mk ?_ ?_)|(first|(with_reducible exact chk_nil)|((with_reducible refine chk_cons ?_ ?_);(focus ((with_reducible apply pl_chk);rfl;rfl))))|(with_reducible refine pl_end ?_)|(show SameA _ _ _;rfl))|((with_reducible apply wl_ld hs);infer_instance;rfl;(with_reducible exact Qh);rfl;rfl;(simp only [Uc,Uz]))|((with_reducible apply wl_stF hs);infer_instance;rfl;rfl;(with_reducible exact Qh);rfl;rfl;rfl;rfl;clear hs;intro w hs)|((with_reducible apply wl_alloc hs);infer_instance;rfl;clear hs;intro w b hs;(simp only [Uc,Uz])))|(go_at_call 60;((refine (hCl.out).at hs (by (with_reducible exact Qh)) ?_);clear hs;intro w hs;(try simp only [emp_mul,mul_assoc'] at hs)))|((with_reducible refine wp_plan_sat (id := 16) [.neu 0,.neu 1,.neu 2,.neu 3,.neu 4,.neu 5,.neu 6,.neu 7,.neu 8,.neu 9,.neu 10,.neu 11,.neu 12,.neu 13,.neu 14,.neu 15,.neu 16,.neu 20,.neu 21,.neu 22,.neu 23,.neu 24,.eff 17 [13,20,21,22,23,24],.eff 18 [20,21,22,23,24],.neu 19,.neu 25,.neu 26] hs rfl ?_ ?_);kernel_rfl;clear hs;intro w hs)))|go_guarded|go_step|(dsimp only)))
         go_roundw
         case rel => exact ⟨n + 1,y2,(by have := hnL.out;omega),by simp,hKI,hR.out _ _ (by ((with_reducible apply Sat.fin hs);(focus with_reducible (repeat first|exact Ql|exact Qh|apply Qb|apply Qk);done)))⟩
         case measure => have := hnL.out;simp [intOf];omega
       ·have hq : (x2 == 25) = false := by simpa using h25
        clear htr htl hse h1 h2 h3 htT hr hsc hrr h25 D J
        (repeat' (first|(((with_reducible apply wl_pass2);rfl;rfl;((simp only [ev,Ue,Uf]);rfl);rfl;(simp only [Uc,Uz]));(repeat (fail)))|((with_reducible apply wl_pick);((simp only [ev,Ue,Uf]);rfl);((simp only [cond_true,cond_false,ev,Ue,Uf]);rfl);(with_reducible exact want_none);(simp only [Uc,Uz]))|(go_big_may;(first|(first|(first|(with_reducible refine NQ.mk ?_)|((with_reducible apply pl_neu);rfl;rfl)|((with_reducible apply pl_eff);rfl)|(with_reducible refine EQ.mk ?_ ?_)|(first|(with_reducible exact chk_nil)|((with_reducible refine chk_cons ?_ ?_);(focus ((with_reducible apply pl_chk);rfl;rfl))))|(with_reducible refine pl_end ?_)|(show SameA _ _ _;rfl))|((with_reducible apply wl_ld hs);infer_instance;rfl;(with_reducible exact Qh);rfl;rfl;(simp only [Uc,Uz]))|((with_reducible apply wl_stF hs);infer_instance;rfl;rfl;(with_reducible exact Qh);rfl;rfl;rfl;rfl;clear hs;intro w hs)|((with_reducible apply wl_alloc hs);infer_instance;rfl;clear hs;intro w b hs;(simp only [Uc,Uz])))|(go_at_call 60;((refine (hCl.out).at hs (by (with_reducible exact Qh)) ?_);clear hs;intro w hs;(try simp only [emp_mul,mul_assoc'] at hs)))|((with_reducible refine wp_plan_sat (id := 16) [.neu 0,.neu 1,.neu 2,.neu 3,.neu 4,.neu 5,.neu 6,.neu 7,.neu 8,.neu 9,.neu 10,.neu 11,.neu 12,.neu 13,.neu 14,.neu 15,.neu 16,.neu 20,.neu 21,.neu 22,.neu 23,.neu 24,.eff 17 [13,20,21,22,23,24],.eff 18 [20,21,22,23,24],.neu 19,.neu 25,.neu 26] hs rfl ?_ ?_);kernel_rfl;clear hs;intro w hs)))|go_guarded|go_step|(dsimp only)))
        go_roundw
        case rel => exact ⟨n + 1,y2,(by have := hnL.out;omega),by simp,hKI,hR.out _ _ (by ((with_reducible apply Sat.fin hs);(focus with_reducible (repeat first|exact Ql|exact Qh|apply Qb|apply Qk);done)))⟩
        case measure => have := hnL.out;simp [intOf];omega
end Go.Proofs.YtegafhhdegnigaaGreat
