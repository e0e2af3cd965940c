/-
  HazardOwn, walked.
-/
import Derived.Test.YtegafhhdegnigaaGreatWFit
import Derived.Test.YtegafhhdegnigaaGreatWSpoilt
import Derived.Test.YtegafhhdegnigaaGreatWHist
import Derived.Test.YtegafhhdegnigaaGreatWLiftM
set_option linter.all false
namespace Go.Proofs.YtegafhhdegnigaaGreat
open Go.RowKit Hp
set_option maxRecDepth 100000
set_option maxHeartbeats 1000000
attribute [local irreducible] Go.Calls Go.wpList
theorem runR_agg {O w : World} {F : SProp} {cs : List Cll} {lg : List Acc} {sh : List Shf} {ws : List Int} {v : Value} (hs : Sat O w (RunR cs lg sh ws v * F)) : ∃ v1 v2 v3 v4,v = .agg #[v1,v2,v3,v4] := by
  obtain ⟨_,_,_,_,_,_,_,_,e,_⟩ := runR_get hs
  exact ⟨_,_,_,_,e⟩
def RunV (cs : List Cll) (lg : List Acc) (sh : List Shf) (ws : List Int) (u : Value) : SProp := ex fun v1 => ex fun v2 => ex fun v3 => ex fun v4 => pu (u = .tuple #[.agg #[v1,v2,v3,v4],.int .i64 0]) * RunR cs lg sh ws (.agg #[v1,v2,v3,v4])
theorem play_runV {c : Cfg} (h : c.Ok) {mvs : List Mv} (hl : mvs.length ≤ 65536) {y : HW} (B : Beh c mvs y) {A : SProp} (v : Value) (hRd : Rd A 4 (mvs.map Mv.e) v) :
    Does Tryz.prog 15 #[c.v,v] A (fun u => RunV y.m.calls y.m.mem.log y.m.shifts y.m.mem.words u * A) := by
  intro O w F hs
  refine (haz_play_runR c h v mvs hl A hRd O w F hs).mono ?_
  rintro e w' ⟨u,rfl,hs'⟩
  refine ⟨u,rfl,?_⟩
  unfold RunE at hs'
  unfold RunV
  simp only [sat_ex,mul_assoc',sat_pu] at hs' ⊢
  obtain ⟨v',rfl,hs'⟩ := hs'
  obtain ⟨v1,v2,v3,v4,rfl⟩ := runR_agg hs'
  rw [B.calls,B.log,B.shifts,B.words]
  exact ⟨v1,v2,v3,v4,rfl,hs'⟩
theorem copy_runV (cs : List Cll) (lg : List Acc) (sh : List Shf) (ws : List Int) (u : Value) (hl : RunLen cs lg sh ws) :
    Does Tryz.prog 34 #[u] (RunR cs lg sh ws u) (fun v => (ex fun v1 => ex fun v2 => ex fun v3 => ex fun v4 => pu (v = .agg #[v1,v2,v3,v4]) * RunR cs lg sh ws (.agg #[v1,v2,v3,v4])) * RunR cs lg sh ws u) := by
  intro O w F hs
  refine (copy_run cs lg sh ws u hl O w F hs).mono ?_
  rintro e w' ⟨v,rfl,hs'⟩
  refine ⟨v,rfl,?_⟩
  simp only [sat_ex,mul_assoc',sat_pu] at hs' ⊢
  obtain ⟨v1,v2,v3,v4,rfl⟩ := runR_agg hs'
  exact ⟨v1,v2,v3,v4,rfl,hs'⟩
def SplR (cs : List Cll) (lg : List Acc) (sh : List Shf) (ws : List Int) (m : Int) (v : Value) : SProp := RunR (spl2 (fC m) (gC m) cs.length 70) (spl2 (fA m) (gA m) lg.length 70) (spl2 (fS m) (gS m) sh.length 70) (spl2 (fW m) (gW m) ws.length 70) v
theorem spoil_runV (cs : List Cll) (lg : List Acc) (sh : List Shf) (ws : List Int) (u : Value) (m : Int) (hl : RunLen cs lg sh ws) (m0 : 0 ≤ m) (m1 : m ≤ 100000) :
    Does Tryz.prog 35 #[u,.int .i64 m] (RunR cs lg sh ws u) (fun v => ex fun v1 => ex fun v2 => ex fun v3 => ex fun v4 => pu (v = .agg #[v1,v2,v3,v4]) * SplR cs lg sh ws m (.agg #[v1,v2,v3,v4])) := by
  intro O w F hs
  refine (spoil_run cs lg sh ws u m hl m0 m1 O w F hs).mono ?_
  rintro e w' ⟨v,rfl,hs'⟩
  refine ⟨v,rfl,?_⟩
  simp only [sat_ex,mul_assoc',sat_pu] at hs' ⊢
  obtain ⟨v1,v2,v3,v4,rfl⟩ := runR_agg hs'
  exact ⟨v1,v2,v3,v4,rfl,hs'⟩
theorem spoilt_runV (cs : List Cll) (lg : List Acc) (sh : List Shf) (ws : List Int) (u v : Value) (m : Int) (hl : RunLen cs lg sh ws) (m0 : 0 ≤ m) (m1 : m ≤ 100000) :
    Gives Tryz.prog 36 #[u,v,.int .i64 m] (SplR cs lg sh ws m u * RunR cs lg sh ws v) (.bool true) (SplR cs lg sh ws m u * RunR cs lg sh ws v) := spoilt_run cs lg sh ws u v m hl m0 m1
attribute [irreducible] SplR
theorem runR_sh {O w : World} {S R : SProp} {cs : List Cll} {lg : List Acc} {sh : List Shf} {ws : List Int} {v : Value} (hs : Sat O w S) (h : Pull S (RunR cs lg sh ws v) R) :
    ∃ a1 k1 a2 k2 a3 k3 a4 k4,v = .agg #[.slice a1 cs.length k1,.slice a2 lg.length k2,.slice a3 sh.length k3,.slice a4 ws.length k4] ∧ Sat O w S := by
  obtain ⟨a1,k1,a2,k2,a3,k3,a4,k4,e,_⟩ := runR_get (hs.pull h)
  exact ⟨a1,k1,a2,k2,a3,k3,a4,k4,e,hs⟩
theorem splR_sh {O w : World} {S R : SProp} {cs : List Cll} {lg : List Acc} {sh : List Shf} {ws : List Int} {m : Int} {v : Value} (hs : Sat O w S) (h : Pull S (SplR cs lg sh ws m v) R) :
    ∃ a1 n1 k1 a2 n2 k2 a3 n3 k3 a4 n4 k4,v = .agg #[.slice a1 n1 k1,.slice a2 n2 k2,.slice a3 n3 k3,.slice a4 n4 k4] ∧ Sat O w S := by
  have hs1 := hs.pull h
  unfold SplR at hs1
  obtain ⟨a1,k1,a2,k2,a3,k3,a4,k4,e,_⟩ := runR_get hs1
  exact ⟨a1,_,k1,a2,_,k2,a3,_,k3,a4,_,k4,e,hs⟩
theorem Beh.lens {c : Cfg} {mvs : List Mv} {y : HW} (h : Beh c mvs y) (hl : mvs.length ≤ 65536) : RunLen y.m.calls y.m.mem.log y.m.shifts y.m.mem.words := by
  have h1 := h.pi.calls
  have h2 := h.pi.core.log
  have h3 := h.pi.core.shifts
  have h4 := h.pi.core.words
  have h5 := base14_le h.pi.core.ok
  exact ⟨by omega,by omega,by omega,by omega⟩
theorem wr_open {O w : World} {g ba bx bm : Nat} {CX CF Z : SProp} {K : Int → Option Value} {y : HW} (hs : Sat O w (WR (hzT g ba CX) bx bm K y * (CF * Z))) :
    ∃ R,Hid (∀ w',Sat O w' (HazR g ba y.s.1 * (CF * R)) → Sat O w' (WR (hzT g ba CX) bx bm K y * (CF * Z))) ∧ Sat O w (HazR g ba y.s.1 * (CF * R)) := by
  refine ⟨MchR bx bm y.m * (mp .i64 K y.m.kit * (AreR ba y.s.2 * (CX * (tskR (htR g ba) y.tasks y.m.seats * Z)))),Lib.hid fun w' h => ?_,?_⟩
  · unfold WR;exact h.cast (by simp only [hzT];ac_rfl)
  · unfold WR at hs;exact hs.cast (by simp only [hzT];ac_rfl)
set_option maxHeartbeats 16000000 in
theorem haz_own (c : Cfg) (mvs0 : List Mv) (v0 : Value) (A : SProp) (hRd0 : Rd A 4 (mvs0.map Mv.e) v0) :
    Gives Tryz.prog 9 #[c.v,v0] A (.bool true) A := by
  intro O w F hs
  obtain ⟨C,hok,M,hl,hFit⟩ : ∃ C : Cfg,C.Ok ∧ ∃ M : List Mv,M.length ≤ 65536 ∧ Hid (Does Tryz.prog 30 #[c.v,v0] A (fun u => ex fun v => pu (u = .tuple #[C.v,v] ∧ Rd A 4 (M.map Mv.e) v) * A)) := ⟨_,fitC_ok c,_,fitM_len mvs0,Lib.hid (law_fit c mvs0 v0 A hRd0)⟩
  clear hRd0
  obtain ⟨y,hB⟩ := beh_ex hok M hl
  have hLen := Lib.hid (hB.lens hl)
  have hP := Lib.hid (fun v => play_runV (A := A) hok hl hB v)
  have hfin := Lib.hid (show ∀ y' : HW,y'.er = runE C M → y'.m.calls = y.m.calls ∧ y'.m.mem.log = y.m.mem.log ∧ y'.m.shifts = y.m.shifts ∧ y'.m.mem.words = y.m.mem.words from fun y' e => ⟨by rw [hB.calls,← e];rfl,by rw [hB.log,← e];rfl,by rw [hB.shifts,← e];rfl,by rw [hB.words,← e];rfl⟩)
  have hst := Lib.hid (fun km vs => (⟨PI.start hok km vs,by simp only [List.take_zero];show _ = e0 C;simp only [e0,Wst.er,wst0,Mch.er,mch0]⟩ : PI C 0 (wst0 C km vs) ∧ (wst0 C km vs).er = runE C (M.take 0)))
  clear hB
  generalize y.m.calls = cs at *
  generalize y.m.mem.log = lg at *
  generalize y.m.shifts = sh at *
  generalize y.m.mem.words = ws at *
  have hA := Lib.hid (arena_new C hok)
  have hW := Lib.hid law_awake
  have hH := Lib.hid (fun ba => hazard_new ba (are0 C) hok)
  have hK := Lib.hid (fun bh ba => haz_kit bh ba (haz0 C))
  have hFi := Lib.hid (ref_first0 C hok)
  have hM := machine_new C.T.toNat
  have hT1 := hok.T1
  have hT2 := hok.T2
  have hTn : ((C.T.toNat : Nat) : Int) = C.T := Int.toNat_of_nonneg (by omega)
  have hbl := base14_le hok
  rw [hTn] at hM
  have hM := Lib.hid (fun v km => hM v km (firstW C 0) (by omega) (by omega) (by rw [firstW_len];omega))
  go_enter Tryz.func9,Tryz.ntmps9
  (repeat' (first | ((with_reducible apply wl_pick);((simp only [ev,List.getElem?_cons_succ,List.getElem?_cons_zero]);rfl);((simp only [cond_true,cond_false,ev,List.getElem?_cons_succ,List.getElem?_cons_zero]);rfl);(with_reducible exact want_none);(simp only [Uc,Uz])) | (go_big_may;(first | ((show wpList _ _ _ (Oper.mk (some 2) _ _ _ _ _ :: _) _ _);(with_reducible apply wl_box hs);rfl;rfl;rfl;clear hs;intro w bC hs;(simp only [Uc,Uz])) | ((show wpList _ _ _ (Oper.mk (some 10) _ _ _ _ _ :: _) _ _);(with_reducible apply wl_alloc hs);infer_instance;rfl;clear hs;intro w bK hs;(simp only [Uc,Uz])) | (first | (first | (with_reducible refine NQ.mk ?_) | ((with_reducible apply pl_neu);rfl;rfl) | ((with_reducible apply pl_eff);rfl) | (with_reducible refine EQ.mk ?_ ?_) | (first | (with_reducible exact chk_nil) | ((with_reducible refine chk_cons ?_ ?_);(focus ((with_reducible apply pl_chk);rfl;rfl)))) | (with_reducible refine pl_end ?_) | (show SameA _ _ _;rfl)) | ((with_reducible apply wl_ld hs);infer_instance;rfl;(focus with_reducible (repeat first | exact Qh | apply Qk);done);rfl;rfl;(simp only [Uc,Uz])) | ((with_reducible apply wl_ldF hs);infer_instance;rfl;(focus with_reducible (repeat first | exact Qh | apply Qk);done);rfl;rfl;(simp only [Uc,Uz])) | ((with_reducible apply wl_stF hs);infer_instance;rfl;rfl;(focus with_reducible (repeat first | exact Qh | apply Qk);done);rfl;rfl;rfl;rfl;clear hs;intro w hs) | ((with_reducible apply wl_alloc hs);infer_instance;rfl;clear hs;intro w b hs;(simp only [Uc,Uz]))) | (go_at_call 30;((refine (hFit.out).at hs (by (focus with_reducible (repeat first | exact Qh | apply Qk);done)) ?_);clear hs;intro v w hs;(try simp only [emp_mul,mul_assoc'] at hs));(simp only [sat_ex,mul_assoc',sat_pu] at hs);(obtain ⟨vm,⟨rfl,hRd⟩,hs⟩ := hs);(obtain ⟨am,cm,rfl⟩ := hRd.len);(simp only [List.length_map] at hRd hs);(have hRd := Lib.hid hRd)) | (go_at_call 33;((refine (hA.out).at hs (by (focus ((repeat (with_reducible exact Qn));done))) ?_);clear hs;intro v w hs;(try simp only [emp_mul,mul_assoc'] at hs));(simp only [sat_ex,mul_assoc',sat_pu] at hs);(obtain ⟨ba,rfl,hs⟩ := hs)) | (go_at_call 19;((refine (hW.out).at hs (by (focus ((repeat (with_reducible exact Qn));done))) ?_);clear hs;intro w hs;(try simp only [emp_mul,mul_assoc'] at hs))) | (go_at_call 15;((refine ((hP.out _ hRd.out)).at hs (by (focus with_reducible (repeat first | exact Qh | apply Qk);done)) ?_);clear hs;intro v w hs;(try simp only [emp_mul,mul_assoc'] at hs));(unfold RunV at hs);(simp only [sat_ex,mul_assoc',sat_pu] at hs);(obtain ⟨p1,p2,p3,p4,rfl,hs⟩ := hs);(have hg := runR_sh (cs := cs) (lg := lg) (sh := sh) (ws := ws) (v := .agg #[p1,p2,p3,p4]) hs (by (with_reducible exact Qh)));(clear hs);(obtain ⟨pp1,pp2,pp3,pp4,pp5,pp6,pp7,pp8,hv,hs⟩ := hg);(injection hv with hv);(injection hv with hv);(simp only [List.cons.injEq,and_true] at hv);(obtain ⟨rfl,rfl,rfl,rfl⟩ := hv)) | (go_at_call 17;((refine ((same_run cs lg sh ws _ _ hLen.out)).at hs (by (focus with_reducible (repeat first | exact Qh | apply Qb | apply Qk);done)) ?_);clear hs;intro w hs;(try simp only [emp_mul,mul_assoc'] at hs))) | (go_at_call 34;((refine ((copy_runV cs lg sh ws _ hLen.out)).at hs (by (with_reducible exact Qh)) ?_);clear hs;intro v w hs;(try simp only [emp_mul,mul_assoc'] at hs));(simp only [sat_ex,mul_assoc',sat_pu] at hs);(obtain ⟨q1,q2,q3,q4,rfl,hs⟩ := hs);(have hg := runR_sh (cs := cs) (lg := lg) (sh := sh) (ws := ws) (v := .agg #[q1,q2,q3,q4]) hs (by (with_reducible exact Qh)));(clear hs);(obtain ⟨qq1,qq2,qq3,qq4,qq5,qq6,qq7,qq8,hv,hs⟩ := hg);(injection hv with hv);(injection hv with hv);(simp only [List.cons.injEq,and_true] at hv);(obtain ⟨rfl,rfl,rfl,rfl⟩ := hv)) | (go_at_call 35;((refine ((spoil_runV cs lg sh ws _ _ hLen.out (by omega) (by omega))).at hs (by (focus with_reducible (repeat first | exact Qh | apply Qk);done)) ?_);clear hs;intro v w hs;(try simp only [emp_mul,mul_assoc'] at hs));(simp only [sat_ex,mul_assoc',sat_pu] at hs);(obtain ⟨s1,s2,s3,s4,rfl,hs⟩ := hs);(have hg := splR_sh (cs := cs) (lg := lg) (sh := sh) (ws := ws) (v := .agg #[s1,s2,s3,s4]) hs (by (with_reducible exact Qh)));(clear hs);(obtain ⟨x1,y1,z1,x2,y2,z2,x3,y3,z3,x4,y4,z4,hv,hs⟩ := hg);(injection hv with hv);(injection hv with hv);(simp only [List.cons.injEq,and_true] at hv);(obtain ⟨rfl,rfl,rfl,rfl⟩ := hv)) | (go_at_call 36;((refine ((spoilt_runV cs lg sh ws _ _ _ hLen.out (by omega) (by omega))).at hs (by (focus with_reducible (repeat first | exact Qh | apply Qb | apply Qk);done)) ?_);clear hs;intro w hs;(try simp only [emp_mul,mul_assoc'] at hs))) | (go_at_call 37;((refine ((hH.out ba)).at hs (by (focus with_reducible (repeat first | exact Qh | apply Qk);done)) ?_);clear hs;intro g w hs;(try simp only [emp_mul,mul_assoc'] at hs))) | (go_at_call 39;((refine (hFi.out).at hs (by (focus ((repeat (with_reducible exact Qn));done))) ?_);clear hs;intro v w hs;(try simp only [emp_mul,mul_assoc'] at hs))) | (go_at_call 40;((refine ((hK.out g ba)).at hs (by (focus ((repeat (first | exact Qh | with_reducible apply Qk));done))) ?_);clear hs;intro v w hs;(try simp only [emp_mul,mul_assoc'] at hs));(simp only [sat_ex,mul_assoc'] at hs);(obtain ⟨x,hs⟩ := hs);(obtain ⟨km,rfl⟩ := mp_some hs)) | (go_at_call 38;((refine ((hM.out _ km)).at hs (by (focus with_reducible (repeat first | exact Qh | apply Qk);done)) ?_);clear hs;intro v w hs;(try simp only [emp_mul,mul_assoc'] at hs));(simp only [sat_ex,mul_assoc',sat_pu] at hs);(obtain ⟨bx,bm,vs,rfl,hs⟩ := hs)) | ((with_reducible refine wp_plan_sat (id := 18) [.neu 0,.neu 1,.neu 2,.neu 4,.eff 3 [0,1,4],.eff 5 [0,1],.eff 6 [],.neu 7,.neu 8,.neu 9,.neu 10,.neu 11] hs rfl ?_ ?_);kernel_rfl;clear hs;intro w hs))) | go_guarded | go_step | (dsimp only)))
  replace hs := tsk_nones (R := htR g ba) hs C.T.toNat
  have hs2 : Sat O w (WR (hzT g ba (capR g x)) bx bm (kitFn x) (wst0 C km vs) * (pt bC (.cells #[.int .i64 C.T,.int .i64 C.R,.int .i64 C.Hz,.int .i64 C.Rt,.int .i64 C.Ca,.int .i64 C.Sl,.int .i64 C.Bu] 23) * (pt bK (.cells #[.slice qq1 cs.length qq2,.slice qq3 lg.length qq4,.slice qq5 sh.length qq6,.slice qq7 ws.length qq8] 32) * (RunR cs lg sh ws (.agg #[.slice qq1 cs.length qq2,.slice qq3 lg.length qq4,.slice qq5 sh.length qq6,.slice qq7 ws.length qq8]) * (A * F))))) := by
    rw [wr0_eq]
    simp only [mul_assoc']
    ((with_reducible apply Sat.fin hs);(focus with_reducible (repeat first | exact Ql | exact Qh | apply Qb | apply Qk);done))
  clear hs
  have hs := hs2
  clear hs2
  have hGood := Lib.hid (hzT_good g ba (capR g x))
  have hKO := Lib.hid (hzT_kit g ba C.T.toNat x)
  have hst := Lib.hid (hst.out km vs)
  simp only [List.length_map]
  go_loopw [132] (fun q wr => ∃ (n : Nat) (y : HW),n ≤ M.length ∧ q = .int .i64 (n : Int) ∧ Hid (PI C n y ∧ y.er = runE C (M.take n)) ∧ Sat O wr (WR (hzT g ba (capR g x)) bx bm (kitFn x) y * (pt bC (.cells #[.int .i64 C.T,.int .i64 C.R,.int .i64 C.Hz,.int .i64 C.Rt,.int .i64 C.Ca,.int .i64 C.Sl,.int .i64 C.Bu] 23) * (pt bK (.cells #[.slice qq1 cs.length qq2,.slice qq3 lg.length qq4,.slice qq5 sh.length qq6,.slice qq7 ws.length qq8] 32) * (RunR cs lg sh ws (.agg #[.slice qq1 cs.length qq2,.slice qq3 lg.length qq4,.slice qq5 sh.length qq6,.slice qq7 ws.length qq8]) * (A * F)))))) (fun q _ => M.length + 1 - (intOf q).toNat)
  case atStart => exact ⟨0,_,by omega,rfl,hst,hs⟩
  case round =>
    obtain ⟨n,y',k1,rfl,hJ,hs⟩ := hrel
    by_cases hkr : n = M.length
    · have hlt : decide ((M.length : Int) < (M.length : Int)) = false := by simp
      subst hkr
      have hPI := hJ.out.1
      obtain ⟨z1,z2,z3,z4⟩ := hfin.out y' (by have := hJ.out.2;rwa [List.take_length] at this)
      have hR := mach_run bx bm y'.m (by rw [hPI.seats];omega) (by rw [z1];have := hLen.out.l1;omega) (by rw [z3];have := hLen.out.l3;omega) (by rw [z4];have := hLen.out.l4;omega) (by rw [z2];have := hLen.out.l2;omega)
      rw [z1,z2,z3,z4] at hR
      have hR := Lib.hid hR
      clear hPI z1 z2 z3 z4
      unfold WR at hs
      simp only [mul_assoc'] at hs
      (repeat' (first | (go_big_may;(first | (first | (first | (with_reducible refine NQ.mk ?_) | ((with_reducible apply pl_neu);rfl;rfl) | ((with_reducible apply pl_eff);rfl) | (with_reducible refine EQ.mk ?_ ?_) | (first | (with_reducible exact chk_nil) | ((with_reducible refine chk_cons ?_ ?_);(focus ((with_reducible apply pl_chk);rfl;rfl)))) | (with_reducible refine pl_end ?_) | (show SameA _ _ _;rfl)) | ((with_reducible apply wl_ldF hs);infer_instance;rfl;(focus with_reducible (repeat first | exact Qh | apply Qk);done);rfl;rfl;(simp only [Uc,Uz]))) | (go_at_call 44;((refine (hR.out).at hs (by (with_reducible exact Qh)) ?_);clear hs;intro v w hs;(try simp only [emp_mul,mul_assoc'] at hs))) | (go_at_call 17;((refine ((same_run cs lg sh ws _ _ hLen.out)).at hs (by (focus with_reducible (repeat first | exact Qh | apply Qb | apply Qk);done)) ?_);clear hs;intro w hs;(try simp only [emp_mul,mul_assoc'] at hs))) | ((with_reducible refine wp_plan_sat (id := 44) [.neu 0,.neu 2,.eff 1 [2],.eff 3 [],.neu 4] hs rfl ?_ ?_);kernel_rfl;clear hs;intro w hs))) | go_step | (dsimp only)))
      (go_ret)
      exact ⟨rfl,by ((with_reducible apply Sat.fin hs);(focus with_reducible (repeat first | exact Ql | exact Qh | apply Qb | apply Qk);done))⟩
    · have hlt : decide ((n : Int) < (M.length : Int)) = true := by simp;omega
      have hlt2 : decide (n < M.length) = true := by simp;omega
      have hln : n < (M.map Mv.e).length := by simp;omega
      obtain ⟨mv,hmv⟩ : ∃ mv,M[n]? = some mv := ⟨_,List.getElem?_eq_getElem (by omega)⟩
      have hgv : (M.map Mv.e)[n]? = some (Mv.e mv) := by simp [hmv]
      have hD := Lib.hid (move_any (bx := bx) (bm := bm) hGood.out hKO.out y' mv (hJ.out.1.may (by omega) mv))
      have hnx := Lib.hid (show ∀ b y2,MoveTo (hzT g ba (capR g x)) (kitFn x) kitTask y' mv b y2 → PI C (n + 1) y2 ∧ y2.er = runE C (M.take (n + 1)) from fun b y2 hm => ⟨hJ.out.1.move (by omega) hm,by rw [runE_take hmv,← hJ.out.2];exact (moveE_of hm).1⟩)
      have hnL := Lib.hid (show n < M.length by omega)
      clear hmv hkr
      (repeat' (first | (go_big_may;(first | (first | ((with_reducible apply wl_ldF hs);infer_instance;rfl;(with_reducible exact Qh);rfl;rfl;(simp only [Uc,Uz])) | ((with_reducible apply wl_stF hs);infer_instance;rfl;rfl;(with_reducible exact Qh);rfl;rfl;rfl;rfl;clear hs;intro w hs) | ((with_reducible apply wl_alloc hs);infer_instance;rfl;clear hs;intro w b hs;(simp only [Uc,Uz]))) | ((with_reducible apply wl_ir hRd.out);infer_instance;infer_instance;rfl;rfl;(rfl);(assumption);rfl;intro ao hat;(simp only [Uc,Uz])) | ((with_reducible apply wl_lr hs hRd.out);infer_instance;assumption;rfl;(focus with_reducible (repeat first | exact Qh | apply Qk);done);(assumption);rfl;(simp only [Uc,Uz])) | (go_at_call 41;((refine (hD.out).at hs (by (focus with_reducible (repeat first | exact Qh | apply Qk);done)) ?_);clear hs;intro v w hs;(try simp only [emp_mul,mul_assoc'] at hs));(replace hs := moved_iff.1 hs);(obtain ⟨bb,y2,⟨rfl,hmt⟩,hs⟩ := hs)))) | go_step | (dsimp only)))
      · go_roundw
        case rel => exact ⟨n + 1,y2,(by have := hnL.out;omega),by simp,Lib.hid (hnx.out _ _ hmt),by ((with_reducible apply Sat.fin hs);(focus with_reducible (repeat first | exact Ql | exact Qh | apply Qb | apply Qk);done))⟩
        case measure => have := hnL.out;simp [intOf];omega
      · have hPI := Lib.hid (hnx.out _ _ hmt)
        have hs9 : Sat O w (WR (hzT g ba (capR g x)) bx bm (kitFn x) y2 * (pt bC (.cells #[.int .i64 C.T,.int .i64 C.R,.int .i64 C.Hz,.int .i64 C.Rt,.int .i64 C.Ca,.int .i64 C.Sl,.int .i64 C.Bu] 23) * (pt bK (.cells #[.slice qq1 cs.length qq2,.slice qq3 lg.length qq4,.slice qq5 sh.length qq6,.slice qq7 ws.length qq8] 32) * (RunR cs lg sh ws (.agg #[.slice qq1 cs.length qq2,.slice qq3 lg.length qq4,.slice qq5 sh.length qq6,.slice qq7 ws.length qq8]) * (A * F))))) := by ((with_reducible apply Sat.fin hs);(focus with_reducible (repeat first | exact Ql | exact Qh | apply Qb | apply Qk);done))
        clear hs
        obtain ⟨R,hR,hs⟩ := wr_open hs9
        obtain ⟨R0,hR0⟩ : ∃ R0 : Nat,C.R = (R0 : Int) := ⟨C.R.toNat,by have := hok.R1;omega⟩
        replace hR0 := Lib.hid hR0
        clear hs9 hD hJ hmt hnx hlt hlt2 hln hgv
        go_loopw [18] (fun q wr => ∃ r : Nat,r ≤ R0 ∧ q = .int .i64 (r : Int) ∧ Sat O wr (HazR g ba y2.s.1 * (pt bC (.cells #[.int .i64 C.T,.int .i64 C.R,.int .i64 C.Hz,.int .i64 C.Rt,.int .i64 C.Ca,.int .i64 C.Sl,.int .i64 C.Bu] 23) * R))) (fun q _ => R0 + 1 - (intOf q).toNat)
        case atStart => exact ⟨0,by omega,rfl,by ((with_reducible apply Sat.fin hs);(with_reducible exact Ql))⟩
        case round =>
          obtain ⟨r,kr,rfl,hs⟩ := hrel
          by_cases hr : r = R0
          · have hlr : decide ((r : Int) < C.R) = false := by have := hR0.out;simp;omega
            clear hr kr
            (repeat' (first | (go_big_may;((with_reducible apply wl_ld hs);infer_instance;rfl;(focus with_reducible (repeat first | exact Qh | apply Qk);done);rfl;rfl;(simp only [Uc,Uz]))) | go_step))
            go_roundw
            case rel => exact ⟨n + 1,y2,(by have := hnL.out;omega),by simp,hPI,hR.out _ (by ((with_reducible apply Sat.fin hs);(with_reducible exact Ql)))⟩
            case measure => have := hnL.out;simp [intOf];omega
          · have hlr : decide ((r : Int) < C.R) = true := by have := hR0.out;simp;omega
            have hrR : r < R0 := by omega
            obtain ⟨li,hx,hxl⟩ : ∃ li : List Int,y2.s.1.lists[r]? = some li ∧ li.length < 1000000 := by
              have h1 := hR0.out
              obtain ⟨e1,e2,_⟩ := hPI.out.1.core.lget (r := (r : Int)) (by omega) (by omega)
              have h2 := hnL.out
              exact ⟨_,e1,by omega⟩
            have hLs := Lib.hid (haz_list g ba y2.s.1 r li hx (by omega))
            have hI := Lib.hid (fun u v => law_ints li u v (by omega))
            have hr16 : r < 16 := by have h1 := hR0.out;have h2 := hok.R2;omega
            have hrR := Lib.hid hrR
            clear hx hr kr
            (repeat' (first | (go_big_may;(first | ((show wpList _ _ _ (Oper.mk (some 153) _ _ _ _ _ :: _) _ _);(replace hs := sl_nil (E := 3) (sz := 1) hs (by omega));((with_reducible apply wl_app hs);infer_instance;infer_instance;rfl;rfl;(with_reducible exact Qh);(with_reducible exact Qh);(simp only [Wm,Ws,Wa,Wc,Wn,Wr] at *;omega);(exact Vb rfl);rfl;clear hs;intro w v hs;(simp only [Uc,Uz]));(obtain ⟨b2,n2,rfl⟩ := sl_len (hs.pull (A := sl _ _ _ v) (by (with_reducible exact Qh))));(simp only [List.nil_append,List.length_map] at hs ⊢)) | (go_at_call 42;((refine (hLs.out).at hs (by (focus with_reducible (repeat first | exact Qh | apply Qk);done)) ?_);clear hs;intro v w hs;(try simp only [emp_mul,mul_assoc'] at hs));(first | ((fail_if_success (have _t := b1));(obtain ⟨b1,n1,rfl⟩ := sl_len (hs.pull (A := sl 3 1 _ v) (by (with_reducible exact Qh))))) | (obtain ⟨b3,n3,rfl⟩ := sl_len (hs.pull (A := sl 3 1 _ v) (by (with_reducible exact Qh)))));(simp only [List.length_map] at hs ⊢)) | ((with_reducible apply wl_ld hs);infer_instance;rfl;(focus with_reducible (repeat first | exact Qh | apply Qk);done);rfl;rfl;(simp only [Uc,Uz])))) | go_step))
            go_loopw [22] (fun q wr => ∃ (k : Nat) (ls : List Int),k ≤ li.length ∧ q = .int .i64 (k : Int) ∧ Hid (ls.length = li.length) ∧ Sat O wr (sl 3 1 (ls.map eI) (.slice b1 li.length n1) * (sl 3 1 (li.map eI) (.slice b2 li.length n2) * (sl 3 1 (li.map eI) (.slice b3 li.length n3) * (HazR g ba y2.s.1 * (pt bC (.cells #[.int .i64 C.T,.int .i64 C.R,.int .i64 C.Hz,.int .i64 C.Rt,.int .i64 C.Ca,.int .i64 C.Sl,.int .i64 C.Bu] 23) * R)))))) (fun q _ => li.length + 1 - (intOf q).toNat)
            case atStart => exact ⟨0,li,by omega,rfl,Lib.hid rfl,by ((with_reducible apply Sat.fin hs);(focus with_reducible (repeat first | exact Ql | exact Qh | apply Qb | apply Qk);done))⟩
            case round =>
              obtain ⟨k,ls,kk,rfl,hls,hs⟩ := hrel
              by_cases hk : k = li.length
              · replace hk := hk.symm
                subst hk
                have hll := hls.out
                have hlk : decide ((li.length : Int) < (ls.length : Int)) = false := by simp;omega
                have hlk1 : decide (li.length < ls.length) = false := by simp;omega
                have hlk2 : decide ((li.length : Int) < ((ls.map eI).length : Int)) = false := by simp;omega
                clear hll
                have hap : (ls.map eI).length + ([[Value.int .i64 1001]] : List (List Value)).length ≤ 4294967296 := by simp;have := hls.out;omega
                (repeat' (first | (go_big_may;(first | ((with_reducible apply wl_len hs);infer_instance;rfl;(with_reducible exact Qh);rfl;(simp only [Uc,Uz])) | ((with_reducible apply wl_bs hs);infer_instance;infer_instance;rfl;rfl;rfl;rfl;(exact Vb rfl);rfl;clear hs;intro w v hs;(simp only [Uc,Uz])) | ((with_reducible apply wl_app hs);infer_instance;infer_instance;rfl;rfl;(focus with_reducible (repeat first | exact Qh | apply Qk);done);(with_reducible exact Qh);(assumption);(exact Vb rfl);rfl;clear hs;intro w v hs;(simp only [Uc,Uz])))) | go_step))
                go_loopw [23,24] (fun v q wr => ∃ (k : Nat) (gs : List (List Value)),k ≤ 20 ∧ q = .int .i64 (k : Int) ∧ Hid (gs.length = li.length + 1 + k) ∧ Sat O wr (sl 3 1 gs v * (sl 3 1 (li.map eI) (.slice b2 li.length n2) * (sl 3 1 (li.map eI) (.slice b3 li.length n3) * (HazR g ba y2.s.1 * (pt bC (.cells #[.int .i64 C.T,.int .i64 C.R,.int .i64 C.Hz,.int .i64 C.Rt,.int .i64 C.Ca,.int .i64 C.Sl,.int .i64 C.Bu] 23) * R)))))) (fun _ q _ => 21 - (intOf q).toNat)
                case atStart => exact ⟨0,ls.map eI ++ [[Value.int .i64 1001]],by omega,rfl,Lib.hid (by have := hls.out;simp;omega),by ((with_reducible apply Sat.fin hs);(focus with_reducible (repeat first | exact Ql | exact Qh | apply Qb | apply Qk);done))⟩
                case round =>
                  obtain ⟨k,gs,kk,rfl,hgs,hs⟩ := hrel
                  by_cases hk : k = 20
                  · subst hk
                    (repeat' (first | ((with_reducible apply wl_pick);((simp only [ev,List.getElem?_cons_succ,List.getElem?_cons_zero]);rfl);((simp only [cond_true,cond_false,ev,List.getElem?_cons_succ,List.getElem?_cons_zero]);rfl);(with_reducible exact want_none);(simp only [Uc,Uz])) | (go_big_may;(first | (go_at_call 43;((refine ((hI.out _ _)).at hs (by (focus with_reducible (repeat first | exact Qh | apply Qb | apply Qk);done)) ?_);clear hs;intro w hs;(try simp only [emp_mul,mul_assoc'] at hs))) | (go_at_call 42;((refine (hLs.out).at hs (by (focus with_reducible (repeat first | exact Qh | apply Qk);done)) ?_);clear hs;intro v w hs;(try simp only [emp_mul,mul_assoc'] at hs));(obtain ⟨b4,n4,rfl⟩ := sl_len (hs.pull (A := sl 3 1 _ v) (by (with_reducible exact Qh))));(simp only [List.length_map] at hs ⊢)))) | go_guarded | go_step | (dsimp only)))
                    go_roundw
                    case rel => exact ⟨r + 1,(by have := hrR.out;omega),by simp,by ((with_reducible apply Sat.fin hs);(focus with_reducible (repeat first | exact Ql | exact Qh | apply Qb | apply Qk);done))⟩
                    case measure => have := hrR.out;simp [intOf];omega
                  · have hlk : decide ((k : Int) < 20) = true := by simp;omega
                    have hap : gs.length + ([[Value.int .i64 1002]] : List (List Value)).length ≤ 4294967296 := by simp;have := hgs.out;omega
                    have hk2 := Lib.hid (show k < 20 by omega)
                    have hnew := Lib.hid (show (gs ++ [[Value.int .i64 1002]]).length = li.length + 1 + (k + 1) by simp;have := hgs.out;omega)
                    clear hk
                    (repeat' (first | (go_big_may;(first | ((with_reducible apply wl_bs hs);infer_instance;infer_instance;rfl;rfl;rfl;rfl;(exact Vb rfl);rfl;clear hs;intro w v hs;(simp only [Uc,Uz])) | ((with_reducible apply wl_app hs);infer_instance;infer_instance;rfl;rfl;(focus with_reducible (repeat first | exact Qh | apply Qk);done);(with_reducible exact Qh);(assumption);(exact Vb rfl);rfl;clear hs;intro w v hs;(simp only [Uc,Uz])))) | go_step))
                    go_roundw
                    case rel => exact ⟨k + 1,_,(by have := hk2.out;omega),by simp,hnew,by ((with_reducible apply Sat.fin hs);(focus with_reducible (repeat first | exact Ql | exact Qh | apply Qb | apply Qk);done))⟩
                    case measure => have := hk2.out;simp [intOf];omega
              · have hlk : decide ((k : Int) < (li.length : Int)) = true := by simp;omega
                have hlk2 : decide (k < li.length) = true := by simp;omega
                have hll := hls.out
                have hlk4 : decide ((k : Int) < (ls.length : Int)) = true := by simp;omega
                have hlk5 : decide (k < ls.length) = true := by simp;omega
                have hlk6 : decide ((k : Int) < ((ls.map eI).length : Int)) = true := by simp;omega
                clear hll
                have hlk3 : k < (ls.map eI).length := by rw [List.length_map,hls.out];omega
                obtain ⟨z,hz⟩ : ∃ z,ls[k]? = some z := ⟨_,List.getElem?_eq_getElem (by have := hls.out;omega)⟩
                have hgz : (ls.map eI)[k]? = some (eI z) := by rw [List.getElem?_map,hz];rfl
                have hnew := Lib.hid (show (ls.set k (-7 - (k : Int))).length = li.length by rw [List.length_set];exact hls.out)
                have hkL := Lib.hid (show k < li.length by omega)
                clear hz hk hls
                (repeat' (first | (go_big_may;(first | ((with_reducible apply wl_stS0 hs);infer_instance;rfl;rfl;assumption;(with_reducible exact Qh);rfl;(assumption);(exact Vb rfl);(rfl);rfl;clear hs;intro w hs) | ((with_reducible apply wl_ia hs);infer_instance;infer_instance;rfl;rfl;(with_reducible exact Qh);(rfl);(assumption);rfl;intro b off hat;(simp only [Uc,Uz])) | ((with_reducible apply wl_len hs);infer_instance;rfl;(with_reducible exact Qh);rfl;(simp only [Uc,Uz])))) | go_step))
                go_roundw
                case rel => exact ⟨k + 1,ls.set k (-7 - (k : Int)),(by have := hkL.out;omega),by simp,hnew,by rw [List.map_set];((with_reducible apply Sat.fin hs);(focus ((repeat (first | with_reducible exact Ql | with_reducible apply Qb | exact Qh));done)))⟩
                case measure => have := hkL.out;simp [intOf];omega
end Go.Proofs.YtegafhhdegnigaaGreat
