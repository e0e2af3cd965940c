/-
  The reference's check of a configuration.
-/
import Derived.Test.YtegafhhdegnigaaGreatDAddr2
import Derived.BigQuiet
import Derived.Test.YtegafhhdegnigaaGreatDOw7
import Derived.Test.YtegafhhdegnigaaGreatDSame
import Derived.Test.YtegafhhdegnigaaGreatDCen4
import Derived.Test.YtegafhhdegnigaaGreatDCen6
set_option linter.all false
section
namespace Go.Proofs.YtegafhhdegnigaaGreat
open Go.RowKit Hp
set_option maxHeartbeats 1000000 in
set_option maxRecDepth 100000 in
theorem config_yes (T R Hz Rt Ca Sl Bu : Int) (h : CfgOk T R Hz Rt Ca Sl Bu) :
  Gives Tryz.prog 87 #[.agg (cfgV T R Hz Rt Ca Sl Bu)] emp (.bool true) emp := by
 intro O w F hs
 obtain ⟨⟨a1,a2⟩,⟨b1,b2⟩,⟨c1,c2⟩,⟨d1,d2⟩,⟨e1,e2⟩,⟨f1,f2⟩,⟨g1,g2⟩⟩ := h
 go_enter Tryz.func87,Tryz.ntmps87
 simp only [List.append]
 go_wp2_with (first|((with_reducible apply wl_ld hs);infer_instance;rfl;(repeat (exact Qh));rfl;rfl;simp only [Uc,Uz])|((with_reducible apply wl_box hs);rfl;rfl;rfl;clear hs;intro w b hs;simp only [Uc,Uz]))
 go_ret
 exact ⟨rfl,hs.right⟩
set_option maxHeartbeats 4000000 in
set_option maxRecDepth 100000 in
theorem config_no (T R Hz Rt Ca Sl Bu : Int) (h : ¬ CfgOk T R Hz Rt Ca Sl Bu) :
  Gives Tryz.prog 87 #[.agg (cfgV T R Hz Rt Ca Sl Bu)] emp (.bool false) emp := by
 intro O w F hs
 by_cases g0 : 1 ≤ T
 case neg =>
  clear h
  have hd : decide (1 ≤ T) = false := by simpa using g0
  clear g0
  go_enter Tryz.func87,Tryz.ntmps87
  simp only [List.append]
  go_wp2_with (first|((with_reducible apply wl_ld hs);infer_instance;rfl;(repeat (exact Qh));rfl;rfl;simp only [Uc,Uz])|((with_reducible apply wl_box hs);rfl;rfl;rfl;clear hs;intro w b hs;simp only [Uc,Uz]))
  go_ret
  exact ⟨rfl,hs.right⟩
 by_cases g1 : T ≤ 16
 case neg =>
  clear h
  have hd : decide (T ≤ 16) = false := by simpa using g1
  clear g1
  go_enter Tryz.func87,Tryz.ntmps87
  simp only [List.append]
  go_wp2_with (first|((with_reducible apply wl_ld hs);infer_instance;rfl;(repeat (exact Qh));rfl;rfl;simp only [Uc,Uz])|((with_reducible apply wl_box hs);rfl;rfl;rfl;clear hs;intro w b hs;simp only [Uc,Uz]))
  go_ret
  exact ⟨rfl,hs.right⟩
 by_cases g2 : 1 ≤ R
 case neg =>
  clear h
  have hd : decide (1 ≤ R) = false := by simpa using g2
  clear g2
  go_enter Tryz.func87,Tryz.ntmps87
  simp only [List.append]
  go_wp2_with (first|((with_reducible apply wl_ld hs);infer_instance;rfl;(repeat (exact Qh));rfl;rfl;simp only [Uc,Uz])|((with_reducible apply wl_box hs);rfl;rfl;rfl;clear hs;intro w b hs;simp only [Uc,Uz]))
  go_ret
  exact ⟨rfl,hs.right⟩
 by_cases g3 : R ≤ 16
 case neg =>
  clear h
  have hd : decide (R ≤ 16) = false := by simpa using g3
  clear g3
  go_enter Tryz.func87,Tryz.ntmps87
  simp only [List.append]
  go_wp2_with (first|((with_reducible apply wl_ld hs);infer_instance;rfl;(repeat (exact Qh));rfl;rfl;simp only [Uc,Uz])|((with_reducible apply wl_box hs);rfl;rfl;rfl;clear hs;intro w b hs;simp only [Uc,Uz]))
  go_ret
  exact ⟨rfl,hs.right⟩
 by_cases g4 : 3 ≤ Hz
 case neg =>
  clear h
  have hd : decide (3 ≤ Hz) = false := by simpa using g4
  clear g4
  go_enter Tryz.func87,Tryz.ntmps87
  simp only [List.append]
  go_wp2_with (first|((with_reducible apply wl_ld hs);infer_instance;rfl;(repeat (exact Qh));rfl;rfl;simp only [Uc,Uz])|((with_reducible apply wl_box hs);rfl;rfl;rfl;clear hs;intro w b hs;simp only [Uc,Uz]))
  go_ret
  exact ⟨rfl,hs.right⟩
 by_cases g5 : Hz ≤ 8
 case neg =>
  clear h
  have hd : decide (Hz ≤ 8) = false := by simpa using g5
  clear g5
  go_enter Tryz.func87,Tryz.ntmps87
  simp only [List.append]
  go_wp2_with (first|((with_reducible apply wl_ld hs);infer_instance;rfl;(repeat (exact Qh));rfl;rfl;simp only [Uc,Uz])|((with_reducible apply wl_box hs);rfl;rfl;rfl;clear hs;intro w b hs;simp only [Uc,Uz]))
  go_ret
  exact ⟨rfl,hs.right⟩
 by_cases g6 : 1 ≤ Rt
 case neg =>
  clear h
  have hd : decide (1 ≤ Rt) = false := by simpa using g6
  clear g6
  go_enter Tryz.func87,Tryz.ntmps87
  simp only [List.append]
  go_wp2_with (first|((with_reducible apply wl_ld hs);infer_instance;rfl;(repeat (exact Qh));rfl;rfl;simp only [Uc,Uz])|((with_reducible apply wl_box hs);rfl;rfl;rfl;clear hs;intro w b hs;simp only [Uc,Uz]))
  go_ret
  exact ⟨rfl,hs.right⟩
 by_cases g7 : Rt ≤ 1024
 case neg =>
  clear h
  have hd : decide (Rt ≤ 1024) = false := by simpa using g7
  clear g7
  go_enter Tryz.func87,Tryz.ntmps87
  simp only [List.append]
  go_wp2_with (first|((with_reducible apply wl_ld hs);infer_instance;rfl;(repeat (exact Qh));rfl;rfl;simp only [Uc,Uz])|((with_reducible apply wl_box hs);rfl;rfl;rfl;clear hs;intro w b hs;simp only [Uc,Uz]))
  go_ret
  exact ⟨rfl,hs.right⟩
 by_cases g8 : 0 ≤ Ca
 case neg =>
  clear h
  have hd : decide (0 ≤ Ca) = false := by simpa using g8
  clear g8
  go_enter Tryz.func87,Tryz.ntmps87
  simp only [List.append]
  go_wp2_with (first|((with_reducible apply wl_ld hs);infer_instance;rfl;(repeat (exact Qh));rfl;rfl;simp only [Uc,Uz])|((with_reducible apply wl_box hs);rfl;rfl;rfl;clear hs;intro w b hs;simp only [Uc,Uz]))
  go_ret
  exact ⟨rfl,hs.right⟩
 by_cases g9 : Ca ≤ 64
 case neg =>
  clear h
  have hd : decide (Ca ≤ 64) = false := by simpa using g9
  clear g9
  go_enter Tryz.func87,Tryz.ntmps87
  simp only [List.append]
  go_wp2_with (first|((with_reducible apply wl_ld hs);infer_instance;rfl;(repeat (exact Qh));rfl;rfl;simp only [Uc,Uz])|((with_reducible apply wl_box hs);rfl;rfl;rfl;clear hs;intro w b hs;simp only [Uc,Uz]))
  go_ret
  exact ⟨rfl,hs.right⟩
 by_cases g10 : 1 ≤ Sl
 case neg =>
  clear h
  have hd : decide (1 ≤ Sl) = false := by simpa using g10
  clear g10
  go_enter Tryz.func87,Tryz.ntmps87
  simp only [List.append]
  go_wp2_with (first|((with_reducible apply wl_ld hs);infer_instance;rfl;(repeat (exact Qh));rfl;rfl;simp only [Uc,Uz])|((with_reducible apply wl_box hs);rfl;rfl;rfl;clear hs;intro w b hs;simp only [Uc,Uz]))
  go_ret
  exact ⟨rfl,hs.right⟩
 by_cases g11 : Sl ≤ 1024
 case neg =>
  clear h
  have hd : decide (Sl ≤ 1024) = false := by simpa using g11
  clear g11
  go_enter Tryz.func87,Tryz.ntmps87
  simp only [List.append]
  go_wp2_with (first|((with_reducible apply wl_ld hs);infer_instance;rfl;(repeat (exact Qh));rfl;rfl;simp only [Uc,Uz])|((with_reducible apply wl_box hs);rfl;rfl;rfl;clear hs;intro w b hs;simp only [Uc,Uz]))
  go_ret
  exact ⟨rfl,hs.right⟩
 by_cases g12 : 1 ≤ Bu
 case neg =>
  clear h
  have hd : decide (1 ≤ Bu) = false := by simpa using g12
  clear g12
  go_enter Tryz.func87,Tryz.ntmps87
  simp only [List.append]
  go_wp2_with (first|((with_reducible apply wl_ld hs);infer_instance;rfl;(repeat (exact Qh));rfl;rfl;simp only [Uc,Uz])|((with_reducible apply wl_box hs);rfl;rfl;rfl;clear hs;intro w b hs;simp only [Uc,Uz]))
  go_ret
  exact ⟨rfl,hs.right⟩
 by_cases g13 : Bu ≤ 64
 case neg =>
  clear h
  have hd : decide (Bu ≤ 64) = false := by simpa using g13
  clear g13
  go_enter Tryz.func87,Tryz.ntmps87
  simp only [List.append]
  go_wp2_with (first|((with_reducible apply wl_ld hs);infer_instance;rfl;(repeat (exact Qh));rfl;rfl;simp only [Uc,Uz])|((with_reducible apply wl_box hs);rfl;rfl;rfl;clear hs;intro w b hs;simp only [Uc,Uz]))
  go_ret
  exact ⟨rfl,hs.right⟩
 exact absurd ⟨⟨g0,g1⟩,⟨g2,g3⟩,⟨g4,g5⟩,⟨g6,g7⟩,⟨g8,g9⟩,⟨g10,g11⟩,⟨g12,g13⟩⟩ h
theorem ref_conf (c : Cfg) (h : c.Ok) : Gives Tryz.prog 87 #[c.v] emp (.bool true) emp := config_yes c.T c.R c.Hz c.Rt c.Ca c.Sl c.Bu (c.ok_iff.1 h)
theorem ref_conf_no (c : Cfg) (h : ¬ c.Ok) : Gives Tryz.prog 87 #[c.v] emp (.bool false) emp := config_no c.T c.R c.Hz c.Rt c.Ca c.Sl c.Bu (fun k => h (c.ok_iff.2 k))
end Go.Proofs.YtegafhhdegnigaaGreat
end
/-
  The examples end as the document tells.
-/
section
namespace Go.Proofs.YtegafhhdegnigaaGreat
open Go.RowKit Hp
set_option maxRecDepth 100000
set_option maxHeartbeats 1000000
attribute [local irreducible] Go.Calls
theorem law_small : Gives Tryz.prog 68 #[] emp smallC.v emp := by
 intro O w F hs
 go_enter Tryz.func68,Tryz.ntmps68
 go_wp2_with (first|((with_reducible apply wl_stF hs);infer_instance;rfl;rfl;(with_reducible exact Qh);rfl;rfl;rfl;rfl;clear hs;intro w hs)|((with_reducible apply wl_alloc hs);infer_instance;rfl;clear hs;intro w b hs;(simp only [Uc,Uz])))
 ((try simp only [Exit.inBlock,Exit.then]);(with_reducible apply bodyPost_ret);((with_reducible apply results_c);rfl;rfl;(with_reducible apply loadF hs);infer_instance;(with_reducible exact Qh);rfl;rfl))
 exact ⟨rfl,by ((with_reducible apply Sat.fin hs);(focus with_reducible (repeat first|exact Ql|exact Qn|apply Qb|apply Qk);done))⟩
theorem law_steps (v : Value) (ms : List Mv) (t : Int) (n : Nat) (hn : n ≤ 65536) (hl : ms.length ≤ 1000000) :
  Does Tryz.prog 32 #[v,.int .i64 t,.int .i64 (n : Int)] (sl 86 4 (ms.map Mv.e) v) (fun u => sl 86 4 ((ms ++ stepsM t n).map Mv.e) u) := by
 intro O w F hs
 go_enter Tryz.func32,Tryz.ntmps32
 go_wp2_with (fail)
 go_loopw [0,7] (fun u q wr => ∃ k : Nat,k ≤ n ∧ q = .int .i64 (k : Int) ∧ Sat O wr (sl 86 4 ((ms ++ stepsM t k).map Mv.e) u * F)) (fun _ q _ => 65537 - (intOf q).toNat)
 case atStart => exact ⟨0,by omega,rfl,by simp only [stepsM,List.replicate_zero,List.append_nil];exact hs⟩
 case round =>
  obtain ⟨k,k1,rfl,hs⟩ := hrel
  by_cases hkr : k = n
  ·subst hkr
   have hlt : decide ((k : Int) < (k : Int)) = false := by simp
   go_wp2_with (fail)
   (go_ret)
   exact ⟨_,rfl,by ((with_reducible apply Sat.fin hs);(focus ((repeat (first|with_reducible exact Ql|with_reducible apply Qb|exact Qh));done)))⟩
  ·have hlt : decide ((k : Int) < (n : Int)) = true := by simp;omega
   have hlt2 : decide (k < n) = true := by simp;omega
   go_wp2_with (first|((with_reducible apply wl_bs hs);infer_instance;infer_instance;rfl;rfl;rfl;rfl;(exact Vb rfl);rfl;clear hs;intro w v hs;(simp only [Uc,Uz]))|((with_reducible apply wl_app hs);infer_instance;infer_instance;rfl;rfl;(focus with_reducible (repeat first|exact Qh|apply Qk);done);(with_reducible exact Qh);(simp only [Wm,Ws,Wa,Wc,Wn,Wr] at *;omega);(exact Vb rfl);rfl;clear hs;intro w v hs;(simp only [Uc,Uz])))
   have e : (ms ++ stepsM t (k + 1)).map Mv.e = (ms ++ stepsM t k).map Mv.e ++ [[.int .i64 t,.int .i64 0,.int .i64 0,.int .i64 0]] := by
    simp only [stepsM,List.replicate_succ',List.map_append,List.map_cons,List.map_nil,List.append_assoc]
   go_roundw
   case rel => exact ⟨k + 1,by omega,by simp,by rw [e];((with_reducible apply Sat.fin hs);(focus with_reducible (repeat first|exact Ql|exact Qh|apply Qb|apply Qk);done))⟩
   case measure => simp [intOf];omega
end Go.Proofs.YtegafhhdegnigaaGreat
end
/-
  The examples end as the document tells: the walk.
-/
section
namespace Go.Proofs.YtegafhhdegnigaaGreat
open Go.RowKit Hp
set_option maxRecDepth 100000
set_option maxHeartbeats 1000000
attribute [local irreducible] Go.Calls
theorem smallOk : smallC.Ok := by constructor <;> decide
theorem aw_facts {y : HW} (h : awOk y = true) : y.m.calls.length = 5 ∧ y.m.shifts.length = 6 ∧ y.m.mem.log.length = 28 ∧
  (∃ a1 a2 a3 a4 a5 a6 a7,y.m.calls[3]? = some ⟨a1,a2,a3,a4,a5,a6,a7,2,5⟩) ∧ (∃ b1 b2 b3 b4 b5 b7 b8 b9,y.m.calls[4]? = some ⟨b1,b2,b3,b4,b5,32,b7,b8,b9⟩) ∧
  ∃ d1 d2 d4,y.m.shifts[5]? = some ⟨d1,d2,0,d4,5⟩ := by
 unfold awOk at h
 simp only [Bool.and_eq_true,decide_eq_true_eq] at h
 obtain ⟨⟨⟨⟨⟨h1,h2⟩,h3⟩,h4⟩,h5⟩,h6⟩ := h
 refine ⟨h1,h2,h3,?_,?_,?_⟩
 ·split at h4
  ·rename_i c hc
   obtain ⟨a1,a2,a3,a4,a5,a6,a7,a8,a9⟩ := c
   simp only [Bool.and_eq_true,decide_eq_true_eq] at h4
   obtain ⟨rfl,rfl⟩ := h4
   exact ⟨_,_,_,_,_,_,_,hc⟩
  ·cases h4
 ·split at h5
  ·rename_i c hc
   obtain ⟨a1,a2,a3,a4,a5,a6,a7,a8,a9⟩ := c
   simp only [decide_eq_true_eq] at h5
   subst h5
   exact ⟨_,_,_,_,_,_,_,_,hc⟩
  ·cases h5
 ·split at h6
  ·rename_i c hc
   obtain ⟨a1,a2,a3,a4,a5⟩ := c
   simp only [Bool.and_eq_true,decide_eq_true_eq] at h6
   obtain ⟨rfl,rfl⟩ := h6
   exact ⟨_,_,_,hc⟩
  ·cases h6
abbrev aw1 : List Mv := [⟨0,20,0,0⟩]
abbrev aw2 : List Mv := (aw1 ++ stepsM 0 2) ++ [⟨0,22,5,0⟩]
abbrev aw3 : List Mv := (aw2 ++ stepsM 0 6) ++ [⟨1,20,0,0⟩]
abbrev aw4 : List Mv := (aw3 ++ stepsM 1 3) ++ [⟨1,23,0,0⟩]
abbrev aw5 : List Mv := (aw4 ++ stepsM 1 4) ++ [⟨0,22,6,0⟩]
set_option maxHeartbeats 4000000 in
theorem law_awake : Gives Tryz.prog 19 #[] emp (.bool true) emp := by
 intro O w F hs
 have hS := Lib.hid law_small
 have h1 := Lib.hid (fun v => law_steps v aw1 0 2 (by omega) (by decide))
 have h2 := Lib.hid (fun v => law_steps v aw2 0 6 (by omega) (by decide))
 have h3 := Lib.hid (fun v => law_steps v aw3 1 3 (by omega) (by decide))
 have h4 := Lib.hid (fun v => law_steps v aw4 1 4 (by omega) (by decide))
 have h5 := Lib.hid (fun v => law_steps v aw5 0 13 (by omega) (by decide))
 have hP := Lib.hid (fun v => haz_play_run smallC smallOk v (aw5 ++ stepsM 0 13) (by decide))
 obtain ⟨l1,l2,l3,⟨a1,a2,a3,a4,a5,a6,a7,g3⟩,⟨b1,b2,b3,b4,b5,b7,b8,b9,g4⟩,d1,d2,d4,g5⟩ := aw_facts (show awOk (runE smallC (aw5 ++ stepsM 0 13)) = true from aw_ok)
 generalize hyy : runE smallC (aw5 ++ stepsM 0 13) = y at l1 l2 l3 g3 g4 g5
 have hyy := Lib.hid hyy
 have lM : (List.map Mv.e (aw5 ++ stepsM 0 13)).length = 33 := rfl
 have i3 : 3 < (y.m.calls.map Cll.e).length := by simp [l1]
 have i4 : 4 < (y.m.calls.map Cll.e).length := by simp [l1]
 have i5 : 5 < (y.m.shifts.map Shf.e).length := by simp [l2]
 go_enter Tryz.func19,Tryz.ntmps19
 go_wp2_with (first|(first|((with_reducible apply wl_ld hs);infer_instance;rfl;(focus with_reducible (repeat first|exact Qh|apply Qk);done);rfl;rfl;(simp only [Uc,Uz]))|((with_reducible apply wl_stF hs);infer_instance;rfl;rfl;(with_reducible exact Qh);rfl;rfl;rfl;rfl;clear hs;intro w hs)|((with_reducible apply wl_alloc hs);infer_instance;rfl;clear hs;intro w b hs;(simp only [Uc,Uz]))|((with_reducible apply wl_ia2 hs);infer_instance;infer_instance;rfl;assumption;rfl;(focus with_reducible (repeat first|exact Qh|apply Qk);done);(rfl);(assumption);rfl;(simp only [Uc,Uz]))|((with_reducible apply wl_ia hs);infer_instance;infer_instance;rfl;rfl;(focus with_reducible (repeat first|exact Qh|apply Qk);done);(rfl);(assumption);rfl;intro b off hat;(simp only [Uc,Uz]))|((with_reducible apply wl_len hs);infer_instance;rfl;(focus with_reducible (repeat first|exact Qh|apply Qk);done);rfl;(simp only [Uc,Uz]))|((with_reducible apply wl_bs hs);infer_instance;infer_instance;rfl;rfl;rfl;rfl;(exact Vb rfl);rfl;clear hs;intro w v hs;(simp only [Uc,Uz]))|((with_reducible apply wl_app hs);infer_instance;infer_instance;rfl;rfl;(focus with_reducible (repeat first|exact Qh|apply Qk);done);(with_reducible exact Qh);(simp only [Wm,Ws,Wa,Wc,Wn,Wr] at *;omega);(exact Vb rfl);rfl;clear hs;intro w v hs;(simp only [Uc,Uz])))|((with_reducible apply wl_ldN hs);infer_instance;rfl;(focus with_reducible (repeat first|exact Qh|apply Qk);done);(simp only [List.size_toArray,List.length_cons,List.length_nil];omega);rfl;rfl;(simp only [Uc,Uz]))|((with_reducible apply wl_ldSN (i := 3) (k := 0) (c' := [.int .i64 a1,.int .i64 a2,.int .i64 a3,.int .i64 a4,.int .i64 a5,.int .i64 a6,.int .i64 a7,.int .i64 2,.int .i64 5]) hs);infer_instance;rfl;assumption;(focus with_reducible (repeat first|exact Qh|apply Qk);done);rfl;(exact map_get (by assumption));(exact Vb rfl);rfl;rfl;(simp only [Uc,Uz]))|((with_reducible apply wl_ldS (i := 4) (k := 5) hs);infer_instance;rfl;assumption;(focus with_reducible (repeat first|exact Qh|apply Qk);done);rfl;(exact map_get (by assumption));rfl;rfl;(simp only [Uc,Uz]))|((with_reducible apply wl_ldS (i := 5) (k := 4) hs);infer_instance;rfl;assumption;(focus with_reducible (repeat first|exact Qh|apply Qk);done);rfl;(exact map_get (by assumption));rfl;rfl;(simp only [Uc,Uz]))|((with_reducible apply wl_ldS (i := 5) (k := 2) hs);infer_instance;rfl;assumption;(focus with_reducible (repeat first|exact Qh|apply Qk);done);rfl;(exact map_get (by assumption));rfl;rfl;(simp only [Uc,Uz]))|(go_at_call 68;((refine (hS.out).at hs (by (focus ((repeat (with_reducible exact Qn));done))) ?_);clear hs;intro w hs;(try simp only [emp_mul,mul_assoc'] at hs)))|(go_at_call 32;((refine ((h1.out _)).at hs (by (focus ((repeat (first|exact Qh|with_reducible apply Qk));done))) ?_);clear hs;intro v w hs;(try simp only [emp_mul,mul_assoc'] at hs)))|(go_at_call 32;((refine ((h2.out _)).at hs (by (focus ((repeat (first|exact Qh|with_reducible apply Qk));done))) ?_);clear hs;intro v w hs;(try simp only [emp_mul,mul_assoc'] at hs)))|(go_at_call 32;((refine ((h3.out _)).at hs (by (focus ((repeat (first|exact Qh|with_reducible apply Qk));done))) ?_);clear hs;intro v w hs;(try simp only [emp_mul,mul_assoc'] at hs)))|(go_at_call 32;((refine ((h4.out _)).at hs (by (focus ((repeat (first|exact Qh|with_reducible apply Qk));done))) ?_);clear hs;intro v w hs;(try simp only [emp_mul,mul_assoc'] at hs)))|(go_at_call 32;((refine ((h5.out _)).at hs (by (focus ((repeat (exact Qh));done))) ?_);clear hs;intro v w hs;(try simp only [emp_mul,mul_assoc'] at hs)))|(go_at_call 15;((refine ((hP.out _)).at hs (by (with_reducible exact Qh)) ?_);clear hs;intro v w hs;(try simp only [emp_mul,mul_assoc'] at hs));(unfold RunE RunR at hs);(simp only [sat_ex,mul_assoc',sat_pu,hyy.out] at hs);(obtain ⟨vr,rfl,vc,vt,vs,vw,rfl,hs⟩ := hs);(obtain ⟨_,_,rfl⟩ := sl_len (hs.pull (A := sl 50 9 _ vc) (by (with_reducible exact Qh))));(obtain ⟨_,_,rfl⟩ := sl_len (hs.pull (A := sl 138 7 _ vt) (by (focus with_reducible (repeat first|exact Qh|apply Qk);done))));(obtain ⟨_,_,rfl⟩ := sl_len (hs.pull (A := sl 127 5 _ vs) (by (focus with_reducible (repeat first|exact Qh|apply Qk);done))));(obtain ⟨_,_,rfl⟩ := sl_len (hs.pull (A := sl 57 1 _ vw) (by (focus with_reducible (repeat first|exact Qh|apply Qk);done))));(obtain ⟨_,_,rfl⟩ := sl_len (hs.pull (A := sl 86 4 _ v) (by (focus with_reducible (repeat first|exact Qh|apply Qk);done))));(simp only [List.length_map,l1,l2,l3,lM] at hs ⊢)))
 (go_ret)
 exact ⟨rfl,by ((with_reducible apply Sat.fin hs);(focus with_reducible (repeat first|exact Ql|exact Qn|apply Qb|apply Qk);done))⟩
end Go.Proofs.YtegafhhdegnigaaGreat
end
/-
  What a script is brought within.
-/
section
namespace Go.Proofs.YtegafhhdegnigaaGreat
open Go.RowKit Hp
set_option maxRecDepth 100000
set_option maxHeartbeats 1000000
attribute [local irreducible] Go.Calls
open Classical in
noncomputable def fitC (c : Cfg) : Cfg := if c.Ok then c else smallC
theorem fitC_ok (c : Cfg) : (fitC c).Ok := by
 unfold fitC
 split
 ·assumption
 ·exact smallOk
theorem fitM_len (mvs : List Mv) : (mvs.take 65536).length ≤ 65536 := by simp;omega
def fitR (c : Cfg) (mvs : List Mv) (A : SProp) (u : Value) : SProp := ex fun v => pu (u = .tuple #[(fitC c).v,v] ∧ Rd A 4 ((mvs.take 65536).map Mv.e) v) * A
theorem law_fit (c : Cfg) (mvs : List Mv) (v : Value) (A : SProp) (hRd : Rd A 4 (mvs.map Mv.e) v) :
  Does Tryz.prog 30 #[c.v,v] A (fitR c mvs A) := by
 intro O w F hs
 have hS := Lib.hid law_small
 obtain ⟨a0,c0,rfl⟩ := hRd.len
 have hRd' := hRd
 simp only [List.length_map] at hRd hs ⊢
 by_cases hl : 65536 < mvs.length
 ·have hR2 : Rd A 4 ((mvs.take 65536).map Mv.e) (.slice a0 65536 c0) := by
   rw [List.map_take]
   have := hRd'.resH (i := 65536) (by simp;omega)
   exact this
  have n1 : decide ((mvs.length : Int) > 65536) = true := by simp;omega
  have n2 : 65536 ≤ (mvs.map Mv.e).length := by simp;omega
  have hRd := Lib.hid hRd
  clear hRd'
  by_cases hok : c.Ok
  ·have hC := Lib.hid (ref_conf c hok)
   have e : fitC c = c := by unfold fitC;rw [if_pos hok]
   unfold fitR
   rw [e]
   go_enter Tryz.func30,Tryz.ntmps30
   go_wp2_with (first|(first|((with_reducible apply wl_ldF hs);infer_instance;rfl;(focus with_reducible (repeat first|exact Qh|apply Qk);done);rfl;rfl;(simp only [Uc,Uz]))|((with_reducible apply wl_stF hs);infer_instance;rfl;rfl;(with_reducible exact Qh);rfl;rfl;rfl;rfl;clear hs;intro w hs)|((with_reducible apply wl_alloc hs);infer_instance;rfl;clear hs;intro w b hs;(simp only [Uc,Uz]))|((with_reducible apply wl_box hs);rfl;rfl;rfl;clear hs;intro w b hs;(simp only [Uc,Uz])))|(go_at_call 87;((refine (hC.out).at hs (by (focus ((repeat (with_reducible exact Qn));done))) ?_);clear hs;intro w hs;(try simp only [emp_mul,mul_assoc'] at hs)))|((with_reducible apply rd_reH (i := 65536) hRd.out);infer_instance;infer_instance;rfl;rfl;rfl;assumption;rfl;(simp only [Uc,Uz])))
   ((try simp only [Exit.inBlock,Exit.then]);(with_reducible apply bodyPost_ret);((with_reducible apply results_ct);rfl;rfl;(with_reducible apply loadF hs);infer_instance;(with_reducible exact Qh);rfl;rfl))
   refine ⟨_,rfl,?_⟩
   simp only [sat_ex,mul_assoc',sat_pu]
   exact ⟨_,⟨rfl,hR2⟩,by ((with_reducible apply Sat.fin hs);(focus with_reducible (repeat first|exact Ql|exact Qh|apply Qb|apply Qk);done))⟩
  ·have hC := Lib.hid (ref_conf_no c hok)
   have e : fitC c = smallC := by unfold fitC;rw [if_neg hok]
   unfold fitR
   rw [e]
   go_enter Tryz.func30,Tryz.ntmps30
   go_wp2_with (first|(first|((with_reducible apply wl_ldF hs);infer_instance;rfl;(focus with_reducible (repeat first|exact Qh|apply Qk);done);rfl;rfl;(simp only [Uc,Uz]))|((with_reducible apply wl_stF hs);infer_instance;rfl;rfl;(focus with_reducible (repeat first|exact Qh|apply Qk);done);rfl;rfl;rfl;rfl;clear hs;intro w hs)|((with_reducible apply wl_alloc hs);infer_instance;rfl;clear hs;intro w b hs;(simp only [Uc,Uz]))|((with_reducible apply wl_box hs);rfl;rfl;rfl;clear hs;intro w b hs;(simp only [Uc,Uz])))|(go_at_call 68;((refine (hS.out).at hs (by (focus ((repeat (with_reducible exact Qn));done))) ?_);clear hs;intro w hs;(try simp only [emp_mul,mul_assoc'] at hs)))|(go_at_call 87;((refine (hC.out).at hs (by (focus ((repeat (with_reducible exact Qn));done))) ?_);clear hs;intro w hs;(try simp only [emp_mul,mul_assoc'] at hs)))|((with_reducible apply rd_reH (i := 65536) hRd.out);infer_instance;infer_instance;rfl;rfl;rfl;assumption;rfl;(simp only [Uc,Uz])))
   ((try simp only [Exit.inBlock,Exit.then]);(with_reducible apply bodyPost_ret);((with_reducible apply results_ct);rfl;rfl;(with_reducible apply loadF hs);infer_instance;(with_reducible exact Qh);rfl;rfl))
   refine ⟨_,rfl,?_⟩
   simp only [sat_ex,mul_assoc',sat_pu]
   exact ⟨_,⟨rfl,hR2⟩,by ((with_reducible apply Sat.fin hs);(focus with_reducible (repeat first|exact Ql|exact Qh|apply Qb|apply Qk);done))⟩
 ·have hR2 : Rd A 4 ((mvs.take 65536).map Mv.e) (.slice a0 mvs.length c0) := by
   rw [List.take_of_length_le (by omega)]
   exact hRd
  have n1 : decide ((mvs.length : Int) > 65536) = false := by simp;omega
  have hRd := Lib.hid hRd
  clear hRd'
  by_cases hok : c.Ok
  ·have hC := Lib.hid (ref_conf c hok)
   have e : fitC c = c := by unfold fitC;rw [if_pos hok]
   unfold fitR
   rw [e]
   go_enter Tryz.func30,Tryz.ntmps30
   go_wp2_with (first|(first|((with_reducible apply wl_ldF hs);infer_instance;rfl;(focus with_reducible (repeat first|exact Qh|apply Qk);done);rfl;rfl;(simp only [Uc,Uz]))|((with_reducible apply wl_stF hs);infer_instance;rfl;rfl;(with_reducible exact Qh);rfl;rfl;rfl;rfl;clear hs;intro w hs)|((with_reducible apply wl_alloc hs);infer_instance;rfl;clear hs;intro w b hs;(simp only [Uc,Uz]))|((with_reducible apply wl_box hs);rfl;rfl;rfl;clear hs;intro w b hs;(simp only [Uc,Uz])))|(go_at_call 87;((refine (hC.out).at hs (by (focus ((repeat (with_reducible exact Qn));done))) ?_);clear hs;intro w hs;(try simp only [emp_mul,mul_assoc'] at hs))))
   ((try simp only [Exit.inBlock,Exit.then]);(with_reducible apply bodyPost_ret);((with_reducible apply results_ct);rfl;rfl;(with_reducible apply loadF hs);infer_instance;(with_reducible exact Qh);rfl;rfl))
   refine ⟨_,rfl,?_⟩
   simp only [sat_ex,mul_assoc',sat_pu]
   exact ⟨_,⟨rfl,hR2⟩,by ((with_reducible apply Sat.fin hs);(focus with_reducible (repeat first|exact Ql|exact Qh|apply Qb|apply Qk);done))⟩
  ·have hC := Lib.hid (ref_conf_no c hok)
   have e : fitC c = smallC := by unfold fitC;rw [if_neg hok]
   unfold fitR
   rw [e]
   go_enter Tryz.func30,Tryz.ntmps30
   go_wp2_with (first|(first|((with_reducible apply wl_ldF hs);infer_instance;rfl;(focus with_reducible (repeat first|exact Qh|apply Qk);done);rfl;rfl;(simp only [Uc,Uz]))|((with_reducible apply wl_stF hs);infer_instance;rfl;rfl;(focus with_reducible (repeat first|exact Qh|apply Qk);done);rfl;rfl;rfl;rfl;clear hs;intro w hs)|((with_reducible apply wl_alloc hs);infer_instance;rfl;clear hs;intro w b hs;(simp only [Uc,Uz]))|((with_reducible apply wl_box hs);rfl;rfl;rfl;clear hs;intro w b hs;(simp only [Uc,Uz])))|(go_at_call 68;((refine (hS.out).at hs (by (focus ((repeat (with_reducible exact Qn));done))) ?_);clear hs;intro w hs;(try simp only [emp_mul,mul_assoc'] at hs)))|(go_at_call 87;((refine (hC.out).at hs (by (focus ((repeat (with_reducible exact Qn));done))) ?_);clear hs;intro w hs;(try simp only [emp_mul,mul_assoc'] at hs))))
   ((try simp only [Exit.inBlock,Exit.then]);(with_reducible apply bodyPost_ret);((with_reducible apply results_ct);rfl;rfl;(with_reducible apply loadF hs);infer_instance;(with_reducible exact Qh);rfl;rfl))
   refine ⟨_,rfl,?_⟩
   simp only [sat_ex,mul_assoc',sat_pu]
   exact ⟨_,⟨rfl,hR2⟩,by ((with_reducible apply Sat.fin hs);(focus with_reducible (repeat first|exact Ql|exact Qh|apply Qb|apply Qk);done))⟩
end Go.Proofs.YtegafhhdegnigaaGreat
end
/-
  The census: whether a run's parts go together; what the statements play.
-/
section
namespace Go.Proofs.YtegafhhdegnigaaGreat
open Go.RowKit Hp
set_option maxRecDepth 100000
set_option maxHeartbeats 8000000
attribute [local irreducible] Go.Calls Go.wpList
theorem runR_agg {O w : World} {F : SProp} {cs : List Cll} {lg : List Acc} {sh : List Shf} {ws : List Int} {v : Value} (hs : Sat O w (RunR cs lg sh ws v * F)) : ∃ v1 v2 v3 v4,v = .agg #[v1,v2,v3,v4] := by
 obtain ⟨_,_,_,_,_,_,_,_,e,_⟩ := runR_get hs
 exact ⟨_,_,_,_,e⟩
theorem runR_mk2 {O w : World} {S R : SProp} {cs : List Cll} {lg : List Acc} {sh : List Shf} {ws : List Int} (a1 : Option Addr) (k1 : Nat) (a2 : Option Addr) (k2 : Nat) (a3 : Option Addr) (k3 : Nat) (a4 : Option Addr) (k4 : Nat) (hs : Sat O w S)
  (h : Pull S (sl 50 9 (cs.map Cll.e) (.slice a1 cs.length k1) * (sl 138 7 (lg.map Acc.e) (.slice a2 lg.length k2) * (sl 127 5 (sh.map Shf.e) (.slice a3 sh.length k3) * sl 57 1 (ws.map eU) (.slice a4 ws.length k4)))) R) :
  Sat O w (RunR cs lg sh ws (.agg #[.slice a1 cs.length k1,.slice a2 lg.length k2,.slice a3 sh.length k3,.slice a4 ws.length k4]) * R) :=
 runR_mk ((hs.pull h).cast (by simp only [mul_assoc']))
def RunV (cs : List Cll) (lg : List Acc) (sh : List Shf) (ws : List Int) (u : Value) : SProp := ex fun v1 => ex fun v2 => ex fun v3 => ex fun v4 => pu (u = .tuple #[.agg #[v1,v2,v3,v4],.int .i64 0]) * RunR cs lg sh ws (.agg #[v1,v2,v3,v4])
theorem play_runV {c : Cfg} (h : c.Ok) {mvs : List Mv} (hl : mvs.length ≤ 65536) {y : HW} (B : Beh c mvs y) {A : SProp} (v : Value) (hRd : Rd A 4 (mvs.map Mv.e) v) :
  Does Tryz.prog 15 #[c.v,v] A (fun u => RunV y.m.calls y.m.mem.log y.m.shifts y.m.mem.words u * A) := by
 intro O w F hs
 refine (haz_play_runR c h v mvs hl A hRd O w F hs).mono ?_
 rintro e w' ⟨u,rfl,hs'⟩
 refine ⟨u,rfl,?_⟩
 unfold RunE at hs'
 unfold RunV
 simp only [sat_ex,mul_assoc',sat_pu] at hs' ⊢
 obtain ⟨v',rfl,hs'⟩ := hs'
 obtain ⟨v1,v2,v3,v4,rfl⟩ := runR_agg hs'
 rw [B.calls,B.log,B.shifts,B.words]
 exact ⟨v1,v2,v3,v4,rfl,hs'⟩
theorem Beh.lens {c : Cfg} {mvs : List Mv} {y : HW} (h : Beh c mvs y) (hl : mvs.length ≤ 65536) : RunLen y.m.calls y.m.mem.log y.m.shifts y.m.mem.words := by
 have h1 := h.pi.calls
 have h2 := h.pi.core.log
 have h3 := h.pi.core.shifts
 have h4 := h.pi.core.words
 have h5 := base14_le h.pi.core.ok
 exact ⟨by omega,by omega,by omega,by omega⟩
theorem cen_may {c : Cfg} (hok : c.Ok) {mvs : List Mv} (hl : mvs.length ≤ 65536) {y : HW} (B : Beh c mvs y) (u : Value) :
  Gives Tryz.prog 69 #[c.v,.int .i64 0,u] (RunR y.m.calls y.m.mem.log y.m.shifts y.m.mem.words u) (.bool true) (RunR y.m.calls y.m.mem.log y.m.shifts y.m.mem.words u) := by
 intro O w F hs
 have hL := B.lens hl
 have hC := Lib.hid (ref_conf c hok)
 have h1 := Lib.hid (fun v => cen_calls c hok y.m.calls v mvs.length (by omega) (by have := hL.l1;omega) B.ok.cl B.ok.bsort B.ok.ord B.ok.ends B.ok.be)
 have h2 := Lib.hid (fun u => cen_trace c hok y.m.calls y.m.mem.log y.m.shifts y.m.mem.words u hL B.ok.lsort B.ok.lpl B.ok.lrep)
 have h3 := Lib.hid (fun u => cen_shifts c hok y.m.calls y.m.mem.log y.m.shifts y.m.mem.words u hL y.s.2.slots B.ok.ssort B.ok.spl B.ok.srep B.ok.cross)
 have hS1 := hok.S1
 have f1 : decide ((0 : Int) ≥ 0) = true := rfl
 have f2 : decide ((0 : Int) ≤ c.Sl) = true := by simp;omega
 generalize y.m.calls = cs at *
 generalize y.m.mem.log = lg at *
 generalize y.m.shifts = sh at *
 generalize y.m.mem.words = ws at *
 clear hS1 hok B hL
 have hg := runR_get hs
 clear hs
 obtain ⟨a1,k1,a2,k2,a3,k3,a4,k4,rfl,hs⟩ := hg
 go_enter Tryz.func69,Tryz.ntmps69
 (repeat' (first|((with_reducible apply wl_pick);((simp only [ev,Ue,Uf]);rfl);((simp only [cond_true,cond_false,ev,Ue,Uf]);rfl);(with_reducible exact want_none);(simp only [Uc,Uz]))|(go_big_may;(first|(first|((with_reducible apply wl_ld hs);infer_instance;rfl;(focus with_reducible (repeat first|exact Qh|apply Qk);done);rfl;rfl;(simp only [Uc,Uz]))|((with_reducible apply wl_ldF hs);infer_instance;rfl;(focus with_reducible (repeat first|exact Qh|apply Qk);done);rfl;rfl;(simp only [Uc,Uz]))|((with_reducible apply wl_box hs);rfl;rfl;rfl;clear hs;intro w b hs;(simp only [Uc,Uz])))|(go_at_call 87;((refine (hC.out).at hs (by (focus ((repeat (with_reducible exact Qn));done))) ?_);clear hs;intro w hs;(try simp only [emp_mul,mul_assoc'] at hs)))|(go_at_call 118;((refine ((h1.out _)).at hs (by (focus with_reducible (repeat first|exact Qh|apply Qk);done)) ?_);clear hs;intro w hs;(try simp only [emp_mul,mul_assoc'] at hs)))|(go_at_call 119;(replace hs := runR_mk2 a1 k1 a2 k2 a3 k3 a4 k4 (cs := cs) (lg := lg) (sh := sh) (ws := ws) hs (by (focus with_reducible (repeat first|exact Qh|apply Qb|apply Qk);done)));((refine ((h2.out _)).at hs (by (with_reducible exact Qh)) ?_);clear hs;intro w hs;(try simp only [emp_mul,mul_assoc'] at hs)))|(go_at_call 120;((refine ((h3.out _)).at hs (by (with_reducible exact Qh)) ?_);clear hs;intro w hs;(try simp only [emp_mul,mul_assoc'] at hs)))))|go_guarded|go_step|(dsimp only)))
 (go_ret)
 exact ⟨rfl,by ((with_reducible apply Sat.fin hs);(focus with_reducible (repeat first|exact Ql|exact Qh|apply Qb|apply Qk);done))⟩
theorem law_play (c : Cfg) (mvs0 : List Mv) (v0 : Value) (A : SProp) (hRd0 : Rd A 4 (mvs0.map Mv.e) v0) {y : HW} (B : Beh (fitC c) (mvs0.take 65536) y) :
  Does Tryz.prog 20 #[c.v,v0] A (fun u => (ex fun v => ex fun v1 => ex fun v2 => ex fun v3 => ex fun v4 => pu (u = .tuple #[(fitC c).v,v,.agg #[v1,v2,v3,v4],.bool true] ∧ Rd A 4 ((mvs0.take 65536).map Mv.e) v) * RunR y.m.calls y.m.mem.log y.m.shifts y.m.mem.words (.agg #[v1,v2,v3,v4])) * A) := by
 intro O w F hs
 have hok := fitC_ok c
 have hl := fitM_len mvs0
 have hFit := Lib.hid (law_fit c mvs0 v0 A hRd0)
 unfold fitR at hFit
 generalize fitC c = C at *
 generalize mvs0.take 65536 = M at *
 clear hRd0
 have hP := Lib.hid (fun v => play_runV (A := A) hok hl B v)
 have hW := Lib.hid law_awake
 have hM := Lib.hid (fun u => cen_may hok hl B u)
 generalize y.m.calls = cs at *
 generalize y.m.mem.log = lg at *
 generalize y.m.shifts = sh at *
 generalize y.m.mem.words = ws at *
 clear B hok hl
 go_enter Tryz.func20,Tryz.ntmps20
 (repeat' (first|((with_reducible apply wl_pick);((simp only [ev,Ue,Uf]);rfl);((simp only [cond_true,cond_false,ev,Ue,Uf]);rfl);(with_reducible exact want_none);(simp only [Uc,Uz]))|(go_big_may;(first|(first|(first|(with_reducible refine NQ.mk ?_)|((with_reducible apply pl_neu);rfl;rfl)|((with_reducible apply pl_eff);rfl)|(with_reducible refine EQ.mk ?_ ?_)|(first|(with_reducible exact chk_nil)|((with_reducible refine chk_cons ?_ ?_);(focus ((with_reducible apply pl_chk);rfl;rfl))))|(with_reducible refine pl_end ?_)|(show SameA _ _ _;rfl))|((with_reducible apply wl_ldF hs);infer_instance;rfl;(focus with_reducible (repeat first|exact Qh|apply Qk);done);rfl;rfl;(simp only [Uc,Uz]))|((with_reducible apply wl_stF hs);infer_instance;rfl;rfl;(focus with_reducible (repeat first|exact Qh|apply Qk);done);rfl;rfl;rfl;rfl;clear hs;intro w hs)|((with_reducible apply wl_alloc hs);infer_instance;rfl;clear hs;intro w b hs;(simp only [Uc,Uz]))|((with_reducible apply wl_box hs);rfl;rfl;rfl;clear hs;intro w b hs;(simp only [Uc,Uz])))|(go_at_call 30;((refine (hFit.out).at hs (by (focus with_reducible (repeat first|exact Qh|apply Qk);done)) ?_);clear hs;intro v w hs;(try simp only [emp_mul,mul_assoc'] at hs));(simp only [sat_ex,mul_assoc',sat_pu] at hs);(obtain ⟨vm,⟨rfl,hRd⟩,hs⟩ := hs);(have hRd := Lib.hid hRd))|(go_at_call 19;((refine (hW.out).at hs (by (focus ((repeat (with_reducible exact Qn));done))) ?_);clear hs;intro w hs;(try simp only [emp_mul,mul_assoc'] at hs)))|(go_at_call 15;((refine ((hP.out _ hRd.out)).at hs (by (focus with_reducible (repeat first|exact Qh|apply Qk);done)) ?_);clear hs;intro v w hs;(try simp only [emp_mul,mul_assoc'] at hs));(unfold RunV at hs);(simp only [sat_ex,mul_assoc',sat_pu] at hs);(obtain ⟨p1,p2,p3,p4,rfl,hs⟩ := hs);(have hg := runR_get hs);(clear hs);(obtain ⟨a1,k1,a2,k2,a3,k3,a4,k4,hv,hs⟩ := hg);(injection hv with hv);(injection hv with hv);(simp only [List.cons.injEq,and_true] at hv);(obtain ⟨rfl,rfl,rfl,rfl⟩ := hv))|(go_at_call 69;(replace hs := runR_mk2 a1 k1 a2 k2 a3 k3 a4 k4 (cs := cs) (lg := lg) (sh := sh) (ws := ws) hs (by (focus with_reducible (repeat first|exact Qh|apply Qb|apply Qk);done)));((refine ((hM.out _)).at hs (by (with_reducible exact Qh)) ?_);clear hs;intro w hs;(try simp only [emp_mul,mul_assoc'] at hs)))|((with_reducible refine wp_plan_sat (id := 3) [.neu 0,.neu 1,.neu 2,.neu 3,.neu 4,.neu 5,.eff 6 [0,1,2],.neu 7,.neu 8,.neu 9,.neu 10,.eff 11 [0,1,2],.neu 12,.eff 13 [1,2,12],.neu 14,.eff 15 [12],.neu 16] hs rfl ?_ ?_);kernel_rfl;clear hs;intro w hs)))|go_guarded|go_step|(dsimp only)))
 ((try simp only [Exit.inBlock,Exit.then]);(with_reducible apply bodyPost_ret);((with_reducible apply results_ctct);rfl;rfl;(with_reducible apply loadF hs);infer_instance;(focus with_reducible (repeat first|exact Qh|apply Qk);done);rfl;rfl;(with_reducible apply loadF hs);infer_instance;(with_reducible exact Qh);rfl;rfl))
 refine ⟨_,rfl,?_⟩
 simp only [sat_ex,mul_assoc',sat_pu]
 exact ⟨_,_,_,_,_,⟨rfl,hRd.out⟩,by ((with_reducible apply Sat.fin hs);(focus with_reducible (repeat first|exact Ql|exact Qh|apply Qb|apply Qk);done))⟩
end Go.Proofs.YtegafhhdegnigaaGreat
end
