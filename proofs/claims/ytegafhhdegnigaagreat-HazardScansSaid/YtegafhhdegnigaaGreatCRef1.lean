/-
  What a script is brought within.
-/
import Derived.Test.YtegafhhdegnigaaGreatCAwk3
import Derived.Test.YtegafhhdegnigaaGreatCSkip
import Derived.Test.YtegafhhdegnigaaGreatCNew3
import Derived.Test.YtegafhhdegnigaaGreatCInv5
set_option linter.all false
section
namespace Go.Proofs.YtegafhhdegnigaaGreat
open Go.RowKit Hp
set_option maxRecDepth 100000
set_option maxHeartbeats 1000000
attribute [local irreducible] Go.Calls
open Classical in
noncomputable def fitC (c : Cfg) : Cfg := if c.Ok then c else smallC
theorem fitC_ok (c : Cfg) : (fitC c).Ok := by
 unfold fitC
 split
 ·assumption
 ·exact smallOk
theorem fitM_len (mvs : List Mv) : (mvs.take 65536).length ≤ 65536 := by simp;omega
def fitR (c : Cfg) (mvs : List Mv) (A : SProp) (u : Value) : SProp := ex fun v => pu (u = .tuple #[(fitC c).v,v] ∧ Rd A 4 ((mvs.take 65536).map Mv.e) v) * A
theorem law_fit (c : Cfg) (mvs : List Mv) (v : Value) (A : SProp) (hRd : Rd A 4 (mvs.map Mv.e) v) :
  Does Tryz.prog 30 #[c.v,v] A (fitR c mvs A) := by
 intro O w F hs
 have hS := Lib.hid law_small
 obtain ⟨a0,c0,rfl⟩ := hRd.len
 have hRd' := hRd
 simp only [List.length_map] at hRd hs ⊢
 by_cases hl : 65536 < mvs.length
 ·have hR2 : Rd A 4 ((mvs.take 65536).map Mv.e) (.slice a0 65536 c0) := by
   rw [List.map_take]
   have := hRd'.resH (i := 65536) (by simp;omega)
   exact this
  have n1 : decide ((mvs.length : Int) > 65536) = true := by simp;omega
  have n2 : 65536 ≤ (mvs.map Mv.e).length := by simp;omega
  have hRd := Lib.hid hRd
  clear hRd'
  by_cases hok : c.Ok
  ·have hC := Lib.hid (ref_conf c hok)
   have e : fitC c = c := by unfold fitC;rw [if_pos hok]
   unfold fitR
   rw [e]
   go_enter Tryz.func30,Tryz.ntmps30
   go_wp2_with (first|(first|((with_reducible apply wl_ldF hs);infer_instance;rfl;(focus with_reducible (repeat first|exact Qh|apply Qk);done);rfl;rfl;(simp only [Uc,Uz]))|((with_reducible apply wl_stF hs);infer_instance;rfl;rfl;(with_reducible exact Qh);rfl;rfl;rfl;rfl;clear hs;intro w hs)|((with_reducible apply wl_alloc hs);infer_instance;rfl;clear hs;intro w b hs;(simp only [Uc,Uz]))|((with_reducible apply wl_box hs);rfl;rfl;rfl;clear hs;intro w b hs;(simp only [Uc,Uz])))|(go_at_call 87;((refine (hC.out).at hs (by (focus ((repeat (with_reducible exact Qn));done))) ?_);clear hs;intro w hs;(try simp only [emp_mul,mul_assoc'] at hs)))|((with_reducible apply rd_reH (i := 65536) hRd.out);infer_instance;infer_instance;rfl;rfl;rfl;assumption;rfl;(simp only [Uc,Uz])))
   ((try simp only [Exit.inBlock,Exit.then]);(with_reducible apply bodyPost_ret);((with_reducible apply results_ct);rfl;rfl;(with_reducible apply loadF hs);infer_instance;(with_reducible exact Qh);rfl;rfl))
   refine ⟨_,rfl,?_⟩
   simp only [sat_ex,mul_assoc',sat_pu]
   exact ⟨_,⟨rfl,hR2⟩,by ((with_reducible apply Sat.fin hs);(focus with_reducible (repeat first|exact Ql|exact Qh|apply Qb|apply Qk);done))⟩
  ·have hC := Lib.hid (ref_conf_no c hok)
   have e : fitC c = smallC := by unfold fitC;rw [if_neg hok]
   unfold fitR
   rw [e]
   go_enter Tryz.func30,Tryz.ntmps30
   go_wp2_with (first|(first|((with_reducible apply wl_ldF hs);infer_instance;rfl;(focus with_reducible (repeat first|exact Qh|apply Qk);done);rfl;rfl;(simp only [Uc,Uz]))|((with_reducible apply wl_stF hs);infer_instance;rfl;rfl;(focus with_reducible (repeat first|exact Qh|apply Qk);done);rfl;rfl;rfl;rfl;clear hs;intro w hs)|((with_reducible apply wl_alloc hs);infer_instance;rfl;clear hs;intro w b hs;(simp only [Uc,Uz]))|((with_reducible apply wl_box hs);rfl;rfl;rfl;clear hs;intro w b hs;(simp only [Uc,Uz])))|(go_at_call 68;((refine (hS.out).at hs (by (focus ((repeat (with_reducible exact Qn));done))) ?_);clear hs;intro w hs;(try simp only [emp_mul,mul_assoc'] at hs)))|(go_at_call 87;((refine (hC.out).at hs (by (focus ((repeat (with_reducible exact Qn));done))) ?_);clear hs;intro w hs;(try simp only [emp_mul,mul_assoc'] at hs)))|((with_reducible apply rd_reH (i := 65536) hRd.out);infer_instance;infer_instance;rfl;rfl;rfl;assumption;rfl;(simp only [Uc,Uz])))
   ((try simp only [Exit.inBlock,Exit.then]);(with_reducible apply bodyPost_ret);((with_reducible apply results_ct);rfl;rfl;(with_reducible apply loadF hs);infer_instance;(with_reducible exact Qh);rfl;rfl))
   refine ⟨_,rfl,?_⟩
   simp only [sat_ex,mul_assoc',sat_pu]
   exact ⟨_,⟨rfl,hR2⟩,by ((with_reducible apply Sat.fin hs);(focus with_reducible (repeat first|exact Ql|exact Qh|apply Qb|apply Qk);done))⟩
 ·have hR2 : Rd A 4 ((mvs.take 65536).map Mv.e) (.slice a0 mvs.length c0) := by
   rw [List.take_of_length_le (by omega)]
   exact hRd
  have n1 : decide ((mvs.length : Int) > 65536) = false := by simp;omega
  have hRd := Lib.hid hRd
  clear hRd'
  by_cases hok : c.Ok
  ·have hC := Lib.hid (ref_conf c hok)
   have e : fitC c = c := by unfold fitC;rw [if_pos hok]
   unfold fitR
   rw [e]
   go_enter Tryz.func30,Tryz.ntmps30
   go_wp2_with (first|(first|((with_reducible apply wl_ldF hs);infer_instance;rfl;(focus with_reducible (repeat first|exact Qh|apply Qk);done);rfl;rfl;(simp only [Uc,Uz]))|((with_reducible apply wl_stF hs);infer_instance;rfl;rfl;(with_reducible exact Qh);rfl;rfl;rfl;rfl;clear hs;intro w hs)|((with_reducible apply wl_alloc hs);infer_instance;rfl;clear hs;intro w b hs;(simp only [Uc,Uz]))|((with_reducible apply wl_box hs);rfl;rfl;rfl;clear hs;intro w b hs;(simp only [Uc,Uz])))|(go_at_call 87;((refine (hC.out).at hs (by (focus ((repeat (with_reducible exact Qn));done))) ?_);clear hs;intro w hs;(try simp only [emp_mul,mul_assoc'] at hs))))
   ((try simp only [Exit.inBlock,Exit.then]);(with_reducible apply bodyPost_ret);((with_reducible apply results_ct);rfl;rfl;(with_reducible apply loadF hs);infer_instance;(with_reducible exact Qh);rfl;rfl))
   refine ⟨_,rfl,?_⟩
   simp only [sat_ex,mul_assoc',sat_pu]
   exact ⟨_,⟨rfl,hR2⟩,by ((with_reducible apply Sat.fin hs);(focus with_reducible (repeat first|exact Ql|exact Qh|apply Qb|apply Qk);done))⟩
  ·have hC := Lib.hid (ref_conf_no c hok)
   have e : fitC c = smallC := by unfold fitC;rw [if_neg hok]
   unfold fitR
   rw [e]
   go_enter Tryz.func30,Tryz.ntmps30
   go_wp2_with (first|(first|((with_reducible apply wl_ldF hs);infer_instance;rfl;(focus with_reducible (repeat first|exact Qh|apply Qk);done);rfl;rfl;(simp only [Uc,Uz]))|((with_reducible apply wl_stF hs);infer_instance;rfl;rfl;(focus with_reducible (repeat first|exact Qh|apply Qk);done);rfl;rfl;rfl;rfl;clear hs;intro w hs)|((with_reducible apply wl_alloc hs);infer_instance;rfl;clear hs;intro w b hs;(simp only [Uc,Uz]))|((with_reducible apply wl_box hs);rfl;rfl;rfl;clear hs;intro w b hs;(simp only [Uc,Uz])))|(go_at_call 68;((refine (hS.out).at hs (by (focus ((repeat (with_reducible exact Qn));done))) ?_);clear hs;intro w hs;(try simp only [emp_mul,mul_assoc'] at hs)))|(go_at_call 87;((refine (hC.out).at hs (by (focus ((repeat (with_reducible exact Qn));done))) ?_);clear hs;intro w hs;(try simp only [emp_mul,mul_assoc'] at hs))))
   ((try simp only [Exit.inBlock,Exit.then]);(with_reducible apply bodyPost_ret);((with_reducible apply results_ct);rfl;rfl;(with_reducible apply loadF hs);infer_instance;(with_reducible exact Qh);rfl;rfl))
   refine ⟨_,rfl,?_⟩
   simp only [sat_ex,mul_assoc',sat_pu]
   exact ⟨_,⟨rfl,hR2⟩,by ((with_reducible apply Sat.fin hs);(focus with_reducible (repeat first|exact Ql|exact Qh|apply Qb|apply Qk);done))⟩
end Go.Proofs.YtegafhhdegnigaaGreat
end
/-
  HazardAlone, walked.
-/
section
namespace Go.Proofs.YtegafhhdegnigaaGreat
open Go.RowKit Hp
set_option maxRecDepth 100000
set_option maxHeartbeats 1000000
attribute [local irreducible] Go.Calls
def mostC (c : Cfg) : Int := if c.Rt < c.R * c.Hz + 1 then c.R * c.Hz + 1 else c.Rt
def listedC (c : Cfg) : Int := mostC c + (c.R - 1) * (c.R * c.Hz)
theorem listed_b {c : Cfg} (hok : c.Ok) : 0 ≤ listedC c ∧ listedC c ≤ 4000 := by
 obtain ⟨b1,b2,b8,b9,b10,b11,b12,b13,b14,rh,rh2⟩ := bases hok
 have := hok.Rt1
 have := hok.Rt2
 have := hok.R1
 have := hok.R2
 have h1 : (c.R - 1) * (c.R * c.Hz) ≤ 15 * 128 := Int.mul_le_mul (by omega) rh2 (by omega) (by omega)
 have h2 : 0 ≤ (c.R - 1) * (c.R * c.Hz) := Int.mul_nonneg (by omega) (by omega)
 unfold listedC mostC
 split <;> omega
theorem law_listed (c : Cfg) (hok : c.Ok) : Gives Tryz.prog 86 #[c.v] emp (.int .i64 (listedC c)) emp := by
 intro O w F hs
 have hb := bases hok
 have rh := hb.rh
 have rh2 := hb.rh2
 have := hok.Rt1
 have := hok.Rt2
 have := hok.R1
 have := hok.R2
 have h1 : (c.R - 1) * (c.R * c.Hz) ≤ 15 * 128 := Int.mul_le_mul (by omega) rh2 (by omega) (by omega)
 have h2 : 0 ≤ (c.R - 1) * (c.R * c.Hz) := Int.mul_nonneg (by omega) (by omega)
 have hw1 : wrap64 (c.R * c.Hz) = c.R * c.Hz := by unfold wrap64;omega
 have hw2 : wrap64 (c.R * c.Hz + 1) = c.R * c.Hz + 1 := by unfold wrap64;omega
 have hw3 : wrap64 (c.R - 1) = c.R - 1 := by unfold wrap64;omega
 have hw4 : wrap64 ((c.R - 1) * (c.R * c.Hz)) = (c.R - 1) * (c.R * c.Hz) := by unfold wrap64;omega
 clear hb
 by_cases hm : c.Rt < c.R * c.Hz + 1
 ·have hd : decide (c.R * c.Hz + 1 > c.Rt) = true := by simpa using hm
  have hw5 : wrap64 (c.R * c.Hz + 1 + (c.R - 1) * (c.R * c.Hz)) = c.R * c.Hz + 1 + (c.R - 1) * (c.R * c.Hz) := by unfold wrap64;omega
  have he : listedC c = c.R * c.Hz + 1 + (c.R - 1) * (c.R * c.Hz) := by unfold listedC mostC;rw [if_pos hm]
  rw [he]
  clear he hm h1 h2 rh rh2
  go_enter Tryz.func86,Tryz.ntmps86
  (repeat' (first|(go_big_may;(first|((with_reducible apply wl_ld hs);infer_instance;rfl;(with_reducible exact Qh);rfl;rfl;(simp only [Uc,Uz]))|((with_reducible apply wl_box hs);rfl;rfl;rfl;clear hs;intro w b hs;(simp only [Uc,Uz]))))|go_step))
  (go_ret)
  exact ⟨by show Ending.returned (Value.int _ (wrap64 _)) = _;rw [hw5],by ((with_reducible apply Sat.fin hs);(focus with_reducible (repeat first|exact Ql|exact Qn|apply Qb|apply Qk);done))⟩
 ·have hd : decide (c.R * c.Hz + 1 > c.Rt) = false := by simpa using hm
  have hw5 : wrap64 (c.Rt + (c.R - 1) * (c.R * c.Hz)) = c.Rt + (c.R - 1) * (c.R * c.Hz) := by unfold wrap64;omega
  have he : listedC c = c.Rt + (c.R - 1) * (c.R * c.Hz) := by unfold listedC mostC;rw [if_neg hm]
  rw [he]
  clear he hm h1 h2 rh rh2
  go_enter Tryz.func86,Tryz.ntmps86
  (repeat' (first|(go_big_may;(first|((with_reducible apply wl_ld hs);infer_instance;rfl;(with_reducible exact Qh);rfl;rfl;(simp only [Uc,Uz]))|((with_reducible apply wl_box hs);rfl;rfl;rfl;clear hs;intro w b hs;(simp only [Uc,Uz]))))|go_step))
  (go_ret)
  exact ⟨by show Ending.returned (Value.int _ (wrap64 _)) = _;rw [hw5],by ((with_reducible apply Sat.fin hs);(focus with_reducible (repeat first|exact Ql|exact Qn|apply Qb|apply Qk);done))⟩
theorem solo_b {c : Cfg} (hok : c.Ok) : 0 ≤ soloC c (listedC c) ∧ soloC c (listedC c) ≤ 300000 := by
 obtain ⟨l1,l2⟩ := listed_b hok
 have hb := bases hok
 have rh := hb.rh
 have rh2 := hb.rh2
 have := hok.R1
 have := hok.R2
 have := hok.T1
 have := hok.T2
 have := hok.S1
 have := hok.S2
 have := hok.C1
 have := hok.C2
 have := hok.H1
 have := hok.H2
 generalize listedC c = L at l1 l2 ⊢
 have h1 : (c.T + 2) * (3 * c.R + c.R * c.Hz + 3 * L + 3) ≤ 18 * 12300 := Int.mul_le_mul (by omega) (by omega) (by omega) (by omega)
 have h2 : 0 ≤ (c.T + 2) * (3 * c.R + c.R * c.Hz + 3 * L + 3) := Int.mul_nonneg (by omega) (by omega)
 unfold soloC
 omega
theorem law_solo (c : Cfg) (hok : c.Ok) : Gives Tryz.prog 31 #[c.v] emp (.int .i64 (soloC c (listedC c))) emp := by
 intro O w F hs
 obtain ⟨l1,l2⟩ := listed_b hok
 have hL := Lib.hid (law_listed c hok)
 have hb := bases hok
 have rh := hb.rh
 have rh2 := hb.rh2
 have := hok.R1
 have := hok.R2
 have := hok.T1
 have := hok.T2
 have := hok.S1
 have := hok.S2
 have := hok.C1
 have := hok.C2
 have := hok.H1
 have := hok.H2
 generalize listedC c = L at l1 l2 hL ⊢
 have h1 : (c.T + 2) * (3 * c.R + c.R * c.Hz + 3 * L + 3) ≤ 18 * 12300 := Int.mul_le_mul (by omega) (by omega) (by omega) (by omega)
 have h2 : 0 ≤ (c.T + 2) * (3 * c.R + c.R * c.Hz + 3 * L + 3) := Int.mul_nonneg (by omega) (by omega)
 have w1 : wrap64 (c.R * c.Hz) = c.R * c.Hz := by unfold wrap64;omega
 have w2 : wrap64 (56 * c.Sl) = 56 * c.Sl := by unfold wrap64;omega
 have w3 : wrap64 (c.T + 2) = c.T + 2 := by unfold wrap64;omega
 have w4 : wrap64 (3 * c.R) = 3 * c.R := by unfold wrap64;omega
 have w5 : wrap64 (3 * c.R + c.R * c.Hz) = 3 * c.R + c.R * c.Hz := by unfold wrap64;omega
 have w6 : wrap64 (3 * L) = 3 * L := by unfold wrap64;omega
 have w7 : wrap64 (3 * c.R + c.R * c.Hz + 3 * L) = 3 * c.R + c.R * c.Hz + 3 * L := by unfold wrap64;omega
 have w8 : wrap64 (3 * c.R + c.R * c.Hz + 3 * L + 3) = 3 * c.R + c.R * c.Hz + 3 * L + 3 := by unfold wrap64;omega
 have w9 : wrap64 ((c.T + 2) * (3 * c.R + c.R * c.Hz + 3 * L + 3)) = (c.T + 2) * (3 * c.R + c.R * c.Hz + 3 * L + 3) := by unfold wrap64;omega
 have w10 : wrap64 (56 * c.Sl + (c.T + 2) * (3 * c.R + c.R * c.Hz + 3 * L + 3)) = 56 * c.Sl + (c.T + 2) * (3 * c.R + c.R * c.Hz + 3 * L + 3) := by unfold wrap64;omega
 have w11 : wrap64 (3 * c.Ca) = 3 * c.Ca := by unfold wrap64;omega
 have w12 : wrap64 (56 * c.Sl + (c.T + 2) * (3 * c.R + c.R * c.Hz + 3 * L + 3) + 3 * c.Ca) = 56 * c.Sl + (c.T + 2) * (3 * c.R + c.R * c.Hz + 3 * L + 3) + 3 * c.Ca := by unfold wrap64;omega
 have w13 : wrap64 (2 * c.R) = 2 * c.R := by unfold wrap64;omega
 have w14 : wrap64 (56 * c.Sl + (c.T + 2) * (3 * c.R + c.R * c.Hz + 3 * L + 3) + 3 * c.Ca + 2 * c.R) = 56 * c.Sl + (c.T + 2) * (3 * c.R + c.R * c.Hz + 3 * L + 3) + 3 * c.Ca + 2 * c.R := by unfold wrap64;omega
 have w15 : wrap64 (56 * c.Sl + (c.T + 2) * (3 * c.R + c.R * c.Hz + 3 * L + 3) + 3 * c.Ca + 2 * c.R + c.Hz) = 56 * c.Sl + (c.T + 2) * (3 * c.R + c.R * c.Hz + 3 * L + 3) + 3 * c.Ca + 2 * c.R + c.Hz := by unfold wrap64;omega
 have w16 : wrap64 (56 * c.Sl + (c.T + 2) * (3 * c.R + c.R * c.Hz + 3 * L + 3) + 3 * c.Ca + 2 * c.R + c.Hz + 100) = 56 * c.Sl + (c.T + 2) * (3 * c.R + c.R * c.Hz + 3 * L + 3) + 3 * c.Ca + 2 * c.R + c.Hz + 100 := by unfold wrap64;omega
 have he : soloC c L = 56 * c.Sl + (c.T + 2) * (3 * c.R + c.R * c.Hz + 3 * L + 3) + 3 * c.Ca + 2 * c.R + c.Hz + 100 := rfl
 rw [he]
 clear he h1 h2 rh rh2 hb l1 l2
 go_enter Tryz.func31,Tryz.ntmps31
 (repeat' (first|(go_big_may;(first|(first|(first|(with_reducible refine NQ.mk ?_)|((with_reducible apply pl_neu);rfl;rfl)|((with_reducible apply pl_eff);rfl)|(with_reducible refine EQ.mk ?_ ?_)|(first|(with_reducible exact chk_nil)|((with_reducible refine chk_cons ?_ ?_);(focus ((with_reducible apply pl_chk);rfl;rfl))))|(with_reducible refine pl_end ?_)|(show SameA _ _ _;rfl))|((with_reducible apply wl_ld hs);infer_instance;rfl;(with_reducible exact Qh);rfl;rfl;(simp only [Uc,Uz]))|((with_reducible apply wl_ldF hs);infer_instance;rfl;(with_reducible exact Qh);rfl;rfl;(simp only [Uc,Uz]))|((with_reducible apply wl_box hs);rfl;rfl;rfl;clear hs;intro w b hs;(simp only [Uc,Uz])))|(go_at_call 86;((refine (hL.out).at hs (by (focus ((repeat (with_reducible exact Qn));done))) ?_);clear hs;intro w hs;(try simp only [emp_mul,mul_assoc'] at hs)))|((with_reducible refine wp_plan_sat (id := 2) [.neu 0,.neu 1,.neu 2,.neu 3,.neu 4,.neu 5,.neu 6,.neu 7,.neu 8,.neu 9,.neu 10,.neu 11,.neu 18,.neu 19,.neu 20,.neu 22,.neu 23,.neu 24,.neu 26,.neu 27,.eff 12 [0,1,2,3,4,5,6,7,8,9,10,18,19,20,22,23,24,26,27],.neu 13,.neu 14,.neu 15,.neu 16,.neu 17,.neu 21,.neu 25,.neu 28,.neu 29,.neu 30] hs rfl ?_ ?_);kernel_rfl;clear hs;intro w hs)))|go_step|(dsimp only)))
 (go_ret)
 exact ⟨by show Ending.returned (Value.int _ (wrap64 _)) = _;rw [w16],by ((with_reducible apply Sat.fin hs);(focus with_reducible (repeat first|exact Ql|exact Qn|apply Qb|apply Qk);done))⟩
end Go.Proofs.YtegafhhdegnigaaGreat
end
/-
  The references of layer 1.
-/
section
namespace Go.Proofs.YtegafhhdegnigaaGreat
open Go.RowKit Hp
set_option maxRecDepth 100000
set_option maxHeartbeats 1000000
attribute [local irreducible] Go.Calls
theorem ref_many (c : Cfg) (h : c.Ok) (r : Nat) (h1 : 1 ≤ r) (h2 : r ≤ 13) : Gives Tryz.prog 73 #[c.v,.int .i64 (r : Int)] emp (.int .i64 (many c r)) emp := by
 intro O w F hs
 obtain ⟨g1,g2⟩ := h.rh
 have hw : wrap64 (c.R * c.Hz) = c.R * c.Hz := by unfold wrap64;omega
 have hr : r = 1 ∨ r = 2 ∨ r = 3 ∨ r = 4 ∨ r = 5 ∨ r = 6 ∨ r = 7 ∨ r = 8 ∨ r = 9 ∨ r = 10 ∨ r = 11 ∨ r = 12 ∨ r = 13 := by omega
 rcases hr with rfl|rfl|rfl|rfl|rfl|rfl|rfl|rfl|rfl|rfl|rfl|rfl|rfl
 all_goals
  go_enter Tryz.func73,Tryz.ntmps73
  go_wp2_with (first|((with_reducible apply wl_ld hs);infer_instance;rfl;(with_reducible exact Qh);rfl;rfl;(simp only [Uc,Uz]))|((with_reducible apply wl_box hs);rfl;rfl;rfl;clear hs;intro w b hs;(simp only [Uc,Uz])))
  (go_ret)
  exact ⟨by simp [many,hw],by ((with_reducible apply Sat.fin hs);(focus with_reducible (repeat first|exact Ql|exact Qn|apply Qb|apply Qk);done))⟩
theorem ref_base (c : Cfg) (h : c.Ok) (r : Nat) (h1 : 1 ≤ r) (h2 : r ≤ 13) : Gives Tryz.prog 23 #[c.v,.int .i64 (r : Int)] emp (.int .i64 (base c r)) emp := by
 intro O w F hs
 have hM := Lib.hid (ref_many c h)
 go_enter Tryz.func23,Tryz.ntmps23
 go_wp2_with ((with_reducible apply wl_box hs);rfl;rfl;rfl;clear hs;intro w b hs;(simp only [Uc,Uz]))
 (obtain ⟨A,hA,hsn⟩ : ∃ A,Hid (A = _) ∧ Sat O w A := ⟨_,Lib.hid rfl,hs⟩;clear hs;have hs := hsn;clear hsn)
 go_loopw [5,6] (fun a q wr => ∃ k : Nat,1 ≤ k ∧ k ≤ r ∧ q = .int .i64 (k : Int) ∧ a = .int .i64 (base c k) ∧ Sat O wr A) (fun _ q _ => 15 - (intOf q).toNat)
 case atStart => exact ⟨1,by omega,by omega,rfl,rfl,hs⟩
 case round =>
  obtain ⟨k,k1,k2,rfl,rfl,hs⟩ := hrel
  have hb := base_le h k
  have hmk := many_le h k
  have e1 := base_succ c _ k1
  rw [hA.out] at hs
  by_cases hkr : k = r
  ·subst hkr
   have hlt : decide ((k : Int) < (k : Int)) = false := by simp
   have hlt2 : decide (k < k) = false := by simp
   go_wp2_with (fail)
   (go_ret)
   exact ⟨rfl,by ((with_reducible apply Sat.fin hs);(focus with_reducible (repeat first|exact Ql|exact Qn|apply Qb|apply Qk);done))⟩
  ·have hlt : decide ((k : Int) < (r : Int)) = true := by simp;omega
   have hlt2 : decide (k < r) = true := by simp;omega
   have hM1 := Lib.hid (hM.out k k1 (by omega))
   go_wp2_with (first|((with_reducible apply wl_ldF hs);infer_instance;rfl;(with_reducible exact Qh);rfl;rfl;(simp only [Uc,Uz]))|(go_at_call 73;((refine (hM1.out).at hs (by (focus ((repeat (with_reducible exact Qn));done))) ?_);clear hs;intro w hs;(try simp only [emp_mul,mul_assoc'] at hs))))
   go_roundw
   case rel => exact ⟨k + 1,by omega,by omega,by simp,by rw [e1],by rw [hA.out];((with_reducible apply Sat.fin hs);(focus with_reducible (repeat first|exact Ql|exact Qh|exact Qn|apply Qb);done))⟩
   case measure => simp [intOf];omega
theorem ref_size (c : Cfg) (h : c.Ok) : Gives Tryz.prog 22 #[c.v] emp (.int .i64 (base c 14)) emp := by
 intro O w F hs
 have hB := Lib.hid (ref_base c h 13 (by omega) (by omega))
 have hb := base_le h 13
 have h2 := h.S1;have h3 := h.S2
 have e : base c 14 = base c 13 + c.Sl := rfl
 have hw : wrap64 (base c 13 + c.Sl) = base c 14 := by unfold wrap64;omega
 go_enter Tryz.func22,Tryz.ntmps22
 go_wp2_with (first|(first|(first|(with_reducible refine NQ.mk ?_)|((with_reducible apply pl_neu);rfl;rfl)|((with_reducible apply pl_eff);rfl)|(with_reducible refine EQ.mk ?_ ?_)|(first|(with_reducible exact chk_nil)|((with_reducible refine chk_cons ?_ ?_);(focus ((with_reducible apply pl_chk);rfl;rfl))))|(with_reducible refine pl_end ?_)|(show SameA _ _ _;rfl))|((with_reducible apply wl_ld hs);infer_instance;rfl;(with_reducible exact Qh);rfl;rfl;(simp only [Uc,Uz]))|((with_reducible apply wl_ldF hs);infer_instance;rfl;(with_reducible exact Qh);rfl;rfl;(simp only [Uc,Uz]))|((with_reducible apply wl_box hs);rfl;rfl;rfl;clear hs;intro w b hs;(simp only [Uc,Uz])))|(go_at_call 23;((refine (hB.out).at hs (by (focus ((repeat (with_reducible exact Qn));done))) ?_);clear hs;intro w hs;(try simp only [emp_mul,mul_assoc'] at hs)))|((with_reducible refine wp_plan_sat (id := 1) [.neu 0,.neu 2,.neu 3,.eff 1 [2,3],.neu 4,.neu 5] hs rfl ?_ ?_);kernel_rfl;clear hs;intro w hs))
 (go_ret)
 exact ⟨by simp [e],by ((with_reducible apply Sat.fin hs);(focus with_reducible (repeat first|exact Ql|exact Qn|apply Qb|apply Qk);done))⟩
theorem ref_packLink (s : Int) (h0 : -1 ≤ s) (h1 : s ≤ 2147483646) : Gives Tryz.prog 54 #[.int .i64 s,.bool false] emp (.int .u64 (s + 1)) emp := by
 intro O w F hs
 go_enter Tryz.func54,Tryz.ntmps54
 go_wp2_with (fail)
 (go_ret)
 exact ⟨rfl,by ((with_reducible apply Sat.fin hs);(with_reducible exact Ql))⟩
theorem ref_packHead (t s : Int) (t0 : 0 ≤ t) (h0 : -1 ≤ s) (h1 : s ≤ 2147483646) : Gives Tryz.prog 92 #[.int .u64 t,.int .i64 s] emp (.int .u64 (t % 4294967296 * 4294967296 + (s + 1))) emp := by
 intro O w F hs
 go_enter Tryz.func92,Tryz.ntmps92
 go_wp2_with (fail)
 (go_ret)
 exact ⟨rfl,by ((with_reducible apply Sat.fin hs);(with_reducible exact Ql))⟩
theorem ref_first0 (c : Cfg) (h : c.Ok) : Does Tryz.prog 39 #[c.v,.int .i64 0] emp (fun v => sl 57 1 ((firstW c 0).map eU) v) := by
 intro O w F hs
 have hS := Lib.hid (ref_size c h)
 have hb10 := base_le h 10
 have hA := Lib.hid (ref_base c h 10 (by omega) (by omega))
 have hPH := ref_packHead 0 0 (by omega) (by omega) (by omega)
 rw [show (0 % 4294967296 * 4294967296 + (0 + 1) : Int) = 1 from rfl] at hPH
 have hPH := Lib.hid hPH
 obtain ⟨hc1,hc2⟩ := base_cells h
 have hb14 := base_le h 14
 have hs1 := h.S1
 have hs2 := h.S2
 have n2 : decide (0 < c.Sl) = true := by simp;omega
 obtain ⟨W0,hW0⟩ : ∃ W0 : List Int,W0 = List.replicate (base c 14).toNat 0 := ⟨_,rfl⟩
 have hrep : List.replicate (base c 14).toNat (Value.int .u64 0).cells.toList = W0.map eU := by rw [hW0,List.map_replicate];rfl
 have hlen : W0.length = (base c 14).toNat := by rw [hW0];simp
 have hl0 : 0 < W0.length := by omega
 have hg0 : W0[0]? = some 0 := by rw [hW0];simp [List.getElem?_replicate];omega
 have hfin : firstW c 0 = fillW (W0.set 0 1) (base c 10) 0 (c.Sl.toNat - 1) := by
  simp only [firstW]
  rw [if_neg (by omega),if_pos (by show (0 : Int) < c.Sl;omega),← hW0]
  rfl
 have hfin := Lib.hid hfin
 have hW0 := Lib.hid hW0
 go_enter Tryz.func39,Tryz.ntmps39
 go_wp2_with (first|(first|((with_reducible apply wl_ld hs);infer_instance;rfl;(focus with_reducible (repeat first|exact Qh|apply Qk);done);rfl;rfl;(simp only [Uc,Uz]))|((with_reducible apply wl_ldF hs);infer_instance;rfl;(with_reducible exact Qh);rfl;rfl;(simp only [Uc,Uz]))|((with_reducible apply wl_box hs);rfl;rfl;rfl;clear hs;intro w b hs;(simp only [Uc,Uz]))|((with_reducible apply wl_stS0 hs);infer_instance;rfl;rfl;assumption;(with_reducible exact Qh);rfl;(exact map_get (by assumption));(exact Vb rfl);(rfl);rfl;clear hs;intro w hs)|((with_reducible apply wl_ia hs);infer_instance;infer_instance;rfl;rfl;(with_reducible exact Qh);(rfl);(simp only [Wm,Ws,Wa,Wc,Wn,Wr] at *;omega);rfl;intro b off hat;(simp only [Uc,Uz])))|(((with_reducible apply wl_mk hs);infer_instance;infer_instance;rfl;rfl;rfl;rfl;(exact (Int.toNat_of_nonneg (by omega)).symm);omega;(exact Vb rfl);rfl;clear hs;intro w v hs;(simp only [Uc,Uz]));rw [hrep] at hs)|(go_at_call 22;((refine (hS.out).at hs (by (focus ((repeat (with_reducible exact Qn));done))) ?_);clear hs;intro w hs;(try simp only [emp_mul,mul_assoc'] at hs)))|(go_at_call 92;((refine (hPH.out).at hs (by (focus ((repeat (with_reducible exact Qn));done))) ?_);clear hs;intro w hs;(try simp only [emp_mul,mul_assoc'] at hs))))
 have e0 : (List.map eU W0).set 0 ((eU 0).set 0 (Value.int IntKind.u64 1)) = (fillW (W0.set 0 1) (base c 10) 0 0).map eU := by simp [fillW,List.map_set]
 rw [e0] at hs
 have hlW : ∀ n,(fillW (W0.set 0 1) (base c 10) 0 n).length = (base c 14).toNat := fun n => by rw [fillW_len,List.length_set,hlen]
 obtain ⟨T,hT,hs⟩ : ∃ T,Hid (T = _) ∧ Sat O w (sl 57 1 ((fillW (W0.set 0 1) (base c 10) 0 0).map eU) v * T) := ⟨_,Lib.hid rfl,hs.pull (by (with_reducible exact Qh))⟩
 clear hg0 hl0 e0 n2
 simp only [Nat.zero_mul,Nat.add_zero]
 go_loopw [6] (fun q wr => ∃ n : Nat,(n : Int) + 1 ≤ c.Sl ∧ q = .int .i64 (n : Int) ∧ Sat O wr (sl 57 1 ((fillW (W0.set 0 1) (base c 10) 0 n).map eU) v * T)) (fun q _ => 1025 - (intOf q).toNat)
 case atStart => exact ⟨0,by omega,rfl,hs⟩
 case round =>
  obtain ⟨n,k1,rfl,hs⟩ := hrel
  rw [hT.out] at hs
  have hl := hlW n
  by_cases hkr : (n : Int) + 1 = c.Sl
  ·have hlt : decide ((n : Int) + 1 < c.Sl) = false := by simp;omega
   go_wp2_with ((with_reducible apply wl_ld hs);infer_instance;rfl;(focus with_reducible (repeat first|exact Qh|apply Qk);done);rfl;rfl;(simp only [Uc,Uz]))
   (go_ret)
   refine ⟨_,rfl,?_⟩
   rw [hfin.out,show c.Sl.toNat - 1 = n by omega]
   ((with_reducible apply Sat.fin hs);(focus ((repeat (first|with_reducible exact Ql|with_reducible apply Qb|exact Qh|with_reducible apply Qk));done)))
  ·have hlt : decide ((n : Int) + 1 < c.Sl) = true := by simp;omega
   have hPL := Lib.hid (ref_packLink ((n : Int) + 1) (by omega) (by omega))
   have hix : base c 10 + (n : Int) < ((fillW (W0.set 0 1) (base c 10) 0 n).length : Int) := by rw [hl];omega
   have hi2 : (base c 10 + (n : Int)).toNat < (fillW (W0.set 0 1) (base c 10) 0 n).length := by omega
   obtain ⟨x,hx⟩ : ∃ x,(fillW (W0.set 0 1) (base c 10) 0 n)[(base c 10 + (n : Int)).toNat]? = some x := ⟨_,List.getElem?_eq_getElem hi2⟩
   have hw1 : wrap64 (base c 10 + (n : Int)) = base c 10 + (n : Int) := by unfold wrap64;omega
   have hw2 : wrap64 ((n : Int) + 1) = (n : Int) + 1 := by unfold wrap64;omega
   go_wp2_with (first|(first|((with_reducible apply wl_ld hs);infer_instance;rfl;(focus with_reducible (repeat first|exact Qh|apply Qk);done);rfl;rfl;(simp only [Uc,Uz]))|((with_reducible apply wl_ldF hs);infer_instance;rfl;(focus with_reducible (repeat first|exact Qh|apply Qk);done);rfl;rfl;(simp only [Uc,Uz]))|((with_reducible apply wl_stS0 hs);infer_instance;rfl;rfl;assumption;(with_reducible exact Qh);rfl;(exact map_get (by assumption));(exact Vb rfl);(rfl);rfl;clear hs;intro w hs)|((with_reducible apply wl_ia2 hs);infer_instance;infer_instance;rfl;assumption;rfl;(with_reducible exact Qh);(exact (Int.toNat_of_nonneg (by omega)).symm);(simp only [Wm,Ws,Wa,Wc,Wn,Wr] at *;omega);rfl;(simp only [Uc,Uz])))|(go_at_call 23;((refine (hA.out).at hs (by (focus ((repeat (with_reducible exact Qn));done))) ?_);clear hs;intro w hs;(try simp only [emp_mul,mul_assoc'] at hs)))|(go_at_call 54;((refine (hPL.out).at hs (by (focus ((repeat (with_reducible exact Qn));done))) ?_);clear hs;intro w hs;(try simp only [emp_mul,mul_assoc'] at hs))))
   have e1 : (List.map eU (fillW (W0.set 0 1) (base c 10) 0 n)).set (base c 10 + (n : Int)).toNat ((eU x).set 0 (Value.int IntKind.u64 ((n : Int) + 1 + 1))) = (fillW (W0.set 0 1) (base c 10) 0 (n + 1)).map eU := by simp [fillW,List.map_set];rfl
   rw [e1] at hs
   go_roundw
   case rel => exact ⟨n + 1,by omega,by simp,by rw [hT.out];((with_reducible apply Sat.fin hs);(with_reducible exact Ql))⟩
   case measure => simp [intOf];omega
end Go.Proofs.YtegafhhdegnigaaGreat
end
