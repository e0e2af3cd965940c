/-
  The census of faults: its small parts.
-/
import Derived.Test.YtegafhhdegnigaaGreatSCen5
import Derived.Test.YtegafhhdegnigaaGreatSVw
import Derived.Test.YtegafhhdegnigaaGreatSSafK
set_option linter.all false
section
namespace Go.Proofs.YtegafhhdegnigaaGreat
open Go.RowKit Hp
set_option maxRecDepth 100000
set_option maxHeartbeats 8000000
attribute [local irreducible] Go.Calls Go.wpList
def opnB (st ho t : Int) : Bool := if st = 3 ∨ st = 4 ∨ st = 5 then true else if st = 2 then (ho == t) else false
theorem cen_open (st ho t : Int) : Gives Tryz.prog 78 #[.int .i64 st,.int .i64 ho,.int .i64 t] emp (.bool (opnB st ho t)) emp := by
 intro O w F hs
 by_cases h3 : st = 3
 ·subst h3
  go_enter Tryz.func78,Tryz.ntmps78
  (repeat' (go_step))
  (go_ret)
  exact ⟨rfl,by ((with_reducible apply Sat.fin hs);(with_reducible exact Ql))⟩
 by_cases h4 : st = 4
 ·subst h4
  go_enter Tryz.func78,Tryz.ntmps78
  (repeat' (go_step))
  (go_ret)
  exact ⟨rfl,by ((with_reducible apply Sat.fin hs);(with_reducible exact Ql))⟩
 by_cases h5 : st = 5
 ·subst h5
  go_enter Tryz.func78,Tryz.ntmps78
  (repeat' (go_step))
  (go_ret)
  exact ⟨rfl,by ((with_reducible apply Sat.fin hs);(with_reducible exact Ql))⟩
 by_cases h2 : st = 2
 ·subst h2
  go_enter Tryz.func78,Tryz.ntmps78
  (repeat' (go_step))
  (go_ret)
  exact ⟨rfl,by ((with_reducible apply Sat.fin hs);(with_reducible exact Ql))⟩
 ·have e : opnB st ho t = false := by unfold opnB;rw [if_neg (by omega),if_neg h2]
  rw [e]
  have f3 : (st == 3) = false := by simpa using h3
  have f4 : (st == 4) = false := by simpa using h4
  have f5 : (st == 5) = false := by simpa using h5
  have f2 : (st == 2) = false := by simpa using h2
  clear h2 h3 h4 h5 e
  go_enter Tryz.func78,Tryz.ntmps78
  (repeat' (go_step))
  (go_ret)
  exact ⟨rfl,by ((with_reducible apply Sat.fin hs);(with_reducible exact Ql))⟩
theorem cen_may1 (x : Shf) (ho : Int) (h : (x.fr = 0 ∧ x.to = 2) ∨ (x.fr = 1 ∧ (x.to = 2 ∨ x.to = 0) ∧ ho = x.thread) ∨ (x.fr = 2 ∧ (x.to = 3 ∨ x.to = 1 ∨ x.to = 0) ∧ ho = x.thread) ∨ (x.fr = 3 ∧ x.to = 4) ∨ (x.fr = 4 ∧ x.to = 5 ∧ ho = x.thread) ∨ (x.fr = 5 ∧ (x.to = 1 ∨ x.to = 0))) :
  Gives Tryz.prog 79 #[x.v,.int .i64 ho] emp (.bool true) emp := by
 intro O w F hs
 obtain ⟨x1,x2,x3,x4,x5⟩ := x
 simp only [] at h
 have hb : (x2 == x2) = true := by simp
 rcases h with ⟨rfl,rfl⟩|⟨rfl,rfl|rfl,rfl⟩|⟨rfl,rfl|rfl|rfl,rfl⟩|⟨rfl,rfl⟩|⟨rfl,rfl,rfl⟩|⟨rfl,rfl|rfl⟩
 all_goals
  go_enter Tryz.func79,Tryz.ntmps79
  (repeat' (first|(((with_reducible apply wl_pass2);rfl;rfl;((simp only [ev,Ue,Uf]);rfl);rfl;(simp only [Uc,Uz]));(repeat ((with_reducible apply wl_pass2);rfl;rfl;((simp only [ev,Ue,Uf]);rfl);rfl;(simp only [Uc,Uz]))))|((with_reducible apply wl_pick);((simp only [ev,Ue,Uf]);rfl);((simp only [cond_true,cond_false,ev,Ue,Uf]);rfl);(with_reducible exact want_none);(simp only [Uc,Uz]))|(go_big_may;(first|(first|(first|(with_reducible refine NQ.mk ?_)|((with_reducible apply pl_neu);rfl;rfl)|(with_reducible refine pl_end ?_))|((with_reducible apply wl_ld hs);infer_instance;rfl;(with_reducible exact Qh);rfl;rfl;(simp only [Uc,Uz]))|((with_reducible apply wl_box hs);rfl;rfl;rfl;clear hs;intro w b hs;(simp only [Uc,Uz])))|((with_reducible refine wp_plan_sat (id := 1) [.neu 0,.neu 1,.neu 2,.neu 3,.neu 4,.neu 5] hs rfl ?_ ?_);kernel_rfl;clear hs;intro w hs)))|go_guarded|go_step))
  (go_ret)
  exact ⟨by first|rfl|simp,by ((with_reducible apply Sat.fin hs);(focus with_reducible (repeat first|exact Ql|exact Qn|apply Qb|apply Qk);done))⟩
theorem ref_at (c : Cfg) (hok : c.Ok) (z : Int) (h0 : 0 ≤ z) (h1 : z < base c 12) : Does Tryz.prog 123 #[c.v,.int .i64 z] emp (fun u => ex fun r => ex fun i => ex fun k => pu (u = .agg #[.int .i64 r,.int .i64 i,.int .i64 k] ∧ (z < base c 11 → r ≤ 10) ∧ (base c 11 ≤ z → r = 11 ∧ i = z - base c 11))) := by
 intro O w F hs
 have hM := Lib.hid (ref_many c hok)
 have hbL := Lib.hid (base_le hok)
 have hmL := Lib.hid (many_le hok)
 have hmono := Lib.hid (fun r k h => base_mono hok r k h)
 have hHz : c.Hz = 3 ∨ c.Hz = 4 ∨ c.Hz = 5 ∨ c.Hz = 6 ∨ c.Hz = 7 ∨ c.Hz = 8 := by have := hok.H1;have := hok.H2;omega
 have hz20 : z ≤ 20000 := by have := (base_le hok 12).2;omega
 have hHz := Lib.hid hHz
 obtain ⟨c1,c2,c3,c4,c5,c6,c7⟩ := c
 clear hok
 simp only [] at hHz
 go_enter Tryz.func123,Tryz.ntmps123
 (repeat' (first|(go_big_may;(first|((show wpList _ _ _ (Oper.mk (some 2) _ _ _ _ _ :: _) _ _);(with_reducible apply wl_box hs);rfl;rfl;rfl;clear hs;intro w bC hs;(simp only [Uc,Uz]))|((show wpList _ _ _ (Oper.mk (some 4) _ _ _ _ _ :: _) _ _);(with_reducible apply wl_alloc hs);infer_instance;rfl;clear hs;intro w bP hs;(simp only [Uc,Uz]))))|go_step))
 go_loopw [1,5] (fun A q wr => ∃ k : Nat,1 ≤ k ∧ k ≤ 11 ∧ A = .int .i64 (z - base ⟨c1,c2,c3,c4,c5,c6,c7⟩ k) ∧ q = .int .i64 (k : Int) ∧ Hid (base ⟨c1,c2,c3,c4,c5,c6,c7⟩ k ≤ z) ∧ Sat O wr (pt bP (.cells #[.int .i64 0,.int .i64 0,.int .i64 0] 161) * (pt bC (.cells #[.int .i64 c1,.int .i64 c2,.int .i64 c3,.int .i64 c4,.int .i64 c5,.int .i64 c6,.int .i64 c7] 23) * F))) (fun _ q _ => 15 - (intOf q).toNat)
 case atStart => exact ⟨1,by omega,by omega,by simp [base],rfl,Lib.hid (by simpa [base] using h0),by ((with_reducible apply Sat.fin hs);(focus with_reducible (repeat first|exact Ql|exact Qh|apply Qb|apply Qk);done))⟩
 case round =>
  obtain ⟨k,k1,k2,rfl,rfl,hbk,hs⟩ := hrel
  have hM1 := Lib.hid (hM.out k k1 (by omega))
  have e1 := base_succ (⟨c1,c2,c3,c4,c5,c6,c7⟩ : Cfg) k k1
  obtain ⟨m1,m2⟩ := hmL.out k
  obtain ⟨b1,b2⟩ := hbL.out k
  have b3 := hbk.out
  have k13 : decide ((k : Int) ≤ 13) = true := by simp;omega
  have k13' : decide (k ≤ 13) = true := by simp;omega
  by_cases hz : z < base ⟨c1,c2,c3,c4,c5,c6,c7⟩ (k + 1)
  ·have hlt : decide (z - base ⟨c1,c2,c3,c4,c5,c6,c7⟩ k < many ⟨c1,c2,c3,c4,c5,c6,c7⟩ k) = true := by simp;omega
   have hpost : (z < base ⟨c1,c2,c3,c4,c5,c6,c7⟩ 11 → (k : Int) ≤ 10) ∧ (base ⟨c1,c2,c3,c4,c5,c6,c7⟩ 11 ≤ z → (k : Int) = 11 ∧ z - base ⟨c1,c2,c3,c4,c5,c6,c7⟩ k = z - base ⟨c1,c2,c3,c4,c5,c6,c7⟩ 11) := by
    refine ⟨fun h => ?_,fun h => ?_⟩
    ·by_cases e : k = 11
     ·subst e;omega
     ·omega
    ·by_cases e : k = 11
     ·subst e;omega
     ·have := hmono.out (k + 1) (11 - (k + 1)) (by omega)
      rw [show k + 1 + (11 - (k + 1)) = 11 by omega] at this
      omega
   have hpost := Lib.hid hpost
   by_cases h9 : k = 9
   ·subst h9
    have hn11 := hmono.out 10 1 (by omega)
    have hlow : z < base ⟨c1,c2,c3,c4,c5,c6,c7⟩ 11 := by omega
    have hlow := Lib.hid hlow
    clear hn11 hz h0 h1 b3 e1
    rcases hHz.out with rfl|rfl|rfl|rfl|rfl|rfl
    all_goals (
     (repeat' (first|(go_big_may;(first|(first|(first|(with_reducible refine NQ.mk ?_)|((with_reducible apply pl_neu);rfl;rfl)|((with_reducible apply pl_eff);rfl)|(with_reducible refine EQ.mk ?_ ?_)|(with_reducible exact chk_nil)|(with_reducible refine pl_end ?_))|((with_reducible apply wl_ld hs);infer_instance;rfl;(focus with_reducible (repeat first|exact Qh|apply Qk);done);rfl;rfl;(simp only [Uc,Uz]))|((with_reducible apply wl_ldF hs);infer_instance;rfl;(focus with_reducible (repeat first|exact Qh|apply Qk);done);rfl;rfl;(simp only [Uc,Uz]))|((with_reducible apply wl_stF hs);infer_instance;rfl;rfl;(with_reducible exact Qh);rfl;rfl;rfl;rfl;clear hs;intro w hs))|(go_at_call 73;((refine (hM1.out).at hs (by (focus ((repeat (with_reducible exact Qn));done))) ?_);clear hs;intro w hs;(try simp only [emp_mul,mul_assoc'] at hs)))|((with_reducible refine wp_plan_sat (id := 7) [.neu 0,.neu 1,.neu 2,.neu 3,.neu 4,.neu 5,.neu 6,.neu 7,.neu 8,.neu 9,.eff 10 []] hs rfl ?_ ?_);kernel_rfl;clear hs;intro w hs)))|go_step|(dsimp only)))
     ((try simp only [Exit.inBlock,Exit.then]);(with_reducible apply bodyPost_ret);((with_reducible apply results_c);rfl;rfl;(with_reducible apply loadF hs);infer_instance;(with_reducible exact Qh);rfl;rfl))
     refine ⟨_,rfl,?_⟩
     simp only [sat_ex,mul_assoc',sat_pu]
     exact ⟨_,_,_,⟨rfl,fun _ => (by omega),fun h => (by have := hlow.out;omega)⟩,by ((with_reducible apply Sat.fin hs);(focus with_reducible (repeat first|exact Ql|apply Qk);done))⟩)
   ·have h9' : ((k : Int) == 9) = false := by simp;omega
    clear hz h0 h1 b3 e1 h9
    (repeat' (first|(go_big_may;(first|(first|((with_reducible apply wl_ldF hs);infer_instance;rfl;(focus with_reducible (repeat first|exact Qh|apply Qk);done);rfl;rfl;(simp only [Uc,Uz]))|((with_reducible apply wl_stF hs);infer_instance;rfl;rfl;(with_reducible exact Qh);rfl;rfl;rfl;rfl;clear hs;intro w hs))|(go_at_call 73;((refine (hM1.out).at hs (by (focus ((repeat (with_reducible exact Qn));done))) ?_);clear hs;intro w hs;(try simp only [emp_mul,mul_assoc'] at hs)))))|go_step|(dsimp only)))
    ((try simp only [Exit.inBlock,Exit.then]);(with_reducible apply bodyPost_ret);((with_reducible apply results_c);rfl;rfl;(with_reducible apply loadF hs);infer_instance;(with_reducible exact Qh);rfl;rfl))
    refine ⟨_,rfl,?_⟩
    simp only [sat_ex,mul_assoc',sat_pu]
    exact ⟨_,_,_,⟨rfl,hpost.out⟩,by ((with_reducible apply Sat.fin hs);(focus with_reducible (repeat first|exact Ql|apply Qk);done))⟩
  ·have hlt : decide (z - base ⟨c1,c2,c3,c4,c5,c6,c7⟩ k < many ⟨c1,c2,c3,c4,c5,c6,c7⟩ k) = false := by simp;omega
   have k11 : k < 11 := by
    by_cases e : k = 11
    ·subst e
     have e12 : base ⟨c1,c2,c3,c4,c5,c6,c7⟩ 12 = base ⟨c1,c2,c3,c4,c5,c6,c7⟩ (11 + 1) := rfl
     omega
    ·omega
   have e2 : z - base ⟨c1,c2,c3,c4,c5,c6,c7⟩ (k + 1) = z - base ⟨c1,c2,c3,c4,c5,c6,c7⟩ k - many ⟨c1,c2,c3,c4,c5,c6,c7⟩ k := by omega
   have hnx := Lib.hid (show base ⟨c1,c2,c3,c4,c5,c6,c7⟩ (k + 1) ≤ z by omega)
   have e2 := Lib.hid e2
   clear e1 hz
   (repeat' (first|(go_big_may;(first|((with_reducible apply wl_ldF hs);infer_instance;rfl;(focus with_reducible (repeat first|exact Qh|apply Qk);done);rfl;rfl;(simp only [Uc,Uz]))|(go_at_call 73;((refine (hM1.out).at hs (by (focus ((repeat (with_reducible exact Qn));done))) ?_);clear hs;intro w hs;(try simp only [emp_mul,mul_assoc'] at hs)))))|go_step|(dsimp only)))
   go_roundw
   case rel => exact ⟨k + 1,by omega,by omega,by rw [e2.out],by simp,hnx,by ((with_reducible apply Sat.fin hs);(with_reducible exact Ql))⟩
   case measure => simp [intOf];omega
def slotZ (c : Cfg) (z : Int) : Int := if z < base c 11 then -1 else z - base c 11
theorem cen_slotOf (c : Cfg) (hok : c.Ok) (z : Int) (h0 : 0 ≤ z) (h1 : z < base c 12) : Gives Tryz.prog 77 #[c.v,.int .i64 z] emp (.int .i64 (slotZ c z)) emp := by
 intro O w F hs
 have hA := Lib.hid (ref_at c hok z h0 h1)
 by_cases hz : z < base c 11
 ·have e : slotZ c z = -1 := if_pos hz
  rw [e]
  go_enter Tryz.func77,Tryz.ntmps77
  (repeat' (first|(go_big_may;(first|(first|((with_reducible apply wl_ld hs);infer_instance;rfl;(with_reducible exact Qh);rfl;rfl;(simp only [Uc,Uz]))|((with_reducible apply wl_ldF hs);infer_instance;rfl;(with_reducible exact Qh);rfl;rfl;(simp only [Uc,Uz]))|((with_reducible apply wl_stF hs);infer_instance;rfl;rfl;(with_reducible exact Qh);rfl;rfl;rfl;rfl;clear hs;intro w hs)|((with_reducible apply wl_alloc hs);infer_instance;rfl;clear hs;intro w b hs;(simp only [Uc,Uz]))|((with_reducible apply wl_box hs);rfl;rfl;rfl;clear hs;intro w b hs;(simp only [Uc,Uz])))|(go_at_call 123;((refine (hA.out).at hs (by (focus ((repeat (with_reducible exact Qn));done))) ?_);clear hs;intro v w hs;(try simp only [emp_mul,mul_assoc'] at hs));(simp only [sat_ex,mul_assoc',sat_pu] at hs);(obtain ⟨r,i,k,⟨rfl,hr,_⟩,hs⟩ := hs);(have hr := hr hz);(have f1 : (r == 11) = false := (by simp;omega));(have f2 : (r == 12) = false := (by simp;omega));(have f3 : (r == 13) = false := (by simp;omega));clear hr)))|go_step|(dsimp only)))
  (go_ret)
  exact ⟨rfl,by ((with_reducible apply Sat.fin hs);(focus with_reducible (repeat first|exact Ql|exact Qn|apply Qb|apply Qk);done))⟩
 ·have e : slotZ c z = z - base c 11 := if_neg hz
  rw [e]
  have hz : base c 11 ≤ z := by omega
  go_enter Tryz.func77,Tryz.ntmps77
  (repeat' (first|(go_big_may;(first|(first|((with_reducible apply wl_ld hs);infer_instance;rfl;(with_reducible exact Qh);rfl;rfl;(simp only [Uc,Uz]))|((with_reducible apply wl_ldF hs);infer_instance;rfl;(with_reducible exact Qh);rfl;rfl;(simp only [Uc,Uz]))|((with_reducible apply wl_stF hs);infer_instance;rfl;rfl;(with_reducible exact Qh);rfl;rfl;rfl;rfl;clear hs;intro w hs)|((with_reducible apply wl_alloc hs);infer_instance;rfl;clear hs;intro w b hs;(simp only [Uc,Uz]))|((with_reducible apply wl_box hs);rfl;rfl;rfl;clear hs;intro w b hs;(simp only [Uc,Uz])))|(go_at_call 123;((refine (hA.out).at hs (by (focus ((repeat (with_reducible exact Qn));done))) ?_);clear hs;intro v w hs;(try simp only [emp_mul,mul_assoc'] at hs));(simp only [sat_ex,mul_assoc',sat_pu] at hs);(obtain ⟨r,i,k,⟨rfl,_,hr⟩,hs⟩ := hs);(obtain ⟨rfl,rfl⟩ := hr hz))))|go_step|(dsimp only)))
  (go_ret)
  exact ⟨rfl,by ((with_reducible apply Sat.fin hs);(focus with_reducible (repeat first|exact Ql|exact Qn|apply Qb|apply Qk);done))⟩
end Go.Proofs.YtegafhhdegnigaaGreat
end
/-
  The census of faults: moves that have something, the slots ahead of a move and behind it.
-/
section
namespace Go.Proofs.YtegafhhdegnigaaGreat
open Go.RowKit Hp
set_option maxRecDepth 100000
set_option maxHeartbeats 8000000
attribute [local irreducible] Go.Calls Go.wpList
theorem runR_mkP {O w : World} {S R : SProp} {cs : List Cll} {lg : List Acc} {sh : List Shf} {ws : List Int} (a1 : Option Addr) (k1 : Nat) (a2 : Option Addr) (k2 : Nat) (a3 : Option Addr) (k3 : Nat) (a4 : Option Addr) (k4 : Nat) (hs : Sat O w S)
  (h : Pull S (sl 50 9 (cs.map Cll.e) (.slice a1 cs.length k1) * (sl 138 7 (lg.map Acc.e) (.slice a2 lg.length k2) * (sl 127 5 (sh.map Shf.e) (.slice a3 sh.length k3) * sl 57 1 (ws.map eU) (.slice a4 ws.length k4)))) R) :
  Sat O w (RunR cs lg sh ws (.agg #[.slice a1 cs.length k1,.slice a2 lg.length k2,.slice a3 sh.length k3,.slice a4 ws.length k4]) * R) :=
 runR_mk ((hs.pull h).cast (by simp only [mul_assoc']))
theorem runR_open {O w : World} {S R : SProp} {cs : List Cll} {lg : List Acc} {sh : List Shf} {ws : List Int} {v1 v2 v3 v4 : Value} (hs : Sat O w S) (h : Pull S (RunR cs lg sh ws (.agg #[v1,v2,v3,v4])) R) :
  Sat O w (sl 50 9 (cs.map Cll.e) v1 * (sl 138 7 (lg.map Acc.e) v2 * (sl 127 5 (sh.map Shf.e) v3 * (sl 57 1 (ws.map eU) v4 * R)))) := by
 have hs := hs.pull h
 unfold RunR at hs
 simp only [sat_ex,mul_assoc',sat_pu] at hs
 obtain ⟨w1,w2,w3,w4,e,hs⟩ := hs
 injection e with e
 injection e with e
 simp only [List.cons.injEq,and_true] at e
 obtain ⟨rfl,rfl,rfl,rfl⟩ := e
 exact hs
theorem cen_next (cs : List Cll) (lg : List Acc) (sh : List Shf) (ws : List Int) (u : Value) (hl : RunLen cs lg sh ws) (n : Int) (hlg : ∀ e ∈ lg,e.move < 65536) (hsh : ∀ e ∈ sh,e.move < 65536) :
  Does Tryz.prog 74 #[u,.int .i64 n] (RunR cs lg sh ws u) (fun v => (ex fun q : Int => pu (v = .int .i64 q ∧ (q = -1 ∨ n < q ∧ q < 65536))) * RunR cs lg sh ws u) := by
 intro O w F hs
 have hg := runR_get hs
 clear hs
 obtain ⟨a1,k1,a2,k2,a3,k3,a4,k4,rfl,hs⟩ := hg
 obtain ⟨g1,g2,g3,g4⟩ := hl
 have hlg := Lib.hid hlg
 have hsh := Lib.hid hsh
 go_enter Tryz.func74,Tryz.ntmps74
 (repeat' (first|(go_big_may;((show wpList _ _ _ (Oper.mk (some 2) _ _ _ _ _ :: _) _ _);(with_reducible apply wl_box hs);rfl;rfl;rfl;clear hs;intro w bR hs;(simp only [Uc,Uz])))|go_step))
 go_loopw [5,6] (fun L q wr => ∃ (l : Int) (i : Nat),i ≤ lg.length ∧ L = .int .i64 l ∧ q = .int .i64 (i : Int) ∧ Hid (l = -1 ∨ n < l ∧ l < 65536) ∧ Sat O wr (pt bR (.cells #[.slice a1 cs.length k1,.slice a2 lg.length k2,.slice a3 sh.length k3,.slice a4 ws.length k4] 32) * (sl 50 9 (cs.map Cll.e) (.slice a1 cs.length k1) * (sl 138 7 (lg.map Acc.e) (.slice a2 lg.length k2) * (sl 127 5 (sh.map Shf.e) (.slice a3 sh.length k3) * (sl 57 1 (ws.map eU) (.slice a4 ws.length k4) * F)))))) (fun _ q _ => lg.length + 1 - (intOf q).toNat)
 case atStart => exact ⟨-1,0,by omega,rfl,rfl,Lib.hid (.inl rfl),by ((with_reducible apply Sat.fin hs);(with_reducible exact Ql))⟩
 case round =>
  obtain ⟨l,i,ki,rfl,rfl,hq,hs⟩ := hrel
  by_cases hkr : i = lg.length
  ·subst hkr
   have hlt : decide ((lg.length : Int) < (lg.length : Int)) = false := by simp
   (repeat' (first|(go_big_may;(first|((with_reducible apply wl_ld hs);infer_instance;rfl;(with_reducible exact Qh);rfl;rfl;(simp only [Uc,Uz]))|((with_reducible apply wl_len hs);infer_instance;rfl;(focus with_reducible (repeat first|exact Qh|apply Qk);done);rfl;(simp only [Uc,Uz]))))|go_step))
   go_loopw [5,8] (fun L q wr => ∃ (l : Int) (i : Nat),i ≤ sh.length ∧ L = .int .i64 l ∧ q = .int .i64 (i : Int) ∧ Hid (l = -1 ∨ n < l ∧ l < 65536) ∧ Sat O wr (pt bR (.cells #[.slice a1 cs.length k1,.slice a2 lg.length k2,.slice a3 sh.length k3,.slice a4 ws.length k4] 32) * (sl 50 9 (cs.map Cll.e) (.slice a1 cs.length k1) * (sl 138 7 (lg.map Acc.e) (.slice a2 lg.length k2) * (sl 127 5 (sh.map Shf.e) (.slice a3 sh.length k3) * (sl 57 1 (ws.map eU) (.slice a4 ws.length k4) * F)))))) (fun _ q _ => sh.length + 1 - (intOf q).toNat)
   case atStart => exact ⟨l,0,by omega,rfl,rfl,hq,by ((with_reducible apply Sat.fin hs);(with_reducible exact Ql))⟩
   case round =>
    clear hq
    obtain ⟨l,i,ki,rfl,rfl,hq,hs⟩ := hrel
    by_cases hkr : i = sh.length
    ·subst hkr
     have hlt : decide ((sh.length : Int) < (sh.length : Int)) = false := by simp
     (repeat' (first|(go_big_may;(first|((with_reducible apply wl_ld hs);infer_instance;rfl;(with_reducible exact Qh);rfl;rfl;(simp only [Uc,Uz]))|((with_reducible apply wl_len hs);infer_instance;rfl;(focus with_reducible (repeat first|exact Qh|apply Qk);done);rfl;(simp only [Uc,Uz]))))|go_step))
     (go_ret)
     refine ⟨_,rfl,?_⟩
     simp only [sat_ex,mul_assoc',sat_pu]
     exact ⟨l,⟨rfl,hq.out⟩,runR_mk (by ((with_reducible apply Sat.fin hs);(focus with_reducible (repeat first|exact Ql|exact Qh|apply Qb|apply Qk);done)))⟩
    ·have hlt : decide ((i : Int) < (sh.length : Int)) = true := by simp;omega
     have hlt2 : decide (i < sh.length) = true := by simp;omega
     have hln : i < (sh.map Shf.e).length := by simp;omega
     obtain ⟨e,he⟩ : ∃ e,sh[i]? = some e := ⟨_,List.getElem?_eq_getElem (by omega)⟩
     have hb := hsh.out e (List.mem_of_getElem? he)
     have hnL := Lib.hid (show i < sh.length by omega)
     obtain ⟨e1,e2,e3,e4,e5⟩ := e
     have hgv : (sh.map Shf.e)[i]? = some (Shf.e ⟨e1,e2,e3,e4,e5⟩) := by rw [List.getElem?_map,he];rfl
     have hb : e1 < 65536 := hb
     have hc : (decide (e1 > n) = false ∧ decide (n < e1) = false) ∨ (decide (e1 > n) = true ∧ decide (n < e1) = true ∧ n < e1 ∧ (decide (l < 0) = true ∨ (decide (l < 0) = false ∧ (decide (e1 < l) = true ∨ decide (e1 < l) = false)))) := by
      simp only [decide_eq_true_eq,decide_eq_false_iff_not];omega
     have hb := Lib.hid hb
     clear he hkr hlt
     rcases hc with ⟨c1,c2⟩|⟨c1,c2,c3,c4|⟨c4,c5|c5⟩⟩
     all_goals try replace c3 := Lib.hid c3
     all_goals (
      (repeat' (first|(((with_reducible apply wl_pass2);rfl;rfl;((simp only [ev,Ue,Uf]);rfl);rfl;(simp only [Uc,Uz]));(repeat (first|((with_reducible apply wl_pass2);rfl;rfl;((simp only [ev,Ue,Uf]);rfl);rfl;(simp only [Uc,Uz]))|((with_reducible apply wl_pass3);rfl;rfl;(simp only [Ue,Uf]);(simp only [Uc,Uz])))))|((with_reducible apply wl_pick);((simp only [ev,Ue,Uf]);rfl);((simp only [cond_true,cond_false,ev,Ue,Uf]);rfl);(first|(with_reducible exact want_none)|((with_reducible apply want_some);rfl;rfl;(simp only [Ue,Uf])));(simp only [Uc,Uz]))|(go_big_may;(first|((with_reducible apply wl_ld hs);infer_instance;rfl;(focus with_reducible (repeat first|exact Qh|apply Qk);done);rfl;rfl;(simp only [Uc,Uz]))|((with_reducible apply wl_ldS0 hs);infer_instance;rfl;assumption;(focus with_reducible (repeat first|exact Qh|apply Qk);done);rfl;(assumption);rfl;rfl;(simp only [Uc,Uz]))|((with_reducible apply wl_ia hs);infer_instance;infer_instance;rfl;rfl;(focus with_reducible (repeat first|exact Qh|apply Qk);done);(rfl);(assumption);rfl;intro b off hat;(simp only [Uc,Uz]))|((with_reducible apply wl_len hs);infer_instance;rfl;(focus with_reducible (repeat first|exact Qh|apply Qk);done);rfl;(simp only [Uc,Uz]))))|go_guarded|go_step))
      go_roundw
      case rel => exact ⟨_,i + 1,(by have := hnL.out;omega),rfl,by simp,(by first|exact hq|exact Lib.hid (.inr ⟨c3.out,hb.out⟩)),by ((with_reducible apply Sat.fin hs);(with_reducible exact Ql))⟩
      case measure => have := hnL.out;simp [intOf];omega)
  ·have hlt : decide ((i : Int) < (lg.length : Int)) = true := by simp;omega
   have hlt2 : decide (i < lg.length) = true := by simp;omega
   have hln : i < (lg.map Acc.e).length := by simp;omega
   obtain ⟨e,he⟩ : ∃ e,lg[i]? = some e := ⟨_,List.getElem?_eq_getElem (by omega)⟩
   have hb := hlg.out e (List.mem_of_getElem? he)
   have hnL := Lib.hid (show i < lg.length by omega)
   obtain ⟨e1,e2,e3,e4,e5,e6,e7⟩ := e
   have hgv : (lg.map Acc.e)[i]? = some (Acc.e ⟨e1,e2,e3,e4,e5,e6,e7⟩) := by rw [List.getElem?_map,he];rfl
   have hb : e1 < 65536 := hb
   have hc : (decide (e1 > n) = false ∧ decide (n < e1) = false) ∨ (decide (e1 > n) = true ∧ decide (n < e1) = true ∧ n < e1 ∧ (decide (l < 0) = true ∨ (decide (l < 0) = false ∧ (decide (e1 < l) = true ∨ decide (e1 < l) = false)))) := by
    simp only [decide_eq_true_eq,decide_eq_false_iff_not];omega
   have hb := Lib.hid hb
   clear he hkr hlt
   rcases hc with ⟨c1,c2⟩|⟨c1,c2,c3,c4|⟨c4,c5|c5⟩⟩
   all_goals try replace c3 := Lib.hid c3
   all_goals (
    (repeat' (first|(((with_reducible apply wl_pass2);rfl;rfl;((simp only [ev,Ue,Uf]);rfl);rfl;(simp only [Uc,Uz]));(repeat (first|((with_reducible apply wl_pass2);rfl;rfl;((simp only [ev,Ue,Uf]);rfl);rfl;(simp only [Uc,Uz]))|((with_reducible apply wl_pass3);rfl;rfl;(simp only [Ue,Uf]);(simp only [Uc,Uz])))))|((with_reducible apply wl_pick);((simp only [ev,Ue,Uf]);rfl);((simp only [cond_true,cond_false,ev,Ue,Uf]);rfl);(first|(with_reducible exact want_none)|((with_reducible apply want_some);rfl;rfl;(simp only [Ue,Uf])));(simp only [Uc,Uz]))|(go_big_may;(first|((with_reducible apply wl_ld hs);infer_instance;rfl;(focus with_reducible (repeat first|exact Qh|apply Qk);done);rfl;rfl;(simp only [Uc,Uz]))|((with_reducible apply wl_ldS0 hs);infer_instance;rfl;assumption;(focus with_reducible (repeat first|exact Qh|apply Qk);done);rfl;(assumption);rfl;rfl;(simp only [Uc,Uz]))|((with_reducible apply wl_ia hs);infer_instance;infer_instance;rfl;rfl;(focus with_reducible (repeat first|exact Qh|apply Qk);done);(rfl);(assumption);rfl;intro b off hat;(simp only [Uc,Uz]))|((with_reducible apply wl_len hs);infer_instance;rfl;(focus with_reducible (repeat first|exact Qh|apply Qk);done);rfl;(simp only [Uc,Uz]))))|go_guarded|go_step))
    go_roundw
    case rel => exact ⟨_,i + 1,(by have := hnL.out;omega),rfl,by simp,(by first|exact hq|exact Lib.hid (.inr ⟨c3.out,hb.out⟩)),by ((with_reducible apply Sat.fin hs);(with_reducible exact Ql))⟩
    case measure => have := hnL.out;simp [intOf];omega)
end Go.Proofs.YtegafhhdegnigaaGreat
end
