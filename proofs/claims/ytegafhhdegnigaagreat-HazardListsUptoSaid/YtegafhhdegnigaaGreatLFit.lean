/-
  What the examples' script computes.
-/
import Derived.Test.YtegafhhdegnigaaGreatLEra
import Derived.KernelRfl
import Derived.Test.YtegafhhdegnigaaGreatLAddr2
set_option linter.all false
section
namespace Go.Proofs.YtegafhhdegnigaaGreat
open Go.RowKit Hp
set_option maxRecDepth 100000
set_option maxHeartbeats 1000000
attribute [local irreducible] Go.Calls
def e0 (c : Cfg) : HW := (wst0 c 0 .nilIface).er
def runE (c : Cfg) (mvs : List Mv) : HW := mvs.foldl moveE (e0 c)
def smallC : Cfg := ⟨2,2,3,1,0,3,1⟩
abbrev stepsM (t : Int) (n : Nat) : List Mv := List.replicate n ⟨t,0,0,0⟩
def awM : List Mv := ((((([⟨0,20,0,0⟩] ++ stepsM 0 2) ++ [⟨0,22,5,0⟩] ++ stepsM 0 6) ++ [⟨1,20,0,0⟩] ++ stepsM 1 3) ++ [⟨1,23,0,0⟩] ++ stepsM 1 4) ++ [⟨0,22,6,0⟩] ++ stepsM 0 13)
def awOk (y : HW) : Bool := decide (y.m.calls.length = 5) && decide (y.m.shifts.length = 6) && decide (y.m.mem.log.length = 28) &&
 (match y.m.calls[3]? with|some c => decide (c.kind = 2) && decide (c.value = 5)|none => false) &&
 (match y.m.calls[4]? with|some c => decide (c.end_ = 32)|none => false) &&
 (match y.m.shifts[5]? with|some s => decide (s.to = 5) && decide (s.slot = 0)|none => false)
theorem PI.er {c : Cfg} {n : Nat} {y : HW} (P : PI c n y) : PI c n y.er := by
 obtain ⟨p1,p2,p3,p4,p5,p6,p7⟩ := P
 refine ⟨p1,p2,p3.of rfl rfl rfl rfl,p4,by simp only [Wst.er,Mch.er,List.length_map];exact p5,p6,?_⟩
 intro t k se hk hse
 simp only [Wst.er,Mch.er,List.getElem?_map] at hk hse
 cases hs : y.m.seats[t]? with
 | none => rw [hs] at hse;simp at hse
 | some s =>
  rw [hs] at hse
  simp at hse
  subst hse
  exact p7 t k s hk hs
def RunE (c : Cfg) (mvs : List Mv) (u : Value) : SProp := ex fun v => pu (u = .tuple #[v,.int .i64 0]) * RunR (runE c mvs).m.calls (runE c mvs).m.mem.log (runE c mvs).m.shifts (runE c mvs).m.mem.words v
theorem runE_take {c : Cfg} {mvs : List Mv} {k : Nat} {mv : Mv} (h : mvs[k]? = some mv) : runE c (mvs.take (k + 1)) = moveE (runE c (mvs.take k)) mv := by
 have e : mvs.take (k + 1) = mvs.take k ++ [mv] := by
  rw [List.take_add_one,h];rfl
 rw [e]
 simp only [runE,List.foldl_append,List.foldl_cons,List.foldl_nil]
theorem haz_play_runR (c : Cfg) (h : c.Ok) (v : Value) (mvs : List Mv) (hl : mvs.length ≤ 65536) (A : SProp) (hRd : Rd A 4 (mvs.map Mv.e) v) :
  Does Tryz.prog 15 #[c.v,v] A (fun u => RunE c mvs u * A) := by
 intro O w F hs
 have hT := h.T2
 have hT1 := h.T1
 refine (haz_playR c h v mvs hl (fun k y => PI c k y ∧ y.er = runE c (mvs.take k)) (by omega) (fun km vs => ⟨PI.start h km vs,?_⟩) ?_ ?_ ?_ A hRd O w F hs).mono ?_
 ·simp only [List.take_zero]
  show _ = e0 c
  simp only [e0,Wst.er,wst0,Mch.er,mch0]
 ·intro bh ba x k y mv hmv hJ
  have := (List.getElem?_eq_some_iff.1 hmv).1
  exact hJ.1.may (by omega) mv
 ·intro bh ba x k y mv b y' hmv hJ hm
  have := (List.getElem?_eq_some_iff.1 hmv).1
  exact ⟨hJ.1.move (by omega) hm,by rw [runE_take hmv,← hJ.2];exact (moveE_of hm).1⟩
 ·intro y hJ
  obtain ⟨p1,p2,p3,p4,p5,p6,p7⟩ := hJ.1
  have := p3.log
  have := p3.shifts
  have := p3.words
  have := base14_le h
  omega
 ·rintro e w' ⟨u,rfl,hs'⟩
  refine ⟨u,rfl,?_⟩
  unfold playR at hs'
  unfold RunE
  simp only [sat_ex,mul_assoc',sat_pu] at hs' ⊢
  obtain ⟨y,v',⟨⟨hP,hE⟩,hu⟩,hs'⟩ := hs'
  rw [List.take_length] at hE
  refine ⟨v',hu,?_⟩
  rw [← hE]
  exact hs'
theorem haz_play_run (c : Cfg) (h : c.Ok) (v : Value) (mvs : List Mv) (hl : mvs.length ≤ 65536) :
  Does Tryz.prog 15 #[c.v,v] (sl 86 4 (mvs.map Mv.e) v) (fun u => RunE c mvs u * sl 86 4 (mvs.map Mv.e) v) :=
 does_sl fun A hA => haz_play_runR c h v mvs hl A hA
theorem aw_ok : awOk (runE smallC awM) = true := by kernel_rfl
end Go.Proofs.YtegafhhdegnigaaGreat
end
/-
  The examples end as the document tells.
-/
section
namespace Go.Proofs.YtegafhhdegnigaaGreat
open Go.RowKit Hp
set_option maxRecDepth 100000
set_option maxHeartbeats 1000000
attribute [local irreducible] Go.Calls
theorem law_small : Gives Tryz.prog 68 #[] emp smallC.v emp := by
 intro O w F hs
 go_enter Tryz.func68,Tryz.ntmps68
 go_wp2_with (first|((with_reducible apply wl_stF hs);infer_instance;rfl;rfl;(with_reducible exact Qh);rfl;rfl;rfl;rfl;clear hs;intro w hs)|((with_reducible apply wl_alloc hs);infer_instance;rfl;clear hs;intro w b hs;(simp only [Uc,Uz])))
 ((try simp only [Exit.inBlock,Exit.then]);(with_reducible apply bodyPost_ret);((with_reducible apply results_c);rfl;rfl;(with_reducible apply loadF hs);infer_instance;(with_reducible exact Qh);rfl;rfl))
 exact ⟨rfl,by ((with_reducible apply Sat.fin hs);(focus with_reducible (repeat first|exact Ql|exact Qn|apply Qb|apply Qk);done))⟩
theorem law_steps (v : Value) (ms : List Mv) (t : Int) (n : Nat) (hn : n ≤ 65536) (hl : ms.length ≤ 1000000) :
  Does Tryz.prog 32 #[v,.int .i64 t,.int .i64 (n : Int)] (sl 86 4 (ms.map Mv.e) v) (fun u => sl 86 4 ((ms ++ stepsM t n).map Mv.e) u) := by
 intro O w F hs
 go_enter Tryz.func32,Tryz.ntmps32
 go_wp2_with (fail)
 go_loopw [0,7] (fun u q wr => ∃ k : Nat,k ≤ n ∧ q = .int .i64 (k : Int) ∧ Sat O wr (sl 86 4 ((ms ++ stepsM t k).map Mv.e) u * F)) (fun _ q _ => 65537 - (intOf q).toNat)
 case atStart => exact ⟨0,by omega,rfl,by simp only [stepsM,List.replicate_zero,List.append_nil];exact hs⟩
 case round =>
  obtain ⟨k,k1,rfl,hs⟩ := hrel
  by_cases hkr : k = n
  ·subst hkr
   have hlt : decide ((k : Int) < (k : Int)) = false := by simp
   go_wp2_with (fail)
   (go_ret)
   exact ⟨_,rfl,by ((with_reducible apply Sat.fin hs);(focus ((repeat (first|with_reducible exact Ql|with_reducible apply Qb|exact Qh));done)))⟩
  ·have hlt : decide ((k : Int) < (n : Int)) = true := by simp;omega
   have hlt2 : decide (k < n) = true := by simp;omega
   go_wp2_with (first|((with_reducible apply wl_bs hs);infer_instance;infer_instance;rfl;rfl;rfl;rfl;(exact Vb rfl);rfl;clear hs;intro w v hs;(simp only [Uc,Uz]))|((with_reducible apply wl_app hs);infer_instance;infer_instance;rfl;rfl;(focus with_reducible (repeat first|exact Qh|apply Qk);done);(with_reducible exact Qh);(simp only [Wm,Ws,Wa,Wc,Wn,Wr] at *;omega);(exact Vb rfl);rfl;clear hs;intro w v hs;(simp only [Uc,Uz])))
   have e : (ms ++ stepsM t (k + 1)).map Mv.e = (ms ++ stepsM t k).map Mv.e ++ [[.int .i64 t,.int .i64 0,.int .i64 0,.int .i64 0]] := by
    simp only [stepsM,List.replicate_succ',List.map_append,List.map_cons,List.map_nil,List.append_assoc]
   go_roundw
   case rel => exact ⟨k + 1,by omega,by simp,by rw [e];((with_reducible apply Sat.fin hs);(focus with_reducible (repeat first|exact Ql|exact Qh|apply Qb|apply Qk);done))⟩
   case measure => simp [intOf];omega
end Go.Proofs.YtegafhhdegnigaaGreat
end
/-
  The examples end as the document tells: the walk.
-/
section
namespace Go.Proofs.YtegafhhdegnigaaGreat
open Go.RowKit Hp
set_option maxRecDepth 100000
set_option maxHeartbeats 1000000
attribute [local irreducible] Go.Calls
theorem smallOk : smallC.Ok := by constructor <;> decide
theorem aw_facts {y : HW} (h : awOk y = true) : y.m.calls.length = 5 ∧ y.m.shifts.length = 6 ∧ y.m.mem.log.length = 28 ∧
  (∃ a1 a2 a3 a4 a5 a6 a7,y.m.calls[3]? = some ⟨a1,a2,a3,a4,a5,a6,a7,2,5⟩) ∧ (∃ b1 b2 b3 b4 b5 b7 b8 b9,y.m.calls[4]? = some ⟨b1,b2,b3,b4,b5,32,b7,b8,b9⟩) ∧
  ∃ d1 d2 d4,y.m.shifts[5]? = some ⟨d1,d2,0,d4,5⟩ := by
 unfold awOk at h
 simp only [Bool.and_eq_true,decide_eq_true_eq] at h
 obtain ⟨⟨⟨⟨⟨h1,h2⟩,h3⟩,h4⟩,h5⟩,h6⟩ := h
 refine ⟨h1,h2,h3,?_,?_,?_⟩
 ·split at h4
  ·rename_i c hc
   obtain ⟨a1,a2,a3,a4,a5,a6,a7,a8,a9⟩ := c
   simp only [Bool.and_eq_true,decide_eq_true_eq] at h4
   obtain ⟨rfl,rfl⟩ := h4
   exact ⟨_,_,_,_,_,_,_,hc⟩
  ·cases h4
 ·split at h5
  ·rename_i c hc
   obtain ⟨a1,a2,a3,a4,a5,a6,a7,a8,a9⟩ := c
   simp only [decide_eq_true_eq] at h5
   subst h5
   exact ⟨_,_,_,_,_,_,_,_,hc⟩
  ·cases h5
 ·split at h6
  ·rename_i c hc
   obtain ⟨a1,a2,a3,a4,a5⟩ := c
   simp only [Bool.and_eq_true,decide_eq_true_eq] at h6
   obtain ⟨rfl,rfl⟩ := h6
   exact ⟨_,_,_,hc⟩
  ·cases h6
abbrev aw1 : List Mv := [⟨0,20,0,0⟩]
abbrev aw2 : List Mv := (aw1 ++ stepsM 0 2) ++ [⟨0,22,5,0⟩]
abbrev aw3 : List Mv := (aw2 ++ stepsM 0 6) ++ [⟨1,20,0,0⟩]
abbrev aw4 : List Mv := (aw3 ++ stepsM 1 3) ++ [⟨1,23,0,0⟩]
abbrev aw5 : List Mv := (aw4 ++ stepsM 1 4) ++ [⟨0,22,6,0⟩]
set_option maxHeartbeats 4000000 in
theorem law_awake : Gives Tryz.prog 19 #[] emp (.bool true) emp := by
 intro O w F hs
 have hS := Lib.hid law_small
 have h1 := Lib.hid (fun v => law_steps v aw1 0 2 (by omega) (by decide))
 have h2 := Lib.hid (fun v => law_steps v aw2 0 6 (by omega) (by decide))
 have h3 := Lib.hid (fun v => law_steps v aw3 1 3 (by omega) (by decide))
 have h4 := Lib.hid (fun v => law_steps v aw4 1 4 (by omega) (by decide))
 have h5 := Lib.hid (fun v => law_steps v aw5 0 13 (by omega) (by decide))
 have hP := Lib.hid (fun v => haz_play_run smallC smallOk v (aw5 ++ stepsM 0 13) (by decide))
 obtain ⟨l1,l2,l3,⟨a1,a2,a3,a4,a5,a6,a7,g3⟩,⟨b1,b2,b3,b4,b5,b7,b8,b9,g4⟩,d1,d2,d4,g5⟩ := aw_facts (show awOk (runE smallC (aw5 ++ stepsM 0 13)) = true from aw_ok)
 generalize hyy : runE smallC (aw5 ++ stepsM 0 13) = y at l1 l2 l3 g3 g4 g5
 have hyy := Lib.hid hyy
 have lM : (List.map Mv.e (aw5 ++ stepsM 0 13)).length = 33 := rfl
 have i3 : 3 < (y.m.calls.map Cll.e).length := by simp [l1]
 have i4 : 4 < (y.m.calls.map Cll.e).length := by simp [l1]
 have i5 : 5 < (y.m.shifts.map Shf.e).length := by simp [l2]
 go_enter Tryz.func19,Tryz.ntmps19
 go_wp2_with (first|(first|((with_reducible apply wl_ld hs);infer_instance;rfl;(focus with_reducible (repeat first|exact Qh|apply Qk);done);rfl;rfl;(simp only [Uc,Uz]))|((with_reducible apply wl_stF hs);infer_instance;rfl;rfl;(with_reducible exact Qh);rfl;rfl;rfl;rfl;clear hs;intro w hs)|((with_reducible apply wl_alloc hs);infer_instance;rfl;clear hs;intro w b hs;(simp only [Uc,Uz]))|((with_reducible apply wl_ia2 hs);infer_instance;infer_instance;rfl;assumption;rfl;(focus with_reducible (repeat first|exact Qh|apply Qk);done);(rfl);(assumption);rfl;(simp only [Uc,Uz]))|((with_reducible apply wl_ia hs);infer_instance;infer_instance;rfl;rfl;(focus with_reducible (repeat first|exact Qh|apply Qk);done);(rfl);(assumption);rfl;intro b off hat;(simp only [Uc,Uz]))|((with_reducible apply wl_len hs);infer_instance;rfl;(focus with_reducible (repeat first|exact Qh|apply Qk);done);rfl;(simp only [Uc,Uz]))|((with_reducible apply wl_bs hs);infer_instance;infer_instance;rfl;rfl;rfl;rfl;(exact Vb rfl);rfl;clear hs;intro w v hs;(simp only [Uc,Uz]))|((with_reducible apply wl_app hs);infer_instance;infer_instance;rfl;rfl;(focus with_reducible (repeat first|exact Qh|apply Qk);done);(with_reducible exact Qh);(simp only [Wm,Ws,Wa,Wc,Wn,Wr] at *;omega);(exact Vb rfl);rfl;clear hs;intro w v hs;(simp only [Uc,Uz])))|((with_reducible apply wl_ldN hs);infer_instance;rfl;(focus with_reducible (repeat first|exact Qh|apply Qk);done);(simp only [List.size_toArray,List.length_cons,List.length_nil];omega);rfl;rfl;(simp only [Uc,Uz]))|((with_reducible apply wl_ldSN (i := 3) (k := 0) (c' := [.int .i64 a1,.int .i64 a2,.int .i64 a3,.int .i64 a4,.int .i64 a5,.int .i64 a6,.int .i64 a7,.int .i64 2,.int .i64 5]) hs);infer_instance;rfl;assumption;(focus with_reducible (repeat first|exact Qh|apply Qk);done);rfl;(exact map_get (by assumption));(exact Vb rfl);rfl;rfl;(simp only [Uc,Uz]))|((with_reducible apply wl_ldS (i := 4) (k := 5) hs);infer_instance;rfl;assumption;(focus with_reducible (repeat first|exact Qh|apply Qk);done);rfl;(exact map_get (by assumption));rfl;rfl;(simp only [Uc,Uz]))|((with_reducible apply wl_ldS (i := 5) (k := 4) hs);infer_instance;rfl;assumption;(focus with_reducible (repeat first|exact Qh|apply Qk);done);rfl;(exact map_get (by assumption));rfl;rfl;(simp only [Uc,Uz]))|((with_reducible apply wl_ldS (i := 5) (k := 2) hs);infer_instance;rfl;assumption;(focus with_reducible (repeat first|exact Qh|apply Qk);done);rfl;(exact map_get (by assumption));rfl;rfl;(simp only [Uc,Uz]))|(go_at_call 68;((refine (hS.out).at hs (by (focus ((repeat (with_reducible exact Qn));done))) ?_);clear hs;intro w hs;(try simp only [emp_mul,mul_assoc'] at hs)))|(go_at_call 32;((refine ((h1.out _)).at hs (by (focus ((repeat (first|exact Qh|with_reducible apply Qk));done))) ?_);clear hs;intro v w hs;(try simp only [emp_mul,mul_assoc'] at hs)))|(go_at_call 32;((refine ((h2.out _)).at hs (by (focus ((repeat (first|exact Qh|with_reducible apply Qk));done))) ?_);clear hs;intro v w hs;(try simp only [emp_mul,mul_assoc'] at hs)))|(go_at_call 32;((refine ((h3.out _)).at hs (by (focus ((repeat (first|exact Qh|with_reducible apply Qk));done))) ?_);clear hs;intro v w hs;(try simp only [emp_mul,mul_assoc'] at hs)))|(go_at_call 32;((refine ((h4.out _)).at hs (by (focus ((repeat (first|exact Qh|with_reducible apply Qk));done))) ?_);clear hs;intro v w hs;(try simp only [emp_mul,mul_assoc'] at hs)))|(go_at_call 32;((refine ((h5.out _)).at hs (by (focus ((repeat (exact Qh));done))) ?_);clear hs;intro v w hs;(try simp only [emp_mul,mul_assoc'] at hs)))|(go_at_call 15;((refine ((hP.out _)).at hs (by (with_reducible exact Qh)) ?_);clear hs;intro v w hs;(try simp only [emp_mul,mul_assoc'] at hs));(unfold RunE RunR at hs);(simp only [sat_ex,mul_assoc',sat_pu,hyy.out] at hs);(obtain ⟨vr,rfl,vc,vt,vs,vw,rfl,hs⟩ := hs);(obtain ⟨_,_,rfl⟩ := sl_len (hs.pull (A := sl 50 9 _ vc) (by (with_reducible exact Qh))));(obtain ⟨_,_,rfl⟩ := sl_len (hs.pull (A := sl 138 7 _ vt) (by (focus with_reducible (repeat first|exact Qh|apply Qk);done))));(obtain ⟨_,_,rfl⟩ := sl_len (hs.pull (A := sl 127 5 _ vs) (by (focus with_reducible (repeat first|exact Qh|apply Qk);done))));(obtain ⟨_,_,rfl⟩ := sl_len (hs.pull (A := sl 57 1 _ vw) (by (focus with_reducible (repeat first|exact Qh|apply Qk);done))));(obtain ⟨_,_,rfl⟩ := sl_len (hs.pull (A := sl 86 4 _ v) (by (focus with_reducible (repeat first|exact Qh|apply Qk);done))));(simp only [List.length_map,l1,l2,l3,lM] at hs ⊢)))
 (go_ret)
 exact ⟨rfl,by ((with_reducible apply Sat.fin hs);(focus with_reducible (repeat first|exact Ql|exact Qn|apply Qb|apply Qk);done))⟩
end Go.Proofs.YtegafhhdegnigaaGreat
end
/-
  What a script is brought within.
-/
section
namespace Go.Proofs.YtegafhhdegnigaaGreat
open Go.RowKit Hp
set_option maxRecDepth 100000
set_option maxHeartbeats 1000000
attribute [local irreducible] Go.Calls
open Classical in
noncomputable def fitC (c : Cfg) : Cfg := if c.Ok then c else smallC
theorem fitC_ok (c : Cfg) : (fitC c).Ok := by
 unfold fitC
 split
 ·assumption
 ·exact smallOk
theorem fitM_len (mvs : List Mv) : (mvs.take 65536).length ≤ 65536 := by simp;omega
def fitR (c : Cfg) (mvs : List Mv) (A : SProp) (u : Value) : SProp := ex fun v => pu (u = .tuple #[(fitC c).v,v] ∧ Rd A 4 ((mvs.take 65536).map Mv.e) v) * A
theorem law_fit (c : Cfg) (mvs : List Mv) (v : Value) (A : SProp) (hRd : Rd A 4 (mvs.map Mv.e) v) :
  Does Tryz.prog 30 #[c.v,v] A (fitR c mvs A) := by
 intro O w F hs
 have hS := Lib.hid law_small
 obtain ⟨a0,c0,rfl⟩ := hRd.len
 have hRd' := hRd
 simp only [List.length_map] at hRd hs ⊢
 by_cases hl : 65536 < mvs.length
 ·have hR2 : Rd A 4 ((mvs.take 65536).map Mv.e) (.slice a0 65536 c0) := by
   rw [List.map_take]
   have := hRd'.resH (i := 65536) (by simp;omega)
   exact this
  have n1 : decide ((mvs.length : Int) > 65536) = true := by simp;omega
  have n2 : 65536 ≤ (mvs.map Mv.e).length := by simp;omega
  have hRd := Lib.hid hRd
  clear hRd'
  by_cases hok : c.Ok
  ·have hC := Lib.hid (ref_conf c hok)
   have e : fitC c = c := by unfold fitC;rw [if_pos hok]
   unfold fitR
   rw [e]
   go_enter Tryz.func30,Tryz.ntmps30
   go_wp2_with (first|(first|((with_reducible apply wl_ldF hs);infer_instance;rfl;(focus with_reducible (repeat first|exact Qh|apply Qk);done);rfl;rfl;(simp only [Uc,Uz]))|((with_reducible apply wl_stF hs);infer_instance;rfl;rfl;(with_reducible exact Qh);rfl;rfl;rfl;rfl;clear hs;intro w hs)|((with_reducible apply wl_alloc hs);infer_instance;rfl;clear hs;intro w b hs;(simp only [Uc,Uz]))|((with_reducible apply wl_box hs);rfl;rfl;rfl;clear hs;intro w b hs;(simp only [Uc,Uz])))|(go_at_call 87;((refine (hC.out).at hs (by (focus ((repeat (with_reducible exact Qn));done))) ?_);clear hs;intro w hs;(try simp only [emp_mul,mul_assoc'] at hs)))|((with_reducible apply rd_reH (i := 65536) hRd.out);infer_instance;infer_instance;rfl;rfl;rfl;assumption;rfl;(simp only [Uc,Uz])))
   ((try simp only [Exit.inBlock,Exit.then]);(with_reducible apply bodyPost_ret);((with_reducible apply results_ct);rfl;rfl;(with_reducible apply loadF hs);infer_instance;(with_reducible exact Qh);rfl;rfl))
   refine ⟨_,rfl,?_⟩
   simp only [sat_ex,mul_assoc',sat_pu]
   exact ⟨_,⟨rfl,hR2⟩,by ((with_reducible apply Sat.fin hs);(focus with_reducible (repeat first|exact Ql|exact Qh|apply Qb|apply Qk);done))⟩
  ·have hC := Lib.hid (ref_conf_no c hok)
   have e : fitC c = smallC := by unfold fitC;rw [if_neg hok]
   unfold fitR
   rw [e]
   go_enter Tryz.func30,Tryz.ntmps30
   go_wp2_with (first|(first|((with_reducible apply wl_ldF hs);infer_instance;rfl;(focus with_reducible (repeat first|exact Qh|apply Qk);done);rfl;rfl;(simp only [Uc,Uz]))|((with_reducible apply wl_stF hs);infer_instance;rfl;rfl;(focus with_reducible (repeat first|exact Qh|apply Qk);done);rfl;rfl;rfl;rfl;clear hs;intro w hs)|((with_reducible apply wl_alloc hs);infer_instance;rfl;clear hs;intro w b hs;(simp only [Uc,Uz]))|((with_reducible apply wl_box hs);rfl;rfl;rfl;clear hs;intro w b hs;(simp only [Uc,Uz])))|(go_at_call 68;((refine (hS.out).at hs (by (focus ((repeat (with_reducible exact Qn));done))) ?_);clear hs;intro w hs;(try simp only [emp_mul,mul_assoc'] at hs)))|(go_at_call 87;((refine (hC.out).at hs (by (focus ((repeat (with_reducible exact Qn));done))) ?_);clear hs;intro w hs;(try simp only [emp_mul,mul_assoc'] at hs)))|((with_reducible apply rd_reH (i := 65536) hRd.out);infer_instance;infer_instance;rfl;rfl;rfl;assumption;rfl;(simp only [Uc,Uz])))
   ((try simp only [Exit.inBlock,Exit.then]);(with_reducible apply bodyPost_ret);((with_reducible apply results_ct);rfl;rfl;(with_reducible apply loadF hs);infer_instance;(with_reducible exact Qh);rfl;rfl))
   refine ⟨_,rfl,?_⟩
   simp only [sat_ex,mul_assoc',sat_pu]
   exact ⟨_,⟨rfl,hR2⟩,by ((with_reducible apply Sat.fin hs);(focus with_reducible (repeat first|exact Ql|exact Qh|apply Qb|apply Qk);done))⟩
 ·have hR2 : Rd A 4 ((mvs.take 65536).map Mv.e) (.slice a0 mvs.length c0) := by
   rw [List.take_of_length_le (by omega)]
   exact hRd
  have n1 : decide ((mvs.length : Int) > 65536) = false := by simp;omega
  have hRd := Lib.hid hRd
  clear hRd'
  by_cases hok : c.Ok
  ·have hC := Lib.hid (ref_conf c hok)
   have e : fitC c = c := by unfold fitC;rw [if_pos hok]
   unfold fitR
   rw [e]
   go_enter Tryz.func30,Tryz.ntmps30
   go_wp2_with (first|(first|((with_reducible apply wl_ldF hs);infer_instance;rfl;(focus with_reducible (repeat first|exact Qh|apply Qk);done);rfl;rfl;(simp only [Uc,Uz]))|((with_reducible apply wl_stF hs);infer_instance;rfl;rfl;(with_reducible exact Qh);rfl;rfl;rfl;rfl;clear hs;intro w hs)|((with_reducible apply wl_alloc hs);infer_instance;rfl;clear hs;intro w b hs;(simp only [Uc,Uz]))|((with_reducible apply wl_box hs);rfl;rfl;rfl;clear hs;intro w b hs;(simp only [Uc,Uz])))|(go_at_call 87;((refine (hC.out).at hs (by (focus ((repeat (with_reducible exact Qn));done))) ?_);clear hs;intro w hs;(try simp only [emp_mul,mul_assoc'] at hs))))
   ((try simp only [Exit.inBlock,Exit.then]);(with_reducible apply bodyPost_ret);((with_reducible apply results_ct);rfl;rfl;(with_reducible apply loadF hs);infer_instance;(with_reducible exact Qh);rfl;rfl))
   refine ⟨_,rfl,?_⟩
   simp only [sat_ex,mul_assoc',sat_pu]
   exact ⟨_,⟨rfl,hR2⟩,by ((with_reducible apply Sat.fin hs);(focus with_reducible (repeat first|exact Ql|exact Qh|apply Qb|apply Qk);done))⟩
  ·have hC := Lib.hid (ref_conf_no c hok)
   have e : fitC c = smallC := by unfold fitC;rw [if_neg hok]
   unfold fitR
   rw [e]
   go_enter Tryz.func30,Tryz.ntmps30
   go_wp2_with (first|(first|((with_reducible apply wl_ldF hs);infer_instance;rfl;(focus with_reducible (repeat first|exact Qh|apply Qk);done);rfl;rfl;(simp only [Uc,Uz]))|((with_reducible apply wl_stF hs);infer_instance;rfl;rfl;(focus with_reducible (repeat first|exact Qh|apply Qk);done);rfl;rfl;rfl;rfl;clear hs;intro w hs)|((with_reducible apply wl_alloc hs);infer_instance;rfl;clear hs;intro w b hs;(simp only [Uc,Uz]))|((with_reducible apply wl_box hs);rfl;rfl;rfl;clear hs;intro w b hs;(simp only [Uc,Uz])))|(go_at_call 68;((refine (hS.out).at hs (by (focus ((repeat (with_reducible exact Qn));done))) ?_);clear hs;intro w hs;(try simp only [emp_mul,mul_assoc'] at hs)))|(go_at_call 87;((refine (hC.out).at hs (by (focus ((repeat (with_reducible exact Qn));done))) ?_);clear hs;intro w hs;(try simp only [emp_mul,mul_assoc'] at hs))))
   ((try simp only [Exit.inBlock,Exit.then]);(with_reducible apply bodyPost_ret);((with_reducible apply results_ct);rfl;rfl;(with_reducible apply loadF hs);infer_instance;(with_reducible exact Qh);rfl;rfl))
   refine ⟨_,rfl,?_⟩
   simp only [sat_ex,mul_assoc',sat_pu]
   exact ⟨_,⟨rfl,hR2⟩,by ((with_reducible apply Sat.fin hs);(focus with_reducible (repeat first|exact Ql|exact Qh|apply Qb|apply Qk);done))⟩
end Go.Proofs.YtegafhhdegnigaaGreat
end
