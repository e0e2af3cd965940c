/-
  HazardCell: the cell by definition (reclaimmodel), walked.
-/
import Derived.Test.YtegafhhdegnigaaGreatDInts
import Derived.Test.YtegafhhdegnigaaGreatDHaz2
import Derived.Test.YtegafhhdegnigaaGreatDCel7
set_option linter.all false
section
namespace Go.Proofs.YtegafhhdegnigaaGreat
open Go.RowKit Hp
set_option maxRecDepth 100000
set_option maxHeartbeats 4000000
attribute [local irreducible] Go.Calls Go.wpList
def objN (o : Int) : Int := if o = 22 ∨ o = 23 then 1 else 0
theorem mod_object (o : Int) (h : 20 ≤ o ∧ o ≤ 25) : Gives Tryz.prog 70 #[.int .i64 o] emp (.int .i64 (objN o)) emp := by
 intro O w F hs
 obtain rfl|rfl|rfl|rfl|rfl|rfl : o = 20 ∨ o = 21 ∨ o = 22 ∨ o = 23 ∨ o = 24 ∨ o = 25 := by omega
 all_goals
  clear h
  go_enter Tryz.func70,Tryz.ntmps70
  (repeat' (go_step))
  (go_ret)
  exact ⟨rfl,by ((with_reducible apply Sat.fin hs);(with_reducible exact Ql))⟩
theorem mod_kind (k : Int) : Gives Tryz.prog 154 #[.int .i64 k] emp (.agg #[.int .i64 k,.int .i64 0]) emp := by
 intro O w F hs
 go_enter Tryz.func154,Tryz.ntmps154
 (repeat' (first|(go_big_may;(first|((with_reducible apply wl_stF hs);infer_instance;rfl;rfl;(with_reducible exact Qh);rfl;rfl;rfl;rfl;clear hs;intro w hs)|((with_reducible apply wl_alloc hs);infer_instance;rfl;clear hs;intro w b hs;(simp only [Uc,Uz]))))|go_step))
 ((try simp only [Exit.inBlock,Exit.then]);(with_reducible apply bodyPost_ret);((with_reducible apply results_c);rfl;rfl;(with_reducible apply loadF hs);infer_instance;(with_reducible exact Qh);rfl;rfl))
 exact ⟨rfl,by ((with_reducible apply Sat.fin hs);(focus with_reducible (repeat first|exact Ql|exact Qn|apply Qb|apply Qk);done))⟩
theorem mod_value (k : Int) : Gives Tryz.prog 155 #[.int .i64 k] emp (.agg #[.int .i64 2,.int .i64 k]) emp := by
 intro O w F hs
 go_enter Tryz.func155,Tryz.ntmps155
 (repeat' (first|(go_big_may;(first|((with_reducible apply wl_stF hs);infer_instance;rfl;rfl;(with_reducible exact Qh);rfl;rfl;rfl;rfl;clear hs;intro w hs)|((with_reducible apply wl_alloc hs);infer_instance;rfl;clear hs;intro w b hs;(simp only [Uc,Uz]))))|go_step))
 ((try simp only [Exit.inBlock,Exit.then]);(with_reducible apply bodyPost_ret);((with_reducible apply results_c);rfl;rfl;(with_reducible apply loadF hs);infer_instance;(with_reducible exact Qh);rfl;rfl))
 exact ⟨rfl,by ((with_reducible apply Sat.fin hs);(focus with_reducible (repeat first|exact Ql|exact Qn|apply Qb|apply Qk);done))⟩
def ctL : Option Int → List (List Value)
 | none => []
 | some v => [eI v]
def CtR (o : Option Int) (u : Value) : SProp := ex fun s0 => ex fun s1 => ex fun s2 => ex fun s3 => ex fun s4 => pu (u = .agg #[s0,s1,s2,s3,s4]) *
 (sl 3 1 (ctL o) s0 * (sl 3 1 [] s1 * (sl 3 1 [] s2 * (sl 3 1 [] s3 * sl 276 2 [] s4))))
theorem ct_mk {O w : World} {F : SProp} {o : Option Int} {s0 s1 s2 s3 s4 : Value} (hs : Sat O w (sl 3 1 (ctL o) s0 * (sl 3 1 [] s1 * (sl 3 1 [] s2 * (sl 3 1 [] s3 * (sl 276 2 [] s4 * F)))))) : Sat O w (CtR o (.agg #[s0,s1,s2,s3,s4]) * F) := by
 unfold CtR
 simp only [sat_ex,mul_assoc',sat_pu]
 exact ⟨_,_,_,_,_,rfl,hs⟩
theorem ct_get {O w : World} {F : SProp} {o : Option Int} {u : Value} (hs : Sat O w (CtR o u * F)) : ∃ a0 k0 a1 k1 a2 k2 a3 k3 a4 k4,u = .agg #[.slice a0 (ctL o).length k0,.slice a1 0 k1,.slice a2 0 k2,.slice a3 0 k3,.slice a4 0 k4] ∧
  Sat O w (sl 3 1 (ctL o) (.slice a0 (ctL o).length k0) * (sl 3 1 [] (.slice a1 0 k1) * (sl 3 1 [] (.slice a2 0 k2) * (sl 3 1 [] (.slice a3 0 k3) * (sl 276 2 [] (.slice a4 0 k4) * F))))) := by
 unfold CtR at hs
 simp only [sat_ex,mul_assoc',sat_pu] at hs
 obtain ⟨s0,s1,s2,s3,s4,rfl,hs⟩ := hs
 obtain ⟨_,_,rfl⟩ := sl_len (hs.pull (A := sl 3 1 _ s0) (by (with_reducible exact Qh)))
 obtain ⟨_,_,rfl⟩ := sl_len (hs.pull (A := sl 3 1 _ s1) (by (focus with_reducible (repeat first|exact Qh|apply Qk);done)))
 obtain ⟨_,_,rfl⟩ := sl_len (hs.pull (A := sl 3 1 _ s2) (by (focus with_reducible (repeat first|exact Qh|apply Qk);done)))
 obtain ⟨_,_,rfl⟩ := sl_len (hs.pull (A := sl 3 1 _ s3) (by (focus with_reducible (repeat first|exact Qh|apply Qk);done)))
 obtain ⟨_,_,rfl⟩ := sl_len (hs.pull (A := sl 276 2 _ s4) (by (focus with_reducible (repeat first|exact Qh|apply Qk);done)))
 exact ⟨_,_,_,_,_,_,_,_,_,_,rfl,hs⟩
theorem mod_copy (o : Option Int) (s0 s1 s2 s3 s4 : Value) : Does Tryz.prog 121 #[.agg #[s0,s1,s2,s3,s4]] (sl 3 1 (ctL o) s0 * (sl 3 1 [] s1 * (sl 3 1 [] s2 * (sl 3 1 [] s3 * sl 276 2 [] s4))))
  (fun u => CtR o u * (sl 3 1 (ctL o) s0 * (sl 3 1 [] s1 * (sl 3 1 [] s2 * (sl 3 1 [] s3 * sl 276 2 [] s4))))) := by
 intro O w F hs
 simp only [mul_assoc'] at hs
 have hl : (ctL o).length ≤ 1 := by cases o <;> simp [ctL]
 generalize hL : ctL o = L at hs hl ⊢
 have hs := sl_nil (E := 3) (sz := 1) hs (by omega)
 have hs := sl_nil (E := 3) (sz := 1) hs (by omega)
 have hs := sl_nil (E := 3) (sz := 1) hs (by omega)
 have hs := sl_nil (E := 3) (sz := 1) hs (by omega)
 have hs := sl_nil (E := 276) (sz := 2) hs (by omega)
 go_enter Tryz.func121,Tryz.ntmps121
 (repeat' (first|(go_big_may;(first|(((with_reducible apply wl_app hs);infer_instance;infer_instance;rfl;rfl;(focus with_reducible (repeat first|exact Qh|apply Qk);done);(focus with_reducible (repeat first|exact Qh|apply Qk);done);(simp only [Wm,Ws,Wa,Wc,Wn,Wr] at *;omega);(exact Vb rfl);rfl;clear hs;intro w v hs;(simp only [Uc,Uz]));(obtain ⟨_,_,rfl⟩ := sl_len (hs.pull (A := sl _ _ _ v) (by (with_reducible exact Qh))));(simp only [List.nil_append,List.length_nil] at hs ⊢))|(first|(first|(with_reducible refine NQ.mk ?_)|((with_reducible apply pl_neu);rfl;rfl)|((with_reducible apply pl_eff);rfl)|(with_reducible refine EQ.mk ?_ ?_)|(first|(with_reducible exact chk_nil)|((with_reducible refine chk_cons ?_ ?_);(focus ((with_reducible apply pl_chk);rfl;rfl))))|(with_reducible refine pl_end ?_)|(show SameA _ _ _;rfl))|((with_reducible apply wl_ld hs);infer_instance;rfl;(focus with_reducible (repeat first|exact Qh|apply Qk);done);rfl;rfl;(simp only [Uc,Uz]))|((with_reducible apply wl_stF hs);infer_instance;rfl;rfl;(focus with_reducible (repeat first|exact Qh|apply Qk);done);rfl;rfl;rfl;rfl;clear hs;intro w hs)|((with_reducible apply wl_alloc hs);infer_instance;rfl;clear hs;intro w b hs;(simp only [Uc,Uz]))|((with_reducible apply wl_box hs);rfl;rfl;rfl;clear hs;intro w b hs;(simp only [Uc,Uz])))|((with_reducible refine wp_plan_sat (id := 1) [.neu 0,.neu 1,.neu 3,.neu 4,.neu 6,.neu 7,.neu 9,.neu 10,.neu 12,.neu 13,.eff 2 [3,4,6,7,9,10,12,13],.eff 5 [6,7,9,10,12,13],.eff 8 [9,10,12,13],.eff 11 [12,13],.eff 14 [],.neu 15,.eff 16 []] hs rfl ?_ ?_);kernel_rfl;clear hs;intro w hs)))|go_step))
 ((try simp only [Exit.inBlock,Exit.then]);(with_reducible apply bodyPost_ret);((with_reducible apply results_c);rfl;rfl;(with_reducible apply loadF hs);infer_instance;(with_reducible exact Qh);rfl;rfl))
 refine ⟨_,rfl,?_⟩
 simp only [mul_assoc']
 rw [← hL] at hs ⊢
 apply ct_mk
 ((with_reducible apply Sat.fin hs);(focus with_reducible (repeat first|exact Ql|exact Qh|apply Qb|apply Qk);done))
end Go.Proofs.YtegafhhdegnigaaGreat
end
/-
  HazardCell: the cell by definition, walked: what a call does, and whether it may answer so.
-/
section
namespace Go.Proofs.YtegafhhdegnigaaGreat
open Go.RowKit Hp
set_option maxRecDepth 100000
set_option maxHeartbeats 4000000
attribute [local irreducible] Go.Calls Go.wpList
def DoV (k v : Int) (o : Option Int) (u : Value) : SProp := ex fun v1 => pu (u = .tuple #[v1,.agg #[.int .i64 k,.int .i64 v]]) * CtR o v1
theorem dov_mk {O w : World} {F : SProp} {k v : Int} {o : Option Int} {v1 : Value} (hs : Sat O w (CtR o v1 * F)) : Sat O w (DoV k v o (.tuple #[v1,.agg #[.int .i64 k,.int .i64 v]]) * F) := by
 unfold DoV
 simp only [sat_ex,mul_assoc',sat_pu]
 exact ⟨_,rfl,hs⟩
theorem dov_get {O w : World} {F : SProp} {k v : Int} {o : Option Int} {u : Value} (hs : Sat O w (DoV k v o u * F)) : ∃ v1,u = .tuple #[v1,.agg #[.int .i64 k,.int .i64 v]] ∧ Sat O w (CtR o v1 * F) := by
 unfold DoV at hs
 simp only [sat_ex,mul_assoc',sat_pu] at hs
 exact hs
theorem mod_post (o : Option Int) (s0 s1 s2 s3 s4 : Value) (x d : Int) : Does Tryz.prog 144 #[.agg #[s0,s1,s2,s3,s4],.int .i64 22,.int .i64 x,.int .i64 d] (sl 3 1 (ctL o) s0 * (sl 3 1 [] s1 * (sl 3 1 [] s2 * (sl 3 1 [] s3 * sl 276 2 [] s4))))
  (fun u => DoV 1 0 (some x) u * (sl 3 1 (ctL o) s0 * (sl 3 1 [] s1 * (sl 3 1 [] s2 * (sl 3 1 [] s3 * sl 276 2 [] s4))))) := by
 intro O w F hs
 simp only [mul_assoc'] at hs
 have hC := Lib.hid (mod_copy o s0 s1 s2 s3 s4)
 have hK := Lib.hid (mod_kind 1)
 go_enter Tryz.func144,Tryz.ntmps144
 (repeat' (first|(go_big_may;(first|(((with_reducible apply wl_bs hs);infer_instance;infer_instance;rfl;rfl;rfl;rfl;(exact Vb rfl);rfl;clear hs;intro w v hs;(simp only [Uc,Uz]));(obtain ⟨_,_,rfl⟩ := sl_len (hs.pull (A := sl _ _ _ v) (by (with_reducible exact Qh))));(simp only [List.length_cons,List.length_nil] at hs ⊢))|(first|(first|(with_reducible refine NQ.mk ?_)|((with_reducible apply pl_neu);rfl;rfl)|((with_reducible apply pl_eff);rfl)|(with_reducible refine EQ.mk ?_ ?_)|(first|(with_reducible exact chk_nil)|((with_reducible refine chk_cons ?_ ?_);(focus ((with_reducible apply pl_chk);rfl;rfl))))|(with_reducible refine pl_end ?_)|(show SameA _ _ _;rfl))|((with_reducible apply wl_ldF hs);infer_instance;rfl;(focus with_reducible (repeat first|exact Qh|apply Qk);done);rfl;rfl;(simp only [Uc,Uz]))|((with_reducible apply wl_st hs);infer_instance;rfl;rfl;(focus with_reducible (repeat first|exact Qh|apply Qk);done);(rfl);(exact Vb rfl);rfl;clear hs;intro w hs;simp only [List.setIfInBounds_toArray,Uc,Uz] at hs)|((with_reducible apply wl_stF hs);infer_instance;rfl;rfl;(focus with_reducible (repeat first|exact Qh|apply Qk);done);rfl;rfl;rfl;rfl;clear hs;intro w hs)|((with_reducible apply wl_alloc hs);infer_instance;rfl;clear hs;intro w b hs;(simp only [Uc,Uz]))|((with_reducible apply wl_box hs);rfl;rfl;rfl;clear hs;intro w b hs;(simp only [Uc,Uz])))|(go_at_call 121;((refine (hC.out).at hs (by (focus with_reducible (repeat first|exact Qh|apply Qb|apply Qk);done)) ?_);clear hs;intro v w hs;(try simp only [emp_mul,mul_assoc'] at hs));(have hg := ct_get hs);(clear hs);(obtain ⟨a0,k0,a1,k1,a2,k2,a3,k3,a4,k4,rfl,hs⟩ := hg))|(go_at_call 154;((refine (hK.out).at hs (by (focus ((repeat (with_reducible exact Qn));done))) ?_);clear hs;intro w hs;(try simp only [emp_mul,mul_assoc'] at hs)))|((with_reducible refine wp_plan_sat (id := 5) [.neu 0,.eff 1 [0],.eff 2 [],.eff 3 []] hs rfl ?_ ?_);kernel_rfl;clear hs;intro w hs)))|go_step|(dsimp only)))
 ((try simp only [Exit.inBlock,Exit.then]);(with_reducible apply bodyPost_ret);((with_reducible apply results_cc);rfl;rfl;(with_reducible apply loadF hs);infer_instance;(focus with_reducible (repeat first|exact Qh|apply Qk);done);rfl;rfl;(with_reducible apply loadF hs);infer_instance;(with_reducible exact Qh);rfl;rfl))
 refine ⟨_,rfl,?_⟩
 simp only [mul_assoc']
 apply dov_mk
 apply ct_mk
 simp only [ctL]
 ((with_reducible apply Sat.fin hs);(focus ((repeat (first|with_reducible exact Ql|with_reducible exact Qh|with_reducible apply Qb|exact Qh|with_reducible apply Qk));done)))
theorem mod_read0 (s0 s1 s2 s3 s4 : Value) (x d : Int) : Does Tryz.prog 144 #[.agg #[s0,s1,s2,s3,s4],.int .i64 23,.int .i64 x,.int .i64 d] (sl 3 1 (ctL none) s0 * (sl 3 1 [] s1 * (sl 3 1 [] s2 * (sl 3 1 [] s3 * sl 276 2 [] s4))))
  (fun u => DoV 3 0 none u * (sl 3 1 (ctL none) s0 * (sl 3 1 [] s1 * (sl 3 1 [] s2 * (sl 3 1 [] s3 * sl 276 2 [] s4))))) := by
 intro O w F hs
 simp only [mul_assoc'] at hs
 have hC := Lib.hid (mod_copy none s0 s1 s2 s3 s4)
 have hK := Lib.hid (mod_kind 3)
 go_enter Tryz.func144,Tryz.ntmps144
 (repeat' (first|(go_big_may;(first|(first|(first|(with_reducible refine NQ.mk ?_)|((with_reducible apply pl_neu);rfl;rfl)|((with_reducible apply pl_eff);rfl)|(with_reducible refine EQ.mk ?_ ?_)|(first|(with_reducible exact chk_nil)|((with_reducible refine chk_cons ?_ ?_);(focus ((with_reducible apply pl_chk);rfl;rfl))))|(with_reducible refine pl_end ?_)|(show SameA _ _ _;rfl))|((with_reducible apply wl_ld hs);infer_instance;rfl;(with_reducible exact Qh);rfl;rfl;(simp only [Uc,Uz]))|((with_reducible apply wl_ldF hs);infer_instance;rfl;(focus with_reducible (repeat first|exact Qh|apply Qk);done);rfl;rfl;(simp only [Uc,Uz]))|((with_reducible apply wl_stF hs);infer_instance;rfl;rfl;(focus with_reducible (repeat first|exact Qh|apply Qk);done);rfl;rfl;rfl;rfl;clear hs;intro w hs)|((with_reducible apply wl_alloc hs);infer_instance;rfl;clear hs;intro w b hs;(simp only [Uc,Uz]))|((with_reducible apply wl_box hs);rfl;rfl;rfl;clear hs;intro w b hs;(simp only [Uc,Uz]))|((with_reducible apply wl_len hs);infer_instance;rfl;(focus with_reducible (repeat first|exact Qh|apply Qk);done);rfl;(simp only [Uc,Uz])))|(go_at_call 121;((refine (hC.out).at hs (by (focus with_reducible (repeat first|exact Qh|apply Qb|apply Qk);done)) ?_);clear hs;intro v w hs;(try simp only [emp_mul,mul_assoc'] at hs));(have hg := ct_get hs);(clear hs);(obtain ⟨a0,k0,a1,k1,a2,k2,a3,k3,a4,k4,rfl,hs⟩ := hg);(simp only [ctL,List.length_nil] at hs ⊢))|(go_at_call 154;((refine (hK.out).at hs (by (focus ((repeat (with_reducible exact Qn));done))) ?_);clear hs;intro w hs;(try simp only [emp_mul,mul_assoc'] at hs)))|((with_reducible refine wp_plan_sat (id := 8) [.neu 0,.eff 1 [0],.eff 2 [],.eff 3 []] hs rfl ?_ ?_);kernel_rfl;clear hs;intro w hs)))|go_step|(dsimp only)))
 ((try simp only [Exit.inBlock,Exit.then]);(with_reducible apply bodyPost_ret);((with_reducible apply results_cc);rfl;rfl;(with_reducible apply loadF hs);infer_instance;(focus with_reducible (repeat first|exact Qh|apply Qk);done);rfl;rfl;(with_reducible apply loadF hs);infer_instance;(with_reducible exact Qh);rfl;rfl))
 refine ⟨_,rfl,?_⟩
 simp only [mul_assoc']
 apply dov_mk
 apply ct_mk
 simp only [ctL]
 ((with_reducible apply Sat.fin hs);(focus with_reducible (repeat first|exact Ql|exact Qh|apply Qb|apply Qk);done))
theorem mod_read1 (v : Int) (s0 s1 s2 s3 s4 : Value) (x d : Int) : Does Tryz.prog 144 #[.agg #[s0,s1,s2,s3,s4],.int .i64 23,.int .i64 x,.int .i64 d] (sl 3 1 (ctL (some v)) s0 * (sl 3 1 [] s1 * (sl 3 1 [] s2 * (sl 3 1 [] s3 * sl 276 2 [] s4))))
  (fun u => DoV 2 v (some v) u * (sl 3 1 (ctL (some v)) s0 * (sl 3 1 [] s1 * (sl 3 1 [] s2 * (sl 3 1 [] s3 * sl 276 2 [] s4))))) := by
 intro O w F hs
 simp only [mul_assoc'] at hs
 have hC := Lib.hid (mod_copy (some v) s0 s1 s2 s3 s4)
 have hK := Lib.hid (mod_value v)
 have hget : ([eI v] : List (List Value))[0]? = some (eI v) := rfl
 go_enter Tryz.func144,Tryz.ntmps144
 (repeat' (first|(go_big_may;(first|(first|(first|(with_reducible refine NQ.mk ?_)|((with_reducible apply pl_neu);rfl;rfl)|((with_reducible apply pl_eff);rfl)|(with_reducible refine EQ.mk ?_ ?_)|(first|(with_reducible exact chk_nil)|((with_reducible refine chk_cons ?_ ?_);(focus ((with_reducible apply pl_chk);rfl;rfl))))|(with_reducible refine pl_end ?_)|(show SameA _ _ _;rfl))|((with_reducible apply wl_ld hs);infer_instance;rfl;(focus with_reducible (repeat first|exact Qh|apply Qk);done);rfl;rfl;(simp only [Uc,Uz]))|((with_reducible apply wl_ldF hs);infer_instance;rfl;(focus with_reducible (repeat first|exact Qh|apply Qk);done);rfl;rfl;(simp only [Uc,Uz]))|((with_reducible apply wl_stF hs);infer_instance;rfl;rfl;(focus with_reducible (repeat first|exact Qh|apply Qk);done);rfl;rfl;rfl;rfl;clear hs;intro w hs)|((with_reducible apply wl_alloc hs);infer_instance;rfl;clear hs;intro w b hs;(simp only [Uc,Uz]))|((with_reducible apply wl_box hs);rfl;rfl;rfl;clear hs;intro w b hs;(simp only [Uc,Uz]))|((with_reducible apply wl_ldS0 hs);infer_instance;rfl;assumption;(focus with_reducible (repeat first|exact Qh|apply Qk);done);rfl;(assumption);rfl;rfl;(simp only [Uc,Uz]))|((with_reducible apply wl_ia hs);infer_instance;infer_instance;rfl;rfl;(focus with_reducible (repeat first|exact Qh|apply Qk);done);(rfl);(simp only [Wm,Ws,Wa,Wc,Wn,Wr] at *;omega);rfl;intro b off hat;(simp only [Uc,Uz]))|((with_reducible apply wl_len hs);infer_instance;rfl;(focus with_reducible (repeat first|exact Qh|apply Qk);done);rfl;(simp only [Uc,Uz])))|(go_at_call 121;((refine (hC.out).at hs (by (focus with_reducible (repeat first|exact Qh|apply Qb|apply Qk);done)) ?_);clear hs;intro v w hs;(try simp only [emp_mul,mul_assoc'] at hs));(have hg := ct_get hs);(clear hs);(obtain ⟨a0,k0,a1,k1,a2,k2,a3,k3,a4,k4,rfl,hs⟩ := hg);(simp only [ctL,List.length_cons,List.length_nil] at hs ⊢))|(go_at_call 155;((refine (hK.out).at hs (by (focus ((repeat (with_reducible exact Qn));done))) ?_);clear hs;intro w hs;(try simp only [emp_mul,mul_assoc'] at hs)))|((with_reducible refine wp_plan_sat (id := 9) [.neu 0,.neu 1,.neu 2,.neu 3,.neu 4,.eff 5 [0],.eff 6 [],.eff 7 []] hs rfl ?_ ?_);kernel_rfl;clear hs;intro w hs)))|go_step|(dsimp only)))
 ((try simp only [Exit.inBlock,Exit.then]);(with_reducible apply bodyPost_ret);((with_reducible apply results_cc);rfl;rfl;(with_reducible apply loadF hs);infer_instance;(focus with_reducible (repeat first|exact Qh|apply Qk);done);rfl;rfl;(with_reducible apply loadF hs);infer_instance;(with_reducible exact Qh);rfl;rfl))
 refine ⟨_,rfl,?_⟩
 simp only [mul_assoc']
 apply dov_mk
 apply ct_mk
 simp only [ctL]
 ((with_reducible apply Sat.fin hs);(focus with_reducible (repeat first|exact Ql|exact Qh|apply Qb|apply Qk);done))
def AlV (o : Option Int) (u : Value) : SProp := ex fun v1 => pu (u = .tuple #[v1,.bool true]) * CtR o v1
theorem alv_mk {O w : World} {F : SProp} {o : Option Int} {v1 : Value} (hs : Sat O w (CtR o v1 * F)) : Sat O w (AlV o (.tuple #[v1,.bool true]) * F) := by
 unfold AlV
 simp only [sat_ex,mul_assoc',sat_pu]
 exact ⟨_,rfl,hs⟩
theorem alv_get {O w : World} {F : SProp} {o : Option Int} {u : Value} (hs : Sat O w (AlV o u * F)) : ∃ v1,u = .tuple #[v1,.bool true] ∧ Sat O w (CtR o v1 * F) := by
 unfold AlV at hs
 simp only [sat_ex,mul_assoc',sat_pu] at hs
 exact hs
theorem mod_allows (o : Option Int) (x : Cll) (h : OkO o x) (s0 s1 s2 s3 s4 : Value) : Does Tryz.prog 122 #[.agg #[s0,s1,s2,s3,s4],.agg #[.int .i64 x.thread,.int .i64 x.op,.int .i64 x.arg,.int .i64 x.data,.int .i64 x.begin_,.int .i64 x.end_,.int .i64 x.point,.int .i64 x.kind,.int .i64 x.value]]
  (sl 3 1 (ctL o) s0 * (sl 3 1 [] s1 * (sl 3 1 [] s2 * (sl 3 1 [] s3 * sl 276 2 [] s4)))) (AlV (nextO o x)) := by
 obtain ⟨x1,x2,x3,x4,x5,x6,x7,x8,x9⟩ := x
 have hC := Lib.hid (mod_copy o s0 s1 s2 s3 s4)
 unfold OkO at h
 simp only [] at h
 rcases h with ⟨rfl,h,rfl⟩|⟨rfl,⟨rfl,rfl,rfl⟩|⟨rfl,rfl⟩⟩
 ·have hD := Lib.hid (mod_post o s0 s1 s2 s3 s4 x3 x4)
  rcases h with rfl|rfl|rfl
  all_goals
   intro O w F hs
   simp only [mul_assoc'] at hs
   go_enter Tryz.func122,Tryz.ntmps122
   (repeat' (first|((with_reducible apply wl_pick);((simp only [ev,Ue,Uf]);rfl);((simp only [cond_true,cond_false,ev,Ue,Uf]);rfl);(with_reducible exact want_none);(simp only [Uc,Uz]))|(go_big_may;(first|(first|((with_reducible apply wl_ld hs);infer_instance;rfl;(focus with_reducible (repeat first|exact Qh|apply Qk);done);rfl;rfl;(simp only [Uc,Uz]))|((with_reducible apply wl_ldF hs);infer_instance;rfl;(focus with_reducible (repeat first|exact Qh|apply Qk);done);rfl;rfl;(simp only [Uc,Uz]))|((with_reducible apply wl_stF hs);infer_instance;rfl;rfl;(focus with_reducible (repeat first|exact Qh|apply Qk);done);rfl;rfl;rfl;rfl;clear hs;intro w hs)|((with_reducible apply wl_alloc hs);infer_instance;rfl;clear hs;intro w b hs;(simp only [Uc,Uz]))|((with_reducible apply wl_box hs);rfl;rfl;rfl;clear hs;intro w b hs;(simp only [Uc,Uz])))|(go_at_call 144;((refine (hD.out).at hs (by (focus with_reducible (repeat first|exact Qh|apply Qb|apply Qk);done)) ?_);clear hs;intro v w hs;(try simp only [emp_mul,mul_assoc'] at hs));(have hg := dov_get hs);(clear hs);(obtain ⟨v1,rfl,hs⟩ := hg);(have hg := ct_get hs);(clear hs);(obtain ⟨a0,k0,a1,k1,a2,k2,a3,k3,a4,k4,rfl,hs⟩ := hg))|(go_at_call 121;((refine (hC.out).at hs (by (focus with_reducible (repeat first|exact Qh|apply Qb|apply Qk);done)) ?_);clear hs;intro v w hs;(try simp only [emp_mul,mul_assoc'] at hs));(have hg := ct_get hs);(clear hs);(obtain ⟨b0,m0,b1,m1,b2,m2,b3,m3,b4,m4,rfl,hs⟩ := hg))))|go_guarded|go_step|(dsimp only)))
   ((try simp only [Exit.inBlock,Exit.then]);(with_reducible apply bodyPost_ret);((with_reducible apply results_ct);rfl;rfl;(with_reducible apply loadF hs);infer_instance;(with_reducible exact Qh);rfl;rfl))
   refine ⟨_,rfl,?_⟩
   apply alv_mk
   apply ct_mk
   simp [nextO]
   ((with_reducible apply Sat.fin hs);(focus with_reducible (repeat first|exact Ql|exact Qh|apply Qb|apply Qk);done))
 ·have hD := Lib.hid (mod_read0 s0 s1 s2 s3 s4 x3 x4)
  intro O w F hs
  simp only [mul_assoc'] at hs
  go_enter Tryz.func122,Tryz.ntmps122
  (repeat' (first|((with_reducible apply wl_pick);((simp only [ev,Ue,Uf]);rfl);((simp only [cond_true,cond_false,ev,Ue,Uf]);rfl);(with_reducible exact want_none);(simp only [Uc,Uz]))|(go_big_may;(first|(first|((with_reducible apply wl_ld hs);infer_instance;rfl;(focus with_reducible (repeat first|exact Qh|apply Qk);done);rfl;rfl;(simp only [Uc,Uz]))|((with_reducible apply wl_ldF hs);infer_instance;rfl;(focus with_reducible (repeat first|exact Qh|apply Qk);done);rfl;rfl;(simp only [Uc,Uz]))|((with_reducible apply wl_stF hs);infer_instance;rfl;rfl;(focus with_reducible (repeat first|exact Qh|apply Qk);done);rfl;rfl;rfl;rfl;clear hs;intro w hs)|((with_reducible apply wl_alloc hs);infer_instance;rfl;clear hs;intro w b hs;(simp only [Uc,Uz]))|((with_reducible apply wl_box hs);rfl;rfl;rfl;clear hs;intro w b hs;(simp only [Uc,Uz])))|(go_at_call 144;((refine (hD.out).at hs (by (focus with_reducible (repeat first|exact Qh|apply Qb|apply Qk);done)) ?_);clear hs;intro v w hs;(try simp only [emp_mul,mul_assoc'] at hs));(have hg := dov_get hs);(clear hs);(obtain ⟨v1,rfl,hs⟩ := hg);(have hg := ct_get hs);(clear hs);(obtain ⟨a0,k0,a1,k1,a2,k2,a3,k3,a4,k4,rfl,hs⟩ := hg))))|go_guarded|go_step|(dsimp only)))
  ((try simp only [Exit.inBlock,Exit.then]);(with_reducible apply bodyPost_ret);((with_reducible apply results_ct);rfl;rfl;(with_reducible apply loadF hs);infer_instance;(with_reducible exact Qh);rfl;rfl))
  refine ⟨_,rfl,?_⟩
  apply alv_mk
  apply ct_mk
  simp [nextO]
  ((with_reducible apply Sat.fin hs);(focus with_reducible (repeat first|exact Ql|exact Qh|apply Qb|apply Qk);done))
 ·have hD := Lib.hid (mod_read1 x9 s0 s1 s2 s3 s4 x3 x4)
  have hne : (x9 != x9) = false := by simp
  intro O w F hs
  simp only [mul_assoc'] at hs
  go_enter Tryz.func122,Tryz.ntmps122
  (repeat' (first|((with_reducible apply wl_pick);((simp only [ev,Ue,Uf]);rfl);((simp only [cond_true,cond_false,ev,Ue,Uf]);rfl);(with_reducible exact want_none);(simp only [Uc,Uz]))|(go_big_may;(first|(first|((with_reducible apply wl_ld hs);infer_instance;rfl;(focus with_reducible (repeat first|exact Qh|apply Qk);done);rfl;rfl;(simp only [Uc,Uz]))|((with_reducible apply wl_ldF hs);infer_instance;rfl;(focus with_reducible (repeat first|exact Qh|apply Qk);done);rfl;rfl;(simp only [Uc,Uz]))|((with_reducible apply wl_stF hs);infer_instance;rfl;rfl;(focus with_reducible (repeat first|exact Qh|apply Qk);done);rfl;rfl;rfl;rfl;clear hs;intro w hs)|((with_reducible apply wl_alloc hs);infer_instance;rfl;clear hs;intro w b hs;(simp only [Uc,Uz]))|((with_reducible apply wl_box hs);rfl;rfl;rfl;clear hs;intro w b hs;(simp only [Uc,Uz])))|(go_at_call 144;((refine (hD.out).at hs (by (focus with_reducible (repeat first|exact Qh|apply Qb|apply Qk);done)) ?_);clear hs;intro v w hs;(try simp only [emp_mul,mul_assoc'] at hs));(have hg := dov_get hs);(clear hs);(obtain ⟨v1,rfl,hs⟩ := hg);(have hg := ct_get hs);(clear hs);(obtain ⟨a0,k0,a1,k1,a2,k2,a3,k3,a4,k4,rfl,hs⟩ := hg))))|go_guarded|go_step|(dsimp only)))
  ((try simp only [Exit.inBlock,Exit.then]);(with_reducible apply bodyPost_ret);((with_reducible apply results_ct);rfl;rfl;(with_reducible apply loadF hs);infer_instance;(with_reducible exact Qh);rfl;rfl))
  refine ⟨_,rfl,?_⟩
  apply alv_mk
  apply ct_mk
  simp [nextO]
  ((with_reducible apply Sat.fin hs);(focus with_reducible (repeat first|exact Ql|exact Qh|apply Qb|apply Qk);done))
end Go.Proofs.YtegafhhdegnigaaGreat
end
