/-
  More arms: regions by plans with two ways.
-/
import Derived.Test.YtegafhhdegnigaaGreatDTypes2
import Derived.Test.YtegafhhdegnigaaGreatDTree
import Derived.Test.YtegafhhdegnigaaGreatDInts
set_option linter.all false
section
namespace Go.Proofs.YtegafhhdegnigaaGreat
open Go.RowKit
namespace Hp
end Hp
end Go.Proofs.YtegafhhdegnigaaGreat
end
/-
  Operations that are not wanted are passed over, whatever their slots hold.
-/
section
namespace Go.Proofs.YtegafhhdegnigaaGreat
open Go.RowKit
namespace Hp
theorem wl_pass {P : Program} {ops : Array Oper} {Q : Exit → Act → World → Prop} {w : World} {rest : List Oper} {l : List Value} {ds : List Deferred} {d : Nat} {op : Op} {ty : TypeId} {pos : String} {after : Array Edge} {g : Nat × Bool}
  (hw : Region.wanted { dst := some d,op := op,type := ty,pos,after,guard := some g } (yielded ops l.toArray) = false) (kk : wpList P ops Q rest ⟨(l.set d undef).toArray,ds⟩ w) :
  wpList P ops Q ({ dst := some d,op := op,type := ty,pos,after,guard := some g } :: rest) ⟨l.toArray,ds⟩ w := by
 refine wpList_skip hw ?_
 have e : (Act.put ⟨l.toArray,ds⟩ (some d) undef : Act) = ⟨(l.set d undef).toArray,ds⟩ := put_set
 show wpList P ops Q rest (Act.put ⟨l.toArray,ds⟩ (some d) undef) w
 rw [e];exact kk
theorem wl_pass2 {P : Program} {ops : Array Oper} {Q : Exit → Act → World → Prop} {w : World} {rest : List Oper} {l : List Value} {ds : List Deferred} {d : Nat} {op : Op} {ty : TypeId} {pos : String} {after : Array Edge} {i : Nat} {b z : Bool} {o : Oper} {e : Nat}
  (ho : ops[i]? = some o) (hd : o.dst = some e) (hv : l[e]? = some (.bool z)) (hb : (z == b) = false) (kk : wpList P ops Q rest ⟨(l.set d undef).toArray,ds⟩ w) :
  wpList P ops Q ({ dst := some d,op := op,type := ty,pos,after,guard := some (i,b) } :: rest) ⟨l.toArray,ds⟩ w := by
 refine wl_pass ?_ kk
 have hv' : l.toArray[e]? = some (.bool z) := by simpa using hv
 simp only [Region.wanted,yielded,ho,Option.bind_some,hd,hv']
 cases z <;> cases b <;> first|rfl|cases hb
theorem wl_pass3 {P : Program} {ops : Array Oper} {Q : Exit → Act → World → Prop} {w : World} {rest : List Oper} {l : List Value} {ds : List Deferred} {d : Nat} {op : Op} {ty : TypeId} {pos : String} {after : Array Edge} {i : Nat} {b : Bool} {o : Oper} {e : Nat}
  (ho : ops[i]? = some o) (hd : o.dst = some e) (hv : l[e]? = some undef) (kk : wpList P ops Q rest ⟨(l.set d undef).toArray,ds⟩ w) :
  wpList P ops Q ({ dst := some d,op := op,type := ty,pos,after,guard := some (i,b) } :: rest) ⟨l.toArray,ds⟩ w := by
 refine wl_pass ?_ kk
 have hv' : l.toArray[e]? = some undef := by simpa using hv
 simp only [Region.wanted,yielded,ho,Option.bind_some,hd,hv']
 cases b <;> rfl
theorem wl_pick {P : Program} {ops : Array Oper} {Q : Exit → Act → World → Prop} {w : World} {rest : List Oper} {l : List Value} {ds : List Deferred} {d : Nat} {c x y : Operand} {ty : TypeId} {pos : String} {after : Array Edge} {gd : Option (Nat × Bool)} {z : Bool} {v : Value}
  (hc : ev l c = some (.bool z)) (hv : ev l (cond z x y) = some v)
  (hg : Region.wanted { dst := some d,op := .pick c x y,type := ty,pos,after,guard := gd } (yielded ops l.toArray) = true)
  (kk : wpList P ops Q rest ⟨(l.set d v).toArray,ds⟩ w) :
  wpList P ops Q ({ dst := some d,op := .pick c x y,type := ty,pos,after,guard := gd } :: rest) ⟨l.toArray,ds⟩ w := by
 refine wl_val (v := v) (w' := w) hg ?_ (put_set ▸ kk)
 have h1 := ev_eval (ds := ds) hc
 have h2 := ev_eval (ds := ds) hv
 cases z <;> simp [execOp,h1,asBool] <;> simpa using h2
theorem want_none {d : Option Nat} {op : Op} {ty : TypeId} {pos : String} {after : Array Edge} {f : Nat → Option Bool} : Region.wanted { dst := d,op := op,type := ty,pos,after,guard := none } f = true := rfl
theorem want_some {ops : Array Oper} {l : List Value} {d : Option Nat} {op : Op} {ty : TypeId} {pos : String} {after : Array Edge} {i : Nat} {b : Bool} {o : Oper} {e : Nat}
  (ho : ops[i]? = some o) (hd : o.dst = some e) (hv : l[e]? = some (.bool b)) : Region.wanted { dst := d,op := op,type := ty,pos,after,guard := some (i,b) } (yielded ops l.toArray) = true := by
 have hv' : l.toArray[e]? = some (.bool b) := by simpa using hv
 simp only [Region.wanted,yielded,ho,Option.bind_some,hd,hv']
 cases b <;> rfl
end Hp
end Go.Proofs.YtegafhhdegnigaaGreat
end
/-
  A scan: on to the next record; the beginning.
-/
section
namespace Go.Proofs.YtegafhhdegnigaaGreat
open Go.RowKit Hp
set_option maxRecDepth 100000
set_option maxHeartbeats 1000000
attribute [local irreducible] Go.Calls
theorem jump_ret {l : Nat} {J : Act → World → Prop} {Q : Exit → Act → World → Prop} {a : Act} {w : World} (h : Q .ret a w) : Exit.jump l J Q .ret a w := h
theorem jump_goto {l : Nat} {J : Act → World → Prop} {Q : Exit → Act → World → Prop} {a : Act} {w : World} (h : J a w) : Exit.jump l J Q (.goto l) a w := ⟨rfl,h⟩
theorem wp_scope_once {P : Program} {Q : Exit → Act → World → Prop} {a : Act} {w : World} {c rest : Code} {l : Nat} (hf : findLabel c l = some rest)
  (first : c.wp P (Exit.jump l (fun a w => rest.wp P (Exit.jump l (fun _ _ => False) Q) a w) Q) a w) : (Code.scope c).wp P Q a w := by
 refine wp_scope_jumps l (fun a w => rest.wp P (Exit.jump l (fun _ _ => False) Q) a w) (fun _ _ => 0) hf first ?_
 intro a w h
 refine Go.wp_mono h ?_
 intro e a' w' hh
 cases e <;> first|exact hh|exact hh.2.elim
theorem scan_next (g b ba : Nat) (h : Haz) (s : Scn) (n : Nat) (x : List Int) (hn : s.record = (n : Int)) (hx : h.lists[n]? = some x) (hat : -1 ≤ s.at_ ∧ s.at_ ≤ 16) (hR : h.c.R ≤ 16) :
  Gives Tryz.prog 107 #[.pointer (some ⟨g,0,none⟩)] (ScnR g b ba s * HazR b ba h) (.bool (scanNext h s).1) (ScnR g b ba (scanNext h s).2 * HazR b ba h) := by
 intro O w F hs
 simp only [mul_assoc'] at hs
 obtain ⟨s1,s2,s3,s4,s5,s6,s7,s8⟩ := s
 simp only [] at hn hat
 subst hn
 obtain ⟨vn,vp,vg,hs⟩ := scnR.1 hs
 simp only [] at hs
 (replace hs := hs.pull (A := HazR b _ _) (by (focus with_reducible (repeat first|exact Qh|apply Qk);done));obtain ⟨vhh,vhl,hus_,hu_,husl,husg,hs⟩ := hazT hs hx)
 have hlt := (List.getElem?_eq_some_iff.1 hx).1
 have hltu : n < hus_.length := by omega
 have hxd : h.lists.getD n [] = x := by simp [List.getD_eq_getElem?_getD,hx]
 obtain ⟨a0,a1⟩ := hat
 by_cases hj : s4 + 1 = (n : Int)
 ·have hj' : (s4 + 1 == (n : Int)) = true := by simpa using hj
  have hj2 : (s4 + 2 == (n : Int)) = false := by simp;omega
  have e12 : s4 + 1 + 1 = s4 + 2 := by omega
  by_cases hk : s4 + 2 < h.c.R
  ·have e : scanNext h ⟨s1,n,s3,s4,s5,s6,s7,s8⟩ = (false,⟨s1,n,0,s4 + 2,s5,s6,s7,s8⟩) := by
    unfold scanNext;simp only [if_pos hj,if_pos hk]
   rw [e];clear e
   have hk' : decide (s4 + 2 < h.c.R) = true := by simpa using hk
   have HJ := Lib.hid hj;clear hj hk hxd
   go_enter Tryz.func107,Tryz.ntmps107
   go_wp2
   refine wp_scope_once (l := 0) rfl ?_
   go_wp2
   go_step3
   go_wp2_with (first|(first|(first|(with_reducible refine NQ.mk ?_)|((with_reducible apply pl_neu);rfl;rfl)|(with_reducible refine pl_end ?_))|((with_reducible apply wl_ld hs);infer_instance;rfl;(focus with_reducible (repeat first|exact Qh|apply Qk);done);rfl;rfl;(simp only [Uc,Uz]))|((with_reducible apply wl_st hs);infer_instance;rfl;rfl;(focus with_reducible (repeat first|exact Qh|apply Qk);done);(rfl);(exact Vb rfl);rfl;clear hs;intro w hs;simp only [List.setIfInBounds_toArray,Uc,Uz] at hs))|go_step3|((with_reducible refine wp_plan_sat (id := 2) [.neu 0,.neu 1,.neu 2,.neu 3,.neu 4,.neu 5,.neu 6,.neu 7,.neu 8] hs rfl ?_ ?_);kernel_rfl;clear hs;intro w hs))
   refine jump_goto ?_
   go_wp2_with (first|(first|(first|(with_reducible refine NQ.mk ?_)|((with_reducible apply pl_neu);rfl;rfl)|(with_reducible refine pl_end ?_))|((with_reducible apply wl_ld hs);infer_instance;rfl;(focus with_reducible (repeat first|exact Qh|apply Qk);done);rfl;rfl;(simp only [Uc,Uz]))|((with_reducible apply wl_st hs);infer_instance;rfl;rfl;(with_reducible exact Qh);(rfl);(exact Vb rfl);rfl;clear hs;intro w hs;simp only [List.setIfInBounds_toArray,Uc,Uz] at hs))|((with_reducible refine wp_plan_sat (id := 2) [.neu 0,.neu 1,.neu 2,.neu 3,.neu 4,.neu 5,.neu 6,.neu 7,.neu 8] hs rfl ?_ ?_);kernel_rfl;clear hs;intro w hs)|((with_reducible refine wp_plan_sat (id := 3) [.neu 0,.neu 1,.neu 2,.neu 3,.neu 4,.neu 5,.neu 6,.neu 7,.neu 8,.neu 9,.neu 10,.neu 11,.neu 12] hs rfl ?_ ?_);kernel_rfl;clear hs;intro w hs))
   refine jump_ret ?_
   (go_ret)
   refine ⟨rfl,?_⟩
   (replace hs := hazT_back husl husg hx (hs.fin (by (focus with_reducible (repeat first|exact Ql|exact Qh|apply Qb|apply Qk);done))))
   rw [mul_assoc']
   apply scnR_mk (vn := vn) (vp := vp) (vg := vg)
   ((with_reducible apply Sat.fin hs);(focus with_reducible (repeat first|exact Ql|exact Qh|apply Qb|apply Qk);done))
  ·have hk' : decide (s4 + 2 < h.c.R) = false := by simpa using hk
   by_cases h0 : x.length = 0
   ·have e : scanNext h ⟨s1,n,s3,s4,s5,s6,s7,s8⟩ = (true,⟨s1,n,6,0,true,fun _ => 0,s7,s8⟩) := by
     unfold scanNext;simp only [if_pos hj,if_neg hk,Int.toNat_natCast,hxd,if_pos h0]
    rw [e];clear e
    have h0' : ((x.length : Int) == 0) = true := by simp;exact List.length_eq_zero_iff.1 h0
    have HJ := Lib.hid hj;clear hj hk hxd h0
    go_enter Tryz.func107,Tryz.ntmps107
    go_wp2
    refine wp_scope_once (l := 0) rfl ?_
    go_wp2
    go_step3
    go_wp2_with (first|(first|(first|(with_reducible refine NQ.mk ?_)|((with_reducible apply pl_neu);rfl;rfl)|(with_reducible refine pl_end ?_))|((with_reducible apply wl_ld hs);infer_instance;rfl;(focus with_reducible (repeat first|exact Qh|apply Qk);done);rfl;rfl;(simp only [Uc,Uz]))|((with_reducible apply wl_st hs);infer_instance;rfl;rfl;(focus with_reducible (repeat first|exact Qh|apply Qk);done);(rfl);(exact Vb rfl);rfl;clear hs;intro w hs;simp only [List.setIfInBounds_toArray,Uc,Uz] at hs))|go_step3|((with_reducible refine wp_plan_sat (id := 2) [.neu 0,.neu 1,.neu 2,.neu 3,.neu 4,.neu 5,.neu 6,.neu 7,.neu 8] hs rfl ?_ ?_);kernel_rfl;clear hs;intro w hs))
    refine jump_goto ?_
    go_wp2_with (first|(first|(first|(with_reducible refine NQ.mk ?_)|((with_reducible apply pl_neu);rfl;rfl)|(with_reducible refine pl_end ?_))|((with_reducible apply wl_ld hs);infer_instance;rfl;(focus with_reducible (repeat first|exact Qh|apply Qk);done);rfl;rfl;(simp only [Uc,Uz]))|((with_reducible apply wl_st hs);infer_instance;rfl;rfl;(focus with_reducible (repeat first|exact Qh|apply Qk);done);(rfl);(exact Vb rfl);rfl;clear hs;intro w hs;simp only [List.setIfInBounds_toArray,Uc,Uz] at hs)|((with_reducible apply wl_ldS0 hs);infer_instance;rfl;assumption;(focus with_reducible (repeat first|exact Qh|apply Qk);done);rfl;(exact map_get (by assumption));rfl;rfl;(simp only [Uc,Uz]))|((with_reducible apply wl_ia hs);infer_instance;infer_instance;rfl;rfl;(focus with_reducible (repeat first|exact Qh|apply Qk);done);(rfl);(simp only [Wm,Ws,Wa,Wc,Wn,Wr] at *;omega);rfl;intro b off hat;(simp only [Uc,Uz]))|((with_reducible apply wl_len hs);infer_instance;rfl;(focus with_reducible (repeat first|exact Qh|apply Qk);done);rfl;(simp only [Uc,Uz])))|((with_reducible apply wl_mkmap hs);infer_instance;rfl;clear hs;intro w r hs;(simp only [Uc,Uz]))|((with_reducible refine wp_plan_sat (id := 2) [.neu 0,.neu 1,.neu 2,.neu 3,.neu 4,.neu 5,.neu 6,.neu 7,.neu 8] hs rfl ?_ ?_);kernel_rfl;clear hs;intro w hs)|((with_reducible refine wp_plan_sat (id := 3) [.neu 0,.neu 1,.neu 2,.neu 3,.neu 4,.neu 5,.neu 6,.neu 7,.neu 8,.neu 9,.neu 10,.neu 11,.neu 12] hs rfl ?_ ?_);kernel_rfl;clear hs;intro w hs)|((with_reducible refine wp_plan_sat (id := 8) [.neu 0,.neu 1,.neu 2,.neu 3,.neu 4,.neu 5,.neu 6,.neu 7,.neu 8,.neu 9,.neu 10,.neu 11,.neu 12,.neu 13,.neu 14] hs rfl ?_ ?_);kernel_rfl;clear hs;intro w hs))
    refine jump_ret ?_
    (go_ret)
    refine ⟨rfl,?_⟩
    replace hs := named_empty (hs.pull (by (focus with_reducible (repeat first|exact Qh|apply Qk);done)))
    (replace hs := hazT_back husl husg hx (hs.fin (by (focus with_reducible (repeat first|exact Ql|exact Qh|apply Qb|apply Qk);done))))
    rw [mul_assoc']
    apply scnR_mk (vn := .map (some r)) (vp := vp) (vg := vg)
    ((with_reducible apply Sat.fin hs);(focus with_reducible (repeat first|exact Ql|exact Qh|apply Qb|apply Qk);done))
   ·have e : scanNext h ⟨s1,n,s3,s4,s5,s6,s7,s8⟩ = (false,⟨s1,n,3,0,true,fun _ => 0,s7,s8⟩) := by
     unfold scanNext;simp only [if_pos hj,if_neg hk,Int.toNat_natCast,hxd,if_neg h0]
    rw [e];clear e
    have h0' : ((x.length : Int) == 0) = false := by simp;intro e;simp [e] at h0
    have HJ := Lib.hid hj;clear hj hk hxd h0
    go_enter Tryz.func107,Tryz.ntmps107
    go_wp2
    refine wp_scope_once (l := 0) rfl ?_
    go_wp2
    go_step3
    go_wp2_with (first|(first|(first|(with_reducible refine NQ.mk ?_)|((with_reducible apply pl_neu);rfl;rfl)|(with_reducible refine pl_end ?_))|((with_reducible apply wl_ld hs);infer_instance;rfl;(focus with_reducible (repeat first|exact Qh|apply Qk);done);rfl;rfl;(simp only [Uc,Uz]))|((with_reducible apply wl_st hs);infer_instance;rfl;rfl;(focus with_reducible (repeat first|exact Qh|apply Qk);done);(rfl);(exact Vb rfl);rfl;clear hs;intro w hs;simp only [List.setIfInBounds_toArray,Uc,Uz] at hs))|go_step3|((with_reducible refine wp_plan_sat (id := 2) [.neu 0,.neu 1,.neu 2,.neu 3,.neu 4,.neu 5,.neu 6,.neu 7,.neu 8] hs rfl ?_ ?_);kernel_rfl;clear hs;intro w hs))
    refine jump_goto ?_
    go_wp2_with (first|(first|(first|(with_reducible refine NQ.mk ?_)|((with_reducible apply pl_neu);rfl;rfl)|(with_reducible refine pl_end ?_))|((with_reducible apply wl_ld hs);infer_instance;rfl;(focus with_reducible (repeat first|exact Qh|apply Qk);done);rfl;rfl;(simp only [Uc,Uz]))|((with_reducible apply wl_st hs);infer_instance;rfl;rfl;(focus with_reducible (repeat first|exact Qh|apply Qk);done);(rfl);(exact Vb rfl);rfl;clear hs;intro w hs;simp only [List.setIfInBounds_toArray,Uc,Uz] at hs)|((with_reducible apply wl_ldS0 hs);infer_instance;rfl;assumption;(focus with_reducible (repeat first|exact Qh|apply Qk);done);rfl;(exact map_get (by assumption));rfl;rfl;(simp only [Uc,Uz]))|((with_reducible apply wl_ia hs);infer_instance;infer_instance;rfl;rfl;(focus with_reducible (repeat first|exact Qh|apply Qk);done);(rfl);(simp only [Wm,Ws,Wa,Wc,Wn,Wr] at *;omega);rfl;intro b off hat;(simp only [Uc,Uz]))|((with_reducible apply wl_len hs);infer_instance;rfl;(focus with_reducible (repeat first|exact Qh|apply Qk);done);rfl;(simp only [Uc,Uz])))|((with_reducible apply wl_mkmap hs);infer_instance;rfl;clear hs;intro w r hs;(simp only [Uc,Uz]))|((with_reducible refine wp_plan_sat (id := 2) [.neu 0,.neu 1,.neu 2,.neu 3,.neu 4,.neu 5,.neu 6,.neu 7,.neu 8] hs rfl ?_ ?_);kernel_rfl;clear hs;intro w hs)|((with_reducible refine wp_plan_sat (id := 3) [.neu 0,.neu 1,.neu 2,.neu 3,.neu 4,.neu 5,.neu 6,.neu 7,.neu 8,.neu 9,.neu 10,.neu 11,.neu 12] hs rfl ?_ ?_);kernel_rfl;clear hs;intro w hs)|((with_reducible refine wp_plan_sat (id := 8) [.neu 0,.neu 1,.neu 2,.neu 3,.neu 4,.neu 5,.neu 6,.neu 7,.neu 8,.neu 9,.neu 10,.neu 11,.neu 12,.neu 13,.neu 14] hs rfl ?_ ?_);kernel_rfl;clear hs;intro w hs))
    refine jump_ret ?_
    (go_ret)
    refine ⟨rfl,?_⟩
    replace hs := named_empty (hs.pull (by (focus with_reducible (repeat first|exact Qh|apply Qk);done)))
    (replace hs := hazT_back husl husg hx (hs.fin (by (focus with_reducible (repeat first|exact Ql|exact Qh|apply Qb|apply Qk);done))))
    rw [mul_assoc']
    apply scnR_mk (vn := .map (some r)) (vp := vp) (vg := vg)
    ((with_reducible apply Sat.fin hs);(focus with_reducible (repeat first|exact Ql|exact Qh|apply Qb|apply Qk);done))
 ·have hj' : (s4 + 1 == (n : Int)) = false := by simpa using hj
  by_cases hk : s4 + 1 < h.c.R
  ·have e : scanNext h ⟨s1,n,s3,s4,s5,s6,s7,s8⟩ = (false,⟨s1,n,0,s4 + 1,s5,s6,s7,s8⟩) := by
    unfold scanNext;simp only [if_neg hj,if_pos hk]
   rw [e];clear e
   have hk' : decide (s4 + 1 < h.c.R) = true := by simpa using hk
   clear hj hk hxd
   go_enter Tryz.func107,Tryz.ntmps107
   go_wp2
   refine wp_scope_jumps 0 (fun _ _ => False) (fun _ _ => 0) rfl ?_ (fun _ _ h => h.elim)
   go_wp2
   go_step3
   go_wp2_with (first|(first|(first|(with_reducible refine NQ.mk ?_)|((with_reducible apply pl_neu);rfl;rfl)|(with_reducible refine pl_end ?_))|((with_reducible apply wl_ld hs);infer_instance;rfl;(focus with_reducible (repeat first|exact Qh|apply Qk);done);rfl;rfl;(simp only [Uc,Uz]))|((with_reducible apply wl_st hs);infer_instance;rfl;rfl;(focus with_reducible (repeat first|exact Qh|apply Qk);done);(rfl);(exact Vb rfl);rfl;clear hs;intro w hs;simp only [List.setIfInBounds_toArray,Uc,Uz] at hs))|((with_reducible refine wp_plan_sat (id := 2) [.neu 0,.neu 1,.neu 2,.neu 3,.neu 4,.neu 5,.neu 6,.neu 7,.neu 8] hs rfl ?_ ?_);kernel_rfl;clear hs;intro w hs)|((with_reducible refine wp_plan_sat (id := 3) [.neu 0,.neu 1,.neu 2,.neu 3,.neu 4,.neu 5,.neu 6,.neu 7,.neu 8,.neu 9,.neu 10,.neu 11,.neu 12] hs rfl ?_ ?_);kernel_rfl;clear hs;intro w hs))
   refine jump_ret ?_
   (go_ret)
   refine ⟨rfl,?_⟩
   (replace hs := hazT_back husl husg hx (hs.fin (by (focus with_reducible (repeat first|exact Ql|exact Qh|apply Qb|apply Qk);done))))
   rw [mul_assoc']
   apply scnR_mk (vn := vn) (vp := vp) (vg := vg)
   ((with_reducible apply Sat.fin hs);(focus with_reducible (repeat first|exact Ql|exact Qh|apply Qb|apply Qk);done))
  ·have hk' : decide (s4 + 1 < h.c.R) = false := by simpa using hk
   by_cases h0 : x.length = 0
   ·have e : scanNext h ⟨s1,n,s3,s4,s5,s6,s7,s8⟩ = (true,⟨s1,n,6,0,true,fun _ => 0,s7,s8⟩) := by
     unfold scanNext;simp only [if_neg hj,if_neg hk,Int.toNat_natCast,hxd,if_pos h0]
    rw [e];clear e
    have h0' : ((x.length : Int) == 0) = true := by simp;exact List.length_eq_zero_iff.1 h0
    clear hj hk hxd h0
    go_enter Tryz.func107,Tryz.ntmps107
    go_wp2
    refine wp_scope_jumps 0 (fun _ _ => False) (fun _ _ => 0) rfl ?_ (fun _ _ h => h.elim)
    go_wp2
    go_step3
    go_wp2_with (first|(first|(first|(with_reducible refine NQ.mk ?_)|((with_reducible apply pl_neu);rfl;rfl)|(with_reducible refine pl_end ?_))|((with_reducible apply wl_ld hs);infer_instance;rfl;(focus with_reducible (repeat first|exact Qh|apply Qk);done);rfl;rfl;(simp only [Uc,Uz]))|((with_reducible apply wl_st hs);infer_instance;rfl;rfl;(focus with_reducible (repeat first|exact Qh|apply Qk);done);(rfl);(exact Vb rfl);rfl;clear hs;intro w hs;simp only [List.setIfInBounds_toArray,Uc,Uz] at hs)|((with_reducible apply wl_ldS0 hs);infer_instance;rfl;assumption;(focus with_reducible (repeat first|exact Qh|apply Qk);done);rfl;(exact map_get (by assumption));rfl;rfl;(simp only [Uc,Uz]))|((with_reducible apply wl_ia hs);infer_instance;infer_instance;rfl;rfl;(focus with_reducible (repeat first|exact Qh|apply Qk);done);(rfl);(simp only [Wm,Ws,Wa,Wc,Wn,Wr] at *;omega);rfl;intro b off hat;(simp only [Uc,Uz]))|((with_reducible apply wl_len hs);infer_instance;rfl;(focus with_reducible (repeat first|exact Qh|apply Qk);done);rfl;(simp only [Uc,Uz])))|((with_reducible apply wl_mkmap hs);infer_instance;rfl;clear hs;intro w r hs;(simp only [Uc,Uz]))|((with_reducible refine wp_plan_sat (id := 2) [.neu 0,.neu 1,.neu 2,.neu 3,.neu 4,.neu 5,.neu 6,.neu 7,.neu 8] hs rfl ?_ ?_);kernel_rfl;clear hs;intro w hs)|((with_reducible refine wp_plan_sat (id := 3) [.neu 0,.neu 1,.neu 2,.neu 3,.neu 4,.neu 5,.neu 6,.neu 7,.neu 8,.neu 9,.neu 10,.neu 11,.neu 12] hs rfl ?_ ?_);kernel_rfl;clear hs;intro w hs)|((with_reducible refine wp_plan_sat (id := 8) [.neu 0,.neu 1,.neu 2,.neu 3,.neu 4,.neu 5,.neu 6,.neu 7,.neu 8,.neu 9,.neu 10,.neu 11,.neu 12,.neu 13,.neu 14] hs rfl ?_ ?_);kernel_rfl;clear hs;intro w hs))
    refine jump_ret ?_
    (go_ret)
    refine ⟨rfl,?_⟩
    replace hs := named_empty (hs.pull (by (focus with_reducible (repeat first|exact Qh|apply Qk);done)))
    (replace hs := hazT_back husl husg hx (hs.fin (by (focus with_reducible (repeat first|exact Ql|exact Qh|apply Qb|apply Qk);done))))
    rw [mul_assoc']
    apply scnR_mk (vn := .map (some r)) (vp := vp) (vg := vg)
    ((with_reducible apply Sat.fin hs);(focus with_reducible (repeat first|exact Ql|exact Qh|apply Qb|apply Qk);done))
   ·have e : scanNext h ⟨s1,n,s3,s4,s5,s6,s7,s8⟩ = (false,⟨s1,n,3,0,true,fun _ => 0,s7,s8⟩) := by
     unfold scanNext;simp only [if_neg hj,if_neg hk,Int.toNat_natCast,hxd,if_neg h0]
    rw [e];clear e
    have h0' : ((x.length : Int) == 0) = false := by simp;intro e;simp [e] at h0
    clear hj hk hxd h0
    go_enter Tryz.func107,Tryz.ntmps107
    go_wp2
    refine wp_scope_jumps 0 (fun _ _ => False) (fun _ _ => 0) rfl ?_ (fun _ _ h => h.elim)
    go_wp2
    go_step3
    go_wp2_with (first|(first|(first|(with_reducible refine NQ.mk ?_)|((with_reducible apply pl_neu);rfl;rfl)|(with_reducible refine pl_end ?_))|((with_reducible apply wl_ld hs);infer_instance;rfl;(focus with_reducible (repeat first|exact Qh|apply Qk);done);rfl;rfl;(simp only [Uc,Uz]))|((with_reducible apply wl_st hs);infer_instance;rfl;rfl;(focus with_reducible (repeat first|exact Qh|apply Qk);done);(rfl);(exact Vb rfl);rfl;clear hs;intro w hs;simp only [List.setIfInBounds_toArray,Uc,Uz] at hs)|((with_reducible apply wl_ldS0 hs);infer_instance;rfl;assumption;(focus with_reducible (repeat first|exact Qh|apply Qk);done);rfl;(exact map_get (by assumption));rfl;rfl;(simp only [Uc,Uz]))|((with_reducible apply wl_ia hs);infer_instance;infer_instance;rfl;rfl;(focus with_reducible (repeat first|exact Qh|apply Qk);done);(rfl);(simp only [Wm,Ws,Wa,Wc,Wn,Wr] at *;omega);rfl;intro b off hat;(simp only [Uc,Uz]))|((with_reducible apply wl_len hs);infer_instance;rfl;(focus with_reducible (repeat first|exact Qh|apply Qk);done);rfl;(simp only [Uc,Uz])))|((with_reducible apply wl_mkmap hs);infer_instance;rfl;clear hs;intro w r hs;(simp only [Uc,Uz]))|((with_reducible refine wp_plan_sat (id := 2) [.neu 0,.neu 1,.neu 2,.neu 3,.neu 4,.neu 5,.neu 6,.neu 7,.neu 8] hs rfl ?_ ?_);kernel_rfl;clear hs;intro w hs)|((with_reducible refine wp_plan_sat (id := 3) [.neu 0,.neu 1,.neu 2,.neu 3,.neu 4,.neu 5,.neu 6,.neu 7,.neu 8,.neu 9,.neu 10,.neu 11,.neu 12] hs rfl ?_ ?_);kernel_rfl;clear hs;intro w hs)|((with_reducible refine wp_plan_sat (id := 8) [.neu 0,.neu 1,.neu 2,.neu 3,.neu 4,.neu 5,.neu 6,.neu 7,.neu 8,.neu 9,.neu 10,.neu 11,.neu 12,.neu 13,.neu 14] hs rfl ?_ ?_);kernel_rfl;clear hs;intro w hs))
    refine jump_ret ?_
    (go_ret)
    refine ⟨rfl,?_⟩
    replace hs := named_empty (hs.pull (by (focus with_reducible (repeat first|exact Qh|apply Qk);done)))
    (replace hs := hazT_back husl husg hx (hs.fin (by (focus with_reducible (repeat first|exact Ql|exact Qh|apply Qb|apply Qk);done))))
    rw [mul_assoc']
    apply scnR_mk (vn := .map (some r)) (vp := vp) (vg := vg)
    ((with_reducible apply Sat.fin hs);(focus with_reducible (repeat first|exact Ql|exact Qh|apply Qb|apply Qk);done))
end Go.Proofs.YtegafhhdegnigaaGreat
end
