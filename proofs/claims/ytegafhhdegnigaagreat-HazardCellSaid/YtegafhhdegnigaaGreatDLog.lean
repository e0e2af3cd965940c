/-
  The kit's makers.
-/
import Derived.Test.YtegafhhdegnigaaGreatDKit
import Derived.Test.YtegafhhdegnigaaGreatDClone
import Derived.Deep.LoopGhost
import Derived.Deep.Cut
set_option linter.all false
section
namespace Go.Proofs.YtegafhhdegnigaaGreat
open Go.RowKit Hp
set_option maxRecDepth 100000
set_option maxHeartbeats 1000000
attribute [local irreducible] Go.Calls
def optR (bh ba : Nat) : Option HTask → Value → SProp
 | none,v => pu (v = .nilIface)
 | some k,v => htR bh ba k v
def hcell (bh c1 : Nat) : SProp := pt c1 (.cells #[.pointer (some ⟨bh,0,none⟩)] 76)
theorem haz_addr_no (b ba : Nat) (h : Haz) (t : Nat) (r k : Int) (ht : h.held[t]? = some r) (r0 : 0 ≤ r) (k0 : k < 0 ∨ h.c.Hz ≤ k) :
  Gives Tryz.prog 51 #[.pointer (some ⟨b,0,none⟩),.int .i64 (t : Int),.int .i64 k] (HazR b ba h) (.int .i64 (-1)) (HazR b ba h) := by
 intro O w F hs
 have hR := Lib.hid (haz_record b ba h t r ht)
 have n1 : decide (r < 0) = false := by simp;omega
 by_cases hk : k < 0
 ·have n2 : decide (k < 0) = true := by simp;omega
  clear k0
  go_enter Tryz.func51,Tryz.ntmps51
  go_wp2_with (go_at_call 50;((refine (hR.out).at hs (by (with_reducible exact Qh)) ?_);clear hs;intro w hs;(try simp only [emp_mul,mul_assoc'] at hs)))
  (go_ret)
  exact ⟨rfl,by ((with_reducible apply Sat.fin hs);(with_reducible exact Ql))⟩
 ·have n2 : decide (k < 0) = false := by simp;omega
  have n3 : decide (k ≥ h.c.Hz) = true := by simp;omega
  clear k0
  go_enter Tryz.func51,Tryz.ntmps51
  go_wp2_with (first|((with_reducible apply wl_ld hs);infer_instance;rfl;(with_reducible exact Qh);rfl;rfl;(simp only [Uc,Uz]))|(go_at_call 50;((refine (hR.out).at hs (by (with_reducible exact Qh)) ?_);clear hs;intro w hs;(try simp only [emp_mul,mul_assoc'] at hs));(obtain ⟨vhh,vhl,hs⟩ := hazR.1 hs)))
  (go_ret)
  refine ⟨rfl,?_⟩
  (apply hazR_mk;((try simp only [List.map_append,List.map_cons,List.map_nil,List.map_set,List.set_set]);(try simp only [List.map_append,List.map_cons,List.map_nil,List.map_set,List.set_set] at hs);((with_reducible apply Sat.fin hs);(with_reducible exact Ql))))
section
variable (bh ba c1 : Nat) (h : Haz) (t : Nat) (mv : Mv)
theorem mk_reg (r : Int) (ht : h.held[t]? = some r) (hr : r < 0) : Does Tryz.prog 95 #[.int .i64 (t : Int),mv.v,.pointer (some ⟨c1,0,none⟩)] (HazR bh ba h * hcell bh c1)
  (fun v => optR bh ba (some (.reg ⟨t,0,false⟩)) v * (HazR bh ba h * hcell bh c1)) := by
 intro O w F hs
 have hlt := (List.getElem?_eq_some_iff.1 ht).1
 have n1 : decide ((t : Int) < 0) = false := by simp
 have n2 : decide ((t : Int) ≥ (h.held.length : Int)) = false := by simp;omega
 have n2' : decide (h.held.length ≤ t) = false := by simp;omega
 have n3 : decide (r ≥ 0) = false := by simp;omega
 unfold hcell at hs ⊢
 simp only [mul_assoc'] at hs ⊢
 (obtain ⟨vhh,vhl,hs⟩ := hazR.1 hs)
 go_enter Tryz.func95,Tryz.ntmps95
 go_wp2_with (first|((with_reducible apply wl_ld hs);infer_instance;rfl;(focus with_reducible (repeat first|exact Qh|apply Qk);done);rfl;rfl;(simp only [Uc,Uz]))|((with_reducible apply wl_box hs);rfl;rfl;rfl;clear hs;intro w b hs;(simp only [Uc,Uz]))|((with_reducible apply wl_ldS0 hs);infer_instance;rfl;assumption;(focus with_reducible (repeat first|exact Qh|apply Qk);done);rfl;(exact map_get (by assumption));rfl;rfl;(simp only [Uc,Uz]))|((with_reducible apply wl_ia hs);infer_instance;infer_instance;rfl;rfl;(focus with_reducible (repeat first|exact Qh|apply Qk);done);(rfl);(simp only [Wm,Ws,Wa,Wc,Wn,Wr] at *;omega);rfl;intro b off hat;(simp only [Uc,Uz]))|((with_reducible apply wl_len hs);infer_instance;rfl;(focus with_reducible (repeat first|exact Qh|apply Qk);done);rfl;(simp only [Uc,Uz])))
 (go_ret)
 refine ⟨_,rfl,?_⟩
 refine ifR_iff.2 ⟨_,rfl,?_⟩
 (replace hs := hazR_mk (hs.fin (by (focus with_reducible (repeat first|exact Ql|exact Qh|apply Qb|apply Qk);done))))
 unfold RegR
 ((with_reducible apply Sat.fin hs);(focus with_reducible (repeat first|exact Ql|exact Qh|apply Qb|apply Qk);done))
theorem mk_reg_no (r : Int) (ht : h.held[t]? = some r) (hr : 0 ≤ r) : Does Tryz.prog 95 #[.int .i64 (t : Int),mv.v,.pointer (some ⟨c1,0,none⟩)] (HazR bh ba h * hcell bh c1)
  (fun v => optR bh ba none v * (HazR bh ba h * hcell bh c1)) := by
 intro O w F hs
 have hlt := (List.getElem?_eq_some_iff.1 ht).1
 have n1 : decide ((t : Int) < 0) = false := by simp
 have n2 : decide ((t : Int) ≥ (h.held.length : Int)) = false := by simp;omega
 have n2' : decide (h.held.length ≤ t) = false := by simp;omega
 have n3 : decide (r ≥ 0) = true := by simp;omega
 unfold hcell at hs ⊢
 simp only [mul_assoc'] at hs ⊢
 (obtain ⟨vhh,vhl,hs⟩ := hazR.1 hs)
 go_enter Tryz.func95,Tryz.ntmps95
 go_wp2_with (first|((with_reducible apply wl_ld hs);infer_instance;rfl;(focus with_reducible (repeat first|exact Qh|apply Qk);done);rfl;rfl;(simp only [Uc,Uz]))|((with_reducible apply wl_box hs);rfl;rfl;rfl;clear hs;intro w b hs;(simp only [Uc,Uz]))|((with_reducible apply wl_ldS0 hs);infer_instance;rfl;assumption;(focus with_reducible (repeat first|exact Qh|apply Qk);done);rfl;(exact map_get (by assumption));rfl;rfl;(simp only [Uc,Uz]))|((with_reducible apply wl_ia hs);infer_instance;infer_instance;rfl;rfl;(focus with_reducible (repeat first|exact Qh|apply Qk);done);(rfl);(simp only [Wm,Ws,Wa,Wc,Wn,Wr] at *;omega);rfl;intro b off hat;(simp only [Uc,Uz]))|((with_reducible apply wl_len hs);infer_instance;rfl;(focus with_reducible (repeat first|exact Qh|apply Qk);done);rfl;(simp only [Uc,Uz])))
 (go_ret)
 refine ⟨_,rfl,?_⟩
 refine sat_pu.2 ⟨rfl,?_⟩
 (replace hs := hazR_mk (hs.fin (by (focus with_reducible (repeat first|exact Ql|exact Qh|apply Qb|apply Qk);done))))
 ((with_reducible apply Sat.fin hs);(focus with_reducible (repeat first|exact Ql|exact Qh|apply Qb|apply Qk);done))
theorem mk_unr : Does Tryz.prog 96 #[.int .i64 (t : Int),mv.v,.pointer (some ⟨c1,0,none⟩)] (HazR bh ba h * hcell bh c1)
  (fun v => optR bh ba (some (.unr ⟨t,0,0,none,none⟩)) v * (HazR bh ba h * hcell bh c1)) := by
 intro O w F hs
 unfold hcell at hs ⊢
 simp only [mul_assoc'] at hs ⊢
 go_enter Tryz.func96,Tryz.ntmps96
 go_wp2_with (first|((with_reducible apply wl_ld hs);infer_instance;rfl;(focus with_reducible (repeat first|exact Qh|apply Qk);done);rfl;rfl;(simp only [Uc,Uz]))|((with_reducible apply wl_box hs);rfl;rfl;rfl;clear hs;intro w b hs;(simp only [Uc,Uz])))
 (go_ret)
 refine ⟨_,rfl,?_⟩
 refine ifR_iff.2 ⟨_,rfl,?_⟩
 apply unrR_mk
 have hs := flu_none (ba := ba) (scan_none (bh := bh) (ba := ba) hs)
 ((with_reducible apply Sat.fin hs);(focus with_reducible (repeat first|exact Ql|exact Qh|apply Qb|apply Qk);done))
theorem mk_pst : Does Tryz.prog 97 #[.int .i64 (t : Int),mv.v,.pointer (some ⟨c1,0,none⟩)] (HazR bh ba h * hcell bh c1)
  (fun v => optR bh ba (some (.pst ⟨t,mv.arg,0,none,0,0,none⟩)) v * (HazR bh ba h * hcell bh c1)) := by
 intro O w F hs
 unfold hcell at hs ⊢
 simp only [mul_assoc'] at hs ⊢
 go_enter Tryz.func97,Tryz.ntmps97
 go_wp2_with (first|((with_reducible apply wl_ld hs);infer_instance;rfl;(focus with_reducible (repeat first|exact Qh|apply Qk);done);rfl;rfl;(simp only [Uc,Uz]))|((with_reducible apply wl_box hs);rfl;rfl;rfl;clear hs;intro w b hs;(simp only [Uc,Uz])))
 (go_ret)
 refine ⟨_,rfl,?_⟩
 refine ifR_iff.2 ⟨_,rfl,?_⟩
 apply pstR_mk
 have hs := tak_none (ba := ba) (rtr_none (bh := bh) (ba := ba) hs)
 ((with_reducible apply Sat.fin hs);(focus with_reducible (repeat first|exact Ql|exact Qh|apply Qb|apply Qk);done))
theorem mk_scn (r : Int) (ht : h.held[t]? = some r) : Does Tryz.prog 100 #[.int .i64 (t : Int),mv.v,.pointer (some ⟨c1,0,none⟩)] (HazR bh ba h * hcell bh c1)
  (fun v => optR bh ba (some (.scn ⟨t,r,6,0,false,fun _ => 0,[],none⟩)) v * (HazR bh ba h * hcell bh c1)) := by
 intro O w F hs
 have hSc := Lib.hid (haz_scan bh ba h t r ht)
 unfold hcell at hs ⊢
 simp only [mul_assoc'] at hs ⊢
 go_enter Tryz.func100,Tryz.ntmps100
 go_wp2_with (first|(first|((with_reducible apply wl_ld hs);infer_instance;rfl;(focus with_reducible (repeat first|exact Qh|apply Qk);done);rfl;rfl;(simp only [Uc,Uz]))|((with_reducible apply wl_box hs);rfl;rfl;rfl;clear hs;intro w b hs;(simp only [Uc,Uz])))|(go_at_call 45;((refine (hSc.out).at hs (by (focus with_reducible (repeat first|exact Qh|apply Qk);done)) ?_);clear hs;intro g w hs;(try simp only [emp_mul,mul_assoc'] at hs))))
 (go_ret)
 refine ⟨_,rfl,?_⟩
 refine ifR_iff.2 ⟨_,rfl,?_⟩
 ((with_reducible apply Sat.fin hs);(focus with_reducible (repeat first|exact Ql|exact Qh|apply Qb|apply Qk);done))
theorem mk_rdg (hc : h.c.Ok) (r : Int) (ht : h.held[t]? = some r) (r0 : 0 ≤ r) (r1 : r < h.c.R) (k0 : 0 ≤ mv.arg) (k1 : mv.arg < h.c.Hz) : Does Tryz.prog 98 #[.int .i64 (t : Int),mv.v,.pointer (some ⟨c1,0,none⟩)] (HazR bh ba h * hcell bh c1)
  (fun v => optR bh ba (some (.rdg ⟨base h.c 9 + r * h.c.Hz + mv.arg,0,0,0⟩)) v * (HazR bh ba h * hcell bh c1)) := by
 intro O w F hs
 have hA := Lib.hid (haz_addr bh ba h hc t r mv.arg ht r0 r1 k0 k1)
 have hm : 0 ≤ r * h.c.Hz := Int.mul_nonneg r0 (by omega)
 have hb := (base_le hc 9).1
 have n1 : decide (base h.c 9 + r * h.c.Hz + mv.arg ≥ 0) = true := by simp;omega
 unfold hcell at hs ⊢
 simp only [mul_assoc'] at hs ⊢
 go_enter Tryz.func98,Tryz.ntmps98
 go_wp2_with (first|(first|((with_reducible apply wl_ld hs);infer_instance;rfl;(focus with_reducible (repeat first|exact Qh|apply Qk);done);rfl;rfl;(simp only [Uc,Uz]))|((with_reducible apply wl_box hs);rfl;rfl;rfl;clear hs;intro w b hs;(simp only [Uc,Uz])))|(go_at_call 51;((refine (hA.out).at hs (by (focus with_reducible (repeat first|exact Qh|apply Qk);done)) ?_);clear hs;intro w hs;(try simp only [emp_mul,mul_assoc'] at hs))))
 (go_ret)
 refine ⟨_,rfl,?_⟩
 refine ifR_iff.2 ⟨_,rfl,?_⟩
 unfold RdgR
 ((with_reducible apply Sat.fin hs);(focus with_reducible (repeat first|exact Ql|exact Qh|apply Qb|apply Qk);done))
theorem mk_rdg_no (r : Int) (ht : h.held[t]? = some r) (r0 : 0 ≤ r) (k0 : mv.arg < 0 ∨ h.c.Hz ≤ mv.arg) : Does Tryz.prog 98 #[.int .i64 (t : Int),mv.v,.pointer (some ⟨c1,0,none⟩)] (HazR bh ba h * hcell bh c1)
  (fun v => optR bh ba none v * (HazR bh ba h * hcell bh c1)) := by
 intro O w F hs
 have hA := Lib.hid (haz_addr_no bh ba h t r mv.arg ht r0 k0)
 clear k0
 unfold hcell at hs ⊢
 simp only [mul_assoc'] at hs ⊢
 go_enter Tryz.func98,Tryz.ntmps98
 go_wp2_with (first|(first|((with_reducible apply wl_ld hs);infer_instance;rfl;(focus with_reducible (repeat first|exact Qh|apply Qk);done);rfl;rfl;(simp only [Uc,Uz]))|((with_reducible apply wl_box hs);rfl;rfl;rfl;clear hs;intro w b hs;(simp only [Uc,Uz])))|(go_at_call 51;((refine (hA.out).at hs (by (focus with_reducible (repeat first|exact Qh|apply Qk);done)) ?_);clear hs;intro w hs;(try simp only [emp_mul,mul_assoc'] at hs))))
 (go_ret)
 refine ⟨_,rfl,?_⟩
 refine sat_pu.2 ⟨rfl,?_⟩
 ((with_reducible apply Sat.fin hs);(focus with_reducible (repeat first|exact Ql|exact Qh|apply Qb|apply Qk);done))
theorem mk_clr (hc : h.c.Ok) (r : Int) (ht : h.held[t]? = some r) (r0 : 0 ≤ r) (r1 : r < h.c.R) (k0 : 0 ≤ mv.arg) (k1 : mv.arg < h.c.Hz) : Does Tryz.prog 99 #[.int .i64 (t : Int),mv.v,.pointer (some ⟨c1,0,none⟩)] (HazR bh ba h * hcell bh c1)
  (fun v => optR bh ba (some (.clr (base h.c 9 + r * h.c.Hz + mv.arg).toNat)) v * (HazR bh ba h * hcell bh c1)) := by
 intro O w F hs
 have hA := Lib.hid (haz_addr bh ba h hc t r mv.arg ht r0 r1 k0 k1)
 have hm : 0 ≤ r * h.c.Hz := Int.mul_nonneg r0 (by omega)
 have hb := (base_le hc 9).1
 have n1 : decide (base h.c 9 + r * h.c.Hz + mv.arg ≥ 0) = true := by simp;omega
 have hn : ((base h.c 9 + r * h.c.Hz + mv.arg).toNat : Int) = base h.c 9 + r * h.c.Hz + mv.arg := Int.toNat_of_nonneg (by omega)
 unfold hcell at hs ⊢
 simp only [mul_assoc'] at hs ⊢
 go_enter Tryz.func99,Tryz.ntmps99
 go_wp2_with (first|(first|((with_reducible apply wl_ld hs);infer_instance;rfl;(focus with_reducible (repeat first|exact Qh|apply Qk);done);rfl;rfl;(simp only [Uc,Uz]))|((with_reducible apply wl_box hs);rfl;rfl;rfl;clear hs;intro w b hs;(simp only [Uc,Uz])))|(go_at_call 51;((refine (hA.out).at hs (by (focus with_reducible (repeat first|exact Qh|apply Qk);done)) ?_);clear hs;intro w hs;(try simp only [emp_mul,mul_assoc'] at hs))))
 (go_ret)
 refine ⟨_,rfl,?_⟩
 refine ifR_iff.2 ⟨_,rfl,?_⟩
 unfold ClrR
 rw [hn]
 ((with_reducible apply Sat.fin hs);(focus with_reducible (repeat first|exact Ql|exact Qh|apply Qb|apply Qk);done))
theorem mk_clr_no (r : Int) (ht : h.held[t]? = some r) (r0 : 0 ≤ r) (k0 : mv.arg < 0 ∨ h.c.Hz ≤ mv.arg) : Does Tryz.prog 99 #[.int .i64 (t : Int),mv.v,.pointer (some ⟨c1,0,none⟩)] (HazR bh ba h * hcell bh c1)
  (fun v => optR bh ba none v * (HazR bh ba h * hcell bh c1)) := by
 intro O w F hs
 have hA := Lib.hid (haz_addr_no bh ba h t r mv.arg ht r0 k0)
 clear k0
 unfold hcell at hs ⊢
 simp only [mul_assoc'] at hs ⊢
 go_enter Tryz.func99,Tryz.ntmps99
 go_wp2_with (first|(first|((with_reducible apply wl_ld hs);infer_instance;rfl;(focus with_reducible (repeat first|exact Qh|apply Qk);done);rfl;rfl;(simp only [Uc,Uz]))|((with_reducible apply wl_box hs);rfl;rfl;rfl;clear hs;intro w b hs;(simp only [Uc,Uz])))|(go_at_call 51;((refine (hA.out).at hs (by (focus with_reducible (repeat first|exact Qh|apply Qk);done)) ?_);clear hs;intro w hs;(try simp only [emp_mul,mul_assoc'] at hs))))
 (go_ret)
 refine ⟨_,rfl,?_⟩
 refine sat_pu.2 ⟨rfl,?_⟩
 ((with_reducible apply Sat.fin hs);(focus with_reducible (repeat first|exact Ql|exact Qh|apply Qb|apply Qk);done))
def fcell (d : Nat) (u : Value) : SProp := pt d (.cells #[u] 177)
theorem hold_no (d : Nat) (u : Value) (r : Int) (ht : h.held[t]? = some r) (r0 : r < 0) : Does Tryz.prog 94 #[.int .i64 (t : Int),mv.v,.pointer (some ⟨c1,0,none⟩),.pointer (some ⟨d,0,none⟩)] (HazR bh ba h * (hcell bh c1 * fcell d u))
  (fun v => optR bh ba none v * (HazR bh ba h * (hcell bh c1 * fcell d u))) := by
 intro O w F hs
 have hR := Lib.hid (haz_record bh ba h t r ht)
 have n1 : decide (r < 0) = true := by simp;omega
 unfold hcell fcell at hs ⊢
 simp only [mul_assoc'] at hs ⊢
 go_enter Tryz.func94,Tryz.ntmps94
 go_wp2_with (first|(first|((with_reducible apply wl_ld hs);infer_instance;rfl;(focus with_reducible (repeat first|exact Qh|apply Qk);done);rfl;rfl;(simp only [Uc,Uz]))|((with_reducible apply wl_box hs);rfl;rfl;rfl;clear hs;intro w b hs;(simp only [Uc,Uz])))|(go_at_call 50;((refine (hR.out).at hs (by (focus with_reducible (repeat first|exact Qh|apply Qk);done)) ?_);clear hs;intro w hs;(try simp only [emp_mul,mul_assoc'] at hs))))
 (go_ret)
 refine ⟨_,rfl,?_⟩
 refine sat_pu.2 ⟨rfl,?_⟩
 ((with_reducible apply Sat.fin hs);(focus with_reducible (repeat first|exact Ql|exact Qh|apply Qb|apply Qk);done))
theorem hold_yes (d : Nat) (f : FuncId) (o : Option HTask) (r : Int) (ht : h.held[t]? = some r) (r0 : 0 ≤ r)
  (hD : Dyn Tryz.prog (callValue (.func (.func f) #[] #[.pointer (some ⟨c1,0,none⟩)]) #[.int .i64 (t : Int),mv.v]) (HazR bh ba h * hcell bh c1) (fun v => optR bh ba o v * (HazR bh ba h * hcell bh c1))) :
  Does Tryz.prog 94 #[.int .i64 (t : Int),mv.v,.pointer (some ⟨c1,0,none⟩),.pointer (some ⟨d,0,none⟩)] (HazR bh ba h * (hcell bh c1 * fcell d (.func (.func f) #[] #[.pointer (some ⟨c1,0,none⟩)])))
  (fun v => optR bh ba o v * (HazR bh ba h * (hcell bh c1 * fcell d (.func (.func f) #[] #[.pointer (some ⟨c1,0,none⟩)])))) := by
 intro O w F hs
 have hR := Lib.hid (haz_record bh ba h t r ht)
 have n1 : decide (r < 0) = false := by simp;omega
 unfold hcell at hD
 have hD := Lib.hid hD
 unfold hcell fcell at hs ⊢
 simp only [mul_assoc'] at hs ⊢
 go_enter Tryz.func94,Tryz.ntmps94
 go_wp2_with (first|(first|((with_reducible apply wl_ld hs);infer_instance;rfl;(focus with_reducible (repeat first|exact Qh|apply Qk);done);rfl;rfl;(simp only [Uc,Uz]))|((with_reducible apply wl_ldF hs);infer_instance;rfl;(focus with_reducible (repeat first|exact Qh|apply Qk);done);rfl;rfl;(simp only [Uc,Uz]))|((with_reducible apply wl_box hs);rfl;rfl;rfl;clear hs;intro w b hs;(simp only [Uc,Uz])))|(go_at_call 50;((refine (hR.out).at hs (by (focus with_reducible (repeat first|exact Qh|apply Qk);done)) ?_);clear hs;intro w hs;(try simp only [emp_mul,mul_assoc'] at hs)))|((with_reducible apply wl_val2 hs);rfl;rfl;rfl;exact hD.out;(focus with_reducible (repeat first|exact Qh|apply Qb|apply Qk);done);rfl;clear hs;intro v w hs;(simp only [mul_assoc'] at hs);(simp only [Uc,Uz])))
 (go_ret)
 refine ⟨_,rfl,?_⟩
 ((with_reducible apply Sat.fin hs);(focus ((repeat (first|with_reducible exact Ql|with_reducible exact Qh|with_reducible apply Qb|exact Qh|with_reducible apply Qk));done)))
end
end Go.Proofs.YtegafhhdegnigaaGreat
end
/-
  A range over a function: from plain walks to the fenced laws.
-/
section
namespace Go.Proofs.YtegafhhdegnigaaGreat
open Go.RowKit Hp
set_option maxRecDepth 100000
set_option maxHeartbeats 1000000
namespace Hp
structure Wide (F : Fence) : Prop where
 fn : ∀ f,F.fn f
 depth : F.depth = none
 machine : ∀ P,Machine.fenced P F = Machine.fenced P Fence.wide
 room : ∀ k,F.room k
theorem wide_wide : Wide Fence.wide := ⟨fun _ => trivial,rfl,fun _ => rfl,room_wide⟩
theorem wide_round (l : Nat) : Wide (Fence.wide.inRound l) := ⟨fun _ => trivial,rfl,fun _ => rfl,room_wide⟩
theorem callsIn_of {F : Fence} (hF : Wide F) {n : Nat} {P : Program} {f : FuncId} {args : Array Value} {w : World} {R : Ending → World → Prop} (h : Calls P f args w R) : CallsIn F n P f args w R := by
 have h' := (callsIn_wide (n := n)).2 h
 refine ⟨hF.fn f,fun cs hr => ?_⟩
 obtain ⟨e,w',fr,r,s,x⟩ := h'.2 cs (room_wide _)
 exact ⟨e,w',fr,r,by rw [hF.machine P];exact s,x⟩
def noDefer (o : Oper) : Bool := match o.op with
 | .defer _ => false
 | _ => true
theorem noDefer_spec {o : Oper} (h : noDefer o = true) : ∀ c,o.op ≠ .defer c := by
 intro c hc
 unfold noDefer at h
 rw [hc] at h
 cases h
def Then (N : Act → World → Prop) : Exit → Act → World → Prop
 | .normal,a,w => N a w
 | _,_,_ => False
theorem listIn_of' {F : Fence} (hF : Wide F) {n : Nat} {P : Program} {ops : Array Oper} {Q : Exit → Act → World → Prop} {rest : List Oper} {N : Act → World → Prop} (hN : ∀ a w,N a w → wpListIn F n P ops Q rest a w) :
  ∀ {pre : List Oper} {a : Act} {w : World},pre.all noDefer = true → wpList P ops (Then N) pre a w → wpListIn F n P ops Q (pre ++ rest) a w
 | [],a,w,_,h => hN _ _ h
 | o :: pre,a,w,hd,h => by
  simp only [List.all_cons,Bool.and_eq_true] at hd
  have ih : ∀ {a : Act} {w : World},wpList P ops (Then N) pre a w → wpListIn F n P ops Q (pre ++ rest) a w := fun {a w} h => listIn_of' hF hN hd.2 h
  have hl : ¬ LetsOut (Then N) := fun ⟨_,_,h⟩ => h
  simp only [wpList] at h
  simp only [List.cons_append,wpListIn]
  split
  ·rename_i hw
   rw [if_pos hw] at h
   rcases h with h|⟨_,h⟩
   case inr => exact (hl h).elim
   refine ⟨fun f _ => hF.fn f,?_⟩
   rw [Oper.semAt_eq _ _ _ (noDefer_spec hd.1)]
   unfold Oper.wp at h
   generalize (execOp a.eval o).run P w = r at *
   cases r with
   | ok nx w' =>
    cases nx <;> simp only [Oper.upon,Oper.uponIn] at h ⊢
    case value v => exact ih h
    case skip => exact ih h
    case defer d => exact ih h
    case enter f args =>
     refine ⟨fun hs => (by rw [hF.depth] at hs;cases hs),callsIn_of hF (h.mono fun e w'' he => ?_)⟩
     cases e with
     | returned v => exact ih he
     | panicked c => exact he.elim
     | outgrown => exact (hl he).elim
    case row row args =>
     refine ⟨fun hs => (by rw [hF.depth] at hs;cases hs),fun c cs _ => ?_⟩
     obtain ⟨v,w'',hv,hs⟩ := h c cs
     exact ⟨v,w'',ih hv,by rw [hF.machine P];exact stepsIn_wide.2 hs⟩
   | halt x w' =>
    cases x <;> simp only [Oper.upon,Oper.uponIn] at h ⊢
    case panic u => exact h.elim
  ·rename_i hw
   rw [if_neg hw] at h
   exact ⟨fun f _ => hF.fn f,ih h⟩
theorem listIn_of {F : Fence} (hF : Wide F) {n : Nat} {P : Program} {ops : Array Oper} {Q : Exit → Act → World → Prop} {rest : List Oper} {pre : List Oper} {a : Act} {w : World} (hd : pre.all noDefer = true) (h : wpList P ops (Then (wpListIn F n P ops Q rest)) pre a w) : wpListIn F n P ops Q (pre ++ rest) a w :=
 listIn_of' hF (fun _ _ h => h) hd h
theorem listIn_all' {F : Fence} (hF : Wide F) {n : Nat} {P : Program} {ops : Array Oper} {Q : Exit → Act → World → Prop} {l : List Oper} {N : Act → World → Prop} (hN : ∀ a w,N a w → Q .normal a w) {a : Act} {w : World} (hd : l.all noDefer = true) (h : wpList P ops (Then N) l a w) : wpListIn F n P ops Q l a w := by
 have := listIn_of' (rest := []) hF (N := N) (n := n) (Q := Q) (P := P) (ops := ops) (a := a) (w := w) hN hd h
 simpa using this
theorem listIn_all {F : Fence} (hF : Wide F) {n : Nat} {P : Program} {ops : Array Oper} {Q : Exit → Act → World → Prop} {l : List Oper} {a : Act} {w : World} (hd : l.all noDefer = true) (h : wpList P ops (Then (Q .normal)) l a w) : wpListIn F n P ops Q l a w := by
 have := listIn_of (rest := []) hF hd (n := n) (Q := Q) (P := P) (ops := ops) (a := a) (w := w) h
 simpa using this
theorem sat_putObj {O w : World} {r : Nat} {o o' : Obj} {R : SProp} (hs : Sat O w (pt r o * R)) : Sat O (w.putObj r o') (pt r o' * R) := by
 have hb := hs.block
 exact hs.turn rfl rfl rfl (by simp) (World.putObj_heap_same hs.lt) (fun k hk _ => World.putObj_heap_other hk)
def YieldC (P : Program) (lp : Nat) (args : Array Value) (A B : SProp) : Prop :=
 ∀ O w F,Sat O w (A * F) → ∀ n,YieldAt Fence.wide n P lp args w fun e w' => e = .returned (.bool true) ∧ Sat O w' (B * F)
theorem listIn_yield {n : Nat} {P : Program} {ops : Array Oper} {Q : Exit → Act → World → Prop} {rest : List Oper} {l : List Value} {ds : List Deferred} {w O : World} {S A B R : SProp} {ty : TypeId} {pos : String} {after : Array Edge} {gd : Option (Nat × Bool)} {d lp : Nat} {x y z : Operand} {v u : Value} {ts : Array TypeId}
  (hs : Sat O w S) (hx : ev l x = some (.func (.yield lp) #[] #[])) (hy : ev l y = some v) (hz : ev l z = some u) (hY : YieldC P lp #[v,u] A B) (hp : Pull S A R)
  (hg : Region.wanted { dst := some d,op := .call { callee := .value x,args := #[y,z],argTypes := ts },type := ty,pos,after,guard := gd } (yielded ops l.toArray) = true)
  (k : ∀ w',Sat O w' (B * R) → wpListIn Fence.wide n P ops Q rest ⟨(l.set d (.bool true)).toArray,ds⟩ w') :
  wpListIn Fence.wide n P ops Q ({ dst := some d,op := .call { callee := .value x,args := #[y,z],argTypes := ts },type := ty,pos,after,guard := gd } :: rest) ⟨l.toArray,ds⟩ w := by
 obtain ⟨fn,tmps,assign,body,hr,hR⟩ := hY O w R (hs.pull hp) (n - 1)
 simp only [wpListIn]
 rw [if_pos hg]
 refine ⟨fun f _ => trivial,?_⟩
 have e : (Oper.semAt Fence.wide.round (Act.mk l.toArray ds).eval { dst := some d,op := .call { callee := .value x,args := #[y,z],argTypes := ts },type := ty,pos,after,guard := gd }).run P w = .ok (.round lp fn tmps assign body) w := by
  rw [Oper.semAt_eq _ _ _ (fun c h => by cases h)]
  simp [execOp,resolve,invoke,Deferred.ofValue,ev_eval hx,ev_eval hy,ev_eval hz,hr]
 rw [e]
 simp only [Oper.uponIn]
 refine ⟨(fun h => by cases h),hR.mono fun ee w' ⟨he,hs'⟩ => ?_⟩
 subst he
 show wpListIn _ _ _ _ _ _ _ _
 rw [put_set]
 exact k w' hs'
theorem leaves_mark {P : Program} {fn : Func} {tmps : Array Value} {R : Ending → World → Prop} {n D : Nat} {O w : World} {S : SProp} {v : Value} (hs : Sat O w (pt D (.deferred (some [])) * S)) (hv : ∀ w,Sat O w S → (results fn tmps).run P w = .ok v w) (hR : ∀ w',Sat O w' S → R (.returned v) w') :
  LeavesInM Fence.wide n P fn tmps R [{ target := .collected D,args := #[] }] .returning w := by
 have hs' := sat_putObj (o' := .deferred none) hs
 exact ⟨by simp,.inl ⟨D,w.putObj D (.deferred none),rfl,run_takeDeferred hs.block,v,hv _ hs'.right,hR _ hs'.right⟩⟩
end Hp
end Go.Proofs.YtegafhhdegnigaaGreat
end
/-
  The memory's log as an iterator.
-/
section
namespace Go.Proofs.YtegafhhdegnigaaGreat
open Go.RowKit Hp
set_option maxRecDepth 100000
set_option maxHeartbeats 1000000
attribute [local irreducible] Go.Calls
def LogRel (O : World) (Y : Nat → SProp) (A : SProp) (log : List Acc) (k : Nat) (t4 t5 : Value) (wr : World) : Prop :=
 ∃ j : Nat,j ≤ log.length ∧ k = log.length - j ∧ t5 = .int .i64 (j : Int) ∧ Sat O wr (Y j * (sl 138 7 (log.map Acc.e) t4 * A))
theorem log_iter (b : Nat) (m : Mem) (t1 t2 lp : Nat) (Y : Nat → SProp) (hY : ∀ (i : Nat) a,m.log[i]? = some a → YieldC Tryz.prog lp #[.int .i64 (i : Int),a.v] (Y i) (Y (i + 1))) (hl : m.log.length < 4294967296) :
  Gives Tryz.prog 130 #[.func (.yield lp) #[] #[],.pointer (some ⟨t1,0,none⟩),.pointer (some ⟨t2,0,none⟩)] (Y 0 * (MemR b m * (pt t1 (.cells #[.pointer (some ⟨b,0,none⟩)] 162) * pt t2 (.cells #[.int .i64 0] 3)))) (.tuple #[])
   (Y m.log.length * (MemR b m * (pt t1 (.cells #[.pointer (some ⟨b,0,none⟩)] 162) * pt t2 (.cells #[.int .i64 0] 3)))) := by
 intro O w F hs
 simp only [mul_assoc'] at hs
 obtain ⟨vw,vl,va,hs⟩ := memR.1 (hs.pull (A := MemR b m) (by (focus with_reducible (repeat first|exact Qh|apply Qk);done)))
 have hC := Lib.hid (clone_log vl m.log hl)
 have HY := Lib.hid hY;clear hY
 go_enter Tryz.func130,Tryz.ntmps130
 go_wp2_with (first|((with_reducible apply wl_ld hs);infer_instance;rfl;(focus with_reducible (repeat first|exact Qh|apply Qk);done);rfl;rfl;(simp only [Uc,Uz]))|(go_at_call 131;((refine (hC.out).at hs (by (focus with_reducible (repeat first|exact Qh|apply Qk);done)) ?_);clear hs;intro v w hs;(try simp only [emp_mul,mul_assoc'] at hs))))
 obtain ⟨A,hA⟩ : ∃ A : SProp,A = pt b (.cells #[vw,vl,va,.int .i64 m.move] 246) * (sl 57 1 (m.words.map eU) vw * (sl 138 7 (m.log.map Acc.e) vl * (sl 57 1 (m.ahead.map eU) va * (pt t1 (.cells #[.pointer (some ⟨b,0,none⟩)] 162) * (pt t2 (.cells #[.int .i64 0] 3) * F))))) := ⟨_,rfl⟩
 have hst : LogRel O Y A m.log m.log.length v (.int .i64 0) w := by
  refine ⟨0,by omega,by omega,by simp,?_⟩
  rw [hA]
  ((with_reducible apply Sat.fin hs);(focus with_reducible (repeat first|exact Ql|exact Qh|apply Qb|apply Qk);done))
 have HA := Lib.hid hA;clear hA hs
 (try simp only [Nat.mul_one,List.length_map])
 go_loopg [5] (m.log.length) (fun k t5 wr => LogRel O Y A m.log k v t5 wr)
 case atStart => exact hst
 case round =>
  clear hst
  obtain ⟨j,hj,hk,rfl,hs⟩ := hrel
  by_cases hlt : j < m.log.length
  ·have hd : decide ((j : Int) < (m.log.length : Int)) = true := by simp;exact hlt
   obtain ⟨z,hz⟩ : ∃ z,m.log[j]? = some z := ⟨_,List.getElem?_eq_getElem hlt⟩
   have HYj := Lib.hid (HY.out j z hz)
   have HK := Lib.hid hk;clear hk
   go_upto_region 5 with ((with_reducible apply wl_len hs);infer_instance;rfl;(focus with_reducible (repeat first|exact Qh|apply Qk);done);rfl;(simp only [Uc,Uz]))
   refine (wpIn_wide (n := 2)).1 (wpIn_region_lit ?_)
   refine listIn_of (pre := [_,_,_,_,_,_]) (rest := [_,_]) wide_wide rfl ?_
   go_wp2_with (first|((with_reducible apply wl_ldSN (k := 0) hs);infer_instance;rfl;assumption;(focus with_reducible (repeat first|exact Qh|apply Qk);done);(exact (Nat.add_zero _).symm);(exact map_get (by assumption));(exact Vb rfl);rfl;rfl;(simp only [Uc,Uz]))|((with_reducible apply wl_ia hs);infer_instance;infer_instance;rfl;rfl;(focus with_reducible (repeat first|exact Qh|apply Qk);done);(rfl);(simp only [Wm,Ws,Wa,Wc,Wn,Wr] at *;omega);rfl;intro b off hat;(simp only [Uc,Uz])))
   show wpListIn _ _ _ _ _ _ _ _
   refine listIn_yield hs rfl rfl rfl HYj.out (by (with_reducible exact Qh)) rfl ?_
   clear hs;intro w hs;(simp only [Uc,Uz])
   refine listIn_all wide_wide rfl ?_
   go_wp2_with (fail)
   simp only [Then,Exit.then]
   go_wp2_with (fail)
   go_roundg (m.log.length - (j + 1))
   case measure => have := HK.out;omega
   case rel => exact ⟨j + 1,by omega,rfl,by simp,hs⟩
  ·have hd : decide ((j : Int) < (m.log.length : Int)) = false := by simp;omega
   have hjx : j = m.log.length := by omega
   subst hjx
   go_wp2_with ((with_reducible apply wl_len hs);infer_instance;rfl;(focus with_reducible (repeat first|exact Qh|apply Qk);done);rfl;(simp only [Uc,Uz]))
   (go_end0)
   refine ⟨rfl,?_⟩
   rw [HA.out] at hs
   simp only [mul_assoc']
   replace hs := memR_mk (hs.fin (by (focus with_reducible (repeat first|exact Ql|exact Qh|apply Qb|apply Qk);done)))
   ((with_reducible apply Sat.fin hs);(focus with_reducible (repeat first|exact Ql|exact Qh|apply Qb|apply Qk);done))
end Go.Proofs.YtegafhhdegnigaaGreat
end
