/-
  The kit's makers.
-/
import Derived.Test.YtegafhhdegnigaaGreatCMach2
import Derived.Test.YtegafhhdegnigaaGreatCMach3
set_option linter.all false
namespace Go.Proofs.YtegafhhdegnigaaGreat
open Go.RowKit Hp
set_option maxRecDepth 100000
set_option maxHeartbeats 1000000
attribute [local irreducible] Go.Calls
def optR (bh ba : Nat) : Option HTask → Value → SProp
 | none,v => pu (v = .nilIface)
 | some k,v => htR bh ba k v
def hcell (bh c1 : Nat) : SProp := pt c1 (.cells #[.pointer (some ⟨bh,0,none⟩)] 76)
theorem haz_addr_no (b ba : Nat) (h : Haz) (t : Nat) (r k : Int) (ht : h.held[t]? = some r) (r0 : 0 ≤ r) (k0 : k < 0 ∨ h.c.Hz ≤ k) :
  Gives Tryz.prog 51 #[.pointer (some ⟨b,0,none⟩),.int .i64 (t : Int),.int .i64 k] (HazR b ba h) (.int .i64 (-1)) (HazR b ba h) := by
 intro O w F hs
 have hR := Lib.hid (haz_record b ba h t r ht)
 have n1 : decide (r < 0) = false := by simp;omega
 by_cases hk : k < 0
 ·have n2 : decide (k < 0) = true := by simp;omega
  clear k0
  go_enter Tryz.func51,Tryz.ntmps51
  go_wp2_with (go_at_call 50;((refine (hR.out).at hs (by (with_reducible exact Qh)) ?_);clear hs;intro w hs;(try simp only [emp_mul,mul_assoc'] at hs)))
  (go_ret)
  exact ⟨rfl,by ((with_reducible apply Sat.fin hs);(with_reducible exact Ql))⟩
 ·have n2 : decide (k < 0) = false := by simp;omega
  have n3 : decide (k ≥ h.c.Hz) = true := by simp;omega
  clear k0
  go_enter Tryz.func51,Tryz.ntmps51
  go_wp2_with (first|((with_reducible apply wl_ld hs);infer_instance;rfl;(with_reducible exact Qh);rfl;rfl;(simp only [Uc,Uz]))|(go_at_call 50;((refine (hR.out).at hs (by (with_reducible exact Qh)) ?_);clear hs;intro w hs;(try simp only [emp_mul,mul_assoc'] at hs));(obtain ⟨vhh,vhl,hs⟩ := hazR.1 hs)))
  (go_ret)
  refine ⟨rfl,?_⟩
  (apply hazR_mk;((try simp only [List.map_append,List.map_cons,List.map_nil,List.map_set,List.set_set]);(try simp only [List.map_append,List.map_cons,List.map_nil,List.map_set,List.set_set] at hs);((with_reducible apply Sat.fin hs);(with_reducible exact Ql))))
section
variable (bh ba c1 : Nat) (h : Haz) (t : Nat) (mv : Mv)
theorem mk_reg (r : Int) (ht : h.held[t]? = some r) (hr : r < 0) : Does Tryz.prog 95 #[.int .i64 (t : Int),mv.v,.pointer (some ⟨c1,0,none⟩)] (HazR bh ba h * hcell bh c1)
  (fun v => optR bh ba (some (.reg ⟨t,0,false⟩)) v * (HazR bh ba h * hcell bh c1)) := by
 intro O w F hs
 have hlt := (List.getElem?_eq_some_iff.1 ht).1
 have n1 : decide ((t : Int) < 0) = false := by simp
 have n2 : decide ((t : Int) ≥ (h.held.length : Int)) = false := by simp;omega
 have n2' : decide (h.held.length ≤ t) = false := by simp;omega
 have n3 : decide (r ≥ 0) = false := by simp;omega
 unfold hcell at hs ⊢
 simp only [mul_assoc'] at hs ⊢
 (obtain ⟨vhh,vhl,hs⟩ := hazR.1 hs)
 go_enter Tryz.func95,Tryz.ntmps95
 go_wp2_with (first|((with_reducible apply wl_ld hs);infer_instance;rfl;(focus with_reducible (repeat first|exact Qh|apply Qk);done);rfl;rfl;(simp only [Uc,Uz]))|((with_reducible apply wl_box hs);rfl;rfl;rfl;clear hs;intro w b hs;(simp only [Uc,Uz]))|((with_reducible apply wl_ldS0 hs);infer_instance;rfl;assumption;(focus with_reducible (repeat first|exact Qh|apply Qk);done);rfl;(exact map_get (by assumption));rfl;rfl;(simp only [Uc,Uz]))|((with_reducible apply wl_ia hs);infer_instance;infer_instance;rfl;rfl;(focus with_reducible (repeat first|exact Qh|apply Qk);done);(rfl);(simp only [Wm,Ws,Wa,Wc,Wn,Wr] at *;omega);rfl;intro b off hat;(simp only [Uc,Uz]))|((with_reducible apply wl_len hs);infer_instance;rfl;(focus with_reducible (repeat first|exact Qh|apply Qk);done);rfl;(simp only [Uc,Uz])))
 (go_ret)
 refine ⟨_,rfl,?_⟩
 refine ifR_iff.2 ⟨_,rfl,?_⟩
 (replace hs := hazR_mk (hs.fin (by (focus with_reducible (repeat first|exact Ql|exact Qh|apply Qb|apply Qk);done))))
 unfold RegR
 ((with_reducible apply Sat.fin hs);(focus with_reducible (repeat first|exact Ql|exact Qh|apply Qb|apply Qk);done))
theorem mk_reg_no (r : Int) (ht : h.held[t]? = some r) (hr : 0 ≤ r) : Does Tryz.prog 95 #[.int .i64 (t : Int),mv.v,.pointer (some ⟨c1,0,none⟩)] (HazR bh ba h * hcell bh c1)
  (fun v => optR bh ba none v * (HazR bh ba h * hcell bh c1)) := by
 intro O w F hs
 have hlt := (List.getElem?_eq_some_iff.1 ht).1
 have n1 : decide ((t : Int) < 0) = false := by simp
 have n2 : decide ((t : Int) ≥ (h.held.length : Int)) = false := by simp;omega
 have n2' : decide (h.held.length ≤ t) = false := by simp;omega
 have n3 : decide (r ≥ 0) = true := by simp;omega
 unfold hcell at hs ⊢
 simp only [mul_assoc'] at hs ⊢
 (obtain ⟨vhh,vhl,hs⟩ := hazR.1 hs)
 go_enter Tryz.func95,Tryz.ntmps95
 go_wp2_with (first|((with_reducible apply wl_ld hs);infer_instance;rfl;(focus with_reducible (repeat first|exact Qh|apply Qk);done);rfl;rfl;(simp only [Uc,Uz]))|((with_reducible apply wl_box hs);rfl;rfl;rfl;clear hs;intro w b hs;(simp only [Uc,Uz]))|((with_reducible apply wl_ldS0 hs);infer_instance;rfl;assumption;(focus with_reducible (repeat first|exact Qh|apply Qk);done);rfl;(exact map_get (by assumption));rfl;rfl;(simp only [Uc,Uz]))|((with_reducible apply wl_ia hs);infer_instance;infer_instance;rfl;rfl;(focus with_reducible (repeat first|exact Qh|apply Qk);done);(rfl);(simp only [Wm,Ws,Wa,Wc,Wn,Wr] at *;omega);rfl;intro b off hat;(simp only [Uc,Uz]))|((with_reducible apply wl_len hs);infer_instance;rfl;(focus with_reducible (repeat first|exact Qh|apply Qk);done);rfl;(simp only [Uc,Uz])))
 (go_ret)
 refine ⟨_,rfl,?_⟩
 refine sat_pu.2 ⟨rfl,?_⟩
 (replace hs := hazR_mk (hs.fin (by (focus with_reducible (repeat first|exact Ql|exact Qh|apply Qb|apply Qk);done))))
 ((with_reducible apply Sat.fin hs);(focus with_reducible (repeat first|exact Ql|exact Qh|apply Qb|apply Qk);done))
theorem mk_unr : Does Tryz.prog 96 #[.int .i64 (t : Int),mv.v,.pointer (some ⟨c1,0,none⟩)] (HazR bh ba h * hcell bh c1)
  (fun v => optR bh ba (some (.unr ⟨t,0,0,none,none⟩)) v * (HazR bh ba h * hcell bh c1)) := by
 intro O w F hs
 unfold hcell at hs ⊢
 simp only [mul_assoc'] at hs ⊢
 go_enter Tryz.func96,Tryz.ntmps96
 go_wp2_with (first|((with_reducible apply wl_ld hs);infer_instance;rfl;(focus with_reducible (repeat first|exact Qh|apply Qk);done);rfl;rfl;(simp only [Uc,Uz]))|((with_reducible apply wl_box hs);rfl;rfl;rfl;clear hs;intro w b hs;(simp only [Uc,Uz])))
 (go_ret)
 refine ⟨_,rfl,?_⟩
 refine ifR_iff.2 ⟨_,rfl,?_⟩
 apply unrR_mk
 have hs := flu_none (ba := ba) (scan_none (bh := bh) (ba := ba) hs)
 ((with_reducible apply Sat.fin hs);(focus with_reducible (repeat first|exact Ql|exact Qh|apply Qb|apply Qk);done))
theorem mk_pst : Does Tryz.prog 97 #[.int .i64 (t : Int),mv.v,.pointer (some ⟨c1,0,none⟩)] (HazR bh ba h * hcell bh c1)
  (fun v => optR bh ba (some (.pst ⟨t,mv.arg,0,none,0,0,none⟩)) v * (HazR bh ba h * hcell bh c1)) := by
 intro O w F hs
 unfold hcell at hs ⊢
 simp only [mul_assoc'] at hs ⊢
 go_enter Tryz.func97,Tryz.ntmps97
 go_wp2_with (first|((with_reducible apply wl_ld hs);infer_instance;rfl;(focus with_reducible (repeat first|exact Qh|apply Qk);done);rfl;rfl;(simp only [Uc,Uz]))|((with_reducible apply wl_box hs);rfl;rfl;rfl;clear hs;intro w b hs;(simp only [Uc,Uz])))
 (go_ret)
 refine ⟨_,rfl,?_⟩
 refine ifR_iff.2 ⟨_,rfl,?_⟩
 apply pstR_mk
 have hs := tak_none (ba := ba) (rtr_none (bh := bh) (ba := ba) hs)
 ((with_reducible apply Sat.fin hs);(focus with_reducible (repeat first|exact Ql|exact Qh|apply Qb|apply Qk);done))
theorem mk_scn (r : Int) (ht : h.held[t]? = some r) : Does Tryz.prog 100 #[.int .i64 (t : Int),mv.v,.pointer (some ⟨c1,0,none⟩)] (HazR bh ba h * hcell bh c1)
  (fun v => optR bh ba (some (.scn ⟨t,r,6,0,false,fun _ => 0,[],none⟩)) v * (HazR bh ba h * hcell bh c1)) := by
 intro O w F hs
 have hSc := Lib.hid (haz_scan bh ba h t r ht)
 unfold hcell at hs ⊢
 simp only [mul_assoc'] at hs ⊢
 go_enter Tryz.func100,Tryz.ntmps100
 go_wp2_with (first|(first|((with_reducible apply wl_ld hs);infer_instance;rfl;(focus with_reducible (repeat first|exact Qh|apply Qk);done);rfl;rfl;(simp only [Uc,Uz]))|((with_reducible apply wl_box hs);rfl;rfl;rfl;clear hs;intro w b hs;(simp only [Uc,Uz])))|(go_at_call 45;((refine (hSc.out).at hs (by (focus with_reducible (repeat first|exact Qh|apply Qk);done)) ?_);clear hs;intro g w hs;(try simp only [emp_mul,mul_assoc'] at hs))))
 (go_ret)
 refine ⟨_,rfl,?_⟩
 refine ifR_iff.2 ⟨_,rfl,?_⟩
 ((with_reducible apply Sat.fin hs);(focus with_reducible (repeat first|exact Ql|exact Qh|apply Qb|apply Qk);done))
theorem mk_rdg (hc : h.c.Ok) (r : Int) (ht : h.held[t]? = some r) (r0 : 0 ≤ r) (r1 : r < h.c.R) (k0 : 0 ≤ mv.arg) (k1 : mv.arg < h.c.Hz) : Does Tryz.prog 98 #[.int .i64 (t : Int),mv.v,.pointer (some ⟨c1,0,none⟩)] (HazR bh ba h * hcell bh c1)
  (fun v => optR bh ba (some (.rdg ⟨base h.c 9 + r * h.c.Hz + mv.arg,0,0,0⟩)) v * (HazR bh ba h * hcell bh c1)) := by
 intro O w F hs
 have hA := Lib.hid (haz_addr bh ba h hc t r mv.arg ht r0 r1 k0 k1)
 have hm : 0 ≤ r * h.c.Hz := Int.mul_nonneg r0 (by omega)
 have hb := (base_le hc 9).1
 have n1 : decide (base h.c 9 + r * h.c.Hz + mv.arg ≥ 0) = true := by simp;omega
 unfold hcell at hs ⊢
 simp only [mul_assoc'] at hs ⊢
 go_enter Tryz.func98,Tryz.ntmps98
 go_wp2_with (first|(first|((with_reducible apply wl_ld hs);infer_instance;rfl;(focus with_reducible (repeat first|exact Qh|apply Qk);done);rfl;rfl;(simp only [Uc,Uz]))|((with_reducible apply wl_box hs);rfl;rfl;rfl;clear hs;intro w b hs;(simp only [Uc,Uz])))|(go_at_call 51;((refine (hA.out).at hs (by (focus with_reducible (repeat first|exact Qh|apply Qk);done)) ?_);clear hs;intro w hs;(try simp only [emp_mul,mul_assoc'] at hs))))
 (go_ret)
 refine ⟨_,rfl,?_⟩
 refine ifR_iff.2 ⟨_,rfl,?_⟩
 unfold RdgR
 ((with_reducible apply Sat.fin hs);(focus with_reducible (repeat first|exact Ql|exact Qh|apply Qb|apply Qk);done))
theorem mk_rdg_no (r : Int) (ht : h.held[t]? = some r) (r0 : 0 ≤ r) (k0 : mv.arg < 0 ∨ h.c.Hz ≤ mv.arg) : Does Tryz.prog 98 #[.int .i64 (t : Int),mv.v,.pointer (some ⟨c1,0,none⟩)] (HazR bh ba h * hcell bh c1)
  (fun v => optR bh ba none v * (HazR bh ba h * hcell bh c1)) := by
 intro O w F hs
 have hA := Lib.hid (haz_addr_no bh ba h t r mv.arg ht r0 k0)
 clear k0
 unfold hcell at hs ⊢
 simp only [mul_assoc'] at hs ⊢
 go_enter Tryz.func98,Tryz.ntmps98
 go_wp2_with (first|(first|((with_reducible apply wl_ld hs);infer_instance;rfl;(focus with_reducible (repeat first|exact Qh|apply Qk);done);rfl;rfl;(simp only [Uc,Uz]))|((with_reducible apply wl_box hs);rfl;rfl;rfl;clear hs;intro w b hs;(simp only [Uc,Uz])))|(go_at_call 51;((refine (hA.out).at hs (by (focus with_reducible (repeat first|exact Qh|apply Qk);done)) ?_);clear hs;intro w hs;(try simp only [emp_mul,mul_assoc'] at hs))))
 (go_ret)
 refine ⟨_,rfl,?_⟩
 refine sat_pu.2 ⟨rfl,?_⟩
 ((with_reducible apply Sat.fin hs);(focus with_reducible (repeat first|exact Ql|exact Qh|apply Qb|apply Qk);done))
theorem mk_clr (hc : h.c.Ok) (r : Int) (ht : h.held[t]? = some r) (r0 : 0 ≤ r) (r1 : r < h.c.R) (k0 : 0 ≤ mv.arg) (k1 : mv.arg < h.c.Hz) : Does Tryz.prog 99 #[.int .i64 (t : Int),mv.v,.pointer (some ⟨c1,0,none⟩)] (HazR bh ba h * hcell bh c1)
  (fun v => optR bh ba (some (.clr (base h.c 9 + r * h.c.Hz + mv.arg).toNat)) v * (HazR bh ba h * hcell bh c1)) := by
 intro O w F hs
 have hA := Lib.hid (haz_addr bh ba h hc t r mv.arg ht r0 r1 k0 k1)
 have hm : 0 ≤ r * h.c.Hz := Int.mul_nonneg r0 (by omega)
 have hb := (base_le hc 9).1
 have n1 : decide (base h.c 9 + r * h.c.Hz + mv.arg ≥ 0) = true := by simp;omega
 have hn : ((base h.c 9 + r * h.c.Hz + mv.arg).toNat : Int) = base h.c 9 + r * h.c.Hz + mv.arg := Int.toNat_of_nonneg (by omega)
 unfold hcell at hs ⊢
 simp only [mul_assoc'] at hs ⊢
 go_enter Tryz.func99,Tryz.ntmps99
 go_wp2_with (first|(first|((with_reducible apply wl_ld hs);infer_instance;rfl;(focus with_reducible (repeat first|exact Qh|apply Qk);done);rfl;rfl;(simp only [Uc,Uz]))|((with_reducible apply wl_box hs);rfl;rfl;rfl;clear hs;intro w b hs;(simp only [Uc,Uz])))|(go_at_call 51;((refine (hA.out).at hs (by (focus with_reducible (repeat first|exact Qh|apply Qk);done)) ?_);clear hs;intro w hs;(try simp only [emp_mul,mul_assoc'] at hs))))
 (go_ret)
 refine ⟨_,rfl,?_⟩
 refine ifR_iff.2 ⟨_,rfl,?_⟩
 unfold ClrR
 rw [hn]
 ((with_reducible apply Sat.fin hs);(focus with_reducible (repeat first|exact Ql|exact Qh|apply Qb|apply Qk);done))
theorem mk_clr_no (r : Int) (ht : h.held[t]? = some r) (r0 : 0 ≤ r) (k0 : mv.arg < 0 ∨ h.c.Hz ≤ mv.arg) : Does Tryz.prog 99 #[.int .i64 (t : Int),mv.v,.pointer (some ⟨c1,0,none⟩)] (HazR bh ba h * hcell bh c1)
  (fun v => optR bh ba none v * (HazR bh ba h * hcell bh c1)) := by
 intro O w F hs
 have hA := Lib.hid (haz_addr_no bh ba h t r mv.arg ht r0 k0)
 clear k0
 unfold hcell at hs ⊢
 simp only [mul_assoc'] at hs ⊢
 go_enter Tryz.func99,Tryz.ntmps99
 go_wp2_with (first|(first|((with_reducible apply wl_ld hs);infer_instance;rfl;(focus with_reducible (repeat first|exact Qh|apply Qk);done);rfl;rfl;(simp only [Uc,Uz]))|((with_reducible apply wl_box hs);rfl;rfl;rfl;clear hs;intro w b hs;(simp only [Uc,Uz])))|(go_at_call 51;((refine (hA.out).at hs (by (focus with_reducible (repeat first|exact Qh|apply Qk);done)) ?_);clear hs;intro w hs;(try simp only [emp_mul,mul_assoc'] at hs))))
 (go_ret)
 refine ⟨_,rfl,?_⟩
 refine sat_pu.2 ⟨rfl,?_⟩
 ((with_reducible apply Sat.fin hs);(focus with_reducible (repeat first|exact Ql|exact Qh|apply Qb|apply Qk);done))
def fcell (d : Nat) (u : Value) : SProp := pt d (.cells #[u] 177)
theorem hold_no (d : Nat) (u : Value) (r : Int) (ht : h.held[t]? = some r) (r0 : r < 0) : Does Tryz.prog 94 #[.int .i64 (t : Int),mv.v,.pointer (some ⟨c1,0,none⟩),.pointer (some ⟨d,0,none⟩)] (HazR bh ba h * (hcell bh c1 * fcell d u))
  (fun v => optR bh ba none v * (HazR bh ba h * (hcell bh c1 * fcell d u))) := by
 intro O w F hs
 have hR := Lib.hid (haz_record bh ba h t r ht)
 have n1 : decide (r < 0) = true := by simp;omega
 unfold hcell fcell at hs ⊢
 simp only [mul_assoc'] at hs ⊢
 go_enter Tryz.func94,Tryz.ntmps94
 go_wp2_with (first|(first|((with_reducible apply wl_ld hs);infer_instance;rfl;(focus with_reducible (repeat first|exact Qh|apply Qk);done);rfl;rfl;(simp only [Uc,Uz]))|((with_reducible apply wl_box hs);rfl;rfl;rfl;clear hs;intro w b hs;(simp only [Uc,Uz])))|(go_at_call 50;((refine (hR.out).at hs (by (focus with_reducible (repeat first|exact Qh|apply Qk);done)) ?_);clear hs;intro w hs;(try simp only [emp_mul,mul_assoc'] at hs))))
 (go_ret)
 refine ⟨_,rfl,?_⟩
 refine sat_pu.2 ⟨rfl,?_⟩
 ((with_reducible apply Sat.fin hs);(focus with_reducible (repeat first|exact Ql|exact Qh|apply Qb|apply Qk);done))
theorem hold_yes (d : Nat) (f : FuncId) (o : Option HTask) (r : Int) (ht : h.held[t]? = some r) (r0 : 0 ≤ r)
  (hD : Dyn Tryz.prog (callValue (.func (.func f) #[] #[.pointer (some ⟨c1,0,none⟩)]) #[.int .i64 (t : Int),mv.v]) (HazR bh ba h * hcell bh c1) (fun v => optR bh ba o v * (HazR bh ba h * hcell bh c1))) :
  Does Tryz.prog 94 #[.int .i64 (t : Int),mv.v,.pointer (some ⟨c1,0,none⟩),.pointer (some ⟨d,0,none⟩)] (HazR bh ba h * (hcell bh c1 * fcell d (.func (.func f) #[] #[.pointer (some ⟨c1,0,none⟩)])))
  (fun v => optR bh ba o v * (HazR bh ba h * (hcell bh c1 * fcell d (.func (.func f) #[] #[.pointer (some ⟨c1,0,none⟩)])))) := by
 intro O w F hs
 have hR := Lib.hid (haz_record bh ba h t r ht)
 have n1 : decide (r < 0) = false := by simp;omega
 unfold hcell at hD
 have hD := Lib.hid hD
 unfold hcell fcell at hs ⊢
 simp only [mul_assoc'] at hs ⊢
 go_enter Tryz.func94,Tryz.ntmps94
 go_wp2_with (first|(first|((with_reducible apply wl_ld hs);infer_instance;rfl;(focus with_reducible (repeat first|exact Qh|apply Qk);done);rfl;rfl;(simp only [Uc,Uz]))|((with_reducible apply wl_ldF hs);infer_instance;rfl;(focus with_reducible (repeat first|exact Qh|apply Qk);done);rfl;rfl;(simp only [Uc,Uz]))|((with_reducible apply wl_box hs);rfl;rfl;rfl;clear hs;intro w b hs;(simp only [Uc,Uz])))|(go_at_call 50;((refine (hR.out).at hs (by (focus with_reducible (repeat first|exact Qh|apply Qk);done)) ?_);clear hs;intro w hs;(try simp only [emp_mul,mul_assoc'] at hs)))|((with_reducible apply wl_val2 hs);rfl;rfl;rfl;exact hD.out;(focus with_reducible (repeat first|exact Qh|apply Qb|apply Qk);done);rfl;clear hs;intro v w hs;(simp only [mul_assoc'] at hs);(simp only [Uc,Uz])))
 (go_ret)
 refine ⟨_,rfl,?_⟩
 ((with_reducible apply Sat.fin hs);(focus ((repeat (first|with_reducible exact Ql|with_reducible exact Qh|with_reducible apply Qb|exact Qh|with_reducible apply Qk));done)))
end
end Go.Proofs.YtegafhhdegnigaaGreat
