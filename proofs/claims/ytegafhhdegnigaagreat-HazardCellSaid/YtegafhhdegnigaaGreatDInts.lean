/-
  The arena's parts: flushing; giving, whole.
-/
import Derived.Test.YtegafhhdegnigaaGreatDParts4
import Derived.Test.YtegafhhdegnigaaGreatDTypes2
import Derived.Test.YtegafhhdegnigaaGreatDClone
set_option linter.all false
section
namespace Go.Proofs.YtegafhhdegnigaaGreat
open Go.RowKit Hp
set_option maxRecDepth 100000
set_option maxHeartbeats 1000000
attribute [local irreducible] Go.Calls
def giveReady (a : Are) (m : Mch) (p : Psh) : Bool × Are × Mch × Psh :=
 if a.c.Ca ≤ ((a.caches.getD p.thread.toNat []).length : Int) then (false,a,m,p)
 else (true,{ a with caches := a.caches.set p.thread.toNat (a.caches.getD p.thread.toNat [] ++ [p.slot]) }.shift p.slot.toNat m.thread 1,m.shift p.slot (a.slots.getD p.slot.toNat ⟨0,0⟩).state 1,{ p with at_ := 0 })
theorem give_ready (g b d bx bm : Nat) (E : TypeId) (a : Are) (m : Mch) (p : Psh) (t n : Nat) (x : List Int) (ht : p.thread = (t : Int)) (hn : p.slot = (n : Int)) (hx : a.caches[t]? = some x) (hsn : n < a.slots.length) (hp : p.at_ = 1) (hl : m.shifts.length < 4294967296) (hxl : x.length < 4294967296) :
  Gives Tryz.prog 198 #[.pointer (some ⟨g,0,none⟩),.pointer (some ⟨d,0,none⟩)] (PshR g b E p * (AreR b a * DkR d bx bm m))
   (.bool (giveReady a m p).1) (PshR g b E (giveReady a m p).2.2.2 * (AreR b (giveReady a m p).2.1 * DkR d bx bm (giveReady a m p).2.2.1)) := by
 have hxd : a.caches.getD p.thread.toNat [] = x := by simp [List.getD_eq_getElem?_getD,hx,ht]
 by_cases hf : a.c.Ca ≤ (x.length : Int)
 ·have e : giveReady a m p = (false,a,m,p) := by unfold giveReady;rw [hxd,if_pos hf]
  rw [e]
  exact give_ready_full g b d bx bm E a m p t x ht hx hp hf
 ·have e : giveReady a m p = (true,{ a with caches := a.caches.set t (x ++ [p.slot]) }.shift n m.thread 1,m.shift n (a.slots.getD n ⟨0,0⟩).state 1,{ p with at_ := 0 }) := by
   unfold giveReady;rw [hxd,if_neg hf,ht,hn];rfl
  rw [e]
  exact give_ready_room g b d bx bm E a m p t n _ x ht hn hx (by simp [hsn]) hp hf hl hxl
theorem give_step (g b d bx bm : Nat) (a : Are) (m : Mch) (p : Psh) (h : PushOk a m p) :
  Gives Tryz.prog 192 #[.pointer (some ⟨g,0,none⟩),.pointer (some ⟨d,0,none⟩)] (PshR g b 309 p * (AreR b a * DkR d bx bm m))
   (.bool (pushStep a m p).1) (PshR g b 309 (pushStep a m p).2.2.2 * (AreR b (pushStep a m p).2.1 * DkR d bx bm (pushStep a m p).2.2.1)) := by
 intro O w F hs
 simp only [mul_assoc'] at hs
 have hP := push_step g b d bx bm 309 a m p h
 have h0 : (p.at_ == 0) = false := by have := h.at0;simp;omega
 unfold PshR at hs hP
 generalize pushStep a m p = r at hP ⊢
 obtain ⟨b1,a1,m1,p1⟩ := r
 have HP := Lib.hid hP;clear hP h
 go_enter Tryz.func192,Tryz.ntmps192
 go_wp2_with (first|((with_reducible apply wl_ld hs);infer_instance;rfl;(with_reducible exact Qh);rfl;rfl;(simp only [Uc,Uz]))|(go_at_call 199;((refine (HP.out).at hs (by (focus with_reducible (repeat first|exact Qh|apply Qb);done)) ?_);clear hs;intro w hs;(try simp only [emp_mul,mul_assoc'] at hs))))
 (go_ret)
 refine ⟨rfl,?_⟩
 unfold PshR
 simp only [mul_assoc']
 ((with_reducible apply Sat.fin hs);(with_reducible exact Ql))
theorem flush_again (g b : Nat) (a : Are) (p : Psh) (n : Nat) (x : List Int) (z : Int) (ht : p.thread = (n : Int)) (hx : a.caches[n]? = some x) (hz : x[x.length - 1]? = some z) (hxl : x.length < 4294967296) :
  Gives Tryz.prog 218 #[.pointer (some ⟨g,0,none⟩)] (PshR g b 320 p * AreR b a) (.tuple #[]) (PshR g b 320 { p with slot := z,at_ := 1 } * AreR b a) := by
 intro O w F hs
 simp only [mul_assoc'] at hs
 obtain ⟨ps,pa,ph,pt_⟩ := p
 simp only [] at ht hs
 subst ht
 unfold PshR at hs
 have hlt := (List.getElem?_eq_some_iff.1 hx).1
 have hzl := (List.getElem?_eq_some_iff.1 hz).1
 have hs := hs.pull (A := AreR b a) (by (focus with_reducible (repeat first|exact Qh|apply Qk);done))
 (obtain ⟨vas,vac,us,u,hus,hu,hs⟩ := areT hs hx)
 have hltu : n < us.length := by omega
 have hpos : 0 < x.length := by omega
 have hz2 : x[((x.length : Int) - 1).toNat]? = some z := by rw [show ((x.length : Int) - 1).toNat = x.length - 1 by omega];exact hz
 clear hz hzl
 go_enter Tryz.func218,Tryz.ntmps218
 go_wp2_with (first|(first|(first|(with_reducible refine NQ.mk ?_)|((with_reducible apply pl_neu);rfl;rfl)|(with_reducible refine pl_end ?_))|((with_reducible apply wl_ld hs);infer_instance;rfl;(focus with_reducible (repeat first|exact Qh|apply Qk);done);rfl;rfl;(simp only [Uc,Uz]))|((with_reducible apply wl_st hs);infer_instance;rfl;rfl;(focus with_reducible (repeat first|exact Qh|apply Qk);done);(rfl);(exact Vb rfl);rfl;clear hs;intro w hs;simp only [List.setIfInBounds_toArray,Uc,Uz] at hs)|((with_reducible apply wl_ldS0 hs);infer_instance;rfl;assumption;(focus with_reducible (repeat first|exact Qh|apply Qk);done);rfl;(exact map_get (by assumption));rfl;rfl;(simp only [Uc,Uz]))|((with_reducible apply wl_ia hs);infer_instance;infer_instance;rfl;rfl;(focus with_reducible (repeat first|exact Qh|apply Qk);done);(first|rfl|exact (Int.toNat_of_nonneg (by omega)).symm);(simp only [Wm,Ws,Wa,Wc,Wn,Wr] at *;omega);rfl;intro b off hat;(simp only [Uc,Uz]))|((with_reducible apply wl_len hs);infer_instance;rfl;(focus with_reducible (repeat first|exact Qh|apply Qk);done);rfl;(simp only [Uc,Uz])))|((with_reducible refine wp_plan_sat (id := 0) [.neu 0,.neu 1,.neu 2,.neu 3,.neu 4,.neu 5,.neu 6,.neu 7,.neu 8,.neu 9,.neu 10,.neu 11,.neu 12,.neu 13,.neu 14] hs rfl ?_ ?_);kernel_rfl;clear hs;intro w hs))
 (go_end0)
 refine ⟨rfl,?_⟩
 (replace hs := areT_back hus hu hx (hs.fin (by (focus with_reducible (repeat first|exact Ql|exact Qh|apply Qb|apply Qk);done))))
 unfold PshR
 simp only [mul_assoc']
 ((with_reducible apply Sat.fin hs);(focus with_reducible (repeat first|exact Ql|exact Qh|apply Qb|apply Qk);done))
def flushReady (a : Are) (p : Psh) : Bool × Psh :=
 let x := a.caches.getD p.thread.toNat []
 if x.length = 0 then (true,p) else (false,{ p with slot := x.getD (x.length - 1) 0,at_ := 1 })
theorem flush_ready (g b : Nat) (dv : Value) (a : Are) (p : Psh) (n : Nat) (x : List Int) (ht : p.thread = (n : Int)) (hx : a.caches[n]? = some x) (hxl : x.length < 4294967296) :
  Gives Tryz.prog 217 #[.pointer (some ⟨g,0,none⟩),dv] (PshR g b 320 p * AreR b a) (.bool (flushReady a p).1) (PshR g b 320 (flushReady a p).2 * AreR b a) := by
 intro O w F hs
 simp only [mul_assoc'] at hs
 obtain ⟨ps,pa,ph,pt_⟩ := p
 simp only [] at ht hs
 subst ht
 have hlt := (List.getElem?_eq_some_iff.1 hx).1
 have hT := Lib.hid (arena_thread b a n x hx)
 have hxd : a.caches.getD n [] = x := by simp [List.getD_eq_getElem?_getD,hx]
 by_cases h0 : x.length = 0
 ·have e : flushReady a ⟨ps,pa,ph,n⟩ = (true,⟨ps,pa,ph,n⟩) := by unfold flushReady;simp only [Int.toNat_natCast,hxd,h0,if_true]
  rw [e]
  have h0' : ((x.length : Int) == 0) = true := by simp;exact List.length_eq_zero_iff.1 h0
  unfold PshR at hs
  clear hxd h0 e
  go_enter Tryz.func217,Tryz.ntmps217
  go_wp2_with (first|(first|(first|(with_reducible refine NQ.mk ?_)|((with_reducible apply pl_neu);rfl;rfl)|((with_reducible apply pl_eff);rfl)|(with_reducible refine EQ.mk ?_ ?_)|(with_reducible exact chk_nil)|(with_reducible refine pl_end ?_))|((with_reducible apply wl_ld hs);infer_instance;rfl;(focus with_reducible (repeat first|exact Qh|apply Qk);done);rfl;rfl;(simp only [Uc,Uz]))|((with_reducible apply wl_ldS0 hs);infer_instance;rfl;assumption;(focus with_reducible (repeat first|exact Qh|apply Qk);done);rfl;(exact map_get (by assumption));rfl;rfl;(simp only [Uc,Uz]))|((with_reducible apply wl_ia hs);infer_instance;infer_instance;rfl;rfl;(focus with_reducible (repeat first|exact Qh|apply Qk);done);(rfl);(simp only [Wm,Ws,Wa,Wc,Wn,Wr] at *;omega);rfl;intro b off hat;(simp only [Uc,Uz]))|((with_reducible apply wl_len hs);infer_instance;rfl;(focus with_reducible (repeat first|exact Qh|apply Qk);done);rfl;(simp only [Uc,Uz])))|(go_at_call 141;((refine (hT.out).at hs (by (focus with_reducible (repeat first|exact Qh|apply Qk);done)) ?_);clear hs;intro w hs;(try simp only [emp_mul,mul_assoc'] at hs));(obtain ⟨vas,vac,us,u,hus,hu,hs⟩ := areT hs hx);(have hltu : n < us.length := by omega))|((with_reducible refine wp_plan_sat (id := 1) [.neu 0,.neu 1,.neu 2,.neu 3,.neu 4,.neu 5,.neu 6,.neu 7,.neu 8,.neu 9,.neu 10,.neu 11,.eff 12 [],.neu 13,.neu 14,.neu 15,.neu 16,.neu 17,.neu 18,.neu 19,.neu 20,.neu 21,.neu 22,.neu 23,.neu 24,.neu 25,.neu 26,.neu 27,.neu 28,.neu 29,.neu 30,.neu 31,.neu 32] hs rfl ?_ ?_);kernel_rfl;clear hs;intro w hs))
  (go_ret)
  refine ⟨rfl,?_⟩
  (replace hs := areT_back hus hu hx (hs.fin (by (with_reducible exact Ql))))
  unfold PshR
  simp only [mul_assoc']
  ((with_reducible apply Sat.fin hs);(focus with_reducible (repeat first|exact Ql|exact Qh|apply Qb|apply Qk);done))
 ·have hlen : x.length - 1 < x.length := by omega
  obtain ⟨v,hv⟩ : ∃ v,x[x.length - 1]? = some v := ⟨_,List.getElem?_eq_getElem hlen⟩
  have hvd : x.getD (x.length - 1) 0 = v := by rw [List.getD_eq_getElem?_getD,hv];rfl
  have e : flushReady a ⟨ps,pa,ph,n⟩ = (false,⟨v,1,ph,n⟩) := by unfold flushReady;simp only [Int.toNat_natCast,hxd,h0,if_false,hvd]
  rw [e]
  have h0' : ((x.length : Int) == 0) = false := by simp;intro e;simp [e] at h0
  have hA := flush_again g b a ⟨ps,pa,ph,n⟩ n x v rfl hx hv hxl
  unfold PshR at hs hA
  have HA := Lib.hid hA;clear hA
  clear hxd h0 e hvd hv
  go_enter Tryz.func217,Tryz.ntmps217
  go_wp2_with (first|(first|(first|(with_reducible refine NQ.mk ?_)|((with_reducible apply pl_neu);rfl;rfl)|((with_reducible apply pl_eff);rfl)|(with_reducible refine EQ.mk ?_ ?_)|(with_reducible exact chk_nil)|(with_reducible refine pl_end ?_))|((with_reducible apply wl_ld hs);infer_instance;rfl;(focus with_reducible (repeat first|exact Qh|apply Qk);done);rfl;rfl;(simp only [Uc,Uz]))|((with_reducible apply wl_ldS0 hs);infer_instance;rfl;assumption;(focus with_reducible (repeat first|exact Qh|apply Qk);done);rfl;(exact map_get (by assumption));rfl;rfl;(simp only [Uc,Uz]))|((with_reducible apply wl_ia hs);infer_instance;infer_instance;rfl;rfl;(focus with_reducible (repeat first|exact Qh|apply Qk);done);(rfl);(simp only [Wm,Ws,Wa,Wc,Wn,Wr] at *;omega);rfl;intro b off hat;(simp only [Uc,Uz]))|((with_reducible apply wl_len hs);infer_instance;rfl;(focus with_reducible (repeat first|exact Qh|apply Qk);done);rfl;(simp only [Uc,Uz])))|(go_at_call 141;((refine (hT.out).at hs (by (focus with_reducible (repeat first|exact Qh|apply Qk);done)) ?_);clear hs;intro w hs;(try simp only [emp_mul,mul_assoc'] at hs));(obtain ⟨vas,vac,us,u,hus,hu,hs⟩ := areT hs hx);(have hltu : n < us.length := by omega))|(go_at_call 218;(replace hs := areT_back hus hu hx (hs.fin (by (with_reducible exact Ql))));((refine (HA.out).at hs (by (focus with_reducible (repeat first|exact Qh|apply Qb|apply Qk);done)) ?_);clear hs;intro w hs;(try simp only [emp_mul,mul_assoc'] at hs)))|((with_reducible refine wp_plan_sat (id := 1) [.neu 0,.neu 1,.neu 2,.neu 3,.neu 4,.neu 5,.neu 6,.neu 7,.neu 8,.neu 9,.neu 10,.neu 11,.eff 12 [],.neu 13,.neu 14,.neu 15,.neu 16,.neu 17,.neu 18,.neu 19,.neu 20,.neu 21,.neu 22,.neu 23,.neu 24,.neu 25,.neu 26,.neu 27,.neu 28,.neu 29,.neu 30,.neu 31,.neu 32] hs rfl ?_ ?_);kernel_rfl;clear hs;intro w hs))
  (go_ret)
  refine ⟨rfl,?_⟩
  unfold PshR
  simp only [mul_assoc']
  ((with_reducible apply Sat.fin hs);(with_reducible exact Ql))
def flushStep (a : Are) (m : Mch) (p : Psh) : Bool × Are × Mch × Psh :=
 if (pushStep a m p).1 = false then pushStep a m p else
 let x := a.caches.getD p.thread.toNat []
 let y := x.take (x.length - 1)
 let a' := { (pushStep a m p).2.1 with caches := a.caches.set p.thread.toNat y }
 if x.length = 1 then (true,a',(pushStep a m p).2.2.1,(pushStep a m p).2.2.2)
 else (false,a',(pushStep a m p).2.2.1,{ (pushStep a m p).2.2.2 with slot := y.getD (y.length - 1) 0,at_ := 1 })
theorem pushStep_caches (a : Are) (m : Mch) (p : Psh) : (pushStep a m p).2.1.caches = a.caches := by
 unfold pushStep;split
 ·rfl
 ·split
  ·rfl
  ·simp only [];split <;> rfl
theorem pushStep_thread (a : Are) (m : Mch) (p : Psh) : (pushStep a m p).2.2.2.thread = p.thread := by
 unfold pushStep;split
 ·rfl
 ·split
  ·rfl
  ·simp only [];split <;> rfl
theorem flush_step (g b d bx bm : Nat) (a : Are) (m : Mch) (p : Psh) (h : PushOk a m p) (n : Nat) (x : List Int) (ht : p.thread = (n : Int)) (hx : a.caches[n]? = some x) (hxl : x.length < 4294967296) (hpos : 0 < x.length) :
  Gives Tryz.prog 215 #[.pointer (some ⟨g,0,none⟩),.pointer (some ⟨d,0,none⟩)] (PshR g b 320 p * (AreR b a * DkR d bx bm m))
   (.bool (flushStep a m p).1) (PshR g b 320 (flushStep a m p).2.2.2 * (AreR b (flushStep a m p).2.1 * DkR d bx bm (flushStep a m p).2.2.1)) := by
 intro O w F hs
 simp only [mul_assoc'] at hs
 have hP := push_step g b d bx bm 320 a m p h
 have h0 : (p.at_ == 0) = false := by have := h.at0;simp;omega
 have hcs := pushStep_caches a m p
 have hth := pushStep_thread a m p
 have hxd : a.caches.getD p.thread.toNat [] = x := by simp [List.getD_eq_getElem?_getD,hx,ht]
 have hlt := (List.getElem?_eq_some_iff.1 hx).1
 unfold flushStep
 simp only [hxd]
 unfold PshR at hs hP
 generalize pushStep a m p = r at hP hcs hth ⊢
 obtain ⟨b1,a1,m1,p1⟩ := r
 simp only [] at hP hcs hth ⊢
 have HP := Lib.hid hP;clear hP h
 cases b1 with
 | false =>
  simp only [if_true]
  clear hth hcs
  go_enter Tryz.func215,Tryz.ntmps215
  go_wp2_with (first|((with_reducible apply wl_ld hs);infer_instance;rfl;(with_reducible exact Qh);rfl;rfl;(simp only [Uc,Uz]))|(go_at_call 199;((refine (HP.out).at hs (by (focus with_reducible (repeat first|exact Qh|apply Qb);done)) ?_);clear hs;intro w hs;(try simp only [emp_mul,mul_assoc'] at hs))))
  (go_ret)
  refine ⟨rfl,?_⟩
  unfold PshR
  simp only [mul_assoc']
  ((with_reducible apply Sat.fin hs);(with_reducible exact Ql))
 | true =>
  have hx1 : a1.caches[n]? = some x := by rw [hcs];exact hx
  have hlt1 : n < a1.caches.length := by rw [hcs];exact hlt
  obtain ⟨ps,pa,ph,pt_⟩ := p1
  simp only [] at hth HP
  rw [ht] at hth
  subst hth
  rw [ht,Int.toNat_natCast,← hcs]
  clear hcs hxd hx hlt ht
  have HE := Lib.hid (show ((x.length : Int) - 1).toNat = x.length - 1 by omega)
  by_cases h1 : x.length = 1
  ·have h1' : ((x.length : Int) == 1) = true := by simp;omega
   have H1 := Lib.hid h1;clear h1
   simp only [if_pos H1.out]
   go_enter Tryz.func215,Tryz.ntmps215
   go_wp2_with (first|(first|(first|(with_reducible refine NQ.mk ?_)|((with_reducible apply pl_neu);rfl;rfl)|((with_reducible apply pl_eff);rfl)|(with_reducible refine EQ.mk ?_ ?_)|(with_reducible exact chk_nil)|(with_reducible refine pl_end ?_))|((with_reducible apply wl_ld hs);infer_instance;rfl;(focus with_reducible (repeat first|exact Qh|apply Qk);done);rfl;rfl;(simp only [Uc,Uz]))|((with_reducible apply wl_ldS0 hs);infer_instance;rfl;assumption;(focus with_reducible (repeat first|exact Qh|apply Qk);done);rfl;(exact map_get (by assumption));rfl;rfl;(simp only [Uc,Uz]))|((with_reducible apply wl_stS0 hs);infer_instance;rfl;rfl;assumption;(focus with_reducible (repeat first|exact Qh|apply Qk);done);rfl;(exact map_get (by assumption));(exact Vb rfl);(apply resH_one;apply sl_one;apply hs.pull;(focus with_reducible (repeat first|exact Qh|apply Qk);done));rfl;clear hs;intro w hs)|((with_reducible apply wl_ia2 hs);infer_instance;infer_instance;rfl;assumption;rfl;(focus with_reducible (repeat first|exact Qh|apply Qk);done);(rfl);(simp only [Wm,Ws,Wa,Wc,Wn,Wr] at *;omega);rfl;(simp only [Uc,Uz]))|((with_reducible apply wl_ia hs);infer_instance;infer_instance;rfl;rfl;(focus with_reducible (repeat first|exact Qh|apply Qk);done);(rfl);(simp only [Wm,Ws,Wa,Wc,Wn,Wr] at *;omega);rfl;intro b off hat;(simp only [Uc,Uz]))|((with_reducible apply wl_len hs);infer_instance;rfl;(focus with_reducible (repeat first|exact Qh|apply Qk);done);rfl;(simp only [Uc,Uz]))|((with_reducible apply wl_reH hs);infer_instance;infer_instance;rfl;rfl;(focus with_reducible (repeat first|exact Qh|apply Qk);done);(exact (Int.toNat_of_nonneg (by omega)).symm);(simp only [Wm,Ws,Wa,Wc,Wn,Wr] at *;omega);rfl;(simp only [Uc,Uz])))|(go_at_call 199;((refine (HP.out).at hs (by (focus with_reducible (repeat first|exact Qh|apply Qb);done)) ?_);clear hs;intro w hs;(try simp only [emp_mul,mul_assoc'] at hs));(replace hs := hs.pull (A := AreR b a1) (by (focus with_reducible (repeat first|exact Qh|apply Qk);done)));(obtain ⟨vas,vac,us,u,hus,hu,hs⟩ := areT hs hx1);(have hltu : n < us.length := by omega))|((with_reducible refine wp_plan_sat (id := 5) [.neu 0,.neu 1,.neu 2,.neu 3,.neu 4,.neu 5,.neu 6,.neu 7,.neu 8,.neu 9,.neu 10,.neu 11,.neu 12,.neu 13,.neu 14] hs rfl ?_ ?_);kernel_rfl;clear hs;intro w hs)|((with_reducible refine wp_plan_sat (id := 6) [.neu 0,.neu 1,.neu 2,.neu 3,.neu 4,.neu 5,.neu 6,.neu 7,.neu 8,.neu 9,.neu 10,.neu 11,.neu 12,.neu 13,.neu 14,.neu 15,.neu 16,.neu 17,.eff 18 []] hs rfl ?_ ?_);kernel_rfl;clear hs;intro w hs))
   rw [HE.out] at hs;(replace hs := sl_takeH (h := x.length - 1) (hs.pull (A := sl 3 1 (x.map eI) u) (by (focus with_reducible (repeat first|exact Qh|apply Qk);done))) (by simp));rw [← List.map_take] at hs;(replace hs := areT_mk2 (x := ((x.take (x.length - 1)))) hus hlt1 (hs.fin (by (focus ((repeat (first|with_reducible exact Ql|with_reducible exact Qh|with_reducible apply Qb|exact Qh|with_reducible apply Qk));done)))) (by rfl))
   (go_ret)
   refine ⟨rfl,?_⟩
   unfold PshR
   simp only [mul_assoc']
   ((with_reducible apply Sat.fin hs);(focus with_reducible (repeat first|exact Ql|exact Qh|apply Qb|apply Qk);done))
  ·have h1' : ((x.length : Int) == 1) = false := by simp;omega
   have hv : (x.take (x.length - 1))[(x.take (x.length - 1)).length - 1]? = some ((x.take (x.length - 1)).getD ((x.take (x.length - 1)).length - 1) 0) := by
    have : (x.take (x.length - 1)).length - 1 < (x.take (x.length - 1)).length := by simp;omega
    rw [List.getD_eq_getElem?_getD,List.getElem?_eq_getElem this];rfl
   have hA := flush_again g b { a1 with caches := a1.caches.set n (x.take (x.length - 1)) } ⟨ps,pa,ph,n⟩ n (x.take (x.length - 1)) _ rfl (by simp [hlt1]) hv (by simp;omega)
   have H1 := Lib.hid h1;clear h1 hv
   simp only [if_neg H1.out]
   unfold PshR at hA
   generalize (x.take (x.length - 1)).getD ((x.take (x.length - 1)).length - 1) 0 = v at hA ⊢
   have HA := Lib.hid hA;clear hA
   go_enter Tryz.func215,Tryz.ntmps215
   go_wp2_with (first|(first|(first|(with_reducible refine NQ.mk ?_)|((with_reducible apply pl_neu);rfl;rfl)|((with_reducible apply pl_eff);rfl)|(with_reducible refine EQ.mk ?_ ?_)|(with_reducible exact chk_nil)|(with_reducible refine pl_end ?_))|((with_reducible apply wl_ld hs);infer_instance;rfl;(focus with_reducible (repeat first|exact Qh|apply Qk);done);rfl;rfl;(simp only [Uc,Uz]))|((with_reducible apply wl_ldS0 hs);infer_instance;rfl;assumption;(focus with_reducible (repeat first|exact Qh|apply Qk);done);rfl;(exact map_get (by assumption));rfl;rfl;(simp only [Uc,Uz]))|((with_reducible apply wl_stS0 hs);infer_instance;rfl;rfl;assumption;(focus with_reducible (repeat first|exact Qh|apply Qk);done);rfl;(exact map_get (by assumption));(exact Vb rfl);(apply resH_one;apply sl_one;apply hs.pull;(focus with_reducible (repeat first|exact Qh|apply Qk);done));rfl;clear hs;intro w hs)|((with_reducible apply wl_ia2 hs);infer_instance;infer_instance;rfl;assumption;rfl;(focus with_reducible (repeat first|exact Qh|apply Qk);done);(rfl);(simp only [Wm,Ws,Wa,Wc,Wn,Wr] at *;omega);rfl;(simp only [Uc,Uz]))|((with_reducible apply wl_ia hs);infer_instance;infer_instance;rfl;rfl;(focus with_reducible (repeat first|exact Qh|apply Qk);done);(rfl);(simp only [Wm,Ws,Wa,Wc,Wn,Wr] at *;omega);rfl;intro b off hat;(simp only [Uc,Uz]))|((with_reducible apply wl_len hs);infer_instance;rfl;(focus with_reducible (repeat first|exact Qh|apply Qk);done);rfl;(simp only [Uc,Uz]))|((with_reducible apply wl_reH hs);infer_instance;infer_instance;rfl;rfl;(focus with_reducible (repeat first|exact Qh|apply Qk);done);(exact (Int.toNat_of_nonneg (by omega)).symm);(simp only [Wm,Ws,Wa,Wc,Wn,Wr] at *;omega);rfl;(simp only [Uc,Uz])))|(go_at_call 199;((refine (HP.out).at hs (by (focus with_reducible (repeat first|exact Qh|apply Qb);done)) ?_);clear hs;intro w hs;(try simp only [emp_mul,mul_assoc'] at hs));(replace hs := hs.pull (A := AreR b a1) (by (focus with_reducible (repeat first|exact Qh|apply Qk);done)));(obtain ⟨vas,vac,us,u,hus,hu,hs⟩ := areT hs hx1);(have hltu : n < us.length := by omega))|(go_at_call 218;rw [HE.out] at hs;(replace hs := sl_takeH (h := x.length - 1) (hs.pull (A := sl 3 1 (x.map eI) u) (by (focus with_reducible (repeat first|exact Qh|apply Qk);done))) (by simp));rw [← List.map_take] at hs;(replace hs := areT_mk2 (x := ((x.take (x.length - 1)))) hus hlt1 (hs.fin (by (focus ((repeat (first|with_reducible exact Ql|with_reducible exact Qh|with_reducible apply Qb|exact Qh|with_reducible apply Qk));done)))) (by rfl));((refine (HA.out).at hs (by (focus with_reducible (repeat first|exact Qh|apply Qb|apply Qk);done)) ?_);clear hs;intro w hs;(try simp only [emp_mul,mul_assoc'] at hs)))|((with_reducible refine wp_plan_sat (id := 5) [.neu 0,.neu 1,.neu 2,.neu 3,.neu 4,.neu 5,.neu 6,.neu 7,.neu 8,.neu 9,.neu 10,.neu 11,.neu 12,.neu 13,.neu 14] hs rfl ?_ ?_);kernel_rfl;clear hs;intro w hs)|((with_reducible refine wp_plan_sat (id := 6) [.neu 0,.neu 1,.neu 2,.neu 3,.neu 4,.neu 5,.neu 6,.neu 7,.neu 8,.neu 9,.neu 10,.neu 11,.neu 12,.neu 13,.neu 14,.neu 15,.neu 16,.neu 17,.eff 18 []] hs rfl ?_ ?_);kernel_rfl;clear hs;intro w hs))
   (go_ret)
   refine ⟨rfl,?_⟩
   unfold PshR
   simp only [mul_assoc']
   ((with_reducible apply Sat.fin hs);(with_reducible exact Ql))
end Go.Proofs.YtegafhhdegnigaaGreat
end
/-
  The hazards: records and lists.
-/
section
namespace Go.Proofs.YtegafhhdegnigaaGreat
open Go.RowKit Hp
set_option maxRecDepth 100000
set_option maxHeartbeats 1000000
attribute [local irreducible] Go.Calls
structure Haz where
 c : Cfg
 held : List Int
 lists : List (List Int)
def HazR (b ba : Nat) (h : Haz) : SProp := ex fun vh => ex fun vl =>
 pt b (.cells #[.pointer (some ⟨ba,0,none⟩),.int .i64 h.c.T,.int .i64 h.c.R,.int .i64 h.c.Hz,.int .i64 h.c.Rt,.int .i64 h.c.Ca,.int .i64 h.c.Sl,.int .i64 h.c.Bu,vh,vl,.int .i64 (base h.c 8),.int .i64 (base h.c 9),.int .i64 (base h.c 2),.int .i64 (base h.c 11)] 93) * (sl 3 1 (h.held.map eI) vh * nest 44 3 h.lists vl)
theorem hazR {O w : World} {b ba : Nat} {h : Haz} {R : SProp} : Sat O w (HazR b ba h * R) ↔ ∃ vh vl,Sat O w (pt b (.cells #[.pointer (some ⟨ba,0,none⟩),.int .i64 h.c.T,.int .i64 h.c.R,.int .i64 h.c.Hz,.int .i64 h.c.Rt,.int .i64 h.c.Ca,.int .i64 h.c.Sl,.int .i64 h.c.Bu,vh,vl,.int .i64 (base h.c 8),.int .i64 (base h.c 9),.int .i64 (base h.c 2),.int .i64 (base h.c 11)] 93) * (sl 3 1 (h.held.map eI) vh * (nest 44 3 h.lists vl * R))) := by
 unfold HazR
 simp only [sat_ex,mul_assoc']
theorem hazR_mk {O w : World} {b ba : Nat} {h : Haz} {R : SProp} {vh vl : Value} (hs : Sat O w (pt b (.cells #[.pointer (some ⟨ba,0,none⟩),.int .i64 h.c.T,.int .i64 h.c.R,.int .i64 h.c.Hz,.int .i64 h.c.Rt,.int .i64 h.c.Ca,.int .i64 h.c.Sl,.int .i64 h.c.Bu,vh,vl,.int .i64 (base h.c 8),.int .i64 (base h.c 9),.int .i64 (base h.c 2),.int .i64 (base h.c 11)] 93) * (sl 3 1 (h.held.map eI) vh * (nest 44 3 h.lists vl * R)))) : Sat O w (HazR b ba h * R) := hazR.2 ⟨_,_,hs⟩
attribute [irreducible] HazR
section
end
theorem haz_record (b ba : Nat) (h : Haz) (t : Nat) (r : Int) (ht : h.held[t]? = some r) : Gives Tryz.prog 50 #[.pointer (some ⟨b,0,none⟩),.int .i64 (t : Int)] (HazR b ba h) (.int .i64 r) (HazR b ba h) := by
 intro O w F hs
 (obtain ⟨vhh,vhl,hs⟩ := hazR.1 hs)
 have hlt := (List.getElem?_eq_some_iff.1 ht).1
 have n1 : decide ((t : Int) < 0) = false := by simp
 have n2 : decide ((t : Int) ≥ (h.held.length : Int)) = false := by simp;omega
 go_enter Tryz.func50,Tryz.ntmps50
 go_wp2_with (first|((with_reducible apply wl_ld hs);infer_instance;rfl;(focus with_reducible (repeat first|exact Qh|apply Qk);done);rfl;rfl;(simp only [Uc,Uz]))|((with_reducible apply wl_ldS0 hs);infer_instance;rfl;assumption;(focus with_reducible (repeat first|exact Qh|apply Qk);done);rfl;(exact map_get (by assumption));rfl;rfl;(simp only [Uc,Uz]))|((with_reducible apply wl_ia hs);infer_instance;infer_instance;rfl;rfl;(focus with_reducible (repeat first|exact Qh|apply Qk);done);(rfl);(simp only [Wm,Ws,Wa,Wc,Wn,Wr] at *;omega);rfl;intro b off hat;(simp only [Uc,Uz]))|((with_reducible apply wl_len hs);infer_instance;rfl;(focus with_reducible (repeat first|exact Qh|apply Qk);done);rfl;(simp only [Uc,Uz])))
 (go_ret)
 refine ⟨rfl,?_⟩
 (apply hazR_mk;((try simp only [List.map_append,List.map_cons,List.map_nil,List.map_set,List.set_set]);(try simp only [List.map_append,List.map_cons,List.map_nil,List.map_set,List.set_set] at hs);((with_reducible apply Sat.fin hs);(with_reducible exact Ql))))
theorem haz_addr (b ba : Nat) (h : Haz) (hc : h.c.Ok) (t : Nat) (r k : Int) (ht : h.held[t]? = some r) (r0 : 0 ≤ r) (r1 : r < h.c.R) (k0 : 0 ≤ k) (k1 : k < h.c.Hz) :
  Gives Tryz.prog 51 #[.pointer (some ⟨b,0,none⟩),.int .i64 (t : Int),.int .i64 k] (HazR b ba h) (.int .i64 (base h.c 9 + r * h.c.Hz + k)) (HazR b ba h) := by
 intro O w F hs
 have hR := Lib.hid (haz_record b ba h t r ht)
 have n1 : decide (r < 0) = false := by simp;omega
 have n2 : decide (k < 0) = false := by simp;omega
 have n3 : decide (k ≥ h.c.Hz) = false := by simp;omega
 have hm : 0 ≤ r * h.c.Hz ∧ r * h.c.Hz ≤ 128 := by
  have := hc.H2;have := hc.R2
  exact ⟨Int.mul_nonneg r0 (by omega),by
   calc r * h.c.Hz ≤ 16 * 8 := Int.mul_le_mul (by omega) (by omega) (by omega) (by omega)
    _ = 128 := rfl⟩
 obtain ⟨m0,m1⟩ := hm
 have hb := base_le hc 9
 obtain ⟨b0,b1⟩ := hb
 have hw : wrap64 (r * h.c.Hz) = r * h.c.Hz := by unfold wrap64;omega
 have hH2 := hc.H2
 go_enter Tryz.func51,Tryz.ntmps51
 go_wp2_with (first|(first|(first|(with_reducible refine NQ.mk ?_)|((with_reducible apply pl_neu);rfl;rfl)|(with_reducible refine pl_end ?_))|((with_reducible apply wl_ld hs);infer_instance;rfl;(with_reducible exact Qh);rfl;rfl;(simp only [Uc,Uz])))|(go_at_call 50;((refine (hR.out).at hs (by (with_reducible exact Qh)) ?_);clear hs;intro w hs;(try simp only [emp_mul,mul_assoc'] at hs));(obtain ⟨vhh,vhl,hs⟩ := hazR.1 hs))|((with_reducible refine wp_plan_sat (id := 4) [.neu 0,.neu 1,.neu 2,.neu 3,.neu 4,.neu 5,.neu 6,.neu 7,.neu 8,.neu 9,.neu 10,.neu 11,.neu 12,.neu 13,.neu 14] hs rfl ?_ ?_);kernel_rfl;clear hs;intro w hs))
 (go_ret)
 refine ⟨rfl,?_⟩
 (apply hazR_mk;((try simp only [List.map_append,List.map_cons,List.map_nil,List.map_set,List.set_set]);(try simp only [List.map_append,List.map_cons,List.map_nil,List.map_set,List.set_set] at hs);((with_reducible apply Sat.fin hs);(with_reducible exact Ql))))
/-! ### One record's list in hand -/
theorem hazT {O w : World} {b ba : Nat} {h : Haz} {R : SProp} {t : Nat} {x : List Int} (hs : Sat O w (HazR b ba h * R)) (hi : h.lists[t]? = some x) : ∃ (vh vl : Value) (us : List Value) (u : Value),us.length = h.lists.length ∧ us[t]? = some u ∧
  Sat O w (pt b (.cells #[.pointer (some ⟨ba,0,none⟩),.int .i64 h.c.T,.int .i64 h.c.R,.int .i64 h.c.Hz,.int .i64 h.c.Rt,.int .i64 h.c.Ca,.int .i64 h.c.Sl,.int .i64 h.c.Bu,vh,vl,.int .i64 (base h.c 8),.int .i64 (base h.c 9),.int .i64 (base h.c 2),.int .i64 (base h.c 11)] 93) * (sl 3 1 (h.held.map eI) vh *
   (sl 44 1 (us.map fun u => [u]) vl * (sl 3 1 (x.map eI) u * (stars 3 (h.lists.eraseIdx t) (us.eraseIdx t) * R))))) := by
 obtain ⟨vh,vl,hs⟩ := hazR.1 hs
 obtain ⟨us,u,h1,h2,hs⟩ := nest_at (hs.pull (A := nest 44 3 h.lists vl) (by (focus with_reducible (repeat first|exact Qh|apply Qk);done))) hi
 refine ⟨vh,vl,us,u,h1,h2,?_⟩
 ((with_reducible apply Sat.fin hs);(focus with_reducible (repeat first|exact Ql|exact Qh|apply Qb|apply Qk);done))
theorem hazT_back {O w : World} {b ba : Nat} {h : Haz} {R : SProp} {t : Nat} {x : List Int} {vh vl u : Value} {us : List Value} (hl : us.length = h.lists.length) (hu : us[t]? = some u) (hi : h.lists[t]? = some x)
  (hs : Sat O w (pt b (.cells #[.pointer (some ⟨ba,0,none⟩),.int .i64 h.c.T,.int .i64 h.c.R,.int .i64 h.c.Hz,.int .i64 h.c.Rt,.int .i64 h.c.Ca,.int .i64 h.c.Sl,.int .i64 h.c.Bu,vh,vl,.int .i64 (base h.c 8),.int .i64 (base h.c 9),.int .i64 (base h.c 2),.int .i64 (base h.c 11)] 93) * (sl 3 1 (h.held.map eI) vh *
   (sl 44 1 (us.map fun u => [u]) vl * (sl 3 1 (x.map eI) u * (stars 3 (h.lists.eraseIdx t) (us.eraseIdx t) * R)))))) : Sat O w (HazR b ba h * R) := by
 apply hazR_mk
 have := nest_back (xss := h.lists) hl hi hu (hs.fin (T := sl 44 1 (us.map fun u => [u]) vl * (sl 3 1 (x.map eI) u * (stars 3 (h.lists.eraseIdx t) (us.eraseIdx t) * (pt b (.cells #[.pointer (some ⟨ba,0,none⟩),.int .i64 h.c.T,.int .i64 h.c.R,.int .i64 h.c.Hz,.int .i64 h.c.Rt,.int .i64 h.c.Ca,.int .i64 h.c.Sl,.int .i64 h.c.Bu,vh,vl,.int .i64 (base h.c 8),.int .i64 (base h.c 9),.int .i64 (base h.c 2),.int .i64 (base h.c 11)] 93) * (sl 3 1 (h.held.map eI) vh * R))))) (by (focus with_reducible (repeat first|exact Ql|exact Qh|apply Qb|apply Qk);done)))
 have hs := this
 ((with_reducible apply Sat.fin hs);(focus with_reducible (repeat first|exact Ql|exact Qh|apply Qb|apply Qk);done))
theorem hazT_mk {O w : World} {b ba : Nat} {h : Haz} {R : SProp} {t : Nat} {x : List Int} {xc : List (List Value)} {vh vl u : Value} {us : List Value} (hl : us.length = h.lists.length) (ht : t < h.lists.length)
  (hs : Sat O w (pt b (.cells #[.pointer (some ⟨ba,0,none⟩),.int .i64 h.c.T,.int .i64 h.c.R,.int .i64 h.c.Hz,.int .i64 h.c.Rt,.int .i64 h.c.Ca,.int .i64 h.c.Sl,.int .i64 h.c.Bu,vh,vl,.int .i64 (base h.c 8),.int .i64 (base h.c 9),.int .i64 (base h.c 2),.int .i64 (base h.c 11)] 93) * (sl 3 1 (h.held.map eI) vh *
   (sl 44 1 ((us.map fun u => [u]).set t [u]) vl * (sl 3 1 xc u * (stars 3 (h.lists.eraseIdx t) (us.eraseIdx t) * R)))))) (hxc : xc = x.map eI) : Sat O w (HazR b ba { h with lists := h.lists.set t x } * R) := by
 subst hxc
 have e : (us.map fun u => [u]).set t [u] = (us.set t u).map fun u => [u] := by rw [List.map_set]
 rw [e] at hs
 apply hazR_mk
 have := nest_mk (xss := h.lists) hl ht (hs.fin (T := sl 44 1 ((us.set t u).map fun u => [u]) vl * (sl 3 1 (x.map eI) u * (stars 3 (h.lists.eraseIdx t) (us.eraseIdx t) * (pt b (.cells #[.pointer (some ⟨ba,0,none⟩),.int .i64 h.c.T,.int .i64 h.c.R,.int .i64 h.c.Hz,.int .i64 h.c.Rt,.int .i64 h.c.Ca,.int .i64 h.c.Sl,.int .i64 h.c.Bu,vh,vl,.int .i64 (base h.c 8),.int .i64 (base h.c 9),.int .i64 (base h.c 2),.int .i64 (base h.c 11)] 93) * (sl 3 1 (h.held.map eI) vh * R))))) (by (focus with_reducible (repeat first|exact Ql|exact Qh|apply Qb|apply Qk);done)))
 have hs := this
 ((with_reducible apply Sat.fin hs);(focus with_reducible (repeat first|exact Ql|exact Qh|apply Qb|apply Qk);done))
section
end
/-! ### A scan -/
structure Scn where
 thread : Int
 record : Int
 stage : Int
 at_ : Int
 hasMap : Bool
 named : Int → Int
 pending : List Int
 give : Option Psh
def namedR (b : Bool) (c : Int → Int) (v : Value) : SProp := match b with
 | true => ex fun f => pu (∀ k,(f k).getD (.int .i64 0) = .int .i64 (c k)) * mp .i64 f v
 | false => pu (v = .map none)
def giveR (ba : Nat) (o : Option Psh) (v : Value) : SProp := match o with
 | none => pu (v = .pointer none)
 | some p => ex fun g => pu (v = .pointer (some ⟨g,0,none⟩)) * PshR g ba 309 p
def ScnR (g bh ba : Nat) (s : Scn) : SProp := ex fun vn => ex fun vp => ex fun vg =>
 pt g (.cells #[.pointer (some ⟨bh,0,none⟩),.int .i64 s.thread,.int .i64 s.record,.int .i64 s.stage,.int .i64 s.at_,vn,vp,vg] 208) * (namedR s.hasMap s.named vn * (sl 3 1 (s.pending.map eI) vp * giveR ba s.give vg))
theorem scnR {O w : World} {g bh ba : Nat} {s : Scn} {R : SProp} : Sat O w (ScnR g bh ba s * R) ↔ ∃ vn vp vg,Sat O w (pt g (.cells #[.pointer (some ⟨bh,0,none⟩),.int .i64 s.thread,.int .i64 s.record,.int .i64 s.stage,.int .i64 s.at_,vn,vp,vg] 208) * (namedR s.hasMap s.named vn * (sl 3 1 (s.pending.map eI) vp * (giveR ba s.give vg * R)))) := by
 unfold ScnR
 simp only [sat_ex,mul_assoc']
theorem scnR_mk {O w : World} {g bh ba : Nat} {s : Scn} {R : SProp} {vn vp vg : Value} (hs : Sat O w (pt g (.cells #[.pointer (some ⟨bh,0,none⟩),.int .i64 s.thread,.int .i64 s.record,.int .i64 s.stage,.int .i64 s.at_,vn,vp,vg] 208) * (namedR s.hasMap s.named vn * (sl 3 1 (s.pending.map eI) vp * (giveR ba s.give vg * R))))) : Sat O w (ScnR g bh ba s * R) := scnR.2 ⟨_,_,_,hs⟩
theorem named_empty {O w : World} {v : Value} {R : SProp} (hs : Sat O w (mp .i64 (fun _ => none) v * R)) : Sat O w (namedR true (fun _ => 0) v * R) := by
 unfold namedR
 simp only [sat_ex,mul_assoc',sat_pu]
 exact ⟨_,fun k => rfl,hs⟩
theorem named_get {O w : World} {v : Value} {c : Int → Int} {R : SProp} : Sat O w (namedR true c v * R) ↔ ∃ f,(∀ k,(f k).getD (.int .i64 0) = .int .i64 (c k)) ∧ Sat O w (mp .i64 f v * R) := by
 unfold namedR
 simp only [sat_ex,mul_assoc',sat_pu]
theorem named_no {O w : World} {c : Int → Int} {R : SProp} (hs : Sat O w R) : Sat O w (namedR false c (.map none) * R) := by
 unfold namedR
 simp only [sat_pu]
 exact ⟨trivial,hs⟩
theorem give_none {O w : World} {ba : Nat} {R : SProp} (hs : Sat O w R) : Sat O w (giveR ba none (.pointer none) * R) := by
 unfold giveR
 simp only [sat_pu]
 exact ⟨trivial,hs⟩
theorem give_get {O w : World} {ba : Nat} {p : Psh} {v : Value} {R : SProp} : Sat O w (giveR ba (some p) v * R) ↔ ∃ g,v = .pointer (some ⟨g,0,none⟩) ∧ Sat O w (PshR g ba 309 p * R) := by
 unfold giveR
 simp only [sat_ex,mul_assoc',sat_pu]
attribute [irreducible] ScnR namedR giveR
theorem haz_scan (b ba : Nat) (h : Haz) (t : Nat) (r : Int) (ht : h.held[t]? = some r) :
  Makes Tryz.prog 45 #[.pointer (some ⟨b,0,none⟩),.int .i64 (t : Int)] (HazR b ba h) (fun g => ScnR g b ba ⟨t,r,6,0,false,fun _ => 0,[],none⟩ * HazR b ba h) := by
 intro O w F hs
 have hR := Lib.hid (haz_record b ba h t r ht)
 go_enter Tryz.func45,Tryz.ntmps45
 go_wp2_with (first|((with_reducible apply wl_box hs);rfl;rfl;rfl;clear hs;intro w b hs;(simp only [Uc,Uz]))|(go_at_call 50;((refine (hR.out).at hs (by (with_reducible exact Qh)) ?_);clear hs;intro w hs;(try simp only [emp_mul,mul_assoc'] at hs))))
 (go_ret)
 refine ⟨_,rfl,?_⟩
 rw [mul_assoc']
 apply scnR_mk (vn := .map none) (vp := .slice none 0 0) (vg := .pointer none)
 have h2 := give_none (ba := ba) (sl_nil (E := 3) (sz := 1) hs (by omega))
 have hs := named_no (c := fun _ => 0) h2
 ((with_reducible apply Sat.fin hs);(focus ((repeat (first|with_reducible exact Ql|with_reducible exact Qh|with_reducible apply Qb|exact Qh|with_reducible apply Qk));done)))
def scanNext (h : Haz) (s : Scn) : Bool × Scn :=
 let k := if s.at_ + 1 = s.record then s.at_ + 2 else s.at_ + 1
 if k < h.c.R then (false,{ s with at_ := k,stage := 0 })
 else if (h.lists.getD s.record.toNat []).length = 0 then (true,{ s with at_ := 0,named := fun _ => 0,hasMap := true,stage := 6 })
 else (false,{ s with at_ := 0,named := fun _ => 0,hasMap := true,stage := 3 })
end Go.Proofs.YtegafhhdegnigaaGreat
end
/-
  Lists of numbers: a record's list, and the law's comparison.
-/
section
namespace Go.Proofs.YtegafhhdegnigaaGreat
open Go.RowKit Hp
set_option maxRecDepth 100000
set_option maxHeartbeats 1000000
attribute [local irreducible] Go.Calls
end Go.Proofs.YtegafhhdegnigaaGreat
end
