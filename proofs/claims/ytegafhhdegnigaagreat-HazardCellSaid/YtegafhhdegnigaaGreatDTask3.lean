/-
  The calls: Unregister.
-/
import Derived.Test.YtegafhhdegnigaaGreatDTask2
set_option linter.all false
namespace Go.Proofs.YtegafhhdegnigaaGreat
open Go.RowKit Hp
set_option maxRecDepth 100000
set_option maxHeartbeats 1000000
attribute [local irreducible] Go.Calls
structure Unr where
 thread : Int
 k : Int
 stage : Int
 scan : Option Scn
 flush : Option Psh
def fluR (ba : Nat) (o : Option Psh) (v : Value) : SProp := match o with
 | none => pu (v = .pointer none)
 | some p => ex fun g => pu (v = .pointer (some ⟨g,0,none⟩)) * PshR g ba 320 p
theorem flu_none {O w : World} {ba : Nat} {R : SProp} (hs : Sat O w R) : Sat O w (fluR ba none (.pointer none) * R) := by
 unfold fluR
 simp only [sat_pu]
 exact ⟨trivial,hs⟩
theorem flu_get {O w : World} {ba : Nat} {p : Psh} {v : Value} {R : SProp} : Sat O w (fluR ba (some p) v * R) ↔ ∃ g,v = .pointer (some ⟨g,0,none⟩) ∧ Sat O w (PshR g ba 320 p * R) := by
 unfold fluR
 simp only [sat_ex,mul_assoc',sat_pu]
def UnrR (g bh ba : Nat) (u : Unr) : SProp := ex fun vs => ex fun vf => pt g (.cells #[.pointer (some ⟨bh,0,none⟩),.int .i64 u.thread,.int .i64 u.k,.int .i64 u.stage,vs,vf] 186) * (scanR bh ba u.scan vs * fluR ba u.flush vf)
theorem unrR {O w : World} {g bh ba : Nat} {u : Unr} {R : SProp} : Sat O w (UnrR g bh ba u * R) ↔ ∃ vs vf,Sat O w (pt g (.cells #[.pointer (some ⟨bh,0,none⟩),.int .i64 u.thread,.int .i64 u.k,.int .i64 u.stage,vs,vf] 186) * (scanR bh ba u.scan vs * (fluR ba u.flush vf * R))) := by
 unfold UnrR
 simp only [sat_ex,mul_assoc']
theorem unrR_mk {O w : World} {g bh ba : Nat} {u : Unr} {R : SProp} {vs vf : Value} (hs : Sat O w (pt g (.cells #[.pointer (some ⟨bh,0,none⟩),.int .i64 u.thread,.int .i64 u.k,.int .i64 u.stage,vs,vf] 186) * (scanR bh ba u.scan vs * (fluR ba u.flush vf * R)))) : Sat O w (UnrR g bh ba u * R) := unrR.2 ⟨_,_,hs⟩
attribute [irreducible] fluR UnrR
def unregEmpty (a : Are) (u : Unr) : Unr :=
 { u with flush := some (flushReady a ⟨0,0,0,u.thread⟩).2,stage := if (flushReady a ⟨0,0,0,u.thread⟩).1 = true then 3 else 2 }
theorem unreg_empty (gr bh ba : Nat) (dv : Value) (h : Haz) (a : Are) (u : Unr) (n : Nat) (x : List Int) (hn : u.thread = (n : Int)) (hx : a.caches[n]? = some x) (hxl : x.length < 4294967296) :
  Gives Tryz.prog 214 #[.pointer (some ⟨gr,0,none⟩),dv] (UnrR gr bh ba u * (HazR bh ba h * AreR ba a)) (.tuple #[]) (UnrR gr bh ba (unregEmpty a u) * (HazR bh ba h * AreR ba a)) := by
 intro O w F hs
 simp only [mul_assoc'] at hs
 obtain ⟨u1,u2,u3,u4,u5⟩ := u
 simp only [] at hn
 subst hn
 have hFl := Lib.hid (arena_flush ba (n : Int))
 have hFR := fun g => flush_ready g ba dv a ⟨0,0,0,n⟩ n x rfl hx hxl
 unfold unregEmpty
 simp only []
 generalize flushReady a ⟨0,0,0,n⟩ = q at hFR ⊢
 obtain ⟨q1,q2⟩ := q
 simp only [] at hFR
 obtain ⟨vs,vf,hs⟩ := unrR.1 hs
 simp only [] at hs
 replace hs := hs.pull (A := HazR bh ba h) (by (focus with_reducible (repeat first|exact Qh|apply Qk);done))
 (obtain ⟨vhh,vhl,hs⟩ := hazR.1 hs)
 clear hx
 have HFR := Lib.hid hFR;clear hFR
 cases q1 with
 | true =>
  simp only [if_true]
  go_enter Tryz.func214,Tryz.ntmps214
  go_wp2_with (first|(first|(first|(with_reducible refine NQ.mk ?_)|((with_reducible apply pl_neu);rfl;rfl)|((with_reducible apply pl_eff);rfl)|(with_reducible refine EQ.mk ?_ ?_)|(first|(with_reducible exact chk_nil)|((with_reducible refine chk_cons ?_ ?_);(focus ((with_reducible apply pl_chk);rfl;rfl))))|(with_reducible refine pl_end ?_)|(show SameA _ _ _;rfl))|((with_reducible apply wl_ld hs);infer_instance;rfl;(focus with_reducible (repeat first|exact Qh|apply Qk);done);rfl;rfl;(simp only [Uc,Uz]))|((with_reducible apply wl_st hs);infer_instance;rfl;rfl;(focus with_reducible (repeat first|exact Qh|apply Qk);done);(rfl);(exact Vb rfl);rfl;clear hs;intro w hs;simp only [List.setIfInBounds_toArray,Uc,Uz] at hs))|(go_at_call 216;((refine (hFl.out).at hs (by (focus ((repeat (with_reducible exact Qn));done))) ?_);clear hs;intro g w hs;(try simp only [emp_mul,mul_assoc'] at hs)))|(go_at_call 217;((refine ((HFR.out g)).at hs (by (focus with_reducible (repeat first|exact Qh|apply Qb|apply Qk);done)) ?_);clear hs;intro w hs;(try simp only [emp_mul,mul_assoc'] at hs)))|((with_reducible refine wp_plan_sat (id := 0) [.neu 0,.neu 1,.neu 2,.neu 3,.neu 4,.neu 5,.neu 6,.neu 7,.neu 8,.neu 9,.neu 10,.neu 11,.eff 12 [0],.neu 13,.neu 14,.eff 15 []] hs rfl ?_ ?_);kernel_rfl;clear hs;intro w hs))
  (go_end0)
  refine ⟨rfl,?_⟩
  simp only [mul_assoc']
  (replace hs := hazR_mk (hs.fin (by (focus with_reducible (repeat first|exact Ql|exact Qh|apply Qb|apply Qk);done))))
  replace hs := flu_get.2 ⟨g,rfl,hs.pull (A := PshR g ba 320 q2) (by (focus with_reducible (repeat first|exact Qh|apply Qk);done))⟩
  apply unrR_mk (vs := vs) (vf := .pointer (some ⟨g,0,none⟩))
  ((with_reducible apply Sat.fin hs);(focus with_reducible (repeat first|exact Ql|exact Qh|apply Qb|apply Qk);done))
 | false =>
  simp only [Bool.false_eq_true,if_false]
  go_enter Tryz.func214,Tryz.ntmps214
  go_wp2_with (first|(first|(first|(with_reducible refine NQ.mk ?_)|((with_reducible apply pl_neu);rfl;rfl)|((with_reducible apply pl_eff);rfl)|(with_reducible refine EQ.mk ?_ ?_)|(first|(with_reducible exact chk_nil)|((with_reducible refine chk_cons ?_ ?_);(focus ((with_reducible apply pl_chk);rfl;rfl))))|(with_reducible refine pl_end ?_)|(show SameA _ _ _;rfl))|((with_reducible apply wl_ld hs);infer_instance;rfl;(focus with_reducible (repeat first|exact Qh|apply Qk);done);rfl;rfl;(simp only [Uc,Uz]))|((with_reducible apply wl_st hs);infer_instance;rfl;rfl;(focus with_reducible (repeat first|exact Qh|apply Qk);done);(rfl);(exact Vb rfl);rfl;clear hs;intro w hs;simp only [List.setIfInBounds_toArray,Uc,Uz] at hs))|(go_at_call 216;((refine (hFl.out).at hs (by (focus ((repeat (with_reducible exact Qn));done))) ?_);clear hs;intro g w hs;(try simp only [emp_mul,mul_assoc'] at hs)))|(go_at_call 217;((refine ((HFR.out g)).at hs (by (focus with_reducible (repeat first|exact Qh|apply Qb|apply Qk);done)) ?_);clear hs;intro w hs;(try simp only [emp_mul,mul_assoc'] at hs)))|((with_reducible refine wp_plan_sat (id := 0) [.neu 0,.neu 1,.neu 2,.neu 3,.neu 4,.neu 5,.neu 6,.neu 7,.neu 8,.neu 9,.neu 10,.neu 11,.eff 12 [0],.neu 13,.neu 14,.eff 15 []] hs rfl ?_ ?_);kernel_rfl;clear hs;intro w hs))
  (go_end0)
  refine ⟨rfl,?_⟩
  simp only [mul_assoc']
  (replace hs := hazR_mk (hs.fin (by (focus with_reducible (repeat first|exact Ql|exact Qh|apply Qb|apply Qk);done))))
  replace hs := flu_get.2 ⟨g,rfl,hs.pull (A := PshR g ba 320 q2) (by (focus with_reducible (repeat first|exact Qh|apply Qk);done))⟩
  apply unrR_mk (vs := vs) (vf := .pointer (some ⟨g,0,none⟩))
  ((with_reducible apply Sat.fin hs);(focus with_reducible (repeat first|exact Ql|exact Qh|apply Qb|apply Qk);done))
def unregStep (h : Haz) (a : Are) (m : Mch) (u : Unr) : Bool × Haz × Are × Mch × Unr :=
 let rec_ := h.held.getD u.thread.toNat 0
 if u.stage = 0 then
  let A := (base h.c 9 + rec_ * h.c.Hz + u.k).toNat
  let m1 := m.store A (m.word A) 0
  if u.k + 1 < h.c.Hz then (false,h,a,m1,{ u with k := u.k + 1 })
  else
   let sc := scanReady h ⟨u.thread,rec_,6,0,false,fun _ => 0,[],none⟩
   let u1 : Unr := { u with k := u.k + 1,scan := some sc.2,stage := 1 }
   if sc.1 = true then (false,h,a,m1,unregEmpty a u1) else (false,h,a,m1,u1)
 else if u.stage = 1 then
  match u.scan with
  | none => (false,h,a,m,u)
  | some s =>
   let r := scanStep h a m s
   let u1 : Unr := { u with scan := some r.2.2.2.2 }
   if r.1 = true then (false,r.2.1,r.2.2.1,r.2.2.2.1,unregEmpty r.2.2.1 u1) else (false,r.2.1,r.2.2.1,r.2.2.2.1,u1)
 else if u.stage = 2 then
  match u.flush with
  | none => (false,h,a,m,u)
  | some p =>
   let r := flushStep a m p
   (false,h,r.2.1,r.2.2.1,{ u with flush := some r.2.2.2,stage := if r.1 = true then 3 else 2 })
 else
  let A := adr h.c 8 rec_
  (true,{ h with held := h.held.set u.thread.toNat (-1) },a,m.store A (m.word A) 0,u)
structure UnrOk (h : Haz) (a : Are) (m : Mch) (u : Unr) : Prop where
 hz : HazOk h a m
 t0 : 0 ≤ u.thread
 t1 : u.thread < h.c.T
 held : 0 ≤ h.held.getD u.thread.toNat 0
 stage : u.stage = 0 ∨ u.stage = 1 ∨ u.stage = 2 ∨ u.stage = 3
 k : u.stage = 0 → 0 ≤ u.k ∧ u.k < h.c.Hz
 scan : u.stage = 1 → ∃ s,u.scan = some s ∧ ScanOk h a m s ∧ ∃ y,(scanStep h a m s).2.2.1.caches[u.thread.toNat]? = some y ∧ y.length < 4294967296
 flush : u.stage = 2 → ∃ p,u.flush = some p ∧ PushOk a m p ∧ p.thread = u.thread ∧ ∃ y,a.caches[u.thread.toNat]? = some y ∧ y.length < 4294967296 ∧ 0 < y.length
set_option maxHeartbeats 4000000 in
theorem unreg_step (gr bh ba d bx bm : Nat) (h : Haz) (a : Are) (m : Mch) (u : Unr) (ok : UnrOk h a m u) :
  Gives Tryz.prog 213 #[.pointer (some ⟨gr,0,none⟩),.pointer (some ⟨d,0,none⟩)] (UnrR gr bh ba u * (HazR bh ba h * (AreR ba a * DkR d bx bm m))) (.bool (unregStep h a m u).1)
   (UnrR gr bh ba (unregStep h a m u).2.2.2.2 * (HazR bh ba (unregStep h a m u).2.1 * (AreR ba (unregStep h a m u).2.2.1 * DkR d bx bm (unregStep h a m u).2.2.2.1))) := by
 intro O w F hs
 simp only [mul_assoc'] at hs
 obtain ⟨u1,u2,u3,u4,u5⟩ := u
 obtain ⟨hz,t0,t1,hh,hst,hk,hsc,hfl⟩ := ok
 simp only [] at t0 t1 hh hst hk hsc hfl
 obtain ⟨n,rfl⟩ := Int.eq_ofNat_of_zero_le t0
 rw [Int.toNat_natCast] at hh hsc hfl
 obtain ⟨rc,hrc,rc0,rc1⟩ := hz.hold t0 t1
 rw [Int.toNat_natCast] at hrc
 have hrd : h.held.getD n 0 = rc := by simp [List.getD_eq_getElem?_getD,hrc]
 rw [hrd] at hh
 have hOk : h.c.Ok := hz.c ▸ hz.ok.c
 have hR2 := hOk.R2
 have hH2 := hOk.H2
 have hH1 := hOk.H1
 obtain ⟨y,hy,hyl,hyin⟩ := hz.cache t0 t1
 rw [Int.toNat_natCast] at hy
 obtain ⟨x,hx,hxl,hxin⟩ := hz.list hh rc1
 unfold unregStep
 simp only [Int.toNat_natCast,hrd]
 obtain ⟨vs,vf,hs⟩ := unrR.1 hs
 simp only [] at hs
 rcases hst with e|e|e|e
 ·subst e
  obtain ⟨k0,k1⟩ := hk rfl
  have hA := Lib.hid (haz_addr bh ba h hOk n rc u2 hrc hh rc1 k0 k1)
  have hin : 0 ≤ rc * h.c.Hz + u2 ∧ rc * h.c.Hz + u2 < h.c.R * h.c.Hz := by
   constructor
   ·exact Int.add_nonneg (Int.mul_nonneg hh (by omega)) k0
   ·have : (rc + 1) * h.c.Hz ≤ h.c.R * h.c.Hz := Int.mul_le_mul_of_nonneg_right (by omega) (by omega)
    rw [Int.add_mul,Int.one_mul] at this
    omega
  obtain ⟨hlt9,he⟩ := base9 hOk hin.1 hin.2
  rw [← Int.add_assoc] at hlt9 he
  rw [he] at hA
  generalize (base h.c 9 + rc * h.c.Hz + u2).toNat = ad at hA hlt9 ⊢
  clear he hin
  have hm : m.May ad := ⟨hz.ok.used,by rw [hz.ok.words,← hz.c];exact hlt9,hz.ok.log,hz.ok.ahead⟩
  have hL := Lib.hid (desk_store d bx bm m _ _ 0 hm.acs)
  have hSc := Lib.hid (haz_scan bh ba h n rc hrc)
  obtain ⟨rn,rfl⟩ := Int.eq_ofNat_of_zero_le hh
  rw [Int.toNat_natCast] at hx
  have hSR := fun g => scan_ready g bh ba (.pointer (some ⟨d,0,none⟩)) h ⟨n,rn,6,0,false,fun _ => 0,[],none⟩ rn x rfl hx hR2
  generalize m.store ad (m.word ad) 0 = m1 at hL ⊢
  generalize scanReady h ⟨n,rn,6,0,false,fun _ => 0,[],none⟩ = q at hSR ⊢
  obtain ⟨q1,q2⟩ := q
  simp only [] at hSR ⊢
  have HSR := Lib.hid hSR;clear hSR
  have hE := unreg_empty gr bh ba (.pointer (some ⟨d,0,none⟩)) h a ⟨n,u2 + 1,1,some q2,u5⟩ n y rfl hy (by omega)
  generalize unregEmpty a ⟨n,u2 + 1,1,some q2,u5⟩ = ue at hE ⊢
  have HE := Lib.hid hE;clear hE
  clear hz hm hsc hfl hrc hrd hx hy hyin hxin hk hlt9
  replace hs := hs.pull (A := HazR bh ba h) (by (focus with_reducible (repeat first|exact Qh|apply Qk);done))
  by_cases hn : u2 + 1 < h.c.Hz
  ·have hn' : decide (u2 + 1 < h.c.Hz) = true := by simpa using hn
   have HN := Lib.hid hn;clear hn
   simp only [if_pos HN.out,if_true]
   go_enter Tryz.func213,Tryz.ntmps213
   go_wp2_with (first|(first|(first|(with_reducible refine NQ.mk ?_)|((with_reducible apply pl_neu);rfl;rfl)|((with_reducible apply pl_eff);rfl)|(with_reducible refine EQ.mk ?_ ?_)|(first|(with_reducible exact chk_nil)|((with_reducible refine chk_cons ?_ ?_);(focus ((with_reducible apply pl_chk);rfl;rfl))))|(with_reducible refine pl_end ?_)|(show SameA _ _ _;rfl))|((with_reducible apply wl_ld hs);infer_instance;rfl;(focus with_reducible (repeat first|exact Qh|apply Qk);done);rfl;rfl;(simp only [Uc,Uz]))|((with_reducible apply wl_st hs);infer_instance;rfl;rfl;(focus with_reducible (repeat first|exact Qh|apply Qk);done);(rfl);(exact Vb rfl);rfl;clear hs;intro w hs;simp only [List.setIfInBounds_toArray,Uc,Uz] at hs))|(go_at_call 51;((refine (hA.out).at hs (by (with_reducible exact Qh)) ?_);clear hs;intro w hs;(try simp only [emp_mul,mul_assoc'] at hs)))|(go_at_call 189;((refine (hL.out).at hs (by (focus with_reducible (repeat first|exact Qh|apply Qk);done)) ?_);clear hs;intro w hs;(try simp only [emp_mul,mul_assoc'] at hs));(replace hs := hs.pull (A := HazR bh ba h) (by (focus with_reducible (repeat first|exact Qh|apply Qk);done)));(obtain ⟨vhh,vhl,hs⟩ := hazR.1 hs))|((with_reducible refine wp_plan_sat (id := 7) [.neu 0,.neu 1,.neu 2,.neu 3,.neu 4,.neu 5,.neu 6,.neu 7,.neu 8,.neu 9,.eff 10 [0],.eff 11 []] hs rfl ?_ ?_);kernel_rfl;clear hs;intro w hs)|((with_reducible refine wp_plan_sat (id := 9) [.neu 0,.neu 1,.neu 2,.neu 3,.neu 4,.neu 5,.neu 6,.neu 7,.neu 8,.neu 9] hs rfl ?_ ?_);kernel_rfl;clear hs;intro w hs))
   (go_ret)
   refine ⟨rfl,?_⟩
   simp only [mul_assoc']
   (replace hs := hazR_mk (hs.fin (by (focus with_reducible (repeat first|exact Ql|exact Qh|apply Qb|apply Qk);done))))
   apply unrR_mk (vs := vs) (vf := vf)
   ((with_reducible apply Sat.fin hs);(focus with_reducible (repeat first|exact Ql|exact Qh|apply Qb|apply Qk);done))
  ·have hn' : decide (u2 + 1 < h.c.Hz) = false := by simpa using hn
   have HN := Lib.hid hn;clear hn
   cases q1 with
   | true =>
    simp only [if_neg HN.out,if_true]
    go_enter Tryz.func213,Tryz.ntmps213
    go_wp2_with (first|(first|(first|(with_reducible refine NQ.mk ?_)|((with_reducible apply pl_neu);rfl;rfl)|((with_reducible apply pl_eff);rfl)|(with_reducible refine EQ.mk ?_ ?_)|(first|(with_reducible exact chk_nil)|((with_reducible refine chk_cons ?_ ?_);(focus ((with_reducible apply pl_chk);rfl;rfl))))|(with_reducible refine pl_end ?_)|(show SameA _ _ _;rfl))|((with_reducible apply wl_ld hs);infer_instance;rfl;(focus with_reducible (repeat first|exact Qh|apply Qk);done);rfl;rfl;(simp only [Uc,Uz]))|((with_reducible apply wl_st hs);infer_instance;rfl;rfl;(focus with_reducible (repeat first|exact Qh|apply Qk);done);(rfl);(exact Vb rfl);rfl;clear hs;intro w hs;simp only [List.setIfInBounds_toArray,Uc,Uz] at hs))|(go_at_call 51;((refine (hA.out).at hs (by (with_reducible exact Qh)) ?_);clear hs;intro w hs;(try simp only [emp_mul,mul_assoc'] at hs)))|(go_at_call 189;((refine (hL.out).at hs (by (focus with_reducible (repeat first|exact Qh|apply Qk);done)) ?_);clear hs;intro w hs;(try simp only [emp_mul,mul_assoc'] at hs));(replace hs := hs.pull (A := HazR bh ba h) (by (focus with_reducible (repeat first|exact Qh|apply Qk);done)));(obtain ⟨vhh,vhl,hs⟩ := hazR.1 hs))|(go_at_call 45;(replace hs := hazR_mk (hs.fin (by (focus with_reducible (repeat first|exact Ql|exact Qh|apply Qb|apply Qk);done))));((refine (hSc.out).at hs (by (with_reducible exact Qh)) ?_);clear hs;intro g w hs;(try simp only [emp_mul,mul_assoc'] at hs)))|(go_at_call 46;((refine ((HSR.out g)).at hs (by (focus with_reducible (repeat first|exact Qh|apply Qb|apply Qk);done)) ?_);clear hs;intro w hs;(try simp only [emp_mul,mul_assoc'] at hs)))|(go_at_call 214;(replace hs := scan_get.2 ⟨g,rfl,hs.pull (A := ScnR g bh ba q2) (by (with_reducible exact Qh))⟩);(replace hs := unrR_mk (u := ⟨n,u2 + 1,1,some q2,u5⟩) (hs.fin (by (focus with_reducible (repeat first|exact Ql|exact Qh|apply Qb|apply Qk);done))));((refine (HE.out).at hs (by (focus with_reducible (repeat first|exact Qh|apply Qb|apply Qk);done)) ?_);clear hs;intro w hs;(try simp only [emp_mul,mul_assoc'] at hs)))|((with_reducible refine wp_plan_sat (id := 7) [.neu 0,.neu 1,.neu 2,.neu 3,.neu 4,.neu 5,.neu 6,.neu 7,.neu 8,.neu 9,.eff 10 [0],.eff 11 []] hs rfl ?_ ?_);kernel_rfl;clear hs;intro w hs)|((with_reducible refine wp_plan_sat (id := 9) [.neu 0,.neu 1,.neu 2,.neu 3,.neu 4,.neu 5,.neu 6,.neu 7,.neu 8,.neu 9] hs rfl ?_ ?_);kernel_rfl;clear hs;intro w hs))
    (go_ret)
    refine ⟨rfl,?_⟩
    simp only [mul_assoc']
    ((with_reducible apply Sat.fin hs);(focus with_reducible (repeat first|exact Ql|exact Qh|apply Qb|apply Qk);done))
   | false =>
    simp only [if_neg HN.out,Bool.false_eq_true,if_true,if_false]
    go_enter Tryz.func213,Tryz.ntmps213
    go_wp2_with (first|(first|(first|(with_reducible refine NQ.mk ?_)|((with_reducible apply pl_neu);rfl;rfl)|((with_reducible apply pl_eff);rfl)|(with_reducible refine EQ.mk ?_ ?_)|(first|(with_reducible exact chk_nil)|((with_reducible refine chk_cons ?_ ?_);(focus ((with_reducible apply pl_chk);rfl;rfl))))|(with_reducible refine pl_end ?_)|(show SameA _ _ _;rfl))|((with_reducible apply wl_ld hs);infer_instance;rfl;(focus with_reducible (repeat first|exact Qh|apply Qk);done);rfl;rfl;(simp only [Uc,Uz]))|((with_reducible apply wl_st hs);infer_instance;rfl;rfl;(focus with_reducible (repeat first|exact Qh|apply Qk);done);(rfl);(exact Vb rfl);rfl;clear hs;intro w hs;simp only [List.setIfInBounds_toArray,Uc,Uz] at hs))|(go_at_call 51;((refine (hA.out).at hs (by (with_reducible exact Qh)) ?_);clear hs;intro w hs;(try simp only [emp_mul,mul_assoc'] at hs)))|(go_at_call 189;((refine (hL.out).at hs (by (focus with_reducible (repeat first|exact Qh|apply Qk);done)) ?_);clear hs;intro w hs;(try simp only [emp_mul,mul_assoc'] at hs));(replace hs := hs.pull (A := HazR bh ba h) (by (focus with_reducible (repeat first|exact Qh|apply Qk);done)));(obtain ⟨vhh,vhl,hs⟩ := hazR.1 hs))|(go_at_call 45;(replace hs := hazR_mk (hs.fin (by (focus with_reducible (repeat first|exact Ql|exact Qh|apply Qb|apply Qk);done))));((refine (hSc.out).at hs (by (with_reducible exact Qh)) ?_);clear hs;intro g w hs;(try simp only [emp_mul,mul_assoc'] at hs)))|(go_at_call 46;((refine ((HSR.out g)).at hs (by (focus with_reducible (repeat first|exact Qh|apply Qb|apply Qk);done)) ?_);clear hs;intro w hs;(try simp only [emp_mul,mul_assoc'] at hs)))|((with_reducible refine wp_plan_sat (id := 7) [.neu 0,.neu 1,.neu 2,.neu 3,.neu 4,.neu 5,.neu 6,.neu 7,.neu 8,.neu 9,.eff 10 [0],.eff 11 []] hs rfl ?_ ?_);kernel_rfl;clear hs;intro w hs)|((with_reducible refine wp_plan_sat (id := 9) [.neu 0,.neu 1,.neu 2,.neu 3,.neu 4,.neu 5,.neu 6,.neu 7,.neu 8,.neu 9] hs rfl ?_ ?_);kernel_rfl;clear hs;intro w hs))
    (go_ret)
    refine ⟨rfl,?_⟩
    simp only [mul_assoc']
    replace hs := scan_get.2 ⟨g,rfl,hs.pull (A := ScnR g bh ba q2) (by (with_reducible exact Qh))⟩
    apply unrR_mk (vs := .pointer (some ⟨g,0,none⟩)) (vf := vf)
    ((with_reducible apply Sat.fin hs);(focus with_reducible (repeat first|exact Ql|exact Qh|apply Qb|apply Qk);done))
 ·subst e
  obtain ⟨s,rfl,sok,yy,hyy,hyyl⟩ := hsc rfl
  simp only [if_neg (show ¬ (1 : Int) = 0 by omega),if_true]
  have hS := fun g => scan_step g bh ba d bx bm h a m s sok
  generalize scanStep h a m s = q at hS hyy ⊢
  obtain ⟨q1,q2,q3,q4,q5⟩ := q
  simp only [] at hS hyy ⊢
  have HS := Lib.hid hS;clear hS
  have hE := unreg_empty gr bh ba (.pointer (some ⟨d,0,none⟩)) q2 q3 ⟨n,u2,1,some q5,u5⟩ n yy rfl hyy hyyl
  generalize unregEmpty q3 ⟨n,u2,1,some q5,u5⟩ = ue at hE ⊢
  have HE := Lib.hid hE;clear hE
  obtain ⟨g,rfl,hs⟩ := scan_get.1 (hs.pull (A := scanR bh ba (some s) vs) (by (focus with_reducible (repeat first|exact Qh|apply Qk);done)))
  clear hz hsc hfl hrc hrd hx hy hyin hxin hk sok hyy
  replace hs := hs.pull (A := HazR bh ba h) (by (focus with_reducible (repeat first|exact Qh|apply Qk);done))
  cases q1 with
  | true =>
   simp only [if_true]
   go_enter Tryz.func213,Tryz.ntmps213
   go_wp2_with (first|((with_reducible apply wl_ld hs);infer_instance;rfl;(focus with_reducible (repeat first|exact Qh|apply Qk);done);rfl;rfl;(simp only [Uc,Uz]))|(go_at_call 185;((refine ((HS.out g)).at hs (by (focus with_reducible (repeat first|exact Qh|apply Qb|apply Qk);done)) ?_);clear hs;intro w hs;(try simp only [emp_mul,mul_assoc'] at hs)))|(go_at_call 214;(replace hs := scan_get.2 ⟨g,rfl,hs.pull (A := ScnR g bh ba q5) (by (with_reducible exact Qh))⟩);(replace hs := unrR_mk (u := ⟨n,u2,1,some q5,u5⟩) (hs.fin (by (focus with_reducible (repeat first|exact Ql|exact Qh|apply Qb|apply Qk);done))));((refine (HE.out).at hs (by (focus with_reducible (repeat first|exact Qh|apply Qb);done)) ?_);clear hs;intro w hs;(try simp only [emp_mul,mul_assoc'] at hs))))
   (go_ret)
   refine ⟨rfl,?_⟩
   simp only [mul_assoc']
   ((with_reducible apply Sat.fin hs);(with_reducible exact Ql))
  | false =>
   simp only [Bool.false_eq_true,if_false]
   go_enter Tryz.func213,Tryz.ntmps213
   go_wp2_with (first|((with_reducible apply wl_ld hs);infer_instance;rfl;(focus with_reducible (repeat first|exact Qh|apply Qk);done);rfl;rfl;(simp only [Uc,Uz]))|(go_at_call 185;((refine ((HS.out g)).at hs (by (focus with_reducible (repeat first|exact Qh|apply Qb|apply Qk);done)) ?_);clear hs;intro w hs;(try simp only [emp_mul,mul_assoc'] at hs))))
   (go_ret)
   refine ⟨rfl,?_⟩
   simp only [mul_assoc']
   replace hs := scan_get.2 ⟨g,rfl,hs.pull (A := ScnR g bh ba q5) (by (with_reducible exact Qh))⟩
   apply unrR_mk (vs := .pointer (some ⟨g,0,none⟩)) (vf := vf)
   ((with_reducible apply Sat.fin hs);(focus with_reducible (repeat first|exact Ql|exact Qh|apply Qb|apply Qk);done))
 ·subst e
  obtain ⟨p,rfl,pok,hpt,yy,hyy,hyyl,hyy0⟩ := hfl rfl
  simp only [if_neg (show ¬ (2 : Int) = 0 by omega),if_neg (show ¬ (2 : Int) = 1 by omega),if_true]
  have hS := fun g => flush_step g ba d bx bm a m p pok n yy hpt hyy hyyl hyy0
  generalize flushStep a m p = q at hS ⊢
  obtain ⟨q1,q2,q3,q4⟩ := q
  simp only [] at hS ⊢
  have HS := Lib.hid hS;clear hS
  obtain ⟨g,rfl,hs⟩ := flu_get.1 (hs.pull (A := fluR ba (some p) vf) (by (focus with_reducible (repeat first|exact Qh|apply Qk);done)))
  clear hz hsc hfl hrc hrd hx hy hyin hxin hk pok hyy
  cases q1 with
  | true =>
   simp only [if_true]
   go_enter Tryz.func213,Tryz.ntmps213
   go_wp2_with (first|(first|((with_reducible apply wl_ld hs);infer_instance;rfl;(focus with_reducible (repeat first|exact Qh|apply Qk);done);rfl;rfl;(simp only [Uc,Uz]))|((with_reducible apply wl_st hs);infer_instance;rfl;rfl;(focus with_reducible (repeat first|exact Qh|apply Qk);done);(rfl);(exact Vb rfl);rfl;clear hs;intro w hs;simp only [List.setIfInBounds_toArray,Uc,Uz] at hs))|(go_at_call 215;((refine ((HS.out g)).at hs (by (focus with_reducible (repeat first|exact Qh|apply Qb|apply Qk);done)) ?_);clear hs;intro w hs;(try simp only [emp_mul,mul_assoc'] at hs))))
   (go_ret)
   refine ⟨rfl,?_⟩
   simp only [mul_assoc']
   replace hs := flu_get.2 ⟨g,rfl,hs.pull (A := PshR g ba 320 q4) (by (focus with_reducible (repeat first|exact Qh|apply Qk);done))⟩
   apply unrR_mk (vs := vs) (vf := .pointer (some ⟨g,0,none⟩))
   ((with_reducible apply Sat.fin hs);(focus with_reducible (repeat first|exact Ql|exact Qh|apply Qb|apply Qk);done))
  | false =>
   simp only [Bool.false_eq_true,if_false]
   go_enter Tryz.func213,Tryz.ntmps213
   go_wp2_with (first|((with_reducible apply wl_ld hs);infer_instance;rfl;(focus with_reducible (repeat first|exact Qh|apply Qk);done);rfl;rfl;(simp only [Uc,Uz]))|(go_at_call 215;((refine ((HS.out g)).at hs (by (focus with_reducible (repeat first|exact Qh|apply Qb|apply Qk);done)) ?_);clear hs;intro w hs;(try simp only [emp_mul,mul_assoc'] at hs))))
   (go_ret)
   refine ⟨rfl,?_⟩
   simp only [mul_assoc']
   replace hs := flu_get.2 ⟨g,rfl,hs.pull (A := PshR g ba 320 q4) (by (with_reducible exact Qh))⟩
   apply unrR_mk (vs := vs) (vf := .pointer (some ⟨g,0,none⟩))
   ((with_reducible apply Sat.fin hs);(focus with_reducible (repeat first|exact Ql|exact Qh|apply Qb|apply Qk);done))
 ·subst e
  simp only [if_neg (show ¬ (3 : Int) = 0 by omega),if_neg (show ¬ (3 : Int) = 1 by omega),if_neg (show ¬ (3 : Int) = 2 by omega)]
  have hm : m.May (adr h.c 8 rc) := by rw [hz.c];exact hz.ok.may (by omega) (by omega) (in_active hh (hz.c ▸ rc1))
  have he := adr_eq hOk 8 hh
  obtain ⟨b0,b1⟩ := base_le hOk 8
  have hlt : n < h.held.length := (List.getElem?_eq_some_iff.1 hrc).1
  have hL := Lib.hid (desk_store d bx bm m _ _ 0 hm.acs)
  generalize m.word (adr h.c 8 rc) = uu at hL ⊢
  replace hs := hs.pull (A := HazR bh ba h) (by (focus with_reducible (repeat first|exact Qh|apply Qk);done))
  (obtain ⟨vhh,vhl,hs⟩ := hazR.1 hs)
  clear hz hm hsc hfl hrd hx hy hyin hxin hk
  go_enter Tryz.func213,Tryz.ntmps213
  go_wp2_with (first|(first|(first|(with_reducible refine NQ.mk ?_)|((with_reducible apply pl_neu);rfl;rfl)|((with_reducible apply pl_eff);rfl)|(with_reducible refine EQ.mk ?_ ?_)|(with_reducible exact chk_nil)|(with_reducible refine pl_end ?_))|((with_reducible apply wl_ld hs);infer_instance;rfl;(focus with_reducible (repeat first|exact Qh|apply Qk);done);rfl;rfl;(simp only [Uc,Uz]))|((with_reducible apply wl_ldS0 hs);infer_instance;rfl;assumption;(focus with_reducible (repeat first|exact Qh|apply Qk);done);rfl;(exact map_get (by assumption));rfl;rfl;(simp only [Uc,Uz]))|((with_reducible apply wl_stS0 hs);infer_instance;rfl;rfl;assumption;(focus with_reducible (repeat first|exact Qh|apply Qk);done);rfl;(exact map_get (by assumption));(exact Vb rfl);(rfl);rfl;clear hs;intro w hs)|((with_reducible apply wl_ia2 hs);infer_instance;infer_instance;rfl;assumption;rfl;(focus with_reducible (repeat first|exact Qh|apply Qk);done);(rfl);(simp only [Wm,Ws,Wa,Wc,Wn,Wr] at *;omega);rfl;(simp only [Uc,Uz]))|((with_reducible apply wl_ia hs);infer_instance;infer_instance;rfl;rfl;(focus with_reducible (repeat first|exact Qh|apply Qk);done);(rfl);(simp only [Wm,Ws,Wa,Wc,Wn,Wr] at *;omega);rfl;intro b off hat;(simp only [Uc,Uz])))|(go_at_call 189;((refine (hL.out).at hs (by (focus with_reducible (repeat first|exact Qh|apply Qk);done)) ?_);clear hs;intro w hs;(try simp only [emp_mul,mul_assoc'] at hs)))|((with_reducible refine wp_plan_sat (id := 3) [.neu 0,.neu 1,.neu 2,.neu 3,.neu 4,.neu 5,.neu 6,.neu 7,.neu 8,.neu 9,.neu 10,.neu 11,.neu 12,.neu 13,.neu 14,.neu 15,.eff 16 []] hs rfl ?_ ?_);kernel_rfl;clear hs;intro w hs)|((with_reducible refine wp_plan_sat (id := 4) [.neu 0,.neu 1,.neu 2,.neu 3,.neu 4,.neu 5,.neu 6,.neu 7,.neu 8,.eff 9 []] hs rfl ?_ ?_);kernel_rfl;clear hs;intro w hs))
  (go_ret)
  refine ⟨rfl,?_⟩
  simp only [mul_assoc']
  rw [show (h.held.map eI).set n ([Value.int .i64 rc].set 0 (Value.int .i64 (-1))) = (h.held.set n (-1)).map eI by simp] at hs
  replace hs := hazR_mk (h := { h with held := h.held.set n (-1) }) (hs.fin (by (focus with_reducible (repeat first|exact Ql|exact Qh|apply Qb|apply Qk);done)))
  apply unrR_mk (vs := vs) (vf := vf)
  ((with_reducible apply Sat.fin hs);(focus with_reducible (repeat first|exact Ql|exact Qh|apply Qb|apply Qk);done))
end Go.Proofs.YtegafhhdegnigaaGreat
