/-
  A scan: its beginning, and its steps at the records' flags.
-/
import Derived.Test.YtegafhhdegnigaaGreatCHaz4
set_option linter.all false
section
namespace Go.Proofs.YtegafhhdegnigaaGreat
open Go.RowKit Hp
set_option maxRecDepth 100000
set_option maxHeartbeats 1000000
attribute [local irreducible] Go.Calls
def scanReady (h : Haz) (s : Scn) : Bool × Scn := scanNext h { s with at_ := -1 }
theorem scan_ready (gs bh ba : Nat) (dv : Value) (h : Haz) (s : Scn) (n : Nat) (x : List Int) (hn : s.record = (n : Int)) (hx : h.lists[n]? = some x) (hR : h.c.R ≤ 16) :
  Gives Tryz.prog 46 #[.pointer (some ⟨gs,0,none⟩),dv] (ScnR gs bh ba s * HazR bh ba h) (.bool (scanReady h s).1) (ScnR gs bh ba (scanReady h s).2 * HazR bh ba h) := by
 intro O w F hs
 simp only [mul_assoc'] at hs
 obtain ⟨s1,s2,s3,s4,s5,s6,s7,s8⟩ := s
 simp only [] at hn
 subst hn
 have hN := scan_next gs bh ba h ⟨s1,n,s3,-1,s5,s6,s7,s8⟩ n x rfl hx ⟨by simp,by simp⟩ hR
 unfold scanReady
 simp only []
 generalize scanNext h ⟨s1,n,s3,-1,s5,s6,s7,s8⟩ = r at hN ⊢
 obtain ⟨r1,r2⟩ := r
 have HN := Lib.hid hN;clear hN
 obtain ⟨vn,vp,vg,hs⟩ := scnR.1 hs
 simp only [] at hs
 have n1 : decide ((n : Int) < 0) = false := by simp
 go_enter Tryz.func46,Tryz.ntmps46
 go_wp2_with (first|(first|((with_reducible apply wl_ld hs);infer_instance;rfl;(with_reducible exact Qh);rfl;rfl;(simp only [Uc,Uz]))|((with_reducible apply wl_st hs);infer_instance;rfl;rfl;(with_reducible exact Qh);(rfl);(exact Vb rfl);rfl;clear hs;intro w hs;simp only [List.setIfInBounds_toArray,Uc,Uz] at hs))|(go_at_call 107;(replace hs := scnR_mk (s := ⟨s1,n,s3,-1,s5,s6,s7,s8⟩) (hs.fin (by (with_reducible exact Ql))));((refine (HN.out).at hs (by (focus with_reducible (repeat first|exact Qh|apply Qb);done)) ?_);clear hs;intro w hs;(try simp only [emp_mul,mul_assoc'] at hs))))
 (go_ret)
 refine ⟨rfl,?_⟩
 simp only [mul_assoc']
 ((with_reducible apply Sat.fin hs);(with_reducible exact Ql))
theorem in_active {c : Cfg} {i : Int} (h0 : 0 ≤ i) (h1 : i < c.R) : InReg c 8 i := ⟨h0,by omega,h1⟩
theorem adr_eq {c : Cfg} (h : c.Ok) (r : Nat) {i : Int} (h0 : 0 ≤ i) : base c r + i = (adr c r i : Int) := by
 have := (base_le h r).1
 unfold adr;omega
def scanTry (h : Haz) (m : Mch) (s : Scn) : Bool × Mch × Scn :=
 let A := adr h.c 8 s.at_
 if m.word A = 1 then ((scanNext h s).1,m.load A (m.word A),(scanNext h s).2) else (false,m.load A (m.word A),{ s with stage := 1 })
theorem scan_try (gs bh ba d bx bm : Nat) (h : Haz) (m : Mch) (a : Are) (s : Scn) (n : Nat) (x : List Int) (hst : s.stage = 0) (hn : s.record = (n : Int)) (hx : h.lists[n]? = some x) (ok : AOk a m) (hc : h.c = a.c) (a0 : 0 ≤ s.at_) (a1 : s.at_ < h.c.R) :
  Gives Tryz.prog 185 #[.pointer (some ⟨gs,0,none⟩),.pointer (some ⟨d,0,none⟩)] (ScnR gs bh ba s * (HazR bh ba h * DkR d bx bm m)) (.bool (scanTry h m s).1) (ScnR gs bh ba (scanTry h m s).2.2 * (HazR bh ba h * DkR d bx bm (scanTry h m s).2.1)) := by
 intro O w F hs
 simp only [mul_assoc'] at hs
 obtain ⟨s1,s2,s3,s4,s5,s6,s7,s8⟩ := s
 simp only [] at hn hst a0 a1
 subst hn hst
 have hOk : h.c.Ok := hc ▸ ok.c
 have hR := hOk.R2
 have hN := scan_next gs bh ba h ⟨s1,n,0,s4,s5,s6,s7,s8⟩ n x rfl hx ⟨by simp;omega,by simp;omega⟩ hR
 have hm : m.May (adr h.c 8 s4) := by rw [hc];exact ok.may (by omega) (by omega) (in_active a0 (hc ▸ a1))
 have hL := Lib.hid (desk_load d bx bm m _ _ hm.acs)
 have he := adr_eq hOk 8 a0
 obtain ⟨b0,b1⟩ := base_le hOk 8
 unfold scanTry
 simp only []
 generalize scanNext h ⟨s1,n,0,s4,s5,s6,s7,s8⟩ = r at hN ⊢
 obtain ⟨r1,r2⟩ := r
 have HN := Lib.hid hN;clear hN
 obtain ⟨vn,vp,vg,hs⟩ := scnR.1 hs
 simp only [] at hs
 have n1 : decide ((n : Int) < 0) = false := by simp
 replace hs := hs.pull (A := HazR bh ba h) (by (focus with_reducible (repeat first|exact Qh|apply Qk);done))
 (obtain ⟨vhh,vhl,hs⟩ := hazR.1 hs)
 clear hm hc ok hx
 generalize m.word (adr h.c 8 s4) = u at hL ⊢
 by_cases hu : u = 1
 ·subst hu
  simp only [if_true]
  go_enter Tryz.func185,Tryz.ntmps185
  go_wp2_with (first|(first|(first|(with_reducible refine NQ.mk ?_)|((with_reducible apply pl_neu);rfl;rfl)|((with_reducible apply pl_eff);rfl)|(with_reducible refine EQ.mk ?_ ?_)|(with_reducible exact chk_nil)|(with_reducible refine pl_end ?_))|((with_reducible apply wl_ld hs);infer_instance;rfl;(focus with_reducible (repeat first|exact Qh|apply Qk);done);rfl;rfl;(simp only [Uc,Uz])))|(go_at_call 187;((refine (hL.out).at hs (by (focus with_reducible (repeat first|exact Qh|apply Qk);done)) ?_);clear hs;intro w hs;(try simp only [emp_mul,mul_assoc'] at hs)))|(go_at_call 107;(replace hs := hazR_mk (hs.fin (by (focus with_reducible (repeat first|exact Ql|exact Qh|apply Qb|apply Qk);done))));(replace hs := scnR_mk (s := ⟨s1,n,0,s4,s5,s6,s7,s8⟩) (hs.fin (by (focus with_reducible (repeat first|exact Ql|exact Qh|apply Qb|apply Qk);done))));((refine (HN.out).at hs (by (focus with_reducible (repeat first|exact Qh|apply Qb);done)) ?_);clear hs;intro w hs;(try simp only [emp_mul,mul_assoc'] at hs)))|((with_reducible refine wp_plan_sat (id := 11) [.neu 0,.neu 1,.neu 2,.neu 3,.neu 4,.neu 5,.neu 6,.neu 7,.neu 8,.neu 9,.eff 10 [],.neu 11] hs rfl ?_ ?_);kernel_rfl;clear hs;intro w hs))
  (go_ret)
  refine ⟨rfl,?_⟩
  simp only [mul_assoc']
  ((with_reducible apply Sat.fin hs);(with_reducible exact Ql))
 ·have hu' : (u == 1) = false := by simpa using hu
  have HU := Lib.hid hu;clear hu
  simp only [if_neg HU.out]
  go_enter Tryz.func185,Tryz.ntmps185
  go_wp2_with (first|(first|(first|(with_reducible refine NQ.mk ?_)|((with_reducible apply pl_neu);rfl;rfl)|((with_reducible apply pl_eff);rfl)|(with_reducible refine EQ.mk ?_ ?_)|(with_reducible exact chk_nil)|(with_reducible refine pl_end ?_))|((with_reducible apply wl_ld hs);infer_instance;rfl;(focus with_reducible (repeat first|exact Qh|apply Qk);done);rfl;rfl;(simp only [Uc,Uz]))|((with_reducible apply wl_st hs);infer_instance;rfl;rfl;(focus with_reducible (repeat first|exact Qh|apply Qk);done);(rfl);(exact Vb rfl);rfl;clear hs;intro w hs;simp only [List.setIfInBounds_toArray,Uc,Uz] at hs))|(go_at_call 187;((refine (hL.out).at hs (by (focus with_reducible (repeat first|exact Qh|apply Qk);done)) ?_);clear hs;intro w hs;(try simp only [emp_mul,mul_assoc'] at hs)))|((with_reducible refine wp_plan_sat (id := 11) [.neu 0,.neu 1,.neu 2,.neu 3,.neu 4,.neu 5,.neu 6,.neu 7,.neu 8,.neu 9,.eff 10 [],.neu 11] hs rfl ?_ ?_);kernel_rfl;clear hs;intro w hs))
  (go_ret)
  refine ⟨rfl,?_⟩
  simp only [mul_assoc']
  (replace hs := hazR_mk (hs.fin (by (focus with_reducible (repeat first|exact Ql|exact Qh|apply Qb|apply Qk);done))))
  apply scnR_mk (vn := vn) (vp := vp) (vg := vg)
  ((with_reducible apply Sat.fin hs);(focus with_reducible (repeat first|exact Ql|exact Qh|apply Qb|apply Qk);done))
def scanLeave (h : Haz) (m : Mch) (s : Scn) : Bool × Mch × Scn :=
 ((scanNext h s).1,m.store (adr h.c 8 s.at_) (m.word (adr h.c 8 s.at_)) 0,(scanNext h s).2)
theorem scan_leave (gs bh ba d bx bm : Nat) (h : Haz) (m : Mch) (a : Are) (s : Scn) (n : Nat) (x : List Int) (hst : s.stage = 2) (hn : s.record = (n : Int)) (hx : h.lists[n]? = some x) (ok : AOk a m) (hc : h.c = a.c) (a0 : 0 ≤ s.at_) (a1 : s.at_ < h.c.R) :
  Gives Tryz.prog 185 #[.pointer (some ⟨gs,0,none⟩),.pointer (some ⟨d,0,none⟩)] (ScnR gs bh ba s * (HazR bh ba h * DkR d bx bm m)) (.bool (scanLeave h m s).1) (ScnR gs bh ba (scanLeave h m s).2.2 * (HazR bh ba h * DkR d bx bm (scanLeave h m s).2.1)) := by
 intro O w F hs
 simp only [mul_assoc'] at hs
 obtain ⟨s1,s2,s3,s4,s5,s6,s7,s8⟩ := s
 simp only [] at hn hst a0 a1
 subst hn hst
 have hOk : h.c.Ok := hc ▸ ok.c
 have hR := hOk.R2
 have hN := scan_next gs bh ba h ⟨s1,n,2,s4,s5,s6,s7,s8⟩ n x rfl hx ⟨by simp;omega,by simp;omega⟩ hR
 have hm : m.May (adr h.c 8 s4) := by rw [hc];exact ok.may (by omega) (by omega) (in_active a0 (hc ▸ a1))
 have hL := Lib.hid (desk_store d bx bm m _ _ 0 hm.acs)
 have he := adr_eq hOk 8 a0
 obtain ⟨b0,b1⟩ := base_le hOk 8
 unfold scanLeave
 simp only []
 generalize scanNext h ⟨s1,n,2,s4,s5,s6,s7,s8⟩ = r at hN ⊢
 obtain ⟨r1,r2⟩ := r
 have HN := Lib.hid hN;clear hN
 obtain ⟨vn,vp,vg,hs⟩ := scnR.1 hs
 simp only [] at hs
 have n1 : decide ((n : Int) < 0) = false := by simp
 replace hs := hs.pull (A := HazR bh ba h) (by (focus with_reducible (repeat first|exact Qh|apply Qk);done))
 (obtain ⟨vhh,vhl,hs⟩ := hazR.1 hs)
 clear hm hc ok hx
 generalize m.word (adr h.c 8 s4) = u at hL ⊢
 go_enter Tryz.func185,Tryz.ntmps185
 go_wp2_with (first|(first|(first|(with_reducible refine NQ.mk ?_)|((with_reducible apply pl_neu);rfl;rfl)|((with_reducible apply pl_eff);rfl)|(with_reducible refine EQ.mk ?_ ?_)|(with_reducible exact chk_nil)|(with_reducible refine pl_end ?_))|((with_reducible apply wl_ld hs);infer_instance;rfl;(focus with_reducible (repeat first|exact Qh|apply Qk);done);rfl;rfl;(simp only [Uc,Uz])))|(go_at_call 189;((refine (hL.out).at hs (by (focus with_reducible (repeat first|exact Qh|apply Qk);done)) ?_);clear hs;intro w hs;(try simp only [emp_mul,mul_assoc'] at hs)))|(go_at_call 107;(replace hs := hazR_mk (hs.fin (by (focus with_reducible (repeat first|exact Ql|exact Qh|apply Qb|apply Qk);done))));(replace hs := scnR_mk (s := ⟨s1,n,2,s4,s5,s6,s7,s8⟩) (hs.fin (by (focus with_reducible (repeat first|exact Ql|exact Qh|apply Qb|apply Qk);done))));((refine (HN.out).at hs (by (focus with_reducible (repeat first|exact Qh|apply Qb);done)) ?_);clear hs;intro w hs;(try simp only [emp_mul,mul_assoc'] at hs)))|((with_reducible refine wp_plan_sat (id := 19) [.neu 0,.neu 1,.neu 2,.neu 3,.neu 4,.neu 5,.neu 6,.neu 7,.neu 8,.neu 9,.eff 10 []] hs rfl ?_ ?_);kernel_rfl;clear hs;intro w hs))
 (go_ret)
 refine ⟨rfl,?_⟩
 simp only [mul_assoc']
 ((with_reducible apply Sat.fin hs);(with_reducible exact Ql))
end Go.Proofs.YtegafhhdegnigaaGreat
end
/-
  A scan: another record's list is taken over.
-/
section
namespace Go.Proofs.YtegafhhdegnigaaGreat
open Go.RowKit Hp
set_option maxRecDepth 100000
set_option maxHeartbeats 1000000
attribute [local irreducible] Go.Calls
theorem stars_two {E : TypeId} : ∀ {xss : List (List Int)} {vs : List Value} {i j : Nat} {x y : List Int} {u v : Value},i ≠ j → xss[i]? = some x → xss[j]? = some y → vs[i]? = some u → vs[j]? = some v →
  ∃ R,stars E xss vs = sl E 1 (x.map fun z => [.int .i64 z]) u * (sl E 1 (y.map fun z => [.int .i64 z]) v * R) ∧
   ∀ x' y' u' v',stars E ((xss.set i x').set j y') ((vs.set i u').set j v') = sl E 1 (x'.map fun z => [.int .i64 z]) u' * (sl E 1 (y'.map fun z => [.int .i64 z]) v' * R)
 | [],_,_,_,_,_,_,_,_,h,_,_,_ => by simp at h
 | _ :: _,[],_,_,_,_,_,_,_,_,_,h,_ => by simp at h
 | a :: xss,b :: vs,0,0,_,_,_,_,h,_,_,_,_ => absurd rfl h
 | a :: xss,b :: vs,0,j + 1,x,y,u,v,_,h1,h2,h3,h4 => by
  simp only [Uf,Option.some.injEq,Ue] at h1 h2 h3 h4
  subst h1 h3
  refine ⟨stars E (xss.eraseIdx j) (vs.eraseIdx j),?_,?_⟩
  ·simp only [stars];rw [stars_at h2 h4]
  ·intro x' y' u' v'
   have l1 := (List.getElem?_eq_some_iff.1 h2).1
   have l2 := (List.getElem?_eq_some_iff.1 h4).1
   simp only [Uz,Uc,stars]
   rw [stars_at (xss := xss.set j y') (vs := vs.set j v') (i := j) (x := y') (v := v') (by simp [l1]) (by simp [l2]),List.eraseIdx_set_eq,List.eraseIdx_set_eq]
 | a :: xss,b :: vs,i + 1,0,x,y,u,v,_,h1,h2,h3,h4 => by
  simp only [Uf,Option.some.injEq,Ue] at h1 h2 h3 h4
  subst h2 h4
  refine ⟨stars E (xss.eraseIdx i) (vs.eraseIdx i),?_,?_⟩
  ·simp only [stars];rw [stars_at h1 h3,mul_left]
  ·intro x' y' u' v'
   have l1 := (List.getElem?_eq_some_iff.1 h1).1
   have l2 := (List.getElem?_eq_some_iff.1 h3).1
   simp only [Uz,Uc,stars]
   rw [stars_at (xss := xss.set i x') (vs := vs.set i u') (i := i) (x := x') (v := u') (by simp [l1]) (by simp [l2]),List.eraseIdx_set_eq,List.eraseIdx_set_eq,mul_left]
 | a :: xss,b :: vs,i + 1,j + 1,x,y,u,v,h,h1,h2,h3,h4 => by
  simp only [Ue] at h1 h2 h3 h4
  obtain ⟨R,e1,e2⟩ := stars_two (E := E) (by omega : i ≠ j) h1 h2 h3 h4
  refine ⟨sl E 1 (a.map fun z => [.int .i64 z]) b * R,?_,?_⟩
  ·simp only [stars];rw [e1];ac_rfl
  ·intro x' y' u' v'
   simp only [Uc,stars];rw [e2];ac_rfl
theorem hazT2 {O w : World} {b ba : Nat} {h : Haz} {R : SProp} {i j : Nat} {x y : List Int} (hs : Sat O w (HazR b ba h * R)) (hij : i ≠ j) (hi : h.lists[i]? = some x) (hj : h.lists[j]? = some y) : ∃ (vh vl : Value) (us : List Value) (u v : Value) (R2 : SProp),us.length = h.lists.length ∧ us[i]? = some u ∧ us[j]? = some v ∧
  Sat O w (pt b (.cells #[.pointer (some ⟨ba,0,none⟩),.int .i64 h.c.T,.int .i64 h.c.R,.int .i64 h.c.Hz,.int .i64 h.c.Rt,.int .i64 h.c.Ca,.int .i64 h.c.Sl,.int .i64 h.c.Bu,vh,vl,.int .i64 (base h.c 8),.int .i64 (base h.c 9),.int .i64 (base h.c 2),.int .i64 (base h.c 11)] 93) * (sl 3 1 (h.held.map eI) vh *
   (sl 44 1 (us.map fun u => [u]) vl * (sl 3 1 (x.map eI) u * (sl 3 1 (y.map eI) v * (R2 * R)))))) ∧
  ∀ (O' w' : World) (R' : SProp) (x' y' : List Int) (xc yc : List (List Value)) (u' v' : Value),Sat O' w' (pt b (.cells #[.pointer (some ⟨ba,0,none⟩),.int .i64 h.c.T,.int .i64 h.c.R,.int .i64 h.c.Hz,.int .i64 h.c.Rt,.int .i64 h.c.Ca,.int .i64 h.c.Sl,.int .i64 h.c.Bu,vh,vl,.int .i64 (base h.c 8),.int .i64 (base h.c 9),.int .i64 (base h.c 2),.int .i64 (base h.c 11)] 93) * (sl 3 1 (h.held.map eI) vh *
   (sl 44 1 (((us.map fun u => [u]).set i [u']).set j [v']) vl * (sl 3 1 xc u' * (sl 3 1 yc v' * (R2 * R')))))) → xc = x'.map eI → yc = y'.map eI → Sat O' w' (HazR b ba { h with lists := (h.lists.set i x').set j y' } * R') := by
 obtain ⟨vh,vl,hs⟩ := hazR.1 hs
 obtain ⟨us,hl,hs⟩ := nest_iff.1 (hs.pull (A := nest 44 3 h.lists vl) (by (focus with_reducible (repeat first|exact Qh|apply Qk);done)))
 have li := (List.getElem?_eq_some_iff.1 hi).1
 have lj := (List.getElem?_eq_some_iff.1 hj).1
 obtain ⟨R2,e1,e2⟩ := stars_two (E := 3) (vs := us) hij hi hj (show us[i]? = some us[i] by simp) (show us[j]? = some us[j] by simp)
 refine ⟨vh,vl,us,us[i],us[j],R2,hl,by simp,by simp,?_,?_⟩
 ·rw [e1] at hs
  simp only [mul_assoc'] at hs
  ((with_reducible apply Sat.fin hs);(focus with_reducible (repeat first|exact Ql|exact Qh|apply Qb|apply Qk);done))
 ·intro O' w' R' x' y' xc yc u' v' hs hx hy
  subst hx hy
  apply hazR_mk
  have e3 : ((us.map fun u => [u]).set i [u']).set j [v'] = ((us.set i u').set j v').map fun u => [u] := by simp
  rw [e3] at hs
  have : Sat O' w' (nest 44 3 ((h.lists.set i x').set j y') vl * (pt b (.cells #[.pointer (some ⟨ba,0,none⟩),.int .i64 h.c.T,.int .i64 h.c.R,.int .i64 h.c.Hz,.int .i64 h.c.Rt,.int .i64 h.c.Ca,.int .i64 h.c.Sl,.int .i64 h.c.Bu,vh,vl,.int .i64 (base h.c 8),.int .i64 (base h.c 9),.int .i64 (base h.c 2),.int .i64 (base h.c 11)] 93) * (sl 3 1 (h.held.map eI) vh * R'))) := by
   refine nest_iff.2 ⟨(us.set i u').set j v',by simp [hl],?_⟩
   rw [e2]
   simp only [mul_assoc']
   ((with_reducible apply Sat.fin hs);(focus with_reducible (repeat first|exact Ql|exact Qh|apply Qb|apply Qk);done))
  have hs := this
  ((with_reducible apply Sat.fin hs);(focus with_reducible (repeat first|exact Ql|exact Qh|apply Qb|apply Qk);done))
def scanTake (h : Haz) (m : Mch) (s : Scn) : Bool × Haz × Mch × Scn :=
 let A := adr h.c 8 s.at_
 if m.word A = 0 then (false,{ h with lists := (h.lists.set s.record.toNat (h.lists.getD s.record.toNat [] ++ h.lists.getD s.at_.toNat [])).set s.at_.toNat [] },m.swap A (m.word A) 0 1,{ s with stage := 2 })
 else ((scanNext h s).1,h,m.swap A (m.word A) 0 1,(scanNext h s).2)
theorem scan_take (gs bh ba d bx bm : Nat) (hz : Haz) (m : Mch) (a : Are) (s : Scn) (n k : Nat) (x y : List Int) (hst : s.stage = 1) (hn : s.record = (n : Int)) (hk : s.at_ = (k : Int)) (hnk : n ≠ k) (hx : hz.lists[n]? = some x) (hy : hz.lists[k]? = some y) (ok : AOk a m) (hc : hz.c = a.c) (a1 : s.at_ < hz.c.R) (hl : x.length + y.length < 4294967296) :
  Gives Tryz.prog 185 #[.pointer (some ⟨gs,0,none⟩),.pointer (some ⟨d,0,none⟩)] (ScnR gs bh ba s * (HazR bh ba hz * DkR d bx bm m)) (.bool (scanTake hz m s).1) (ScnR gs bh ba (scanTake hz m s).2.2.2 * (HazR bh ba (scanTake hz m s).2.1 * DkR d bx bm (scanTake hz m s).2.2.1)) := by
 intro O w F hs
 simp only [mul_assoc'] at hs
 obtain ⟨s1,s2,s3,s4,s5,s6,s7,s8⟩ := s
 simp only [] at hn hst hk a1
 subst hn hst hk
 have hOk : hz.c.Ok := hc ▸ ok.c
 have hR := hOk.R2
 have a0 : (0 : Int) ≤ (k : Int) := by omega
 have hN := scan_next gs bh ba hz ⟨s1,n,1,k,s5,s6,s7,s8⟩ n x rfl hx ⟨by show (-1 : Int) ≤ k;omega,by show (k : Int) ≤ 16;omega⟩ hR
 have hm : m.May (adr hz.c 8 k) := by rw [hc];exact ok.may (by omega) (by omega) (in_active a0 (hc ▸ a1))
 have hL := desk_swap d bx bm m _ _ 0 1 hm.acs
 have he := adr_eq hOk 8 a0
 obtain ⟨b0,b1⟩ := base_le hOk 8
 have hxd : hz.lists.getD n [] = x := by simp [List.getD_eq_getElem?_getD,hx]
 have hyd : hz.lists.getD k [] = y := by simp [List.getD_eq_getElem?_getD,hy]
 unfold scanTake
 simp only [Int.toNat_natCast,hxd,hyd]
 generalize scanNext hz ⟨s1,n,1,k,s5,s6,s7,s8⟩ = r at hN ⊢
 obtain ⟨r1,r2⟩ := r
 have HN := Lib.hid hN;clear hN
 obtain ⟨vn,vp,vg,hs⟩ := scnR.1 hs
 simp only [] at hs
 have n1 : decide ((n : Int) < 0) = false := by simp
 replace hs := hs.pull (A := HazR bh ba hz) (by (focus with_reducible (repeat first|exact Qh|apply Qk);done))
 have lx := (List.getElem?_eq_some_iff.1 hx).1
 have ly := (List.getElem?_eq_some_iff.1 hy).1
 clear hm hc ok hxd hyd
 by_cases hu : m.word (adr hz.c 8 k) = 0
 ·have hu' : decide (m.word (adr hz.c 8 k) = 0) = true := by simpa using hu
  rw [hu'] at hL
  have HL := Lib.hid hL;clear hL hu'
  simp only [if_pos hu]
  have HU := Lib.hid hu;clear hu
  obtain ⟨vh,vl,us,uu,uv,R2,e1,e2,e3,hs,hback⟩ := hazT2 hs hnk hx hy
  have HB := Lib.hid hback;clear hback
  have l1 : n < us.length := by omega
  have l2 : k < us.length := by omega
  have hnk2 : (n == k) = false := by simpa using hnk
  have E4 : Hid (∀ z,((us.map fun u => [u]).set n z)[k]? = some [uv]) := Lib.hid (fun z => by rw [List.getElem?_set_ne hnk];simp [e3])
  clear hx hy
  have HNK := Lib.hid hnk;clear hnk hnk2
  have hs2 := sl_nil (E := 3) (sz := 1) hs (by omega)
  clear hs;have hs := hs2;clear hs2
  go_enter Tryz.func185,Tryz.ntmps185
  go_wp2_with (first|(first|(first|(with_reducible refine NQ.mk ?_)|((with_reducible apply pl_neu);rfl;rfl)|((with_reducible apply pl_eff);rfl)|(with_reducible refine EQ.mk ?_ ?_)|(first|(with_reducible exact chk_nil)|((with_reducible refine chk_cons ?_ ?_);(focus ((with_reducible apply pl_chk);rfl;rfl))))|(with_reducible refine pl_end ?_)|(show SameA _ _ _;rfl))|((with_reducible apply wl_ld hs);infer_instance;rfl;(focus with_reducible (repeat first|exact Qh|apply Qk);done);rfl;rfl;(simp only [Uc,Uz]))|((with_reducible apply wl_st hs);infer_instance;rfl;rfl;(focus with_reducible (repeat first|exact Qh|apply Qk);done);(rfl);(exact Vb rfl);rfl;clear hs;intro w hs;simp only [List.setIfInBounds_toArray,Uc,Uz] at hs)|((with_reducible apply wl_ldS0 hs);infer_instance;rfl;assumption;(focus with_reducible (repeat first|exact Qh|apply Qk);done);rfl;(exact map_get (by assumption));rfl;rfl;(simp only [Uc,Uz]))|((with_reducible apply wl_stS0 hs);infer_instance;rfl;rfl;assumption;(focus with_reducible (repeat first|exact Qh|apply Qk);done);rfl;(exact map_get (by assumption));(exact Vb rfl);(apply sl_one;apply hs.pull;(with_reducible exact Qh));rfl;clear hs;intro w hs)|((with_reducible apply wl_ia2 hs);infer_instance;infer_instance;rfl;assumption;rfl;(focus with_reducible (repeat first|exact Qh|apply Qk);done);(rfl);(simp only [Wm,Ws,Wa,Wc,Wn,Wr] at *;omega);rfl;(simp only [Uc,Uz]))|((with_reducible apply wl_ia hs);infer_instance;infer_instance;rfl;rfl;(focus with_reducible (repeat first|exact Qh|apply Qk);done);(rfl);(simp only [Wm,Ws,Wa,Wc,Wn,Wr] at *;omega);rfl;intro b off hat;(simp only [Uc,Uz]))|((with_reducible apply wl_app hs);infer_instance;infer_instance;rfl;rfl;(focus with_reducible (repeat first|exact Qh|apply Qk);done);(focus with_reducible (repeat first|exact Qh|apply Qk);done);(simp only [Wm,Ws,Wa,Wc,Wn,Wr] at *;omega);(exact Vb rfl);rfl;clear hs;intro w v hs;(simp only [Uc,Uz])))|((with_reducible apply wl_stS0 hs);infer_instance;rfl;rfl;assumption;(with_reducible exact Qh);rfl;exact E4.out _;(exact Vb rfl);(rfl);rfl;clear hs;intro w hs)|(go_at_call 188;((refine (HL.out).at hs (by (focus with_reducible (repeat first|exact Qh|apply Qk);done)) ?_);clear hs;intro w hs;(try simp only [emp_mul,mul_assoc'] at hs)))|((with_reducible refine wp_plan_sat (id := 14) [.neu 0,.neu 1,.neu 2,.neu 3,.neu 4,.neu 5,.neu 6,.neu 7,.neu 8,.neu 9,.eff 10 [],.neu 11] hs rfl ?_ ?_);kernel_rfl;clear hs;intro w hs)|((with_reducible refine wp_plan_sat (id := 16) [.neu 0,.neu 1,.neu 2,.neu 3,.neu 4,.neu 5,.neu 6,.neu 7,.neu 8,.neu 9,.neu 10,.neu 11,.neu 12,.neu 13,.neu 14,.neu 15,.neu 16,.neu 17,.neu 18,.neu 19,.neu 20,.neu 21,.neu 22,.neu 23,.neu 24,.neu 25,.neu 26,.neu 27,.eff 28 [0,1,2,3,4,5,6,7],.neu 29,.eff 30 []] hs rfl ?_ ?_);kernel_rfl;clear hs;intro w hs)|((with_reducible refine wp_plan_sat (id := 17) [.neu 0,.neu 1,.neu 2,.neu 3,.neu 4,.neu 5,.neu 6,.neu 7,.neu 8,.eff 9 []] hs rfl ?_ ?_);kernel_rfl;clear hs;intro w hs))
  (go_ret)
  refine ⟨rfl,?_⟩
  simp only [mul_assoc']
  replace hs := HB.out _ _ _ (x ++ y) [] _ _ _ _ (hs.fin (by (focus ((repeat (first|with_reducible exact Ql|with_reducible exact Qh|with_reducible apply Qb|exact Qh|with_reducible apply Qk));done)))) (by simp) rfl
  apply scnR_mk (vn := vn) (vp := vp) (vg := vg)
  ((with_reducible apply Sat.fin hs);(focus with_reducible (repeat first|exact Ql|exact Qh|apply Qb|apply Qk);done))
 ·have hu' : decide (m.word (adr hz.c 8 k) = 0) = false := by simpa using hu
  rw [hu'] at hL
  have HL := Lib.hid hL;clear hL hu'
  simp only [if_neg hu]
  clear hu hx hy
  (obtain ⟨vhh,vhl,hs⟩ := hazR.1 hs)
  go_enter Tryz.func185,Tryz.ntmps185
  go_wp2_with (first|(first|(first|(with_reducible refine NQ.mk ?_)|((with_reducible apply pl_neu);rfl;rfl)|((with_reducible apply pl_eff);rfl)|(with_reducible refine EQ.mk ?_ ?_)|(with_reducible exact chk_nil)|(with_reducible refine pl_end ?_))|((with_reducible apply wl_ld hs);infer_instance;rfl;(focus with_reducible (repeat first|exact Qh|apply Qk);done);rfl;rfl;(simp only [Uc,Uz])))|(go_at_call 188;((refine (HL.out).at hs (by (focus with_reducible (repeat first|exact Qh|apply Qk);done)) ?_);clear hs;intro w hs;(try simp only [emp_mul,mul_assoc'] at hs)))|(go_at_call 107;(replace hs := hazR_mk (hs.fin (by (focus with_reducible (repeat first|exact Ql|exact Qh|apply Qb|apply Qk);done))));(replace hs := scnR_mk (s := ⟨s1,n,1,k,s5,s6,s7,s8⟩) (hs.fin (by (focus with_reducible (repeat first|exact Ql|exact Qh|apply Qb|apply Qk);done))));((refine (HN.out).at hs (by (focus with_reducible (repeat first|exact Qh|apply Qb);done)) ?_);clear hs;intro w hs;(try simp only [emp_mul,mul_assoc'] at hs)))|((with_reducible refine wp_plan_sat (id := 14) [.neu 0,.neu 1,.neu 2,.neu 3,.neu 4,.neu 5,.neu 6,.neu 7,.neu 8,.neu 9,.eff 10 [],.neu 11] hs rfl ?_ ?_);kernel_rfl;clear hs;intro w hs))
  (go_ret)
  refine ⟨rfl,?_⟩
  simp only [mul_assoc']
  ((with_reducible apply Sat.fin hs);(with_reducible exact Ql))
end Go.Proofs.YtegafhhdegnigaaGreat
end
