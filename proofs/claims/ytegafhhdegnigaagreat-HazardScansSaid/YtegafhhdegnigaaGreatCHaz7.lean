/-
  A scan: the look at the hazards; giving.
-/
import Derived.Test.YtegafhhdegnigaaGreatCHaz6
set_option linter.all false
namespace Go.Proofs.YtegafhhdegnigaaGreat
open Go.RowKit Hp
set_option maxRecDepth 100000
set_option maxHeartbeats 1000000
attribute [local irreducible] Go.Calls
def addName (c : Int → Int) (k : Int) : Int → Int := fun x => if x = k then c k + 1 else c x
theorem named_add {f : Int → Option Value} {c : Int → Int} (h : ∀ k,(f k).getD (.int .i64 0) = .int .i64 (c k)) (z : Int) : ∀ k,((fun x => if x = z then some (.int .i64 (c z + 1)) else f x) k).getD (.int .i64 0) = .int .i64 (addName c z k) := by
 intro k
 unfold addName
 by_cases hk : k = z
 ·simp [hk]
 ·simp [hk,h k]
def scanLook1 (h : Haz) (m : Mch) (s : Scn) : Mch × Scn :=
 let A := (base h.c 9 + s.at_).toNat
 (m.load A (m.word A),{ s with named := addName s.named (m.word A - 1),at_ := s.at_ + 1 })
def scanLook (h : Haz) (a : Are) (m : Mch) (s : Scn) : Bool × Haz × Are × Mch × Scn :=
 let m1 := (scanLook1 h m s).1
 let s1 := (scanLook1 h m s).2
 if s1.at_ < h.c.R * h.c.Hz then (false,h,a,m1,s1)
 else
  let h2 := (scanSplit h s1).1
  let s2 := (scanSplit h s1).2
  let f := freeLoop s2.thread s2.pending s2.give a m1
  (f.1,h2,f.2.2.2.1,f.2.2.2.2,{ s2 with stage := freeStage f.1,pending := f.2.1,give := f.2.2.1 })
structure LookOk (h : Haz) (a : Are) (m : Mch) (s : Scn) (n t : Nat) (x : List Int) : Prop where
 stage : s.stage = 3
 rec_ : s.record = (n : Int)
 thr : s.thread = (t : Int)
 at_list : h.lists[n]? = some x
 ok : AOk a m
 c : h.c = a.c
 a0 : 0 ≤ s.at_
 a1 : s.at_ < h.c.R * h.c.Hz
 map : s.hasMap = true
 pend : s.pending = []
 len : x.length < 1000000
 ins : ∀ z ∈ x,0 ≤ z ∧ z < a.slots.length
 cache : ∃ y,a.caches[t]? = some y ∧ y.length < 1000000
 sh : m.shifts.length < 1000000000
 w0 : 0 ≤ m.word (base h.c 9 + s.at_).toNat
 w1 : m.word (base h.c 9 + s.at_).toNat ≤ 2147483647
 n0 : ∀ k,0 ≤ s.named k ∧ s.named k ≤ 1000
theorem base9 {c : Cfg} (h : c.Ok) {i : Int} (h0 : 0 ≤ i) (h1 : i < c.R * c.Hz) : (base c 9 + i).toNat < (base c 14).toNat ∧ base c 9 + i = ((base c 9 + i).toNat : Int) := by
 have e := base_succ c 9 (by omega)
 have := base_mono h 10 4 (by omega)
 rw [show (10 + 4) = 14 by omega] at this
 have hb := (base_le h 9).1
 have h1' : i < many c 9 := h1
 clear h1
 rw [show (9 + 1) = 10 by omega] at e
 constructor <;> omega
set_option maxHeartbeats 4000000 in
theorem scan_look (gs bh ba d bx bm : Nat) (h : Haz) (a : Are) (m : Mch) (s : Scn) (n t : Nat) (x : List Int) (ok : LookOk h a m s n t x) :
  Gives Tryz.prog 185 #[.pointer (some ⟨gs,0,none⟩),.pointer (some ⟨d,0,none⟩)] (ScnR gs bh ba s * (HazR bh ba h * (AreR ba a * DkR d bx bm m))) (.bool (scanLook h a m s).1)
   (ScnR gs bh ba (scanLook h a m s).2.2.2.2 * (HazR bh ba (scanLook h a m s).2.1 * (AreR ba (scanLook h a m s).2.2.1 * DkR d bx bm (scanLook h a m s).2.2.2.1))) := by
 intro O w F hs
 simp only [mul_assoc'] at hs
 obtain ⟨s1,s2,s3,s4,s5,s6,s7,s8⟩ := s
 obtain ⟨e1,e2,e3,hx,aok,hc,a0,a1,e4,e5,hlen,hins,⟨y,hy,hyl⟩,hsh,w0,w1,hnm⟩ := ok
 simp only [] at e1 e2 e3 a0 a1 e4 e5 w0 w1 hnm
 subst e1 e2 e3 e4 e5
 have hOk : h.c.Ok := hc ▸ aok.c
 obtain ⟨hlt9,he⟩ := base9 hOk a0 a1
 unfold scanLook scanLook1
 simp only []
 generalize (base h.c 9 + s4).toNat = ad at *
 have hm : m.May ad := ⟨aok.used,by rw [aok.words,← hc];exact hlt9,aok.log,aok.ahead⟩
 have hL := Lib.hid (desk_load d bx bm m _ _ hm.acs)
 obtain ⟨b0,b1⟩ := base_le hOk 9
 obtain ⟨rh0,rh1⟩ := hOk.rh
 have hw : wrap64 (h.c.R * h.c.Hz) = h.c.R * h.c.Hz := by unfold wrap64;omega
 have n1 : decide ((n : Int) < 0) = false := by simp
 obtain ⟨u,hu⟩ : ∃ u,u = m.word ad := ⟨_,rfl⟩
 obtain ⟨m1,hm1⟩ : ∃ m1,m1 = m.load ad u := ⟨_,rfl⟩
 rw [← hu] at hL w0 w1 ⊢
 rw [← hm1] at hL ⊢
 have hU := Lib.hid (word_unlink0 u w0 w1)
 obtain ⟨c0,c1⟩ := hnm (u - 1)
 have hS := scan_split gs bh ba h ⟨t,n,3,s4 + 1,true,addName s6 (u - 1),[],s8⟩ n x rfl hx rfl (by show (0 : Nat) + x.length < _;omega)
 have hFr : FreeOk t ([] ++ x.filter (notNamed (addName s6 (u - 1)))) a m1 := by
  have hfl := List.length_filter_le (notNamed (addName s6 (u - 1))) x
  refine ⟨⟨y,hy,by simp;omega⟩,fun z hz => hins z (List.mem_filter.1 (by simpa using hz)).1,?_⟩
  rw [hm1]
  show m.shifts.length + _ < _
  simp;omega
 have hxd : h.lists.getD n [] = x := by simp [List.getD_eq_getElem?_getD,hx]
 have hF := scan_free gs bh ba d bx bm (scanSplit h ⟨t,n,3,s4 + 1,true,addName s6 (u - 1),[],s8⟩).1 a m1 (scanSplit h ⟨t,n,3,s4 + 1,true,addName s6 (u - 1),[],s8⟩).2 t rfl (by
  show FreeOk t ([] ++ (h.lists.getD (n : Int).toNat []).filter _) a m1
  rw [Int.toNat_natCast,hxd];exact hFr)
 clear hFr hxd hsh hlen hins hy hyl hm1 hu hnm hm hlt9 hx
 generalize scanSplit h ⟨t,n,3,s4 + 1,true,addName s6 (u - 1),[],s8⟩ = r at hS hF ⊢
 obtain ⟨h2,sc2⟩ := r
 simp only [] at hS hF ⊢
 generalize freeLoop sc2.thread sc2.pending sc2.give a m1 = fr at hF ⊢
 obtain ⟨f1,f2,f3,f4,f5⟩ := fr
 simp only [] at hF ⊢
 have HS := Lib.hid hS;have HF := Lib.hid hF;clear hS hF
 obtain ⟨vn,vp,vg,hs⟩ := scnR.1 hs
 simp only [] at hs
 obtain ⟨f,hf,hs⟩ := named_get.1 (hs.pull (A := namedR true s6 vn) (by (focus with_reducible (repeat first|exact Qh|apply Qk);done)))
 obtain ⟨r0,rfl⟩ := mp_some hs
 have hfz := hf (u - 1)
 obtain ⟨f9,hf9,HFN⟩ : ∃ f9 : Int → Option Value,Hid ((fun x => if x = u - 1 then some (.int .i64 (s6 (u - 1) + 1)) else f x) = f9) ∧ Hid (∀ k,(f9 k).getD (.int .i64 0) = .int .i64 (addName s6 (u - 1) k)) := ⟨_,Lib.hid rfl,Lib.hid (named_add hf (u - 1))⟩
 clear hf
 replace hs := hs.pull (A := HazR bh ba h) (by (focus with_reducible (repeat first|exact Qh|apply Qk);done))
 (obtain ⟨vhh,vhl,hs⟩ := hazR.1 hs)
 have hc' := Lib.hid hc;clear hc aok
 generalize addName s6 (u - 1) = nm9 at *
 generalize s6 (u - 1) = c9 at *
 by_cases hlt : s4 + 1 < h.c.R * h.c.Hz
 ·have hd : decide (s4 + 1 < h.c.R * h.c.Hz) = true := by simpa using hlt
  have HLT := Lib.hid hlt;clear hlt
  simp only [if_pos HLT.out]
  go_enter Tryz.func185,Tryz.ntmps185
  go_wp2_with (first|(first|(first|(with_reducible refine NQ.mk ?_)|((with_reducible apply pl_neu);rfl;rfl)|((with_reducible apply pl_eff);rfl)|(with_reducible refine EQ.mk ?_ ?_)|(with_reducible exact chk_nil)|(with_reducible refine pl_end ?_))|((with_reducible apply wl_ld hs);infer_instance;rfl;(focus with_reducible (repeat first|exact Qh|apply Qk);done);rfl;rfl;(simp only [Uc,Uz]))|((with_reducible apply wl_st hs);infer_instance;rfl;rfl;(focus with_reducible (repeat first|exact Qh|apply Qk);done);(rfl);(exact Vb rfl);rfl;clear hs;intro w hs;simp only [List.setIfInBounds_toArray,Uc,Uz] at hs))|(first|((with_reducible apply wl_lk hs);infer_instance;rfl;rfl;(focus with_reducible (repeat first|exact Qh|apply Qk);done);(assumption);rfl;(simp only [Uc,Uz]))|((with_reducible apply wl_mu hs);infer_instance;rfl;rfl;rfl;(focus with_reducible (repeat first|exact Qh|apply Qk);done);rfl;clear hs;intro w hs))|(go_at_call 187;((refine (hL.out).at hs (by (focus with_reducible (repeat first|exact Qh|apply Qk);done)) ?_);clear hs;intro w hs;(try simp only [emp_mul,mul_assoc'] at hs)))|(go_at_call 190;((refine (hU.out).at hs (by (focus ((repeat (with_reducible exact Qn));done))) ?_);clear hs;intro w hs;(try simp only [emp_mul,mul_assoc'] at hs)))|((with_reducible refine wp_plan_sat (id := 21) [.neu 0,.neu 1,.neu 2,.neu 3,.neu 4,.neu 5,.neu 6,.neu 7,.neu 8,.neu 9,.eff 10 [],.eff 11 [],.neu 12,.neu 13,.neu 14,.neu 15,.neu 16,.neu 17,.neu 18] hs rfl ?_ ?_);kernel_rfl;clear hs;intro w hs)|((with_reducible refine wp_plan_sat (id := 24) [.neu 0,.neu 1,.neu 2,.neu 3,.neu 4,.neu 5,.neu 6,.neu 7,.neu 8,.neu 9,.neu 10,.neu 11,.neu 12,.neu 13,.neu 14,.neu 15] hs rfl ?_ ?_);kernel_rfl;clear hs;intro w hs))
  (go_ret)
  refine ⟨rfl,?_⟩
  simp only [mul_assoc']
  rw [hf9.out] at hs
  (replace hs := named_get.2 ⟨f9,HFN.out,hs.pull (A := mp .i64 f9 (.map (some r0))) (by (focus with_reducible (repeat first|exact Qh|apply Qk);done))⟩)
  (replace hs := hazR_mk (hs.fin (by (focus with_reducible (repeat first|exact Ql|exact Qh|apply Qb|apply Qk);done))))
  apply scnR_mk (vn := .map (some r0)) (vp := vp) (vg := vg)
  ((with_reducible apply Sat.fin hs);(focus with_reducible (repeat first|exact Ql|exact Qh|apply Qb|apply Qk);done))
 ·have hd : decide (s4 + 1 < h.c.R * h.c.Hz) = false := by simpa using hlt
  have HLT := Lib.hid hlt;clear hlt
  simp only [if_neg HLT.out]
  go_enter Tryz.func185,Tryz.ntmps185
  go_wp2_with (first|(first|(first|(with_reducible refine NQ.mk ?_)|((with_reducible apply pl_neu);rfl;rfl)|((with_reducible apply pl_eff);rfl)|(with_reducible refine EQ.mk ?_ ?_)|(with_reducible exact chk_nil)|(with_reducible refine pl_end ?_))|((with_reducible apply wl_ld hs);infer_instance;rfl;(focus with_reducible (repeat first|exact Qh|apply Qk);done);rfl;rfl;(simp only [Uc,Uz]))|((with_reducible apply wl_st hs);infer_instance;rfl;rfl;(focus with_reducible (repeat first|exact Qh|apply Qk);done);(rfl);(exact Vb rfl);rfl;clear hs;intro w hs;simp only [List.setIfInBounds_toArray,Uc,Uz] at hs))|(first|((with_reducible apply wl_lk hs);infer_instance;rfl;rfl;(focus with_reducible (repeat first|exact Qh|apply Qk);done);(assumption);rfl;(simp only [Uc,Uz]))|((with_reducible apply wl_mu hs);infer_instance;rfl;rfl;rfl;(focus with_reducible (repeat first|exact Qh|apply Qk);done);rfl;clear hs;intro w hs))|(go_at_call 187;((refine (hL.out).at hs (by (focus with_reducible (repeat first|exact Qh|apply Qk);done)) ?_);clear hs;intro w hs;(try simp only [emp_mul,mul_assoc'] at hs)))|(go_at_call 190;((refine (hU.out).at hs (by (focus ((repeat (with_reducible exact Qn));done))) ?_);clear hs;intro w hs;(try simp only [emp_mul,mul_assoc'] at hs)))|(go_at_call 186;rw [hf9.out] at hs;(replace hs := named_get.2 ⟨f9,HFN.out,hs.pull (A := mp .i64 f9 (.map (some r0))) (by (focus with_reducible (repeat first|exact Qh|apply Qk);done))⟩);(replace hs := hazR_mk (hs.fin (by (focus with_reducible (repeat first|exact Ql|exact Qh|apply Qb|apply Qk);done))));(replace hs := scnR_mk (s := ⟨t,n,3,s4 + 1,true,nm9,[],s8⟩) (hs.fin (by (focus with_reducible (repeat first|exact Ql|exact Qh|apply Qb|apply Qk);done))));((refine (HS.out).at hs (by (focus with_reducible (repeat first|exact Qh|apply Qb);done)) ?_);clear hs;intro w hs;(try simp only [emp_mul,mul_assoc'] at hs)))|(go_at_call 191;((refine (HF.out).at hs (by (focus with_reducible (repeat first|exact Qh|apply Qb|apply Qk);done)) ?_);clear hs;intro w hs;(try simp only [emp_mul,mul_assoc'] at hs)))|((with_reducible refine wp_plan_sat (id := 21) [.neu 0,.neu 1,.neu 2,.neu 3,.neu 4,.neu 5,.neu 6,.neu 7,.neu 8,.neu 9,.eff 10 [],.eff 11 [],.neu 12,.neu 13,.neu 14,.neu 15,.neu 16,.neu 17,.neu 18] hs rfl ?_ ?_);kernel_rfl;clear hs;intro w hs)|((with_reducible refine wp_plan_sat (id := 24) [.neu 0,.neu 1,.neu 2,.neu 3,.neu 4,.neu 5,.neu 6,.neu 7,.neu 8,.neu 9,.neu 10,.neu 11,.neu 12,.neu 13,.neu 14,.neu 15] hs rfl ?_ ?_);kernel_rfl;clear hs;intro w hs))
  (go_ret)
  refine ⟨rfl,?_⟩
  simp only [mul_assoc']
  ((with_reducible apply Sat.fin hs);(with_reducible exact Ql))
def scanGive (h : Haz) (a : Are) (m : Mch) (s : Scn) (p : Psh) : Bool × Are × Mch × Scn :=
 let q := pushStep a m p
 if q.1 = true then
  let f := freeLoop s.thread s.pending (some q.2.2.2) q.2.1 q.2.2.1
  (f.1,f.2.2.2.1,f.2.2.2.2,{ s with stage := freeStage f.1,pending := f.2.1,give := f.2.2.1 })
 else (false,q.2.1,q.2.2.1,{ s with give := some q.2.2.2 })
theorem scan_give (gs bh ba d bx bm : Nat) (h : Haz) (a : Are) (m : Mch) (s : Scn) (p : Psh) (n t : Nat) (hst : s.stage = 5) (hn : s.record = (n : Int)) (ht : s.thread = (t : Int)) (hg : s.give = some p) (hp : PushOk a m p) (hf : FreeOk t s.pending (pushStep a m p).2.1 (pushStep a m p).2.2.1) :
  Gives Tryz.prog 185 #[.pointer (some ⟨gs,0,none⟩),.pointer (some ⟨d,0,none⟩)] (ScnR gs bh ba s * (HazR bh ba h * (AreR ba a * DkR d bx bm m))) (.bool (scanGive h a m s p).1)
   (ScnR gs bh ba (scanGive h a m s p).2.2.2 * (HazR bh ba h * (AreR ba (scanGive h a m s p).2.1 * DkR d bx bm (scanGive h a m s p).2.2.1))) := by
 intro O w F hs
 simp only [mul_assoc'] at hs
 obtain ⟨s1,s2,s3,s4,s5,s6,s7,s8⟩ := s
 simp only [] at hst hn ht hg hf
 subst hst hn ht hg
 have hP := fun g => give_step g ba d bx bm a m p hp
 have hFr := scan_free gs bh ba d bx bm h (pushStep a m p).2.1 (pushStep a m p).2.2.1 ⟨t,n,5,s4,s5,s6,s7,some (pushStep a m p).2.2.2⟩ t rfl hf
 unfold scanGive
 simp only []
 clear hp hf
 generalize pushStep a m p = q at hP hFr ⊢
 obtain ⟨q1,q2,q3,q4⟩ := q
 simp only [] at hP hFr ⊢
 generalize freeLoop (t : Int) s7 (some q4) q2 q3 = fr at hFr ⊢
 obtain ⟨f1,f2,f3,f4,f5⟩ := fr
 simp only [] at hFr ⊢
 have HP := Lib.hid hP;have HF := Lib.hid hFr;clear hP hFr
 obtain ⟨vn,vp,vg,hs⟩ := scnR.1 hs
 simp only [] at hs
 obtain ⟨g,rfl,hs⟩ := give_get.1 (hs.pull (A := giveR ba (some p) vg) (by (focus with_reducible (repeat first|exact Qh|apply Qk);done)))
 have n1 : decide ((n : Int) < 0) = false := by simp
 replace hs := hs.pull (A := HazR bh ba h) (by (focus with_reducible (repeat first|exact Qh|apply Qk);done))
 (obtain ⟨vhh,vhl,hs⟩ := hazR.1 hs)
 cases q1 with
 | true =>
  simp only [if_true]
  go_enter Tryz.func185,Tryz.ntmps185
  go_wp2_with (first|((with_reducible apply wl_ld hs);infer_instance;rfl;(focus with_reducible (repeat first|exact Qh|apply Qk);done);rfl;rfl;(simp only [Uc,Uz]))|(go_at_call 192;((refine ((HP.out g)).at hs (by (focus with_reducible (repeat first|exact Qh|apply Qb|apply Qk);done)) ?_);clear hs;intro w hs;(try simp only [emp_mul,mul_assoc'] at hs)))|(go_at_call 191;(replace hs := hazR_mk (hs.fin (by (focus with_reducible (repeat first|exact Ql|exact Qh|apply Qb|apply Qk);done))));(replace hs := give_get.2 ⟨g,rfl,hs.pull (A := PshR g ba 309 q4) (by (focus with_reducible (repeat first|exact Qh|apply Qk);done))⟩);(replace hs := scnR_mk (s := ⟨t,n,5,s4,s5,s6,s7,some q4⟩) (hs.fin (by (focus with_reducible (repeat first|exact Ql|exact Qh|apply Qb|apply Qk);done))));((refine (HF.out).at hs (by (focus with_reducible (repeat first|exact Qh|apply Qb);done)) ?_);clear hs;intro w hs;(try simp only [emp_mul,mul_assoc'] at hs))))
  (go_ret)
  refine ⟨rfl,?_⟩
  simp only [mul_assoc']
  ((with_reducible apply Sat.fin hs);(with_reducible exact Ql))
 | false =>
  simp only [Bool.false_eq_true,if_false]
  go_enter Tryz.func185,Tryz.ntmps185
  go_wp2_with (first|((with_reducible apply wl_ld hs);infer_instance;rfl;(focus with_reducible (repeat first|exact Qh|apply Qk);done);rfl;rfl;(simp only [Uc,Uz]))|(go_at_call 192;((refine ((HP.out g)).at hs (by (focus with_reducible (repeat first|exact Qh|apply Qb|apply Qk);done)) ?_);clear hs;intro w hs;(try simp only [emp_mul,mul_assoc'] at hs))))
  (go_ret)
  refine ⟨rfl,?_⟩
  simp only [mul_assoc']
  (replace hs := hazR_mk (hs.fin (by (focus with_reducible (repeat first|exact Ql|exact Qh|apply Qb|apply Qk);done))))
  replace hs := give_get.2 ⟨g,rfl,hs.pull (A := PshR g ba 309 q4) (by (focus with_reducible (repeat first|exact Qh|apply Qk);done))⟩
  apply scnR_mk (vn := vn) (vp := vp) (vg := .pointer (some ⟨g,0,none⟩))
  ((with_reducible apply Sat.fin hs);(focus with_reducible (repeat first|exact Ql|exact Qh|apply Qb|apply Qk);done))
end Go.Proofs.YtegafhhdegnigaaGreat
