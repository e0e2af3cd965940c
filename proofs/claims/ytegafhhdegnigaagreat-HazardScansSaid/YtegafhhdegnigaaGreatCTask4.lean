/-
  The calls: Post.
-/
import Derived.Test.YtegafhhdegnigaaGreatCTask3
set_option linter.all false
namespace Go.Proofs.YtegafhhdegnigaaGreat
open Go.RowKit Hp
set_option maxRecDepth 100000
set_option maxHeartbeats 1000000
attribute [local irreducible] Go.Calls
theorem haz_done : Gives Tryz.prog 228 #[] emp (.agg #[.int .i64 1,.int .i64 0]) emp := by
 intro O w F hs
 go_enter Tryz.func228,Tryz.ntmps228
 go_wp2_with (first|((with_reducible apply wl_stF hs);infer_instance;rfl;rfl;(with_reducible exact Qh);rfl;rfl;rfl;rfl;clear hs;intro w hs)|((with_reducible apply wl_alloc hs);infer_instance;rfl;clear hs;intro w b hs;(simp only [Uc,Uz])))
 ((try simp only [Exit.inBlock,Exit.then]);(with_reducible apply bodyPost_ret);((with_reducible apply results_c);rfl;rfl;(with_reducible apply loadF hs);infer_instance;(with_reducible exact Qh);rfl;rfl))
 exact ⟨rfl,by ((with_reducible apply Sat.fin hs);(focus with_reducible (repeat first|exact Ql|exact Qn|apply Qb|apply Qk);done))⟩
structure Pst where
 thread : Int
 value : Int
 stage : Int
 take : Option Tak
 link : Int
 saw : Int
 retire : Option Ret
def takR (ba : Nat) (o : Option Tak) (v : Value) : SProp := match o with
 | none => pu (v = .pointer none)
 | some p => ex fun g => pu (v = .pointer (some ⟨g,0,none⟩)) * TakR g ba p
theorem tak_none {O w : World} {ba : Nat} {R : SProp} (hs : Sat O w R) : Sat O w (takR ba none (.pointer none) * R) := by
 unfold takR
 simp only [sat_pu]
 exact ⟨trivial,hs⟩
theorem tak_get {O w : World} {ba : Nat} {p : Tak} {v : Value} {R : SProp} : Sat O w (takR ba (some p) v * R) ↔ ∃ g,v = .pointer (some ⟨g,0,none⟩) ∧ Sat O w (TakR g ba p * R) := by
 unfold takR
 simp only [sat_ex,mul_assoc',sat_pu]
def rtrR (bh ba : Nat) (o : Option Ret) (v : Value) : SProp := match o with
 | none => pu (v = .pointer none)
 | some p => ex fun g => pu (v = .pointer (some ⟨g,0,none⟩)) * RetR g bh ba p
theorem rtr_none {O w : World} {bh ba : Nat} {R : SProp} (hs : Sat O w R) : Sat O w (rtrR bh ba none (.pointer none) * R) := by
 unfold rtrR
 simp only [sat_pu]
 exact ⟨trivial,hs⟩
theorem rtr_get {O w : World} {bh ba : Nat} {p : Ret} {v : Value} {R : SProp} : Sat O w (rtrR bh ba (some p) v * R) ↔ ∃ g,v = .pointer (some ⟨g,0,none⟩) ∧ Sat O w (RetR g bh ba p * R) := by
 unfold rtrR
 simp only [sat_ex,mul_assoc',sat_pu]
def PstR (g bh ba : Nat) (p : Pst) : SProp := ex fun vt => ex fun vr => pt g (.cells #[.pointer (some ⟨bh,0,none⟩),.int .i64 p.thread,.int .i64 p.value,.int .i64 p.stage,vt,.int .u64 p.link,.int .u64 p.saw,vr] 190) * (takR ba p.take vt * rtrR bh ba p.retire vr)
theorem pstR {O w : World} {g bh ba : Nat} {p : Pst} {R : SProp} : Sat O w (PstR g bh ba p * R) ↔ ∃ vt vr,Sat O w (pt g (.cells #[.pointer (some ⟨bh,0,none⟩),.int .i64 p.thread,.int .i64 p.value,.int .i64 p.stage,vt,.int .u64 p.link,.int .u64 p.saw,vr] 190) * (takR ba p.take vt * (rtrR bh ba p.retire vr * R))) := by
 unfold PstR
 simp only [sat_ex,mul_assoc']
theorem pstR_mk {O w : World} {g bh ba : Nat} {p : Pst} {R : SProp} {vt vr : Value} (hs : Sat O w (pt g (.cells #[.pointer (some ⟨bh,0,none⟩),.int .i64 p.thread,.int .i64 p.value,.int .i64 p.stage,vt,.int .u64 p.link,.int .u64 p.saw,vr] 190) * (takR ba p.take vt * (rtrR bh ba p.retire vr * R)))) : Sat O w (PstR g bh ba p * R) := pstR.2 ⟨_,_,hs⟩
attribute [irreducible] takR rtrR PstR
def tookSlot (t : Tak) : Int := if t.taken = true then t.slot else -1
def postTook (m : Mch) (i t : Nat) (c : Cll) (s : Sea) (p : Pst) (k : Tak) : Bool × Mch × Pst :=
 if tookSlot k < 0 then (true,(m.point i c m.now).answer t s 4 0,p) else (false,m,{ p with link := tookSlot k + 1,stage := 1 })
theorem post_took (gr bh ba d bx bm : Nat) (m : Mch) (i t : Nat) (c : Cll) (s : Sea) (p : Pst) (k : Tak) (hk : p.take = some k) (hb : tookSlot k ≤ 2147483646) (hb0 : -1 ≤ tookSlot k) (hcur : CurIn m i t c s) :
  Gives Tryz.prog 223 #[.pointer (some ⟨gr,0,none⟩),.pointer (some ⟨d,0,none⟩)] (PstR gr bh ba p * DkR d bx bm m) (.bool (postTook m i t c s p k).1)
   (PstR gr bh ba (postTook m i t c s p k).2.2 * DkR d bx bm (postTook m i t c s p k).2.1) := by
 intro O w F hs
 simp only [mul_assoc'] at hs
 obtain ⟨p1,p2,p3,p4,p5,p6,p7⟩ := p
 simp only [] at hk
 subst hk
 obtain ⟨vt,vr,hs⟩ := pstR.1 hs
 simp only [] at hs
 obtain ⟨g,rfl,hs⟩ := tak_get.1 (hs.pull (A := takR ba (some k) vt) (by (focus with_reducible (repeat first|exact Qh|apply Qk);done)))
 have hN := Lib.hid (desk_now d bx bm m)
 have hP := Lib.hid (desk_point d bx bm m i t c m.now hcur.cur hcur.call)
 have hA := Lib.hid (desk_answer d bx bm (m.point i c m.now) i t s 4 0 hcur.cur hcur.seat)
 have hS := take_slot g ba k
 have hL := word_link (tookSlot k) hb0 hb
 unfold postTook
 change Gives _ _ _ _ (.int .i64 (tookSlot k)) _ at hS
 generalize tookSlot k = sl0 at hS hL hb hb0 ⊢
 have HS := Lib.hid hS;clear hS
 have HL := Lib.hid hL;clear hL
 by_cases hu : sl0 < 0
 ·have hd : decide (sl0 < 0) = true := by simpa using hu
  simp only [if_pos hu]
  have HU := Lib.hid hu
  clear hcur hu
  go_enter Tryz.func223,Tryz.ntmps223
  go_wp2_with (first|((with_reducible apply wl_ld hs);infer_instance;rfl;(focus with_reducible (repeat first|exact Qh|apply Qk);done);rfl;rfl;(simp only [Uc,Uz]))|(go_at_call 225;((refine (HS.out).at hs (by (with_reducible exact Qh)) ?_);clear hs;intro w hs;(try simp only [emp_mul,mul_assoc'] at hs)))|(go_at_call 207;((refine (hN.out).at hs (by (focus with_reducible (repeat first|exact Qh|apply Qk);done)) ?_);clear hs;intro w hs;(try simp only [emp_mul,mul_assoc'] at hs)))|(go_at_call 227;((refine (hP.out).at hs (by (with_reducible exact Qh)) ?_);clear hs;intro w hs;(try simp only [emp_mul,mul_assoc'] at hs)))|(go_at_call 211;((refine (hA.out).at hs (by (with_reducible exact Qh)) ?_);clear hs;intro w hs;(try simp only [emp_mul,mul_assoc'] at hs))))
  (go_ret)
  refine ⟨rfl,?_⟩
  simp only [mul_assoc']
  replace hs := tak_get.2 ⟨g,rfl,hs.pull (A := TakR g ba k) (by (focus with_reducible (repeat first|exact Qh|apply Qk);done))⟩
  apply pstR_mk (vt := .pointer (some ⟨g,0,none⟩)) (vr := vr)
  ((with_reducible apply Sat.fin hs);(focus with_reducible (repeat first|exact Ql|exact Qh|apply Qb|apply Qk);done))
 ·have hd : decide (sl0 < 0) = false := by simpa using hu
  simp only [if_neg hu]
  have HU := Lib.hid hu
  clear hcur hu
  go_enter Tryz.func223,Tryz.ntmps223
  go_wp2_with (first|(first|((with_reducible apply wl_ld hs);infer_instance;rfl;(focus with_reducible (repeat first|exact Qh|apply Qk);done);rfl;rfl;(simp only [Uc,Uz]))|((with_reducible apply wl_st hs);infer_instance;rfl;rfl;(focus with_reducible (repeat first|exact Qh|apply Qk);done);(rfl);(exact Vb rfl);rfl;clear hs;intro w hs;simp only [List.setIfInBounds_toArray,Uc,Uz] at hs))|(go_at_call 225;((refine (HS.out).at hs (by (with_reducible exact Qh)) ?_);clear hs;intro w hs;(try simp only [emp_mul,mul_assoc'] at hs)))|(go_at_call 205;((refine (HL.out).at hs (by (focus ((repeat (with_reducible exact Qn));done))) ?_);clear hs;intro w hs;(try simp only [emp_mul,mul_assoc'] at hs))))
  (go_ret)
  refine ⟨rfl,?_⟩
  simp only [mul_assoc']
  replace hs := tak_get.2 ⟨g,rfl,hs.pull (A := TakR g ba k) (by (focus with_reducible (repeat first|exact Qh|apply Qk);done))⟩
  apply pstR_mk (vt := .pointer (some ⟨g,0,none⟩)) (vr := vr)
  ((with_reducible apply Sat.fin hs);(focus with_reducible (repeat first|exact Ql|exact Qh|apply Qb|apply Qk);done))
def postReady (a : Are) (m : Mch) (i t : Nat) (c : Cll) (s : Sea) (p : Pst) : Bool × Are × Mch × Pst :=
 let r := takeReady a m ⟨p.thread,1,0,0,0,false⟩
 let p1 := { p with take := some r.2.2.2 }
 if r.1 = true then
  let q := postTook r.2.2.1 i t c s p1 r.2.2.2
  (q.1,r.2.1,q.2.1,q.2.2)
 else (false,r.2.1,r.2.2.1,p1)
theorem post_ready (gr bh ba d bx bm : Nat) (h : Haz) (a : Are) (m : Mch) (i t : Nat) (c : Cll) (s : Sea) (p : Pst) (n : Nat) (x : List Int) (hn : p.thread = (n : Int)) (hx : a.caches[n]? = some x) (hins : ∀ s ∈ x,0 ≤ s ∧ s < a.slots.length) (hsl : 0 < a.slots.length) (hl : m.shifts.length < 4294967296) (hxl : x.length < 4294967296)
  (hcur : CurIn (takeReady a m ⟨p.thread,1,0,0,0,false⟩).2.2.1 i t c s) (hb : tookSlot (takeReady a m ⟨p.thread,1,0,0,0,false⟩).2.2.2 ≤ 2147483646) (hb0 : -1 ≤ tookSlot (takeReady a m ⟨p.thread,1,0,0,0,false⟩).2.2.2) :
  Gives Tryz.prog 219 #[.pointer (some ⟨gr,0,none⟩),.pointer (some ⟨d,0,none⟩)] (PstR gr bh ba p * (HazR bh ba h * (AreR ba a * DkR d bx bm m))) (.bool (postReady a m i t c s p).1)
   (PstR gr bh ba (postReady a m i t c s p).2.2.2 * (HazR bh ba h * (AreR ba (postReady a m i t c s p).2.1 * DkR d bx bm (postReady a m i t c s p).2.2.1))) := by
 intro O w F hs
 simp only [mul_assoc'] at hs
 obtain ⟨p1,p2,p3,p4,p5,p6,p7⟩ := p
 simp only [] at hn hcur hb hb0
 subst hn
 have hT := Lib.hid (arena_take ba a (n : Int) hsl)
 have hR := fun g => take_ready g ba d bx bm a m ⟨n,1,0,0,0,false⟩ n x rfl hx rfl hins hl hxl
 unfold postReady
 simp only []
 clear hx hins hl hxl hsl
 generalize takeReady a m ⟨n,1,0,0,0,false⟩ = q at hR hcur hb hb0 ⊢
 obtain ⟨q1,q2,q3,q4⟩ := q
 simp only [] at hR hcur hb hb0 ⊢
 have hK := post_took gr bh ba d bx bm q3 i t c s ⟨n,p2,p3,some q4,p5,p6,p7⟩ q4 rfl hb hb0 hcur
 generalize postTook q3 i t c s ⟨n,p2,p3,some q4,p5,p6,p7⟩ q4 = qq at hK ⊢
 obtain ⟨k1,k2,k3⟩ := qq
 have HR := Lib.hid hR;have HK := Lib.hid hK;clear hR hK hcur hb hb0
 obtain ⟨vt,vr,hs⟩ := pstR.1 hs
 simp only [] at hs
 replace hs := hs.pull (A := HazR bh ba h) (by (focus with_reducible (repeat first|exact Qh|apply Qk);done))
 (obtain ⟨vhh,vhl,hs⟩ := hazR.1 hs)
 cases q1 with
 | true =>
  simp only [if_true]
  go_enter Tryz.func219,Tryz.ntmps219
  go_wp2_with (first|(first|(first|(with_reducible refine NQ.mk ?_)|((with_reducible apply pl_neu);rfl;rfl)|((with_reducible apply pl_eff);rfl)|(with_reducible refine EQ.mk ?_ ?_)|(first|(with_reducible exact chk_nil)|((with_reducible refine chk_cons ?_ ?_);(focus ((with_reducible apply pl_chk);rfl;rfl))))|(with_reducible refine pl_end ?_)|(show SameA _ _ _;rfl))|((with_reducible apply wl_ld hs);infer_instance;rfl;(focus with_reducible (repeat first|exact Qh|apply Qk);done);rfl;rfl;(simp only [Uc,Uz]))|((with_reducible apply wl_st hs);infer_instance;rfl;rfl;(focus with_reducible (repeat first|exact Qh|apply Qk);done);(rfl);(exact Vb rfl);rfl;clear hs;intro w hs;simp only [List.setIfInBounds_toArray,Uc,Uz] at hs))|(go_at_call 221;((refine (hT.out).at hs (by (focus with_reducible (repeat first|exact Qh|apply Qk);done)) ?_);clear hs;intro g w hs;(try simp only [emp_mul,mul_assoc'] at hs)))|(go_at_call 222;((refine ((HR.out g)).at hs (by (focus with_reducible (repeat first|exact Qh|apply Qb|apply Qk);done)) ?_);clear hs;intro w hs;(try simp only [emp_mul,mul_assoc'] at hs)))|(go_at_call 223;(replace hs := tak_get.2 ⟨g,rfl,hs.pull (A := TakR g ba q4) (by (with_reducible exact Qh))⟩);(replace hs := pstR_mk (p := ⟨n,p2,p3,some q4,p5,p6,p7⟩) (hs.fin (by (focus with_reducible (repeat first|exact Ql|exact Qh|apply Qb|apply Qk);done))));((refine (HK.out).at hs (by (focus with_reducible (repeat first|exact Qh|apply Qb|apply Qk);done)) ?_);clear hs;intro w hs;(try simp only [emp_mul,mul_assoc'] at hs)))|((with_reducible refine wp_plan_sat (id := 1) [.neu 0,.neu 1,.neu 2,.neu 3,.neu 4,.neu 5,.neu 6,.neu 7,.neu 8,.neu 9,.neu 10,.neu 11,.eff 12 [0],.neu 13,.neu 14,.eff 15 []] hs rfl ?_ ?_);kernel_rfl;clear hs;intro w hs))
  (go_ret)
  refine ⟨by simp,?_⟩
  simp only [mul_assoc']
  (replace hs := hazR_mk (hs.fin (by (focus with_reducible (repeat first|exact Ql|exact Qh|apply Qb|apply Qk);done))))
  ((with_reducible apply Sat.fin hs);(focus with_reducible (repeat first|exact Ql|exact Qh|apply Qb|apply Qk);done))
 | false =>
  simp only [Bool.false_eq_true,if_false]
  go_enter Tryz.func219,Tryz.ntmps219
  go_wp2_with (first|(first|(first|(with_reducible refine NQ.mk ?_)|((with_reducible apply pl_neu);rfl;rfl)|((with_reducible apply pl_eff);rfl)|(with_reducible refine EQ.mk ?_ ?_)|(first|(with_reducible exact chk_nil)|((with_reducible refine chk_cons ?_ ?_);(focus ((with_reducible apply pl_chk);rfl;rfl))))|(with_reducible refine pl_end ?_)|(show SameA _ _ _;rfl))|((with_reducible apply wl_ld hs);infer_instance;rfl;(focus with_reducible (repeat first|exact Qh|apply Qk);done);rfl;rfl;(simp only [Uc,Uz]))|((with_reducible apply wl_st hs);infer_instance;rfl;rfl;(focus with_reducible (repeat first|exact Qh|apply Qk);done);(rfl);(exact Vb rfl);rfl;clear hs;intro w hs;simp only [List.setIfInBounds_toArray,Uc,Uz] at hs))|(go_at_call 221;((refine (hT.out).at hs (by (focus with_reducible (repeat first|exact Qh|apply Qk);done)) ?_);clear hs;intro g w hs;(try simp only [emp_mul,mul_assoc'] at hs)))|(go_at_call 222;((refine ((HR.out g)).at hs (by (focus with_reducible (repeat first|exact Qh|apply Qb|apply Qk);done)) ?_);clear hs;intro w hs;(try simp only [emp_mul,mul_assoc'] at hs)))|((with_reducible refine wp_plan_sat (id := 1) [.neu 0,.neu 1,.neu 2,.neu 3,.neu 4,.neu 5,.neu 6,.neu 7,.neu 8,.neu 9,.neu 10,.neu 11,.eff 12 [0],.neu 13,.neu 14,.eff 15 []] hs rfl ?_ ?_);kernel_rfl;clear hs;intro w hs))
  (go_ret)
  refine ⟨by simp,?_⟩
  simp only [mul_assoc']
  (replace hs := hazR_mk (hs.fin (by (focus with_reducible (repeat first|exact Ql|exact Qh|apply Qb|apply Qk);done))))
  replace hs := tak_get.2 ⟨g,rfl,hs.pull (A := TakR g ba q4) (by (focus with_reducible (repeat first|exact Qh|apply Qk);done))⟩
  apply pstR_mk (vt := .pointer (some ⟨g,0,none⟩)) (vr := vr)
  ((with_reducible apply Sat.fin hs);(focus with_reducible (repeat first|exact Ql|exact Qh|apply Qb|apply Qk);done))
end Go.Proofs.YtegafhhdegnigaaGreat
