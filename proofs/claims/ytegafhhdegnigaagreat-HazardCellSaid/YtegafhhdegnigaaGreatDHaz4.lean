/-
  A scan: giving back what no hazard names.
-/
import Derived.Test.YtegafhhdegnigaaGreatDHaz2
import Derived.Deep.LoopGhost
set_option linter.all false
section
namespace Go.Proofs.YtegafhhdegnigaaGreat
open Go.RowKit Hp
set_option maxRecDepth 100000
set_option maxHeartbeats 1000000
attribute [local irreducible] Go.Calls
def freeLoop (th : Int) : List Int → Option Psh → Are → Mch → Bool × List Int × Option Psh × Are × Mch
 | [],g,a,m => (true,[],g,a,m)
 | s :: r,_,a,m =>
  if (giveReady a m ⟨s,1,0,th⟩).1 = true then freeLoop th r (some (giveReady a m ⟨s,1,0,th⟩).2.2.2) (giveReady a m ⟨s,1,0,th⟩).2.1 (giveReady a m ⟨s,1,0,th⟩).2.2.1
  else (false,r,some (giveReady a m ⟨s,1,0,th⟩).2.2.2,(giveReady a m ⟨s,1,0,th⟩).2.1,(giveReady a m ⟨s,1,0,th⟩).2.2.1)
def freeStage (b : Bool) : Int := if b = true then 6 else 5
structure FreeOk (n : Nat) (pend : List Int) (a : Are) (m : Mch) : Prop where
 cache : ∃ x,a.caches[n]? = some x ∧ x.length + pend.length < 4294967296
 ins : ∀ s ∈ pend,0 ≤ s ∧ s < a.slots.length
 sh : m.shifts.length + pend.length < 4294967296
theorem FreeOk.next {n : Nat} {s : Int} {r : List Int} {a : Are} {m : Mch} (h : FreeOk n (s :: r) a m) (hg : (giveReady a m ⟨s,1,0,n⟩).1 = true) :
  FreeOk n r (giveReady a m ⟨s,1,0,n⟩).2.1 (giveReady a m ⟨s,1,0,n⟩).2.2.1 := by
 obtain ⟨⟨x,hx,hl⟩,h2,h3⟩ := h
 have hlt := (List.getElem?_eq_some_iff.1 hx).1
 simp only [List.length_cons] at hl h3
 unfold giveReady at hg ⊢
 by_cases hc : a.c.Ca ≤ ((a.caches.getD (n : Int).toNat []).length : Int)
 ·rw [if_pos hc] at hg;cases hg
 ·rw [if_neg hc]
  have hxd : a.caches.getD n [] = x := by simp [List.getD_eq_getElem?_getD,hx]
  refine ⟨⟨x ++ [s],?_,?_⟩,?_,?_⟩
  ·simp only [Are.shift,Int.toNat_natCast,hxd]
   simp [hlt]
  ·simp;omega
  ·intro z hz
   simp only [Are.shift,List.length_set]
   exact h2 z (by simp [hz])
  ·simp only [Mch.shift,List.length_append,List.length_cons,List.length_nil];omega
def FreeRel (O : World) (gs bh ba d bx bm : Nat) (h : Haz) (F : SProp) (s : Scn) (n : Nat) (r : Bool × List Int × Option Psh × Are × Mch) (k : Nat) (wr : World) : Prop :=
 ∃ (pend : List Int) (gv : Option Psh) (a : Are) (m : Mch),k = pend.length ∧ freeLoop n pend gv a m = r ∧ FreeOk n pend a m ∧
  Sat O wr (ScnR gs bh ba { s with stage := 5,pending := pend,give := gv } * (HazR bh ba h * (AreR ba a * (DkR d bx bm m * F))))
theorem scan_free (gs bh ba d bx bm : Nat) (h : Haz) (a : Are) (m : Mch) (s : Scn) (n : Nat) (hn : s.thread = (n : Int)) (hok : FreeOk n s.pending a m) :
  Gives Tryz.prog 191 #[.pointer (some ⟨gs,0,none⟩),.pointer (some ⟨d,0,none⟩)] (ScnR gs bh ba s * (HazR bh ba h * (AreR ba a * DkR d bx bm m)))
   (.bool (freeLoop s.thread s.pending s.give a m).1)
   (ScnR gs bh ba { s with stage := freeStage (freeLoop s.thread s.pending s.give a m).1,pending := (freeLoop s.thread s.pending s.give a m).2.1,give := (freeLoop s.thread s.pending s.give a m).2.2.1 } *
    (HazR bh ba h * (AreR ba (freeLoop s.thread s.pending s.give a m).2.2.2.1 * DkR d bx bm (freeLoop s.thread s.pending s.give a m).2.2.2.2))) := by
 intro O w F hs
 simp only [mul_assoc'] at hs
 obtain ⟨s1,s2,s3,s4,s5,s6,s7,s8⟩ := s
 simp only [] at hn hok
 subst hn
 obtain ⟨vn,vp,vg,hs⟩ := scnR.1 hs
 simp only [] at hs ⊢
 have HOK := Lib.hid hok;clear hok
 generalize hr : freeLoop n s7 s8 a m = r
 have HR := Lib.hid hr;clear hr
 go_enter Tryz.func191,Tryz.ntmps191
 go_wp2_with ((with_reducible apply wl_st hs);infer_instance;rfl;rfl;(with_reducible exact Qh);(rfl);(exact Vb rfl);rfl;clear hs;intro w hs;simp only [List.setIfInBounds_toArray,Uc,Uz] at hs)
 have hst : FreeRel O gs bh ba d bx bm h F ⟨n,s2,s3,s4,s5,s6,s7,s8⟩ n r s7.length w := ⟨s7,s8,a,m,rfl,HR.out,HOK.out,scnR_mk hs⟩
 go_loopg [] (s7.length) (fun k wr => FreeRel O gs bh ba d bx bm h F ⟨n,s2,s3,s4,s5,s6,s7,s8⟩ n r k wr)
 case atStart => exact hst
 case round =>
  clear hs hst HOK HR
  obtain ⟨pend,gv,a',m',hk,hfr,hok,hs⟩ := hrel
  obtain ⟨vn',vp',vg',hs⟩ := scnR.1 hs
  simp only [] at hs
  cases pend with
  | nil =>
   clear hk hok
   simp only [freeLoop] at hfr
   go_wp2_with (first|((with_reducible apply wl_ld hs);infer_instance;rfl;(with_reducible exact Qh);rfl;rfl;(simp only [Uc,Uz]))|((with_reducible apply wl_st hs);infer_instance;rfl;rfl;(with_reducible exact Qh);(rfl);(exact Vb rfl);rfl;clear hs;intro w hs;simp only [List.setIfInBounds_toArray,Uc,Uz] at hs)|((with_reducible apply wl_len hs);infer_instance;rfl;(focus with_reducible (repeat first|exact Qh|apply Qk);done);rfl;(simp only [Uc,Uz])))
   (go_ret)
   subst hfr
   refine ⟨rfl,?_⟩
   simp only [mul_assoc',freeStage,if_true]
   apply scnR_mk (vn := vn') (vp := vp') (vg := vg')
   ((with_reducible apply Sat.fin hs);(with_reducible exact Ql))
  | cons s pr =>
   have hok2 := hok.next (s := s) (r := pr)
   obtain ⟨⟨x,hx,hxl⟩,hins,hsh⟩ := hok
   obtain ⟨z0,z1⟩ := hins s (by simp)
   obtain ⟨i,rfl⟩ := Int.eq_ofNat_of_zero_le z0
   have hi : i < a'.slots.length := by omega
   simp only [List.length_cons] at hxl hsh hk
   have hlp : ((i : Int) :: pr).length = pr.length + 1 := rfl
   have n1 : decide (((pr.length + 1 : Nat) : Int) > 0) = true := by simp
   have hG := Lib.hid (arena_give ba a' n i x hx hi)
   have hR := fun gg => give_ready gg ba d bx bm 309 a' m' ⟨i,1,0,n⟩ n i x rfl rfl hx hi rfl (by omega) (by omega)
   simp only [freeLoop] at hfr
   have hget : ((i : Int) :: pr)[0]? = some (i : Int) := rfl
   clear hins z0 z1 hi hxl hsh hx
   have hok' := fun (hh : (giveReady a' m' ⟨(i : Int),1,0,n⟩).1 = true) => hok2 hh
   clear hok2
   generalize giveReady a' m' ⟨(i : Int),1,0,n⟩ = q at hR hfr hok'
   obtain ⟨b1,a1,m1,p1⟩ := q
   simp only [] at hR hfr hok'
   have HR := Lib.hid hR;clear hR
   cases b1 with
   | true =>
    have HK := Lib.hid (hok' rfl);clear hok'
    simp only [if_true] at hfr
    have HF := Lib.hid hfr;clear hfr
    have HKK := Lib.hid hk;clear hk
    replace hs := hs.pull (A := HazR bh ba h) (by (focus with_reducible (repeat first|exact Qh|apply Qk);done))
    (obtain ⟨vhh,vhl,hs⟩ := hazR.1 hs)
    go_wp2_with (first|(first|(first|(with_reducible refine NQ.mk ?_)|((with_reducible apply pl_neu);rfl;rfl)|((with_reducible apply pl_eff);rfl)|(with_reducible refine EQ.mk ?_ ?_)|(first|(with_reducible exact chk_nil)|((with_reducible refine chk_cons ?_ ?_);(focus ((with_reducible apply pl_chk);rfl;rfl))))|(with_reducible refine pl_end ?_)|(show SameA _ _ _;rfl))|((with_reducible apply wl_ld hs);infer_instance;rfl;(focus with_reducible (repeat first|exact Qh|apply Qk);done);rfl;rfl;(simp only [Uc,Uz]))|((with_reducible apply wl_st hs);infer_instance;rfl;rfl;(focus with_reducible (repeat first|exact Qh|apply Qk);done);(first|rfl|(apply resL_one;apply sl_one;apply hs.pull;(focus with_reducible (repeat first|exact Qh|apply Qk);done)));(exact Vb rfl);rfl;clear hs;intro w hs;simp only [List.setIfInBounds_toArray,Uc,Uz] at hs)|((with_reducible apply wl_ldS0 hs);infer_instance;rfl;assumption;(focus with_reducible (repeat first|exact Qh|apply Qk);done);rfl;(exact map_get (by assumption));rfl;rfl;(simp only [Uc,Uz]))|((with_reducible apply wl_ia hs);infer_instance;infer_instance;rfl;rfl;(focus with_reducible (repeat first|exact Qh|apply Qk);done);(rfl);(simp only [Wm,Ws,Wa,Wc,Wn,Wr] at *;omega);rfl;intro b off hat;(simp only [Uc,Uz]))|((with_reducible apply wl_len hs);infer_instance;rfl;(focus with_reducible (repeat first|exact Qh|apply Qk);done);rfl;(simp only [Uc,Uz]))|((with_reducible apply wl_reL hs);infer_instance;infer_instance;rfl;rfl;(focus with_reducible (repeat first|exact Qh|apply Qk);done);(rfl);(simp only [Wm,Ws,Wa,Wc,Wn,Wr] at *;omega);rfl;(simp only [Uc,Uz])))|(go_at_call 197;((refine (hG.out).at hs (by (focus with_reducible (repeat first|exact Qh|apply Qk);done)) ?_);clear hs;intro g w hs;(try simp only [emp_mul,mul_assoc'] at hs)))|(go_at_call 198;((refine ((HR.out g)).at hs (by (focus with_reducible (repeat first|exact Qh|apply Qb|apply Qk);done)) ?_);clear hs;intro w hs;(try simp only [emp_mul,mul_assoc'] at hs)))|((with_reducible refine wp_plan_sat (id := 3) [.neu 0,.neu 1,.neu 2,.neu 3,.neu 4,.neu 5,.neu 6,.neu 7,.neu 8,.neu 9,.neu 10,.neu 11,.neu 12,.neu 13,.neu 14,.neu 15,.neu 16,.neu 17,.eff 18 [0],.neu 19,.neu 20,.eff 21 []] hs rfl ?_ ?_);kernel_rfl;clear hs;intro w hs))
    go_roundg pr.length
    case measure => have := HKK.out;omega
    case rel =>
     refine ⟨pr,some p1,a1,m1,rfl,HF.out,HK.out,?_⟩
     replace hs := give_get.2 ⟨g,rfl,hs.pull (A := PshR g ba 309 p1) (by (with_reducible exact Qh))⟩
     replace hs := sl_dropL (h := 1) (hs.pull (A := sl 3 1 (((i : Int) :: pr).map eI) vp') (by (focus with_reducible (repeat first|exact Qh|apply Qk);done))) (by simp)
     rw [← List.map_drop,List.drop_succ_cons,List.drop_zero] at hs
     (replace hs := hazR_mk (hs.fin (by (focus with_reducible (repeat first|exact Ql|exact Qh|apply Qb|apply Qk);done))))
     apply scnR_mk (vn := vn') (vp := resL 1 vp' 1) (vg := .pointer (some ⟨g,0,none⟩))
     ((with_reducible apply Sat.fin hs);(focus with_reducible (repeat first|exact Ql|exact Qh|apply Qb|apply Qk);done))
   | false =>
    clear hok'
    simp only [Bool.false_eq_true,if_false] at hfr
    have HF := Lib.hid hfr;clear hfr hk
    replace hs := hs.pull (A := HazR bh ba h) (by (focus with_reducible (repeat first|exact Qh|apply Qk);done))
    (obtain ⟨vhh,vhl,hs⟩ := hazR.1 hs)
    go_wp2_with (first|(first|(first|(with_reducible refine NQ.mk ?_)|((with_reducible apply pl_neu);rfl;rfl)|((with_reducible apply pl_eff);rfl)|(with_reducible refine EQ.mk ?_ ?_)|(first|(with_reducible exact chk_nil)|((with_reducible refine chk_cons ?_ ?_);(focus ((with_reducible apply pl_chk);rfl;rfl))))|(with_reducible refine pl_end ?_)|(show SameA _ _ _;rfl))|((with_reducible apply wl_ld hs);infer_instance;rfl;(focus with_reducible (repeat first|exact Qh|apply Qk);done);rfl;rfl;(simp only [Uc,Uz]))|((with_reducible apply wl_st hs);infer_instance;rfl;rfl;(focus with_reducible (repeat first|exact Qh|apply Qk);done);(first|rfl|(apply resL_one;apply sl_one;apply hs.pull;(focus with_reducible (repeat first|exact Qh|apply Qk);done)));(exact Vb rfl);rfl;clear hs;intro w hs;simp only [List.setIfInBounds_toArray,Uc,Uz] at hs)|((with_reducible apply wl_ldS0 hs);infer_instance;rfl;assumption;(focus with_reducible (repeat first|exact Qh|apply Qk);done);rfl;(exact map_get (by assumption));rfl;rfl;(simp only [Uc,Uz]))|((with_reducible apply wl_ia hs);infer_instance;infer_instance;rfl;rfl;(focus with_reducible (repeat first|exact Qh|apply Qk);done);(rfl);(simp only [Wm,Ws,Wa,Wc,Wn,Wr] at *;omega);rfl;intro b off hat;(simp only [Uc,Uz]))|((with_reducible apply wl_len hs);infer_instance;rfl;(focus with_reducible (repeat first|exact Qh|apply Qk);done);rfl;(simp only [Uc,Uz]))|((with_reducible apply wl_reL hs);infer_instance;infer_instance;rfl;rfl;(focus with_reducible (repeat first|exact Qh|apply Qk);done);(rfl);(simp only [Wm,Ws,Wa,Wc,Wn,Wr] at *;omega);rfl;(simp only [Uc,Uz])))|(go_at_call 197;((refine (hG.out).at hs (by (focus with_reducible (repeat first|exact Qh|apply Qk);done)) ?_);clear hs;intro g w hs;(try simp only [emp_mul,mul_assoc'] at hs)))|(go_at_call 198;((refine ((HR.out g)).at hs (by (focus with_reducible (repeat first|exact Qh|apply Qb|apply Qk);done)) ?_);clear hs;intro w hs;(try simp only [emp_mul,mul_assoc'] at hs)))|((with_reducible refine wp_plan_sat (id := 3) [.neu 0,.neu 1,.neu 2,.neu 3,.neu 4,.neu 5,.neu 6,.neu 7,.neu 8,.neu 9,.neu 10,.neu 11,.neu 12,.neu 13,.neu 14,.neu 15,.neu 16,.neu 17,.eff 18 [0],.neu 19,.neu 20,.eff 21 []] hs rfl ?_ ?_);kernel_rfl;clear hs;intro w hs))
    (go_ret)
    obtain rfl := HF.out
    refine ⟨rfl,?_⟩
    simp only [mul_assoc',freeStage,Bool.false_eq_true,if_false]
    replace hs := give_get.2 ⟨g,rfl,hs.pull (A := PshR g ba 309 p1) (by (with_reducible exact Qh))⟩
    replace hs := sl_dropL (h := 1) (hs.pull (A := sl 3 1 (((i : Int) :: pr).map eI) vp') (by (focus with_reducible (repeat first|exact Qh|apply Qk);done))) (by simp)
    rw [← List.map_drop,List.drop_succ_cons,List.drop_zero] at hs
    (replace hs := hazR_mk (hs.fin (by (focus with_reducible (repeat first|exact Ql|exact Qh|apply Qb|apply Qk);done))))
    apply scnR_mk (vn := vn') (vp := resL 1 vp' 1) (vg := .pointer (some ⟨g,0,none⟩))
    ((with_reducible apply Sat.fin hs);(focus with_reducible (repeat first|exact Ql|exact Qh|apply Qb|apply Qk);done))
end Go.Proofs.YtegafhhdegnigaaGreat
end
/-
  A scan: what is named stays.
-/
section
namespace Go.Proofs.YtegafhhdegnigaaGreat
open Go.RowKit Hp
set_option maxRecDepth 100000
set_option maxHeartbeats 1000000
attribute [local irreducible] Go.Calls
def unNone (c : Int → Int) : Int → Int := fun k => if k = -1 then 0 else c k
def isNamed (c : Int → Int) (k : Int) : Bool := decide (0 < unNone c k)
def notNamed (c : Int → Int) (k : Int) : Bool := !isNamed c k
def scanSplit (h : Haz) (s : Scn) : Haz × Scn :=
 ({ h with lists := h.lists.set s.record.toNat ((h.lists.getD s.record.toNat []).filter (isNamed s.named)) },
  { s with named := unNone s.named,pending := s.pending ++ (h.lists.getD s.record.toNat []).filter (notNamed s.named) })
theorem named_del {f : Int → Option Value} {c : Int → Int} (h : ∀ k,(f k).getD (.int .i64 0) = .int .i64 (c k)) : ∀ k,((fun x => if x = -1 then none else f x) k).getD (.int .i64 0) = .int .i64 (unNone c k) := by
 intro k
 unfold unNone
 by_cases hk : k = -1
 ·simp [hk]
 ·simp [hk,h k]
def SplitRel (O : World) (gs bh : Nat) (A : SProp) (s : Scn) (x : List Int) (u vn vg : Value) (f : Int → Option Value) (k : Nat) (t2 t23 : Value) (wr : World) : Prop :=
 ∃ (j : Nat) (vp : Value),j ≤ x.length ∧ k = x.length - j ∧ t23 = .int .i64 (j : Int) ∧
  Sat O wr (pt gs (.cells #[.pointer (some ⟨bh,0,none⟩),.int .i64 s.thread,.int .i64 s.record,.int .i64 s.stage,.int .i64 s.at_,vn,vp,vg] 208) * (mp .i64 f vn *
   (sl 3 1 ((s.pending ++ (x.take j).filter (notNamed s.named)).map eI) vp * (sl 3 1 (((x.take j).filter (isNamed s.named)).map eI) t2 * (sl 3 1 (x.map eI) u * A)))))
theorem scan_split (gs bh ba : Nat) (h : Haz) (s : Scn) (n : Nat) (x : List Int) (hn : s.record = (n : Int)) (hx : h.lists[n]? = some x) (hm : s.hasMap = true) (hp : s.pending.length + x.length < 4294967296) :
  Gives Tryz.prog 186 #[.pointer (some ⟨gs,0,none⟩)] (ScnR gs bh ba s * HazR bh ba h) (.tuple #[]) (ScnR gs bh ba (scanSplit h s).2 * HazR bh ba (scanSplit h s).1) := by
 intro O w F hs
 simp only [mul_assoc'] at hs
 obtain ⟨s1,s2,s3,s4,s5,s6,s7,s8⟩ := s
 simp only [] at hn hm hp
 subst hn hm
 obtain ⟨vn,vp,vg,hs⟩ := scnR.1 hs
 simp only [] at hs
 obtain ⟨f,hf,hs⟩ := named_get.1 (hs.pull (A := namedR true s6 vn) (by (focus with_reducible (repeat first|exact Qh|apply Qk);done)))
 obtain ⟨r0,rfl⟩ := mp_some hs
 have hxd : h.lists.getD n [] = x := by simp [List.getD_eq_getElem?_getD,hx]
 have e : scanSplit h ⟨s1,n,s3,s4,true,s6,s7,s8⟩ = ({ h with lists := h.lists.set n (x.filter (isNamed s6)) },⟨s1,n,s3,s4,true,unNone s6,s7 ++ x.filter (notNamed s6),s8⟩) := by
  unfold scanSplit;simp only [Int.toNat_natCast,hxd]
 rw [e];clear e hxd
 have hlt := (List.getElem?_eq_some_iff.1 hx).1
 obtain ⟨f2,hf2,HF⟩ : ∃ f2 : Int → Option Value,Hid ((fun x => if x = -1 then none else f x) = f2) ∧ Hid (∀ k,(f2 k).getD (.int .i64 0) = .int .i64 (unNone s6 k)) := ⟨_,Lib.hid rfl,Lib.hid (named_del hf)⟩
 clear hf
 (replace hs := hs.pull (A := HazR bh _ _) (by (focus with_reducible (repeat first|exact Qh|apply Qk);done));obtain ⟨vhh,vhl,hus_,hu_,husl,husg,hs⟩ := hazT hs hx)
 have hltu : n < hus_.length := by omega
 go_enter Tryz.func186,Tryz.ntmps186
 go_wp2_with (first|(first|(first|(with_reducible refine NQ.mk ?_)|((with_reducible apply pl_neu);rfl;rfl)|(with_reducible refine pl_end ?_))|((with_reducible apply wl_ld hs);infer_instance;rfl;(focus with_reducible (repeat first|exact Qh|apply Qk);done);rfl;rfl;(simp only [Uc,Uz]))|((with_reducible apply wl_ldS0 hs);infer_instance;rfl;assumption;(focus with_reducible (repeat first|exact Qh|apply Qk);done);rfl;(exact map_get (by assumption));rfl;rfl;(simp only [Uc,Uz]))|((with_reducible apply wl_ia hs);infer_instance;infer_instance;rfl;rfl;(focus with_reducible (repeat first|exact Qh|apply Qk);done);(rfl);(simp only [Wm,Ws,Wa,Wc,Wn,Wr] at *;omega);rfl;intro b off hat;(simp only [Uc,Uz]))|((with_reducible apply wl_len hs);infer_instance;rfl;(focus with_reducible (repeat first|exact Qh|apply Qk);done);rfl;(simp only [Uc,Uz])))|((with_reducible apply wl_del hs);infer_instance;rfl;rfl;(focus with_reducible (repeat first|exact Qh|apply Qk);done);rfl;clear hs;intro w hs)|((with_reducible refine wp_plan_sat (id := 2) [.neu 0,.neu 1,.neu 2,.neu 3,.neu 4,.neu 5,.neu 6,.neu 7,.neu 8,.neu 9,.neu 10,.neu 11,.neu 12,.neu 13,.neu 14] hs rfl ?_ ?_);kernel_rfl;clear hs;intro w hs))
 replace hs := sl_nil (E := 3) (sz := 1) hs (by omega)
 rw [hf2.out] at hs
 obtain ⟨A,hA⟩ : ∃ A : SProp,A = pt bh (.cells #[.pointer (some ⟨ba,0,none⟩),.int .i64 h.c.T,.int .i64 h.c.R,.int .i64 h.c.Hz,.int .i64 h.c.Rt,.int .i64 h.c.Ca,.int .i64 h.c.Sl,.int .i64 h.c.Bu,vhh,vhl,.int .i64 (base h.c 8),.int .i64 (base h.c 9),.int .i64 (base h.c 2),.int .i64 (base h.c 11)] 93) *
  (sl 3 1 (h.held.map eI) vhh * (sl 44 1 (hus_.map fun u => [u]) vhl * (stars 3 (h.lists.eraseIdx n) (hus_.eraseIdx n) * (giveR ba s8 vg * F)))) := ⟨_,rfl⟩
 have hst : SplitRel O gs bh A ⟨s1,n,s3,s4,true,s6,s7,s8⟩ x hu_ (.map (some r0)) vg f2 x.length (.slice none 0 0) (.int .i64 0) w := by
  refine ⟨0,vp,by omega,by omega,by simp,?_⟩
  simp only [List.take_zero,List.filter_nil,List.append_nil,List.map_nil]
  rw [hA]
  ((with_reducible apply Sat.fin hs);(focus with_reducible (repeat first|exact Ql|exact Qh|apply Qb|apply Qk);done))
 have HA := Lib.hid hA;clear hA hs
 simp only [Nat.mul_one,List.length_map]
 go_loopg [2,23] (x.length) (fun k t2 t23 wr => SplitRel O gs bh A ⟨s1,n,s3,s4,true,s6,s7,s8⟩ x hu_ (.map (some r0)) vg f2 k t2 t23 wr)
 case atStart => exact hst
 case round =>
  clear hst
  obtain ⟨j,vp',hj,hk,rfl,hs⟩ := hrel
  simp only [] at hs
  by_cases hlt2 : j < x.length
  ·have hlt3 : decide ((j : Int) < (x.length : Int)) = true := by simp;exact hlt2
   obtain ⟨z,hz⟩ : ∃ z,x[j]? = some z := ⟨_,List.getElem?_eq_getElem hlt2⟩
   have hfz := HF.out z
   have htk : x.take (j + 1) = x.take j ++ [z] := by rw [List.take_add_one,hz];rfl
   have hl1 : ((x.take j).filter (isNamed s6)).length ≤ j := Nat.le_trans (List.length_filter_le _ _) (by simp;omega)
   have hl2 : ((x.take j).filter (notNamed s6)).length ≤ j := Nat.le_trans (List.length_filter_le _ _) (by simp;omega)
   have hl3 : (s7 ++ (x.take j).filter (notNamed s6)).length < 4294967296 := by simp;omega
   have hl4 : ((x.take j).filter (isNamed s6)).length < 4294967296 := by omega
   have HK := Lib.hid hk;clear hk
   have HT := Lib.hid htk;clear htk
   clear hl1 hl2 hj
   by_cases hc : 0 < unNone s6 z
   ·have hn1 : isNamed s6 z = true := by unfold isNamed;simpa using hc
    have hn2 : notNamed s6 z = false := by unfold notNamed;rw [hn1];rfl
    have hcd : decide (unNone s6 z > 0) = true := by simpa using hc
    have H1 := Lib.hid hn1;have H2 := Lib.hid hn2;clear hn1 hn2 hc
    generalize hy1 : (x.take j).filter (isNamed s6) = y1 at hs hl4
    generalize hy2 : s7 ++ (x.take j).filter (notNamed s6) = y2 at hs hl3
    have H3 := Lib.hid hy1;have H4 := Lib.hid hy2;clear hy1 hy2
    go_wp2_with (first|(first|((with_reducible apply wl_ld hs);infer_instance;rfl;(focus with_reducible (repeat first|exact Qh|apply Qk);done);rfl;rfl;(simp only [Uc,Uz]))|((with_reducible apply wl_ldS0 hs);infer_instance;rfl;assumption;(focus with_reducible (repeat first|exact Qh|apply Qk);done);rfl;(exact map_get (by assumption));rfl;rfl;(simp only [Uc,Uz]))|((with_reducible apply wl_ia hs);infer_instance;infer_instance;rfl;rfl;(focus with_reducible (repeat first|exact Qh|apply Qk);done);(rfl);(simp only [Wm,Ws,Wa,Wc,Wn,Wr] at *;omega);rfl;intro b off hat;(simp only [Uc,Uz]))|((with_reducible apply wl_bs hs);infer_instance;infer_instance;rfl;rfl;rfl;rfl;(exact Vb rfl);rfl;clear hs;intro w v hs;(simp only [Uc,Uz]))|((with_reducible apply wl_app hs);infer_instance;infer_instance;rfl;rfl;(focus with_reducible (repeat first|exact Qh|apply Qk);done);(with_reducible exact Qh);(simp only [Wm,Ws,Wa,Wc,Wn,Wr] at *;omega);(exact Vb rfl);rfl;clear hs;intro w v hs;(simp only [Uc,Uz])))|((with_reducible apply wl_lk hs);infer_instance;rfl;rfl;(focus with_reducible (repeat first|exact Qh|apply Qk);done);(assumption);rfl;(simp only [Uc,Uz])))
    go_roundg (x.length - (j + 1))
    case measure => have := HK.out;omega
    case rel =>
     refine ⟨j + 1,vp',by omega,rfl,by simp,?_⟩
     rw [HT.out,List.filter_append,List.filter_append]
     simp only [List.filter_cons,List.filter_nil,H1.out,H2.out,Bool.false_eq_true,if_true,if_false,List.append_nil]
     rw [H3.out,H4.out]
     ((try simp only [List.map_append,List.map_cons,List.map_nil,List.map_set,List.set_set]);(try simp only [List.map_append,List.map_cons,List.map_nil,List.map_set,List.set_set] at hs);((with_reducible apply Sat.fin hs);(focus with_reducible (repeat first|exact Ql|exact Qh|apply Qb|apply Qk);done)))
   ·have hn1 : isNamed s6 z = false := by unfold isNamed;simpa using hc
    have hn2 : notNamed s6 z = true := by unfold notNamed;rw [hn1];rfl
    have hcd : decide (unNone s6 z > 0) = false := by simpa using hc
    have H1 := Lib.hid hn1;have H2 := Lib.hid hn2;clear hn1 hn2 hc
    generalize hy1 : (x.take j).filter (isNamed s6) = y1 at hs hl4
    generalize hy2 : s7 ++ (x.take j).filter (notNamed s6) = y2 at hs hl3
    have H3 := Lib.hid hy1;have H4 := Lib.hid hy2;clear hy1 hy2
    go_wp2_with (first|(first|((with_reducible apply wl_ld hs);infer_instance;rfl;(focus with_reducible (repeat first|exact Qh|apply Qk);done);rfl;rfl;(simp only [Uc,Uz]))|((with_reducible apply wl_st hs);infer_instance;rfl;rfl;(focus with_reducible (repeat first|exact Qh|apply Qk);done);(apply sl_one;apply hs.pull;(with_reducible exact Qh));(exact Vb rfl);rfl;clear hs;intro w hs;simp only [List.setIfInBounds_toArray,Uc,Uz] at hs)|((with_reducible apply wl_ldS0 hs);infer_instance;rfl;assumption;(focus with_reducible (repeat first|exact Qh|apply Qk);done);rfl;(exact map_get (by assumption));rfl;rfl;(simp only [Uc,Uz]))|((with_reducible apply wl_ia hs);infer_instance;infer_instance;rfl;rfl;(focus with_reducible (repeat first|exact Qh|apply Qk);done);(rfl);(simp only [Wm,Ws,Wa,Wc,Wn,Wr] at *;omega);rfl;intro b off hat;(simp only [Uc,Uz]))|((with_reducible apply wl_bs hs);infer_instance;infer_instance;rfl;rfl;rfl;rfl;(exact Vb rfl);rfl;clear hs;intro w v hs;(simp only [Uc,Uz]))|((with_reducible apply wl_app hs);infer_instance;infer_instance;rfl;rfl;(focus with_reducible (repeat first|exact Qh|apply Qk);done);(with_reducible exact Qh);(simp only [Wm,Ws,Wa,Wc,Wn,Wr] at *;omega);(exact Vb rfl);rfl;clear hs;intro w v hs;(simp only [Uc,Uz])))|((with_reducible apply wl_lk hs);infer_instance;rfl;rfl;(focus with_reducible (repeat first|exact Qh|apply Qk);done);(assumption);rfl;(simp only [Uc,Uz])))
    go_roundg (x.length - (j + 1))
    case measure => have := HK.out;omega
    case rel =>
     refine ⟨j + 1,v,by omega,rfl,by simp,?_⟩
     rw [HT.out,List.filter_append,List.filter_append]
     simp only [List.filter_cons,List.filter_nil,H1.out,H2.out,Bool.false_eq_true,if_true,if_false,List.append_nil]
     rw [H3.out,← List.append_assoc,H4.out]
     ((try simp only [List.map_append,List.map_cons,List.map_nil,List.map_set,List.set_set]);(try simp only [List.map_append,List.map_cons,List.map_nil,List.map_set,List.set_set] at hs);((with_reducible apply Sat.fin hs);(focus with_reducible (repeat first|exact Ql|exact Qh|apply Qb|apply Qk);done)))
  ·have hlt3 : decide ((j : Int) < (x.length : Int)) = false := by simp;omega
   have hjx : j = x.length := by omega
   subst hjx
   rw [List.take_length] at hs
   generalize hy1 : x.filter (isNamed s6) = y1 at hs ⊢
   generalize hy2 : s7 ++ x.filter (notNamed s6) = y2 at hs ⊢
   rw [HA.out] at hs
   have HY1 := Lib.hid hy1;have HY2 := Lib.hid hy2
   clear hk hj hlt2 hy1 hy2
   go_wp2_with (first|(first|(first|(with_reducible refine NQ.mk ?_)|((with_reducible apply pl_neu);rfl;rfl)|((with_reducible apply pl_eff);rfl)|(with_reducible refine EQ.mk ?_ ?_)|(with_reducible exact chk_nil)|(with_reducible refine pl_end ?_))|((with_reducible apply wl_ld hs);infer_instance;rfl;(focus with_reducible (repeat first|exact Qh|apply Qk);done);rfl;rfl;(simp only [Uc,Uz]))|((with_reducible apply wl_stS0 hs);infer_instance;rfl;rfl;assumption;(focus with_reducible (repeat first|exact Qh|apply Qk);done);rfl;(exact map_get (by assumption));(exact Vb rfl);(apply sl_one;apply hs.pull;(focus with_reducible (repeat first|exact Qh|apply Qk);done));rfl;clear hs;intro w hs)|((with_reducible apply wl_ia2 hs);infer_instance;infer_instance;rfl;assumption;rfl;(focus with_reducible (repeat first|exact Qh|apply Qk);done);(rfl);(simp only [Wm,Ws,Wa,Wc,Wn,Wr] at *;omega);rfl;(simp only [Uc,Uz])))|((with_reducible refine wp_plan_sat (id := 9) [.neu 0,.neu 1,.neu 2,.neu 3,.neu 4,.neu 5,.neu 6,.neu 7,.neu 8,.neu 9,.neu 10,.neu 11,.neu 12,.eff 13 []] hs rfl ?_ ?_);kernel_rfl;clear hs;intro w hs))
   (go_end0)
   refine ⟨rfl,?_⟩
   rw [mul_assoc']
   replace hs := named_get.2 ⟨f2,HF.out,hs.pull (A := mp .i64 f2 (.map (some r0))) (by (focus with_reducible (repeat first|exact Qh|apply Qk);done))⟩
   (replace hs := hazT_mk (x := y1) husl hlt (hs.fin (by (focus ((repeat (first|with_reducible exact Ql|with_reducible exact Qh|with_reducible apply Qb|exact Qh|with_reducible apply Qk));done)))) (by rfl))
   obtain rfl := HY1.out
   obtain rfl := HY2.out
   apply scnR_mk (vn := .map (some r0)) (vp := vp') (vg := vg)
   ((with_reducible apply Sat.fin hs);(focus with_reducible (repeat first|exact Ql|exact Qh|apply Qb|apply Qk);done))
end Go.Proofs.YtegafhhdegnigaaGreat
end
