/-
  The kit.
-/
import Derived.Test.YtegafhhdegnigaaGreatHKit2
import Derived.Test.YtegafhhdegnigaaGreatHNew3
set_option linter.all false
namespace Go.Proofs.YtegafhhdegnigaaGreat
open Go.RowKit Hp
set_option maxRecDepth 100000
set_option maxHeartbeats 1000000
attribute [local irreducible] Go.Calls

abbrev fnV (f c1 : Nat) : Value := .func (.func f) #[] #[.pointer (some ⟨c1, 0, none⟩)]
abbrev holdV (c1 d : Nat) : Value := .func (.func 94) #[] #[.pointer (some ⟨c1, 0, none⟩), .pointer (some ⟨d, 0, none⟩)]
structure Caps where
  c1 : Nat
  d2 : Nat
  d3 : Nat
  d4 : Nat
  d5 : Nat
  d6 : Nat
def kitFn (x : Caps) : Int → Option Value := fun op =>
  if op = 25 then some (holdV x.c1 x.d6) else if op = 24 then some (holdV x.c1 x.d5) else if op = 23 then some (holdV x.c1 x.d4) else if op = 22 then some (holdV x.c1 x.d3) else if op = 21 then some (holdV x.c1 x.d2) else if op = 20 then some (fnV 95 x.c1) else none
def capR (bh : Nat) (x : Caps) : SProp := hcell bh x.c1 * (fcell x.d2 (fnV 96 x.c1) * (fcell x.d3 (fnV 97 x.c1) * (fcell x.d4 (fnV 98 x.c1) * (fcell x.d5 (fnV 99 x.c1) * fcell x.d6 (fnV 100 x.c1)))))

theorem kit_hold (c1 f : Nat) : Does Tryz.prog 93 #[fnV f c1, .pointer (some ⟨c1, 0, none⟩)] emp (fun v => ex fun d => pu (v = holdV c1 d) * fcell d (fnV f c1)) := by
  intro O w F hs
  go_enter Tryz.func93, Tryz.ntmps93
  go_wp2_with ((with_reducible apply wl_box hs); rfl; rfl; rfl; clear hs; intro w b hs; (simp only [List.set_cons_succ, List.set_cons_zero]))
  (go_ret)
  refine ⟨_, rfl, ?_⟩
  simp only [sat_ex, mul_assoc', sat_pu]
  refine ⟨_, rfl, ?_⟩
  unfold fcell
  ((with_reducible apply Sat.fin hs); (focus ((repeat (first | with_reducible exact Pull.last _ | with_reducible exact Pull.here _ _ | with_reducible apply Pull.both | with_reducible apply Pull.skip)); done)))
theorem kit_dyn (c1 f : Nat) : Dyn Tryz.prog (callValue (.func (.func 93) #[] #[.pointer (some ⟨c1, 0, none⟩)]) #[fnV f c1]) emp (fun v => ex fun d => pu (v = holdV c1 d) * fcell d (fnV f c1)) :=
  (kit_hold c1 f).dyn fun w => by kernel_rfl

theorem kit_mk {bh ba : Nat} {h : Haz} {v : Value} {O w : World} {F : SProp} {b d2 d3 d4 d5 d6 : Nat} (hs : Sat O w (mp .i64 (kitFn ⟨b, d2, d3, d4, d5, d6⟩) v * (HazR bh ba h * (capR bh ⟨b, d2, d3, d4, d5, d6⟩ * F)))) : Sat O w ((ex fun x => mp .i64 (kitFn x) v * (HazR bh ba h * capR bh x)) * F) := by
  simp only [sat_ex, mul_assoc']
  exact ⟨_, hs⟩
theorem haz_kit (bh ba : Nat) (h : Haz) :
    Does Tryz.prog 40 #[.pointer (some ⟨bh, 0, none⟩)] (HazR bh ba h) (fun v => ex fun x => mp .i64 (kitFn x) v * (HazR bh ba h * capR bh x)) := by
  intro O w F hs
  (obtain ⟨vhh, vhl, hs⟩ := hazR.1 hs)
  go_enter Tryz.func40, Tryz.ntmps40
  go_wp2_with (first | (first | ((with_reducible apply wl_ld hs); infer_instance; rfl; (focus ((repeat (first | with_reducible exact Pull.here _ _ | with_reducible apply Pull.skip)); done)); rfl; rfl; (simp only [List.set_cons_succ, List.set_cons_zero])) | ((with_reducible apply wl_box hs); rfl; rfl; rfl; clear hs; intro w b hs; (simp only [List.set_cons_succ, List.set_cons_zero]))) | (first | ((with_reducible apply wl_mkmap hs); infer_instance; rfl; clear hs; intro w r hs; (simp only [List.set_cons_succ, List.set_cons_zero])) | ((with_reducible apply wl_mi hs); infer_instance; rfl; rfl; rfl; (focus ((repeat (first | with_reducible exact Pull.here _ _ | with_reducible apply Pull.skip)); done)); rfl; clear hs; intro w hs)) | ((with_reducible apply wl_val1 hs); rfl; rfl; (exact kit_dyn _ _); (focus ((repeat (with_reducible exact Pull.none _)); done)); rfl; clear hs; intro v w hs; (simp only [sat_ex, mul_assoc', sat_pu, emp_mul] at hs); (obtain ⟨_, rfl, hs⟩ := hs); (simp only [List.set_cons_succ, List.set_cons_zero])))
  (go_ret)
  refine ⟨_, rfl, ?_⟩
  (replace hs := hazR_mk (hs.fin (by (focus ((repeat (first | with_reducible exact Pull.last _ | with_reducible exact Pull.here _ _ | with_reducible apply Pull.both | with_reducible apply Pull.skip)); done)))))
  apply kit_mk (b := b)
  unfold capR hcell kitFn
  simp only [mul_assoc']
  ((with_reducible apply Sat.fin hs); (focus ((repeat (first | with_reducible exact Pull.last _ | with_reducible exact Pull.here _ _ | with_reducible apply Pull.both | exact Pull.here _ _ | with_reducible apply Pull.skip)); done)))

def kitTask (s : Haz × Are) (t : Nat) (mv : Mv) : Option HTask :=
  if mv.op = 20 then (if s.1.held.getD t 0 < 0 then some (.reg ⟨t, 0, false⟩) else none)
  else if s.1.held.getD t 0 < 0 then none
  else if mv.op = 21 then some (.unr ⟨t, 0, 0, none, none⟩)
  else if mv.op = 22 then some (.pst ⟨t, mv.arg, 0, none, 0, 0, none⟩)
  else if mv.op = 23 then (if 0 ≤ mv.arg ∧ mv.arg < s.1.c.Hz then some (.rdg ⟨base s.1.c 9 + s.1.held.getD t 0 * s.1.c.Hz + mv.arg, 0, 0, 0⟩) else none)
  else if mv.op = 24 then (if 0 ≤ mv.arg ∧ mv.arg < s.1.c.Hz then some (.clr (base s.1.c 9 + s.1.held.getD t 0 * s.1.c.Hz + mv.arg).toNat) else none)
  else some (.scn ⟨t, s.1.held.getD t 0, 6, 0, false, fun _ => 0, [], none⟩)

structure KOk (n : Nat) (s : Haz × Are) : Prop where
  c : s.1.c.Ok
  held : s.1.held.length = n
  hin : ∀ r ∈ s.1.held, r < s.1.c.R

theorem dyn_frame {P : Program} {s : Sem Next} {A A' : SProp} {B B' : Value → SProp} (Z : SProp) (h : Dyn P s A B) (hA : A' = A * Z) (hB : ∀ v, B' v = B v * Z) : Dyn P s A' B' := by
  intro O w F hs
  subst hA
  obtain ⟨f, args, hr, hC⟩ := h O w (Z * F) (hs.cast (by ac_rfl))
  refine ⟨f, args, hr, hC.mono ?_⟩
  rintro e w' ⟨v, rfl, hs'⟩
  exact ⟨v, rfl, by rw [hB v]; exact hs'.cast (by ac_rfl)⟩
theorem made_opt {bh ba : Nat} {CX : SProp} {s : Haz × Are} {o : Option HTask} {v : Value} : madeR (hzT bh ba CX) s o v = optR bh ba o v * (HazR bh ba s.1 * (AreR ba s.2 * CX)) := by
  cases o <;> rfl

set_option maxHeartbeats 4000000 in
theorem hzT_kit (bh ba n : Nat) (x : Caps) : KitOk (hzT bh ba (capR bh x)) (kitFn x) kitTask (KOk n) n where
  func := by
    intro op u h
    unfold kitFn at h
    repeat' split at h
    all_goals (first | (cases h; done) | (injection h with h; exact ⟨_, _, _, h.symm⟩))
  make := by
    intro op u s t mv hK hop ht hthr hok
    have hlt : t < s.1.held.length := by rw [hok.held]; exact ht
    obtain ⟨r, hr⟩ : ∃ r, s.1.held[t]? = some r := ⟨_, List.getElem?_eq_getElem hlt⟩
    have hrd : s.1.held.getD t 0 = r := by rw [List.getD_eq_getElem?_getD, hr]; rfl
    have hrR : r < s.1.c.R := hok.hin r (List.mem_of_getElem? hr)
    subst hop
    have key : ∀ o, kitTask s t mv = o → (∀ v, madeR (hzT bh ba (capR bh x)) s (kitTask s t mv) v = optR bh ba o v * (HazR bh ba s.1 * (AreR ba s.2 * capR bh x))) := fun o ho v => by rw [ho, made_opt]
    have hold : ∀ (f d : Nat) (o : Option HTask) (Z : SProp), capR bh x = hcell bh x.c1 * (fcell d (fnV f x.c1) * Z) → kitTask s t mv = (if r < 0 then none else o) → u = holdV x.c1 d →
        (0 ≤ r → Does Tryz.prog f #[.int .i64 (t : Int), mv.v, .pointer (some ⟨x.c1, 0, none⟩)] (HazR bh ba s.1 * hcell bh x.c1) (fun v => optR bh ba o v * (HazR bh ba s.1 * hcell bh x.c1))) →
        (∀ w, (callValue (fnV f x.c1) #[.int .i64 (t : Int), mv.v]).run Tryz.prog w = .ok (.enter f #[.int .i64 (t : Int), mv.v, .pointer (some ⟨x.c1, 0, none⟩)]) w) →
        Dyn Tryz.prog (callValue u #[.int .i64 (t : Int), mv.v]) ((hzT bh ba (capR bh x)).X s) (fun v => madeR (hzT bh ba (capR bh x)) s (kitTask s t mv) v) := by
      intro f d o Z hZ ho hu hin hrun
      subst hu
      by_cases h0 : r < 0
      · rw [if_pos h0] at ho
        refine dyn_frame (AreR ba s.2 * Z) ((hold_no bh ba x.c1 s.1 t mv d (fnV f x.c1) r hr h0).dyn (fun w => by kernel_rfl)) (by simp only [hzT]; rw [hZ]; ac_rfl) (fun v => by rw [key _ ho, hZ]; ac_rfl)
      · rw [if_neg h0] at ho
        refine dyn_frame (AreR ba s.2 * Z) ((hold_yes bh ba x.c1 s.1 t mv d f o r hr (by omega) ((hin (by omega)).dyn hrun)).dyn (fun w => by kernel_rfl)) (by simp only [hzT]; rw [hZ]; ac_rfl) (fun v => by rw [key _ ho, hZ]; ac_rfl)
    unfold kitFn at hK
    by_cases h25 : mv.op = 25
    · rw [if_pos h25] at hK
      exact hold _ x.d6 _ (fcell x.d2 (fnV 96 x.c1) * (fcell x.d3 (fnV 97 x.c1) * (fcell x.d4 (fnV 98 x.c1) * (fcell x.d5 (fnV 99 x.c1))))) (by unfold capR; ac_rfl) (by simp only [kitTask, hrd, h25]; simp) (by injection hK with hK; exact hK.symm) (fun h0 => mk_scn bh ba x.c1 s.1 t mv r hr) (fun w => by kernel_rfl)
    rw [if_neg h25] at hK
    by_cases h24 : mv.op = 24
    · rw [if_pos h24] at hK
      by_cases hk : 0 ≤ mv.arg ∧ mv.arg < s.1.c.Hz
      · exact hold _ x.d5 _ (fcell x.d2 (fnV 96 x.c1) * (fcell x.d3 (fnV 97 x.c1) * (fcell x.d4 (fnV 98 x.c1) * (fcell x.d6 (fnV 100 x.c1))))) (by unfold capR; ac_rfl) (by simp only [kitTask, hrd, h24, if_pos hk]; simp) (by injection hK with hK; exact hK.symm) (fun h0 => mk_clr bh ba x.c1 s.1 t mv hok.c r hr h0 hrR hk.1 hk.2) (fun w => by kernel_rfl)
      · exact hold _ x.d5 none (fcell x.d2 (fnV 96 x.c1) * (fcell x.d3 (fnV 97 x.c1) * (fcell x.d4 (fnV 98 x.c1) * (fcell x.d6 (fnV 100 x.c1))))) (by unfold capR; ac_rfl) (by simp only [kitTask, hrd, h24, if_neg hk]; simp) (by injection hK with hK; exact hK.symm) (fun h0 => mk_clr_no bh ba x.c1 s.1 t mv r hr h0 (by omega)) (fun w => by kernel_rfl)
    rw [if_neg h24] at hK
    by_cases h23 : mv.op = 23
    · rw [if_pos h23] at hK
      by_cases hk : 0 ≤ mv.arg ∧ mv.arg < s.1.c.Hz
      · exact hold _ x.d4 _ (fcell x.d2 (fnV 96 x.c1) * (fcell x.d3 (fnV 97 x.c1) * (fcell x.d5 (fnV 99 x.c1) * (fcell x.d6 (fnV 100 x.c1))))) (by unfold capR; ac_rfl) (by simp only [kitTask, hrd, h23, if_pos hk]; simp) (by injection hK with hK; exact hK.symm) (fun h0 => mk_rdg bh ba x.c1 s.1 t mv hok.c r hr h0 hrR hk.1 hk.2) (fun w => by kernel_rfl)
      · exact hold _ x.d4 none (fcell x.d2 (fnV 96 x.c1) * (fcell x.d3 (fnV 97 x.c1) * (fcell x.d5 (fnV 99 x.c1) * (fcell x.d6 (fnV 100 x.c1))))) (by unfold capR; ac_rfl) (by simp only [kitTask, hrd, h23, if_neg hk]; simp) (by injection hK with hK; exact hK.symm) (fun h0 => mk_rdg_no bh ba x.c1 s.1 t mv r hr h0 (by omega)) (fun w => by kernel_rfl)
    rw [if_neg h23] at hK
    by_cases h22 : mv.op = 22
    · rw [if_pos h22] at hK
      exact hold _ x.d3 _ (fcell x.d2 (fnV 96 x.c1) * (fcell x.d4 (fnV 98 x.c1) * (fcell x.d5 (fnV 99 x.c1) * (fcell x.d6 (fnV 100 x.c1))))) (by unfold capR; ac_rfl) (by simp only [kitTask, hrd, h22]; simp) (by injection hK with hK; exact hK.symm) (fun h0 => mk_pst bh ba x.c1 s.1 t mv) (fun w => by kernel_rfl)
    rw [if_neg h22] at hK
    by_cases h21 : mv.op = 21
    · rw [if_pos h21] at hK
      exact hold _ x.d2 _ (fcell x.d3 (fnV 97 x.c1) * (fcell x.d4 (fnV 98 x.c1) * (fcell x.d5 (fnV 99 x.c1) * (fcell x.d6 (fnV 100 x.c1))))) (by unfold capR; ac_rfl) (by simp only [kitTask, hrd, h21]; simp) (by injection hK with hK; exact hK.symm) (fun h0 => mk_unr bh ba x.c1 s.1 t mv) (fun w => by kernel_rfl)
    rw [if_neg h21] at hK
    by_cases h20 : mv.op = 20
    · rw [if_pos h20] at hK
      injection hK with hK
      subst hK
      by_cases h0 : r < 0
      · exact dyn_frame (AreR ba s.2 * (fcell x.d2 (fnV 96 x.c1) * (fcell x.d3 (fnV 97 x.c1) * (fcell x.d4 (fnV 98 x.c1) * (fcell x.d5 (fnV 99 x.c1) * (fcell x.d6 (fnV 100 x.c1))))))) ((mk_reg bh ba x.c1 s.1 t mv r hr h0).dyn (fun w => by kernel_rfl)) (by simp only [hzT, capR]; ac_rfl) (fun v => by rw [key (some (.reg ⟨t, 0, false⟩)) (by simp only [kitTask, hrd, h20, if_true, if_pos h0]), capR]; ac_rfl)
      · exact dyn_frame (AreR ba s.2 * (fcell x.d2 (fnV 96 x.c1) * (fcell x.d3 (fnV 97 x.c1) * (fcell x.d4 (fnV 98 x.c1) * (fcell x.d5 (fnV 99 x.c1) * (fcell x.d6 (fnV 100 x.c1))))))) ((mk_reg_no bh ba x.c1 s.1 t mv r hr (by omega)).dyn (fun w => by kernel_rfl)) (by simp only [hzT, capR]; ac_rfl) (fun v => by rw [key none (by simp only [kitTask, hrd, h20, if_true, if_neg h0]), capR]; ac_rfl)
    rw [if_neg h20] at hK
    cases hK
end Go.Proofs.YtegafhhdegnigaaGreat
