/-
  PROVED: for every thread, hazard and record, whatever the memory: reclaimlaw05.HazardZero answers true and leaves its arguments as they were. No condition.
-/
import Derived.Test.YtegafhhdegnigaaGreatHZero
import Derived.Test.YtegafhhdegnigaaGreatHLift
set_option linter.all false
namespace Go.Proofs.YtegafhhdegnigaaGreat
open Go.ChangeShapes Go.WideShapes Go.ChangeAt Go.RowKit Hp

theorem own : ownKnob Tryz.prog.godebug = none := by kernel_rfl
theorem laidOutHere : laidOutB Tryz.prog = true := by kernel_rfl
theorem readInt : Tryz.prog.readableRec 3 = true ∧ decide (3 < Tryz.prog.types.size) = true := ⟨by kernel_rfl, by kernel_rfl⟩

set_option maxRecDepth 100000 in
theorem zero_lifted (os : Os) (started : os.Started) (H : Type) (enc : TypeId × Value → H) :
    ReturnsInHanded {} Tryz.checked os 10 .any (Rows.hazardZeroSpec.pre6 enc Tryz.prog Tryz.f10 Rows.hazardZeroRow.domain false) (Rows.hazardZeroSpec.post enc Tryz.prog Tryz.f10 false true false false) := by
  refine returnsInHanded_of_change (C := Tryz.checked) own started (by kernel_rfl) Tryz.func10
    (ChangeSpec.witness6 (enc := enc) (C := Tryz.checked) false ⟨#[], #[.int .i64 0, .int .i64 0, .int .i64 0], []⟩ 8 (by kernel_rfl) (by kernel_rfl) (by kernel_rfl) (by kernel_rfl)) ?_
  intro W base args ds gs before hval0 hW hcnd _
  have hval : ∀ (j : Nat) t v, Tryz.f10.params[j]? = some t → args[j]? = some v → Value.okWide Tryz.prog W .any base t v := hval0
  have hW' := hW
  obtain ⟨p, q, hA0, hV, rfl, hfz, hnd⟩ := hW
  have hA : DataW.TrodAll enc Tryz.prog W 0 (fun _ => true) true Tryz.f10.params.toList args.toList ds p := hA0
  rw [Tryz.params10] at hA hval
  obtain ⟨v0, v1, v2, d0, d1, d2, p0, p1, p2, rfl, rfl, rfl, h0, h1, h2⟩ := trodAll_three hA
  obtain ⟨rfl, rfl⟩ := trodVars_none hV
  obtain ⟨a0, rfl, -, -, -⟩ := open_int Tryz.underlying3 (hval 0 3 v0 rfl rfl) h0
  obtain ⟨a1, rfl, -, -, -⟩ := open_int Tryz.underlying3 (hval 1 3 v1 rfl rfl) h1
  obtain ⟨a2, rfl, -, -, -⟩ := open_int Tryz.underlying3 (hval 2 3 v2 rfl rfl) h2
  refine ((haz_zero a0 a1 a2).below W).mono fun e W' ⟨he, hg⟩ => ?_
  subst he
  refine ⟨_, rfl, post_true laidOutHere rfl hW' ?_ hg rfl Tryz.underlying4 rfl rfl rfl⟩
  intro t ht
  rw [Tryz.params10] at ht
  simp only [List.mem_cons, List.not_mem_nil, or_false] at ht
  rcases ht with rfl | rfl | rfl <;> exact ⟨readInt.1, of_decide_eq_true readInt.2⟩

theorem hazardZero_holds : Rows.HazardZeroSaid :=
  OpenClaim.holds_of_wide 10 Tryz.f10 rfl rfl rfl rfl rfl rfl rfl ⟨rfl, rfl, rfl, rfl, rfl⟩ rfl rfl rfl rfl rfl (by kernel_rfl) Tryz.func10 (by kernel_rfl)
    (of_decide_eq_true (by kernel_rfl)) (by unfold Func.isWrapper; (rw [if_neg (by decide +kernel)]; exact ⟨rfl, rfl⟩))
    (fun os started H enc _ => zero_lifted os started H enc)
#print axioms hazardZero_holds
end Go.Proofs.YtegafhhdegnigaaGreat
