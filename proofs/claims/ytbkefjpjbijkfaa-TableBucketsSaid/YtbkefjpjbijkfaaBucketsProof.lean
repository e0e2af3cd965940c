/-
  PROVED: for every configuration and every key, whatever the memory: reclaimlaw09.TableBuckets answers true and leaves its arguments as they were. No condition.
-/
import Derived.Test.YtbkefjpjbijkfaaBuckets3
import Derived.Test.YtbkefjpjbijkfaaLift
namespace Go.Proofs.Ytbkefjpjbijkfaa
open Go.ChangeShapes Go.WideShapes Go.ChangeAt Go.RowKit Hp

theorem own : ownKnob Try.prog.godebug = none := by kernel_rfl
theorem laidOutHere : laidOutB Try.prog = true := by kernel_rfl
theorem readCfg : Try.prog.readableRec 23 = true ∧ decide (23 < Try.prog.types.size) = true := ⟨by kernel_rfl, by kernel_rfl⟩
theorem readInt : Try.prog.readableRec 3 = true ∧ decide (3 < Try.prog.types.size) = true := ⟨by kernel_rfl, by kernel_rfl⟩

set_option maxRecDepth 100000 in
theorem lifted (os : Os) (started : os.Started) (H : Type) (enc : TypeId × Value → H) :
    ReturnsInHanded {} Try.checked os 3 .any (Rows.tableBucketsSpec.pre6 enc Try.prog Try.f3 Rows.tableBucketsRow.domain false) (Rows.tableBucketsSpec.post enc Try.prog Try.f3 false true false false) := by
  refine returnsInHanded_of_change (C := Try.checked) own started (by kernel_rfl) Try.func3
    (ChangeSpec.witness6 (enc := enc) (C := Try.checked) false ⟨#[], #[.agg #[.int .i64 0, .int .i64 0, .int .i64 0, .int .i64 0, .int .i64 0, .int .i64 0, .int .i64 0], .int .i64 0], []⟩ 8 (by kernel_rfl) (by kernel_rfl) (by kernel_rfl) (by kernel_rfl)) ?_
  intro W base args ds gs before hval0 hW hcnd _
  have hval : ∀ (j : Nat) t v, Try.f3.params[j]? = some t → args[j]? = some v → Value.okWide Try.prog W .any base t v := hval0
  have hW' := hW
  obtain ⟨p, q, hA0, hV, rfl, hfz, hnd⟩ := hW
  have hA : DataW.TrodAll enc Try.prog W 0 (fun _ => true) true Try.f3.params.toList args.toList ds p := hA0
  rw [Try.params3] at hA hval
  obtain ⟨v0, v1, d0, d1, p0, p1, rfl, rfl, rfl, h0, h1⟩ := trodAll_two hA
  obtain ⟨rfl, rfl⟩ := trodVars_none hV
  obtain ⟨z0, z1, z2, z3, z4, z5, z6, rfl, -, -⟩ := open_int7 Try.underlying23 (by kernel_rfl) (by kernel_rfl) Try.underlying3 rfl rfl rfl rfl rfl rfl rfl (hval 0 23 v0 rfl rfl) h0
  obtain ⟨a1, rfl, -, -, -⟩ := open_int Try.underlying3 (hval 1 3 v1 rfl rfl) h1
  refine ((law_any z0 z1 z2 z3 z4 z5 z6 a1).below W).mono fun e W' ⟨he, hg⟩ => ?_
  subst he
  refine ⟨_, rfl, post_true laidOutHere rfl hW' ?_ hg rfl Try.underlying4 rfl rfl rfl⟩
  intro t ht
  rw [Try.params3] at ht
  simp only [List.mem_cons, List.not_mem_nil, or_false] at ht
  rcases ht with rfl | rfl
  · exact ⟨readCfg.1, of_decide_eq_true readCfg.2⟩
  · exact ⟨readInt.1, of_decide_eq_true readInt.2⟩

theorem tableBuckets_holds : Rows.TableBucketsSaid :=
  OpenClaim.holds_of_wide 3 Try.f3 rfl rfl rfl rfl rfl rfl rfl ⟨rfl, rfl, rfl, rfl, rfl⟩ rfl rfl rfl rfl rfl (by kernel_rfl) Try.func3 (by kernel_rfl)
    (of_decide_eq_true (by kernel_rfl)) (by unfold Func.isWrapper; first | (rw [if_pos (by decide +kernel)]; kernel_rfl) | (rw [if_neg (by decide +kernel)]; exact ⟨rfl, rfl⟩))
    (fun os started H enc _ => lifted os started H enc)
#print axioms tableBuckets_holds
end Go.Proofs.Ytbkefjpjbijkfaa
