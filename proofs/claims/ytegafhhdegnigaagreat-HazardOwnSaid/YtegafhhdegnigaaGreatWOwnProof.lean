/-
  PROVED: for every configuration and every script, whatever the memory: reclaimlaw05.HazardOwn answers true and leaves its arguments as they were. No condition.
-/
import Derived.Test.YtegafhhdegnigaaGreatWOwn
import Derived.Test.YtegafhhdegnigaaGreatWLiftM
set_option linter.all false
namespace Go.Proofs.YtegafhhdegnigaaGreat
open Go.ChangeShapes Go.WideShapes Go.ChangeAt Go.RowKit Hp
theorem own : ownKnob Tryz.prog.godebug = none := by kernel_rfl
theorem laidOutHere : laidOutB Tryz.prog = true := by kernel_rfl
theorem readCfg : Tryz.prog.readableRec 23 = true ∧ decide (23 < Tryz.prog.types.size) = true := ⟨by kernel_rfl,by kernel_rfl⟩
theorem readMoves : Tryz.prog.readableRec 24 = true ∧ decide (24 < Tryz.prog.types.size) = true := ⟨by kernel_rfl,by kernel_rfl⟩
set_option maxRecDepth 100000 in
theorem ownRun_lifted (os : Os) (started : os.Started) (H : Type) (enc : TypeId × Value → H) :
    ReturnsInHanded {} Tryz.checked os 9 .any (Rows.hazardOwnSpec.pre6 enc Tryz.prog Tryz.f9 Rows.hazardOwnRow.domain false) (Rows.hazardOwnSpec.post enc Tryz.prog Tryz.f9 false true false false) := by
  refine returnsInHanded_of_change (C := Tryz.checked) own started (by kernel_rfl) Tryz.func9
    (ChangeSpec.witness6 (enc := enc) (C := Tryz.checked) false ⟨#[],#[.agg #[.int .i64 0,.int .i64 0,.int .i64 0,.int .i64 0,.int .i64 0,.int .i64 0,.int .i64 0],.slice none 0 0],[]⟩ 8 (by kernel_rfl) (by kernel_rfl) (by kernel_rfl) (by kernel_rfl)) ?_
  intro W base args ds gs before hval0 hW hcnd _
  have hval : ∀ (j : Nat) t v,Tryz.f9.params[j]? = some t → args[j]? = some v → Value.okWide Tryz.prog W .any base t v := hval0
  have hW' := hW
  obtain ⟨p,q,hA0,hV,rfl,hfz,hnd⟩ := hW
  have hA : DataW.TrodAll enc Tryz.prog W 0 (fun _ => true) true Tryz.f9.params.toList args.toList ds p := hA0
  rw [Tryz.params9] at hA hval
  obtain ⟨v0,v1,d0,d1,p0,p1,rfl,rfl,rfl,h0,h1⟩ := trodAll_two hA
  obtain ⟨rfl,rfl⟩ := trodVars_none hV
  obtain ⟨z0,z1,z2,z3,z4,z5,z6,rfl,-,-⟩ := open_int7 Tryz.underlying23 (by kernel_rfl) (by kernel_rfl) Tryz.underlying3 rfl rfl rfl rfl rfl rfl rfl (hval 0 23 v0 rfl rfl) h0
  obtain ⟨mvs,hRd⟩ := open_moves Tryz.underlying24 Tryz.underlying86 (by kernel_rfl) (by kernel_rfl) Tryz.underlying3 Tryz.underlying45 Tryz.underlying3 Tryz.underlying3 (okWide_slice Tryz.underlying24 (hval 1 24 v1 rfl rfl)) h1
  refine (Gives.belowA (haz_own ⟨z0,z1,z2,z3,z4,z5,z6⟩ mvs _ (full W) hRd)).mono fun e W' ⟨he,hg⟩ => ?_
  subst he
  refine ⟨_,rfl,post_true laidOutHere rfl hW' ?_ hg rfl Tryz.underlying4 rfl rfl rfl⟩
  intro t ht
  rw [Tryz.params9] at ht
  simp only [List.mem_cons,List.not_mem_nil,or_false] at ht
  rcases ht with rfl | rfl
  · exact ⟨readCfg.1,of_decide_eq_true readCfg.2⟩
  · exact ⟨readMoves.1,of_decide_eq_true readMoves.2⟩
theorem hazardOwn_holds : Rows.HazardOwnSaid :=
  OpenClaim.holds_of_wide 9 Tryz.f9 rfl rfl rfl rfl rfl rfl rfl ⟨rfl,rfl,rfl,rfl,rfl⟩ rfl rfl rfl rfl rfl (by kernel_rfl) Tryz.func9 (by kernel_rfl)
    (of_decide_eq_true (by kernel_rfl)) (by unfold Func.isWrapper;first | (rw [if_pos (by decide +kernel)];kernel_rfl) | (rw [if_neg (by decide +kernel)];exact ⟨rfl,rfl⟩))
    (fun os started H enc _ => ownRun_lifted os started H enc)
#print axioms hazardOwn_holds
end Go.Proofs.YtegafhhdegnigaaGreat
