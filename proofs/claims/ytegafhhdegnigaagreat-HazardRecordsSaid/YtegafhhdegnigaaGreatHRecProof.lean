/-
  PROVED: for every configuration and every script, whatever the memory: reclaimlaw05.HazardRecords answers true and leaves its arguments as they were. No condition.
-/
import Derived.Test.YtegafhhdegnigaaGreatHRecW
import Derived.Test.YtegafhhdegnigaaGreatHLiftM
set_option linter.all false
namespace Go.Proofs.YtegafhhdegnigaaGreat
open Go.ChangeShapes Go.WideShapes Go.ChangeAt Go.RowKit Hp
theorem own : ownKnob Tryz.prog.godebug = none := by kernel_rfl
theorem laidOutHere : laidOutB Tryz.prog = true := by kernel_rfl
theorem readCfg : Tryz.prog.readableRec 23 = true ∧ decide (23 < Tryz.prog.types.size) = true := ⟨by kernel_rfl,by kernel_rfl⟩
theorem readMoves : Tryz.prog.readableRec 24 = true ∧ decide (24 < Tryz.prog.types.size) = true := ⟨by kernel_rfl,by kernel_rfl⟩
section
variable {H : Type} {enc : TypeId × Value → H} {P : Program} {base : Nat} {spare : Nat → Bool} {held : Bool}
theorem trod_len {ts t : TypeId} {W : World} {a : Option Addr} {len cap : Nat} {d : DataW H} {p : List MemPlace} (hts : P.underlying ts = some (.slice t))
    (h : DataW.Trod enc P W base spare held ts (.slice a len cap) d p) : len ≤ 9223372036854775807 := by
  obtain ⟨fuel,hf⟩ := h
  rcases Deep.open_slice hts hf with ⟨h1,_⟩ | ⟨a',len',cap',m,n,D,Pl,h1,_,hl,hcm,_⟩
  · have : a = none ∧ len = 0 ∧ cap = 0 := by simpa [Value.cells] using h1
    omega
  · have : a = some a' ∧ len = len' ∧ cap = cap' := by simpa [Value.cells] using h1
    unfold maxLen at hcm
    omega
end
set_option maxRecDepth 100000 in
theorem records_lifted (os : Os) (started : os.Started) (H : Type) (enc : TypeId × Value → H) :
    ReturnsInHanded {} Tryz.checked os 4 .any (Rows.hazardRecordsSpec.pre6 enc Tryz.prog Tryz.f4 Rows.hazardRecordsRow.domain false) (Rows.hazardRecordsSpec.post enc Tryz.prog Tryz.f4 false true false false) := by
  refine returnsInHanded_of_change (C := Tryz.checked) own started (by kernel_rfl) Tryz.func4
    (ChangeSpec.witness6 (enc := enc) (C := Tryz.checked) false ⟨#[],#[.agg #[.int .i64 0,.int .i64 0,.int .i64 0,.int .i64 0,.int .i64 0,.int .i64 0,.int .i64 0],.slice none 0 0],[]⟩ 8 (by kernel_rfl) (by kernel_rfl) (by kernel_rfl) (by kernel_rfl)) ?_
  intro W base args ds gs before hval0 hW hcnd _
  have hval : ∀ (j : Nat) t v,Tryz.f4.params[j]? = some t → args[j]? = some v → Value.okWide Tryz.prog W .any base t v := hval0
  have hW' := hW
  obtain ⟨p,q,hA0,hV,rfl,hfz,hnd⟩ := hW
  have hA : DataW.TrodAll enc Tryz.prog W 0 (fun _ => true) true Tryz.f4.params.toList args.toList ds p := hA0
  rw [Tryz.params4] at hA hval
  obtain ⟨v0,v1,d0,d1,p0,p1,rfl,rfl,rfl,h0,h1⟩ := trodAll_two hA
  obtain ⟨rfl,rfl⟩ := trodVars_none hV
  obtain ⟨z0,z1,z2,z3,z4,z5,z6,rfl,-,-⟩ := open_int7 Tryz.underlying23 (by kernel_rfl) (by kernel_rfl) Tryz.underlying3 rfl rfl rfl rfl rfl rfl rfl (hval 0 23 v0 rfl rfl) h0
  obtain ⟨mvs,hRd⟩ := open_moves Tryz.underlying24 Tryz.underlying86 (by kernel_rfl) (by kernel_rfl) Tryz.underlying3 Tryz.underlying45 Tryz.underlying3 Tryz.underlying3 (okWide_slice Tryz.underlying24 (hval 1 24 v1 rfl rfl)) h1
  have hlen : mvs.length ≤ 9223372036854775807 := by
    obtain ⟨a,n,rfl⟩ := hRd.len
    have := trod_len Tryz.underlying24 h1
    simpa using this
  refine (Gives.belowA (haz_records ⟨z0,z1,z2,z3,z4,z5,z6⟩ mvs _ (full W) hRd hlen)).mono fun e W' ⟨he,hg⟩ => ?_
  subst he
  refine ⟨_,rfl,post_true laidOutHere rfl hW' ?_ hg rfl Tryz.underlying4 rfl rfl rfl⟩
  intro t ht
  rw [Tryz.params4] at ht
  simp only [List.mem_cons,List.not_mem_nil,or_false] at ht
  rcases ht with rfl | rfl
  · exact ⟨readCfg.1,of_decide_eq_true readCfg.2⟩
  · exact ⟨readMoves.1,of_decide_eq_true readMoves.2⟩
theorem hazardRecords_holds : Rows.HazardRecordsSaid :=
  OpenClaim.holds_of_wide 4 Tryz.f4 rfl rfl rfl rfl rfl rfl rfl ⟨rfl,rfl,rfl,rfl,rfl⟩ rfl rfl rfl rfl rfl (by kernel_rfl) Tryz.func4 (by kernel_rfl)
    (of_decide_eq_true (by kernel_rfl)) (by unfold Func.isWrapper;(rw [if_neg (by decide +kernel)];exact ⟨rfl,rfl⟩))
    (fun os started H enc _ => records_lifted os started H enc)
#print axioms hazardRecords_holds
end Go.Proofs.YtegafhhdegnigaaGreat
