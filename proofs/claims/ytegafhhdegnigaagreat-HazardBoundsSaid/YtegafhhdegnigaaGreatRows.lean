/-
  No cell of these rows narrows 'for every input' (looked for: loops, veiled, ifaces, maps, wideKeys, modest, calm, conditions, laid).
  DERIVED. THE GIVEN ROWS OF THIS SEAT. 11 by the template 'for every input the law returns true; each argument reads behind the call as it read before'; 0 by the template 'total and deterministic' (their statements: YtegafhhdegnigaaGreatTotals.lean).
  GIVEN WITH THE SEED: the statements are not yours to turn. If you find one false, say at which input.
  Laid BY PROGRAM, IN A SANDBOX (cutbox-rows.mjs): the forced cells as the released guide's own fill.sh prints them over the translation 13bd14dfdd9893f3… (all of the seat's roots in one cut). By AI agents, Wed Nov 11 2026. No macro, syntax, notation, axiom, sorry.
-/
import Derived.Test.YtegafhhdegnigaaGreatChecked
import GoSem.Claim
import GoSem.ClaimJoined
import GoSem.ClaimMapViews
import Derived.JoinedTies
import Derived.KernelRfl
namespace Go.Proofs.YtegafhhdegnigaaGreat
/- THE CELL 'sum', in the pinned program and in every row, IS THE sha256 OF THE DUMP (.gsa) THAT YtegafhhdegnigaaGreatProg.lean LOADS. Nothing in Lean hashes anything: it is a label: what it is worth is what the hold of that sum in a sandbox is worth. -/
noncomputable def Tryz.pinned : Pinned := { name := "ytegafhhdegnigaagreat", sum := "13bd14dfdd9893f38317624126956c158fea9417ff9e348f74975e9e8fff3933", checked := Tryz.checked }
namespace Rows
def none {H : Type} : Left H := { results := [], args := [] }

/-- 'reclaimlaw05.HazardPlays': WHATEVER THE INPUT: true; the input reads as it did. -/
def hazardPlaysSpec : ChangeSpec := { name := "hazardPlays", fn := fun _ => fun
  | [d1, d2] => { results := [.lit (.bool true)], args := [d1, d2] }
  | _ => none }
def hazardPlaysRow : OpenClaim := { program := "ytegafhhdegnigaagreat", sum := "13bd14dfdd9893f38317624126956c158fea9417ff9e348f74975e9e8fff3933", func := "reclaim/reclaimlaw05.HazardPlays", spec := "hazardPlays", unfollowed := true, recurses := true, apart := false }
def HazardPlaysSaid : Prop := hazardPlaysRow.holds Tryz.pinned (OpenSpec.ofChange hazardPlaysSpec)

/-- ITS FALSE NEIGHBOUR: 'it returns false'. Refute it at one input. -/
def hazardPlaysWrong : ChangeSpec := { name := "hazardPlays", fn := fun _ => fun
  | [d1, d2] => { results := [.lit (.bool false)], args := [d1, d2] }
  | _ => none }
def HazardPlaysWrongFalsely : Prop := hazardPlaysRow.holds Tryz.pinned (OpenSpec.ofChange hazardPlaysWrong)

/-- 'reclaimlaw05.HazardRecords': WHATEVER THE INPUT: true; the input reads as it did. -/
def hazardRecordsSpec : ChangeSpec := { name := "hazardRecords", fn := fun _ => fun
  | [d1, d2] => { results := [.lit (.bool true)], args := [d1, d2] }
  | _ => none }
def hazardRecordsRow : OpenClaim := { program := "ytegafhhdegnigaagreat", sum := "13bd14dfdd9893f38317624126956c158fea9417ff9e348f74975e9e8fff3933", func := "reclaim/reclaimlaw05.HazardRecords", spec := "hazardRecords", unfollowed := true, recurses := true, apart := false }
def HazardRecordsSaid : Prop := hazardRecordsRow.holds Tryz.pinned (OpenSpec.ofChange hazardRecordsSpec)

/-- ITS FALSE NEIGHBOUR: 'it returns false'. Refute it at one input. -/
def hazardRecordsWrong : ChangeSpec := { name := "hazardRecords", fn := fun _ => fun
  | [d1, d2] => { results := [.lit (.bool false)], args := [d1, d2] }
  | _ => none }
def HazardRecordsWrongFalsely : Prop := hazardRecordsRow.holds Tryz.pinned (OpenSpec.ofChange hazardRecordsWrong)

/-- 'reclaimlaw05.HazardCell': WHATEVER THE INPUT: true; the input reads as it did. -/
def hazardCellSpec : ChangeSpec := { name := "hazardCell", fn := fun _ => fun
  | [d1, d2] => { results := [.lit (.bool true)], args := [d1, d2] }
  | _ => none }
def hazardCellRow : OpenClaim := { program := "ytegafhhdegnigaagreat", sum := "13bd14dfdd9893f38317624126956c158fea9417ff9e348f74975e9e8fff3933", func := "reclaim/reclaimlaw05.HazardCell", spec := "hazardCell", unfollowed := true, recurses := true, apart := false }
def HazardCellSaid : Prop := hazardCellRow.holds Tryz.pinned (OpenSpec.ofChange hazardCellSpec)

/-- ITS FALSE NEIGHBOUR: 'it returns false'. Refute it at one input. -/
def hazardCellWrong : ChangeSpec := { name := "hazardCell", fn := fun _ => fun
  | [d1, d2] => { results := [.lit (.bool false)], args := [d1, d2] }
  | _ => none }
def HazardCellWrongFalsely : Prop := hazardCellRow.holds Tryz.pinned (OpenSpec.ofChange hazardCellWrong)

/-- 'reclaimlaw05.HazardSafe': WHATEVER THE INPUT: true; the input reads as it did. -/
def hazardSafeSpec : ChangeSpec := { name := "hazardSafe", fn := fun _ => fun
  | [d1, d2] => { results := [.lit (.bool true)], args := [d1, d2] }
  | _ => none }
def hazardSafeRow : OpenClaim := { program := "ytegafhhdegnigaagreat", sum := "13bd14dfdd9893f38317624126956c158fea9417ff9e348f74975e9e8fff3933", func := "reclaim/reclaimlaw05.HazardSafe", spec := "hazardSafe", unfollowed := true, recurses := true, apart := false }
def HazardSafeSaid : Prop := hazardSafeRow.holds Tryz.pinned (OpenSpec.ofChange hazardSafeSpec)

/-- ITS FALSE NEIGHBOUR: 'it returns false'. Refute it at one input. -/
def hazardSafeWrong : ChangeSpec := { name := "hazardSafe", fn := fun _ => fun
  | [d1, d2] => { results := [.lit (.bool false)], args := [d1, d2] }
  | _ => none }
def HazardSafeWrongFalsely : Prop := hazardSafeRow.holds Tryz.pinned (OpenSpec.ofChange hazardSafeWrong)

/-- 'reclaimlaw05.HazardBounds': WHATEVER THE INPUT: true; the input reads as it did. -/
def hazardBoundsSpec : ChangeSpec := { name := "hazardBounds", fn := fun _ => fun
  | [d1, d2] => { results := [.lit (.bool true)], args := [d1, d2] }
  | _ => none }
def hazardBoundsRow : OpenClaim := { program := "ytegafhhdegnigaagreat", sum := "13bd14dfdd9893f38317624126956c158fea9417ff9e348f74975e9e8fff3933", func := "reclaim/reclaimlaw05.HazardBounds", spec := "hazardBounds", unfollowed := true, recurses := true, apart := false }
def HazardBoundsSaid : Prop := hazardBoundsRow.holds Tryz.pinned (OpenSpec.ofChange hazardBoundsSpec)

/-- ITS FALSE NEIGHBOUR: 'it returns false'. Refute it at one input. -/
def hazardBoundsWrong : ChangeSpec := { name := "hazardBounds", fn := fun _ => fun
  | [d1, d2] => { results := [.lit (.bool false)], args := [d1, d2] }
  | _ => none }
def HazardBoundsWrongFalsely : Prop := hazardBoundsRow.holds Tryz.pinned (OpenSpec.ofChange hazardBoundsWrong)

/-- 'reclaimlaw05.HazardAlone': WHATEVER THE INPUT: true; the input reads as it did. -/
def hazardAloneSpec : ChangeSpec := { name := "hazardAlone", fn := fun _ => fun
  | [d1, d2, d3] => { results := [.lit (.bool true)], args := [d1, d2, d3] }
  | _ => none }
def hazardAloneRow : OpenClaim := { program := "ytegafhhdegnigaagreat", sum := "13bd14dfdd9893f38317624126956c158fea9417ff9e348f74975e9e8fff3933", func := "reclaim/reclaimlaw05.HazardAlone", spec := "hazardAlone", unfollowed := true, recurses := true, apart := false }
def HazardAloneSaid : Prop := hazardAloneRow.holds Tryz.pinned (OpenSpec.ofChange hazardAloneSpec)

/-- ITS FALSE NEIGHBOUR: 'it returns false'. Refute it at one input. -/
def hazardAloneWrong : ChangeSpec := { name := "hazardAlone", fn := fun _ => fun
  | [d1, d2, d3] => { results := [.lit (.bool false)], args := [d1, d2, d3] }
  | _ => none }
def HazardAloneWrongFalsely : Prop := hazardAloneRow.holds Tryz.pinned (OpenSpec.ofChange hazardAloneWrong)

/-- 'reclaimlaw05.HazardOwn': WHATEVER THE INPUT: true; the input reads as it did. -/
def hazardOwnSpec : ChangeSpec := { name := "hazardOwn", fn := fun _ => fun
  | [d1, d2] => { results := [.lit (.bool true)], args := [d1, d2] }
  | _ => none }
def hazardOwnRow : OpenClaim := { program := "ytegafhhdegnigaagreat", sum := "13bd14dfdd9893f38317624126956c158fea9417ff9e348f74975e9e8fff3933", func := "reclaim/reclaimlaw05.HazardOwn", spec := "hazardOwn", unfollowed := true, recurses := true, apart := false }
def HazardOwnSaid : Prop := hazardOwnRow.holds Tryz.pinned (OpenSpec.ofChange hazardOwnSpec)

/-- ITS FALSE NEIGHBOUR: 'it returns false'. Refute it at one input. -/
def hazardOwnWrong : ChangeSpec := { name := "hazardOwn", fn := fun _ => fun
  | [d1, d2] => { results := [.lit (.bool false)], args := [d1, d2] }
  | _ => none }
def HazardOwnWrongFalsely : Prop := hazardOwnRow.holds Tryz.pinned (OpenSpec.ofChange hazardOwnWrong)

/-- 'reclaimlaw05.HazardZero': WHATEVER THE INPUT: true; the input reads as it did. -/
def hazardZeroSpec : ChangeSpec := { name := "hazardZero", fn := fun _ => fun
  | [d1, d2, d3] => { results := [.lit (.bool true)], args := [d1, d2, d3] }
  | _ => none }
def hazardZeroRow : OpenClaim := { program := "ytegafhhdegnigaagreat", sum := "13bd14dfdd9893f38317624126956c158fea9417ff9e348f74975e9e8fff3933", func := "reclaim/reclaimlaw05.HazardZero", spec := "hazardZero", unfollowed := true, recurses := true, apart := false }
def HazardZeroSaid : Prop := hazardZeroRow.holds Tryz.pinned (OpenSpec.ofChange hazardZeroSpec)

/-- ITS FALSE NEIGHBOUR: 'it returns false'. Refute it at one input. -/
def hazardZeroWrong : ChangeSpec := { name := "hazardZero", fn := fun _ => fun
  | [d1, d2, d3] => { results := [.lit (.bool false)], args := [d1, d2, d3] }
  | _ => none }
def HazardZeroWrongFalsely : Prop := hazardZeroRow.holds Tryz.pinned (OpenSpec.ofChange hazardZeroWrong)

/-- 'reclaimlaw05.HazardScans': WHATEVER THE INPUT: true; the input reads as it did. -/
def hazardScansSpec : ChangeSpec := { name := "hazardScans", fn := fun _ => fun
  | [d1, d2, d3] => { results := [.lit (.bool true)], args := [d1, d2, d3] }
  | _ => none }
def hazardScansRow : OpenClaim := { program := "ytegafhhdegnigaagreat", sum := "13bd14dfdd9893f38317624126956c158fea9417ff9e348f74975e9e8fff3933", func := "reclaim/reclaimlaw05.HazardScans", spec := "hazardScans", unfollowed := true, recurses := true, apart := false }
def HazardScansSaid : Prop := hazardScansRow.holds Tryz.pinned (OpenSpec.ofChange hazardScansSpec)

/-- ITS FALSE NEIGHBOUR: 'it returns false'. Refute it at one input. -/
def hazardScansWrong : ChangeSpec := { name := "hazardScans", fn := fun _ => fun
  | [d1, d2, d3] => { results := [.lit (.bool false)], args := [d1, d2, d3] }
  | _ => none }
def HazardScansWrongFalsely : Prop := hazardScansRow.holds Tryz.pinned (OpenSpec.ofChange hazardScansWrong)

/-- 'reclaimlaw05.HazardObjects': WHATEVER THE INPUT: true; the input reads as it did. -/
def hazardObjectsSpec : ChangeSpec := { name := "hazardObjects", fn := fun _ => fun
  | [d1, d2] => { results := [.lit (.bool true)], args := [d1, d2] }
  | _ => none }
def hazardObjectsRow : OpenClaim := { program := "ytegafhhdegnigaagreat", sum := "13bd14dfdd9893f38317624126956c158fea9417ff9e348f74975e9e8fff3933", func := "reclaim/reclaimlaw05.HazardObjects", spec := "hazardObjects", unfollowed := true, recurses := true, apart := false }
def HazardObjectsSaid : Prop := hazardObjectsRow.holds Tryz.pinned (OpenSpec.ofChange hazardObjectsSpec)

/-- ITS FALSE NEIGHBOUR: 'it returns false'. Refute it at one input. -/
def hazardObjectsWrong : ChangeSpec := { name := "hazardObjects", fn := fun _ => fun
  | [d1, d2] => { results := [.lit (.bool false)], args := [d1, d2] }
  | _ => none }
def HazardObjectsWrongFalsely : Prop := hazardObjectsRow.holds Tryz.pinned (OpenSpec.ofChange hazardObjectsWrong)

/-- 'reclaimlaw05.HazardLists': WHATEVER THE INPUT: true; the input reads as it did. -/
def hazardListsSpec : ChangeSpec := { name := "hazardLists", fn := fun _ => fun
  | [d1, d2] => { results := [.lit (.bool true)], args := [d1, d2] }
  | _ => none }
def hazardListsRow : OpenClaim := { program := "ytegafhhdegnigaagreat", sum := "13bd14dfdd9893f38317624126956c158fea9417ff9e348f74975e9e8fff3933", func := "reclaim/reclaimlaw05.HazardLists", spec := "hazardLists", unfollowed := true, recurses := true, apart := false }
def HazardListsSaid : Prop := hazardListsRow.holds Tryz.pinned (OpenSpec.ofChange hazardListsSpec)

/-- ITS FALSE NEIGHBOUR: 'it returns false'. Refute it at one input. -/
def hazardListsWrong : ChangeSpec := { name := "hazardLists", fn := fun _ => fun
  | [d1, d2] => { results := [.lit (.bool false)], args := [d1, d2] }
  | _ => none }
def HazardListsWrongFalsely : Prop := hazardListsRow.holds Tryz.pinned (OpenSpec.ofChange hazardListsWrong)

/- THE SECOND FORM. 'bulk': how many values and letters a reading holds, each counted each time it is reached (what is shared counts as often as it is met; a slice's spare places count too). A statement '..UptoSaid' is the law's where the arguments, and the package variables that the reading takes, are together of bulk at most 1048576: NARROWER than '..Said'. Prove '..Said' where nothing that the law and all that it calls make is longer than what came in: it says more and counts as full. Else prove '..UptoSaid'. A law counts once. -/
mutual
def uptoBulk {H : Type} : DataW H → Nat
  | .lit (.string bytes) => bytes.length + 1
  | .lit _ => 1
  | .nil => 1
  | .ptr d => uptoBulk d + 1
  | .slice elems spare => uptoBulkAll elems + uptoBulkAll spare + 1
  | .agg parts => uptoBulkAll parts + 1
  | .iface _ d => uptoBulk d + 1
  | .map entries => uptoBulkEntries entries + 1
  | .held _ => 1
def uptoBulkAll {H : Type} : List (DataW H) → Nat
  | [] => 0
  | d :: r => uptoBulk d + uptoBulkAll r
def uptoBulkEntries {H : Type} : List (Lit × DataW H) → Nat
  | [] => 0
  | x :: r => uptoBulkEntry x + uptoBulkEntries r
def uptoBulkEntry {H : Type} : Lit × DataW H → Nat
  | (.string bytes, d) => bytes.length + uptoBulk d + 1
  | (_, d) => uptoBulk d + 1
 end
def uptoSmall : (H : Type) → List (DataW H) → Bool := fun _ ds => decide (uptoBulkAll ds ≤ 1048576)
def OpenSpec.upto (s : _root_.Go.ChangeSpec) : _root_.Go.OpenSpec := { _root_.Go.OpenSpec.ofChange s with cond := some uptoSmall }

/-- 'reclaimlaw05.HazardPlays', WHERE WHAT IT READS IS OF BULK AT MOST 1048576: true; the input reads as it did. -/
def hazardPlaysUptoRow : OpenClaim := { program := "ytegafhhdegnigaagreat", sum := "13bd14dfdd9893f38317624126956c158fea9417ff9e348f74975e9e8fff3933", func := "reclaim/reclaimlaw05.HazardPlays", spec := "hazardPlays", unfollowed := true, recurses := true, apart := false, narrowed := true }
def HazardPlaysUptoSaid : Prop := hazardPlaysUptoRow.holds Tryz.pinned (OpenSpec.upto hazardPlaysSpec)

/-- 'reclaimlaw05.HazardRecords', WHERE WHAT IT READS IS OF BULK AT MOST 1048576: true; the input reads as it did. -/
def hazardRecordsUptoRow : OpenClaim := { program := "ytegafhhdegnigaagreat", sum := "13bd14dfdd9893f38317624126956c158fea9417ff9e348f74975e9e8fff3933", func := "reclaim/reclaimlaw05.HazardRecords", spec := "hazardRecords", unfollowed := true, recurses := true, apart := false, narrowed := true }
def HazardRecordsUptoSaid : Prop := hazardRecordsUptoRow.holds Tryz.pinned (OpenSpec.upto hazardRecordsSpec)

/-- 'reclaimlaw05.HazardCell', WHERE WHAT IT READS IS OF BULK AT MOST 1048576: true; the input reads as it did. -/
def hazardCellUptoRow : OpenClaim := { program := "ytegafhhdegnigaagreat", sum := "13bd14dfdd9893f38317624126956c158fea9417ff9e348f74975e9e8fff3933", func := "reclaim/reclaimlaw05.HazardCell", spec := "hazardCell", unfollowed := true, recurses := true, apart := false, narrowed := true }
def HazardCellUptoSaid : Prop := hazardCellUptoRow.holds Tryz.pinned (OpenSpec.upto hazardCellSpec)

/-- 'reclaimlaw05.HazardSafe', WHERE WHAT IT READS IS OF BULK AT MOST 1048576: true; the input reads as it did. -/
def hazardSafeUptoRow : OpenClaim := { program := "ytegafhhdegnigaagreat", sum := "13bd14dfdd9893f38317624126956c158fea9417ff9e348f74975e9e8fff3933", func := "reclaim/reclaimlaw05.HazardSafe", spec := "hazardSafe", unfollowed := true, recurses := true, apart := false, narrowed := true }
def HazardSafeUptoSaid : Prop := hazardSafeUptoRow.holds Tryz.pinned (OpenSpec.upto hazardSafeSpec)

/-- 'reclaimlaw05.HazardBounds', WHERE WHAT IT READS IS OF BULK AT MOST 1048576: true; the input reads as it did. -/
def hazardBoundsUptoRow : OpenClaim := { program := "ytegafhhdegnigaagreat", sum := "13bd14dfdd9893f38317624126956c158fea9417ff9e348f74975e9e8fff3933", func := "reclaim/reclaimlaw05.HazardBounds", spec := "hazardBounds", unfollowed := true, recurses := true, apart := false, narrowed := true }
def HazardBoundsUptoSaid : Prop := hazardBoundsUptoRow.holds Tryz.pinned (OpenSpec.upto hazardBoundsSpec)

/-- 'reclaimlaw05.HazardAlone', WHERE WHAT IT READS IS OF BULK AT MOST 1048576: true; the input reads as it did. -/
def hazardAloneUptoRow : OpenClaim := { program := "ytegafhhdegnigaagreat", sum := "13bd14dfdd9893f38317624126956c158fea9417ff9e348f74975e9e8fff3933", func := "reclaim/reclaimlaw05.HazardAlone", spec := "hazardAlone", unfollowed := true, recurses := true, apart := false, narrowed := true }
def HazardAloneUptoSaid : Prop := hazardAloneUptoRow.holds Tryz.pinned (OpenSpec.upto hazardAloneSpec)

/-- 'reclaimlaw05.HazardOwn', WHERE WHAT IT READS IS OF BULK AT MOST 1048576: true; the input reads as it did. -/
def hazardOwnUptoRow : OpenClaim := { program := "ytegafhhdegnigaagreat", sum := "13bd14dfdd9893f38317624126956c158fea9417ff9e348f74975e9e8fff3933", func := "reclaim/reclaimlaw05.HazardOwn", spec := "hazardOwn", unfollowed := true, recurses := true, apart := false, narrowed := true }
def HazardOwnUptoSaid : Prop := hazardOwnUptoRow.holds Tryz.pinned (OpenSpec.upto hazardOwnSpec)

/-- 'reclaimlaw05.HazardZero', WHERE WHAT IT READS IS OF BULK AT MOST 1048576: true; the input reads as it did. -/
def hazardZeroUptoRow : OpenClaim := { program := "ytegafhhdegnigaagreat", sum := "13bd14dfdd9893f38317624126956c158fea9417ff9e348f74975e9e8fff3933", func := "reclaim/reclaimlaw05.HazardZero", spec := "hazardZero", unfollowed := true, recurses := true, apart := false, narrowed := true }
def HazardZeroUptoSaid : Prop := hazardZeroUptoRow.holds Tryz.pinned (OpenSpec.upto hazardZeroSpec)

/-- 'reclaimlaw05.HazardScans', WHERE WHAT IT READS IS OF BULK AT MOST 1048576: true; the input reads as it did. -/
def hazardScansUptoRow : OpenClaim := { program := "ytegafhhdegnigaagreat", sum := "13bd14dfdd9893f38317624126956c158fea9417ff9e348f74975e9e8fff3933", func := "reclaim/reclaimlaw05.HazardScans", spec := "hazardScans", unfollowed := true, recurses := true, apart := false, narrowed := true }
def HazardScansUptoSaid : Prop := hazardScansUptoRow.holds Tryz.pinned (OpenSpec.upto hazardScansSpec)

/-- 'reclaimlaw05.HazardObjects', WHERE WHAT IT READS IS OF BULK AT MOST 1048576: true; the input reads as it did. -/
def hazardObjectsUptoRow : OpenClaim := { program := "ytegafhhdegnigaagreat", sum := "13bd14dfdd9893f38317624126956c158fea9417ff9e348f74975e9e8fff3933", func := "reclaim/reclaimlaw05.HazardObjects", spec := "hazardObjects", unfollowed := true, recurses := true, apart := false, narrowed := true }
def HazardObjectsUptoSaid : Prop := hazardObjectsUptoRow.holds Tryz.pinned (OpenSpec.upto hazardObjectsSpec)

/-- 'reclaimlaw05.HazardLists', WHERE WHAT IT READS IS OF BULK AT MOST 1048576: true; the input reads as it did. -/
def hazardListsUptoRow : OpenClaim := { program := "ytegafhhdegnigaagreat", sum := "13bd14dfdd9893f38317624126956c158fea9417ff9e348f74975e9e8fff3933", func := "reclaim/reclaimlaw05.HazardLists", spec := "hazardLists", unfollowed := true, recurses := true, apart := false, narrowed := true }
def HazardListsUptoSaid : Prop := hazardListsUptoRow.holds Tryz.pinned (OpenSpec.upto hazardListsSpec)

end Rows
end Go.Proofs.YtegafhhdegnigaaGreat
