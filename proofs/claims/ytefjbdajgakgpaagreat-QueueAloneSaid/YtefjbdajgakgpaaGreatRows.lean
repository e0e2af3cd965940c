/-
  No cell of these rows narrows 'for every input' (looked for: loops, veiled, ifaces, maps, wideKeys, modest, calm, conditions, laid).
  DERIVED. THE GIVEN ROWS OF THIS SEAT. 8 by the template 'for every input the law returns true; each argument reads behind the call as it read before'; 0 by the template 'total and deterministic' (their statements: YtefjbdajgakgpaaGreatTotals.lean).
  GIVEN WITH THE SEED: the statements are not yours to turn. If you find one false, say at which input.
  Laid BY PROGRAM, IN A SANDBOX (cutbox-rows.mjs): the forced cells as the released guide's own fill.sh prints them over the translation dac80e6f3c2af7b8… (all of the seat's roots in one cut). By AI agents, Wed Nov 11 2026. No macro, syntax, notation, axiom, sorry.
-/
import Derived.Test.YtefjbdajgakgpaaGreatChecked
import GoSem.Claim
import GoSem.ClaimJoined
import GoSem.ClaimMapViews
import Derived.JoinedTies
import Derived.KernelRfl
namespace Go.Proofs.YtefjbdajgakgpaaGreat
/- THE CELL 'sum', in the pinned program and in every row, IS THE sha256 OF THE DUMP (.gsa) THAT YtefjbdajgakgpaaGreatProg.lean LOADS. Nothing in Lean hashes anything: it is a label: what it is worth is what the hold of that sum in a sandbox is worth. -/
noncomputable def Tryz.pinned : Pinned := { name := "ytefjbdajgakgpaagreat", sum := "dac80e6f3c2af7b8b5812849f662baba8497b99d3af92c379553c902f8406155", checked := Tryz.checked }
namespace Rows
def none {H : Type} : Left H := { results := [], args := [] }

/-- 'reclaimlaw07.QueueLinear': WHATEVER THE INPUT: true; the input reads as it did. -/
def queueLinearSpec : ChangeSpec := { name := "queueLinear", fn := fun _ => fun
  | [d1, d2] => { results := [.lit (.bool true)], args := [d1, d2] }
  | _ => none }
def queueLinearRow : OpenClaim := { program := "ytefjbdajgakgpaagreat", sum := "dac80e6f3c2af7b8b5812849f662baba8497b99d3af92c379553c902f8406155", func := "reclaim/reclaimlaw07.QueueLinear", spec := "queueLinear", unfollowed := true, recurses := true, apart := false }
def QueueLinearSaid : Prop := queueLinearRow.holds Tryz.pinned (OpenSpec.ofChange queueLinearSpec)

/-- ITS FALSE NEIGHBOUR: 'it returns false'. Refute it at one input. -/
def queueLinearWrong : ChangeSpec := { name := "queueLinear", fn := fun _ => fun
  | [d1, d2] => { results := [.lit (.bool false)], args := [d1, d2] }
  | _ => none }
def QueueLinearWrongFalsely : Prop := queueLinearRow.holds Tryz.pinned (OpenSpec.ofChange queueLinearWrong)

/-- 'reclaimlaw07.QueueSafe': WHATEVER THE INPUT: true; the input reads as it did. -/
def queueSafeSpec : ChangeSpec := { name := "queueSafe", fn := fun _ => fun
  | [d1, d2] => { results := [.lit (.bool true)], args := [d1, d2] }
  | _ => none }
def queueSafeRow : OpenClaim := { program := "ytefjbdajgakgpaagreat", sum := "dac80e6f3c2af7b8b5812849f662baba8497b99d3af92c379553c902f8406155", func := "reclaim/reclaimlaw07.QueueSafe", spec := "queueSafe", unfollowed := true, recurses := true, apart := false }
def QueueSafeSaid : Prop := queueSafeRow.holds Tryz.pinned (OpenSpec.ofChange queueSafeSpec)

/-- ITS FALSE NEIGHBOUR: 'it returns false'. Refute it at one input. -/
def queueSafeWrong : ChangeSpec := { name := "queueSafe", fn := fun _ => fun
  | [d1, d2] => { results := [.lit (.bool false)], args := [d1, d2] }
  | _ => none }
def QueueSafeWrongFalsely : Prop := queueSafeRow.holds Tryz.pinned (OpenSpec.ofChange queueSafeWrong)

/-- 'reclaimlaw07.QueueBounds': WHATEVER THE INPUT: true; the input reads as it did. -/
def queueBoundsSpec : ChangeSpec := { name := "queueBounds", fn := fun _ => fun
  | [d1, d2] => { results := [.lit (.bool true)], args := [d1, d2] }
  | _ => none }
def queueBoundsRow : OpenClaim := { program := "ytefjbdajgakgpaagreat", sum := "dac80e6f3c2af7b8b5812849f662baba8497b99d3af92c379553c902f8406155", func := "reclaim/reclaimlaw07.QueueBounds", spec := "queueBounds", unfollowed := true, recurses := true, apart := false }
def QueueBoundsSaid : Prop := queueBoundsRow.holds Tryz.pinned (OpenSpec.ofChange queueBoundsSpec)

/-- ITS FALSE NEIGHBOUR: 'it returns false'. Refute it at one input. -/
def queueBoundsWrong : ChangeSpec := { name := "queueBounds", fn := fun _ => fun
  | [d1, d2] => { results := [.lit (.bool false)], args := [d1, d2] }
  | _ => none }
def QueueBoundsWrongFalsely : Prop := queueBoundsRow.holds Tryz.pinned (OpenSpec.ofChange queueBoundsWrong)

/-- 'reclaimlaw07.QueueHonest': WHATEVER THE INPUT: true; the input reads as it did. -/
def queueHonestSpec : ChangeSpec := { name := "queueHonest", fn := fun _ => fun
  | [d1, d2] => { results := [.lit (.bool true)], args := [d1, d2] }
  | _ => none }
def queueHonestRow : OpenClaim := { program := "ytefjbdajgakgpaagreat", sum := "dac80e6f3c2af7b8b5812849f662baba8497b99d3af92c379553c902f8406155", func := "reclaim/reclaimlaw07.QueueHonest", spec := "queueHonest", unfollowed := true, recurses := true, apart := false }
def QueueHonestSaid : Prop := queueHonestRow.holds Tryz.pinned (OpenSpec.ofChange queueHonestSpec)

/-- ITS FALSE NEIGHBOUR: 'it returns false'. Refute it at one input. -/
def queueHonestWrong : ChangeSpec := { name := "queueHonest", fn := fun _ => fun
  | [d1, d2] => { results := [.lit (.bool false)], args := [d1, d2] }
  | _ => none }
def QueueHonestWrongFalsely : Prop := queueHonestRow.holds Tryz.pinned (OpenSpec.ofChange queueHonestWrong)

/-- 'reclaimlaw07.QueueAlone': WHATEVER THE INPUT: true; the input reads as it did. -/
def queueAloneSpec : ChangeSpec := { name := "queueAlone", fn := fun _ => fun
  | [d1, d2, d3] => { results := [.lit (.bool true)], args := [d1, d2, d3] }
  | _ => none }
def queueAloneRow : OpenClaim := { program := "ytefjbdajgakgpaagreat", sum := "dac80e6f3c2af7b8b5812849f662baba8497b99d3af92c379553c902f8406155", func := "reclaim/reclaimlaw07.QueueAlone", spec := "queueAlone", unfollowed := true, recurses := true, apart := false }
def QueueAloneSaid : Prop := queueAloneRow.holds Tryz.pinned (OpenSpec.ofChange queueAloneSpec)

/-- ITS FALSE NEIGHBOUR: 'it returns false'. Refute it at one input. -/
def queueAloneWrong : ChangeSpec := { name := "queueAlone", fn := fun _ => fun
  | [d1, d2, d3] => { results := [.lit (.bool false)], args := [d1, d2, d3] }
  | _ => none }
def QueueAloneWrongFalsely : Prop := queueAloneRow.holds Tryz.pinned (OpenSpec.ofChange queueAloneWrong)

/-- 'reclaimlaw07.QueueOwn': WHATEVER THE INPUT: true; the input reads as it did. -/
def queueOwnSpec : ChangeSpec := { name := "queueOwn", fn := fun _ => fun
  | [d1, d2] => { results := [.lit (.bool true)], args := [d1, d2] }
  | _ => none }
def queueOwnRow : OpenClaim := { program := "ytefjbdajgakgpaagreat", sum := "dac80e6f3c2af7b8b5812849f662baba8497b99d3af92c379553c902f8406155", func := "reclaim/reclaimlaw07.QueueOwn", spec := "queueOwn", unfollowed := true, recurses := true, apart := false }
def QueueOwnSaid : Prop := queueOwnRow.holds Tryz.pinned (OpenSpec.ofChange queueOwnSpec)

/-- ITS FALSE NEIGHBOUR: 'it returns false'. Refute it at one input. -/
def queueOwnWrong : ChangeSpec := { name := "queueOwn", fn := fun _ => fun
  | [d1, d2] => { results := [.lit (.bool false)], args := [d1, d2] }
  | _ => none }
def QueueOwnWrongFalsely : Prop := queueOwnRow.holds Tryz.pinned (OpenSpec.ofChange queueOwnWrong)

/-- 'reclaimlaw07.QueueShape': WHATEVER THE INPUT: true; the input reads as it did. -/
def queueShapeSpec : ChangeSpec := { name := "queueShape", fn := fun _ => fun
  | [d1, d2] => { results := [.lit (.bool true)], args := [d1, d2] }
  | _ => none }
def queueShapeRow : OpenClaim := { program := "ytefjbdajgakgpaagreat", sum := "dac80e6f3c2af7b8b5812849f662baba8497b99d3af92c379553c902f8406155", func := "reclaim/reclaimlaw07.QueueShape", spec := "queueShape", unfollowed := true, recurses := true, apart := false }
def QueueShapeSaid : Prop := queueShapeRow.holds Tryz.pinned (OpenSpec.ofChange queueShapeSpec)

/-- ITS FALSE NEIGHBOUR: 'it returns false'. Refute it at one input. -/
def queueShapeWrong : ChangeSpec := { name := "queueShape", fn := fun _ => fun
  | [d1, d2] => { results := [.lit (.bool false)], args := [d1, d2] }
  | _ => none }
def QueueShapeWrongFalsely : Prop := queueShapeRow.holds Tryz.pinned (OpenSpec.ofChange queueShapeWrong)

/-- 'reclaimlaw07.QueueOrder': WHATEVER THE INPUT: true; the input reads as it did. -/
def queueOrderSpec : ChangeSpec := { name := "queueOrder", fn := fun _ => fun
  | [d1, d2] => { results := [.lit (.bool true)], args := [d1, d2] }
  | _ => none }
def queueOrderRow : OpenClaim := { program := "ytefjbdajgakgpaagreat", sum := "dac80e6f3c2af7b8b5812849f662baba8497b99d3af92c379553c902f8406155", func := "reclaim/reclaimlaw07.QueueOrder", spec := "queueOrder", unfollowed := true, recurses := true, apart := false }
def QueueOrderSaid : Prop := queueOrderRow.holds Tryz.pinned (OpenSpec.ofChange queueOrderSpec)

/-- ITS FALSE NEIGHBOUR: 'it returns false'. Refute it at one input. -/
def queueOrderWrong : ChangeSpec := { name := "queueOrder", fn := fun _ => fun
  | [d1, d2] => { results := [.lit (.bool false)], args := [d1, d2] }
  | _ => none }
def QueueOrderWrongFalsely : Prop := queueOrderRow.holds Tryz.pinned (OpenSpec.ofChange queueOrderWrong)

/- THE SECOND FORM. 'bulk': how many values and letters a reading holds, each counted each time it is reached (what is shared counts as often as it is met; a slice's spare places count too). A statement '..UptoSaid' is the law's where the arguments, and the package variables that the reading takes, are together of bulk at most 1048576: NARROWER than '..Said'. Prove '..Said' where nothing that the law and all that it calls make is longer than what came in: it says more and counts as full. Else prove '..UptoSaid'. A law counts once. -/
mutual
def uptoBulk {H : Type} : DataW H → Nat
  | .lit (.string bytes) => bytes.length + 1
  | .lit _ => 1
  | .nil => 1
  | .ptr d => uptoBulk d + 1
  | .slice elems spare => uptoBulkAll elems + uptoBulkAll spare + 1
  | .agg parts => uptoBulkAll parts + 1
  | .iface _ d => uptoBulk d + 1
  | .map entries => uptoBulkEntries entries + 1
  | .held _ => 1
def uptoBulkAll {H : Type} : List (DataW H) → Nat
  | [] => 0
  | d :: r => uptoBulk d + uptoBulkAll r
def uptoBulkEntries {H : Type} : List (Lit × DataW H) → Nat
  | [] => 0
  | x :: r => uptoBulkEntry x + uptoBulkEntries r
def uptoBulkEntry {H : Type} : Lit × DataW H → Nat
  | (.string bytes, d) => bytes.length + uptoBulk d + 1
  | (_, d) => uptoBulk d + 1
 end
def uptoSmall : (H : Type) → List (DataW H) → Bool := fun _ ds => decide (uptoBulkAll ds ≤ 1048576)
def OpenSpec.upto (s : _root_.Go.ChangeSpec) : _root_.Go.OpenSpec := { _root_.Go.OpenSpec.ofChange s with cond := some uptoSmall }

/-- 'reclaimlaw07.QueueLinear', WHERE WHAT IT READS IS OF BULK AT MOST 1048576: true; the input reads as it did. -/
def queueLinearUptoRow : OpenClaim := { program := "ytefjbdajgakgpaagreat", sum := "dac80e6f3c2af7b8b5812849f662baba8497b99d3af92c379553c902f8406155", func := "reclaim/reclaimlaw07.QueueLinear", spec := "queueLinear", unfollowed := true, recurses := true, apart := false, narrowed := true }
def QueueLinearUptoSaid : Prop := queueLinearUptoRow.holds Tryz.pinned (OpenSpec.upto queueLinearSpec)

/-- 'reclaimlaw07.QueueSafe', WHERE WHAT IT READS IS OF BULK AT MOST 1048576: true; the input reads as it did. -/
def queueSafeUptoRow : OpenClaim := { program := "ytefjbdajgakgpaagreat", sum := "dac80e6f3c2af7b8b5812849f662baba8497b99d3af92c379553c902f8406155", func := "reclaim/reclaimlaw07.QueueSafe", spec := "queueSafe", unfollowed := true, recurses := true, apart := false, narrowed := true }
def QueueSafeUptoSaid : Prop := queueSafeUptoRow.holds Tryz.pinned (OpenSpec.upto queueSafeSpec)

/-- 'reclaimlaw07.QueueBounds', WHERE WHAT IT READS IS OF BULK AT MOST 1048576: true; the input reads as it did. -/
def queueBoundsUptoRow : OpenClaim := { program := "ytefjbdajgakgpaagreat", sum := "dac80e6f3c2af7b8b5812849f662baba8497b99d3af92c379553c902f8406155", func := "reclaim/reclaimlaw07.QueueBounds", spec := "queueBounds", unfollowed := true, recurses := true, apart := false, narrowed := true }
def QueueBoundsUptoSaid : Prop := queueBoundsUptoRow.holds Tryz.pinned (OpenSpec.upto queueBoundsSpec)

/-- 'reclaimlaw07.QueueHonest', WHERE WHAT IT READS IS OF BULK AT MOST 1048576: true; the input reads as it did. -/
def queueHonestUptoRow : OpenClaim := { program := "ytefjbdajgakgpaagreat", sum := "dac80e6f3c2af7b8b5812849f662baba8497b99d3af92c379553c902f8406155", func := "reclaim/reclaimlaw07.QueueHonest", spec := "queueHonest", unfollowed := true, recurses := true, apart := false, narrowed := true }
def QueueHonestUptoSaid : Prop := queueHonestUptoRow.holds Tryz.pinned (OpenSpec.upto queueHonestSpec)

/-- 'reclaimlaw07.QueueAlone', WHERE WHAT IT READS IS OF BULK AT MOST 1048576: true; the input reads as it did. -/
def queueAloneUptoRow : OpenClaim := { program := "ytefjbdajgakgpaagreat", sum := "dac80e6f3c2af7b8b5812849f662baba8497b99d3af92c379553c902f8406155", func := "reclaim/reclaimlaw07.QueueAlone", spec := "queueAlone", unfollowed := true, recurses := true, apart := false, narrowed := true }
def QueueAloneUptoSaid : Prop := queueAloneUptoRow.holds Tryz.pinned (OpenSpec.upto queueAloneSpec)

/-- 'reclaimlaw07.QueueOwn', WHERE WHAT IT READS IS OF BULK AT MOST 1048576: true; the input reads as it did. -/
def queueOwnUptoRow : OpenClaim := { program := "ytefjbdajgakgpaagreat", sum := "dac80e6f3c2af7b8b5812849f662baba8497b99d3af92c379553c902f8406155", func := "reclaim/reclaimlaw07.QueueOwn", spec := "queueOwn", unfollowed := true, recurses := true, apart := false, narrowed := true }
def QueueOwnUptoSaid : Prop := queueOwnUptoRow.holds Tryz.pinned (OpenSpec.upto queueOwnSpec)

/-- 'reclaimlaw07.QueueShape', WHERE WHAT IT READS IS OF BULK AT MOST 1048576: true; the input reads as it did. -/
def queueShapeUptoRow : OpenClaim := { program := "ytefjbdajgakgpaagreat", sum := "dac80e6f3c2af7b8b5812849f662baba8497b99d3af92c379553c902f8406155", func := "reclaim/reclaimlaw07.QueueShape", spec := "queueShape", unfollowed := true, recurses := true, apart := false, narrowed := true }
def QueueShapeUptoSaid : Prop := queueShapeUptoRow.holds Tryz.pinned (OpenSpec.upto queueShapeSpec)

/-- 'reclaimlaw07.QueueOrder', WHERE WHAT IT READS IS OF BULK AT MOST 1048576: true; the input reads as it did. -/
def queueOrderUptoRow : OpenClaim := { program := "ytefjbdajgakgpaagreat", sum := "dac80e6f3c2af7b8b5812849f662baba8497b99d3af92c379553c902f8406155", func := "reclaim/reclaimlaw07.QueueOrder", spec := "queueOrder", unfollowed := true, recurses := true, apart := false, narrowed := true }
def QueueOrderUptoSaid : Prop := queueOrderUptoRow.holds Tryz.pinned (OpenSpec.upto queueOrderSpec)

end Rows
end Go.Proofs.YtefjbdajgakgpaaGreat
