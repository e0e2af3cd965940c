/-
  No cell of these rows narrows 'for every input' (looked for: loops, veiled, ifaces, maps, wideKeys, modest, calm, conditions, laid).
  DERIVED. THE GIVEN ROWS OF THIS SEAT. 5 by the template 'for every input the law returns true; each argument reads behind the call as it read before'; 0 by the template 'total and deterministic' (their statements: YtjagadldibbbbaaGreatTotals.lean).
  GIVEN WITH THE SEED: the statements are not yours to turn. If you find one false, say at which input.
  Laid BY PROGRAM, IN A SANDBOX (cutbox-rows.mjs): the forced cells as the released guide's own fill.sh prints them over the translation cdb72812761c1d91… (all of the seat's roots in one cut). By AI agents, Wed Nov 11 2026. No macro, syntax, notation, axiom, sorry.
-/
import Derived.Test.YtjagadldibbbbaaGreatChecked
import GoSem.Claim
import GoSem.ClaimJoined
import GoSem.ClaimMapViews
import Derived.JoinedTies
import Derived.KernelRfl
namespace Go.Proofs.YtjagadldibbbbaaGreat
/- THE CELL 'sum', in the pinned program and in every row, IS THE sha256 OF THE DUMP (.gsa) THAT YtjagadldibbbbaaGreatProg.lean LOADS. Nothing in Lean hashes anything: it is a label: what it is worth is what the hold of that sum in a sandbox is worth. -/
noncomputable def Tryz.pinned : Pinned := { name := "ytjagadldibbbbaagreat", sum := "cdb72812761c1d91ca1ee009b7b50a47f4a33ac63c448b9d4f3411f6eb9eff66", checked := Tryz.checked }
namespace Rows
def none {H : Type} : Left H := { results := [], args := [] }

/-- 'reclaimlaw06.StackLinear': WHATEVER THE INPUT: true; the input reads as it did. -/
def stackLinearSpec : ChangeSpec := { name := "stackLinear", fn := fun _ => fun
  | [d1, d2] => { results := [.lit (.bool true)], args := [d1, d2] }
  | _ => none }
def stackLinearRow : OpenClaim := { program := "ytjagadldibbbbaagreat", sum := "cdb72812761c1d91ca1ee009b7b50a47f4a33ac63c448b9d4f3411f6eb9eff66", func := "reclaim/reclaimlaw06.StackLinear", spec := "stackLinear", unfollowed := true, recurses := true, apart := false }
def StackLinearSaid : Prop := stackLinearRow.holds Tryz.pinned (OpenSpec.ofChange stackLinearSpec)

/-- ITS FALSE NEIGHBOUR: 'it returns false'. Refute it at one input. -/
def stackLinearWrong : ChangeSpec := { name := "stackLinear", fn := fun _ => fun
  | [d1, d2] => { results := [.lit (.bool false)], args := [d1, d2] }
  | _ => none }
def StackLinearWrongFalsely : Prop := stackLinearRow.holds Tryz.pinned (OpenSpec.ofChange stackLinearWrong)

/-- 'reclaimlaw06.StackEnded': WHATEVER THE INPUT: true; the input reads as it did. -/
def stackEndedSpec : ChangeSpec := { name := "stackEnded", fn := fun _ => fun
  | [d1, d2] => { results := [.lit (.bool true)], args := [d1, d2] }
  | _ => none }
def stackEndedRow : OpenClaim := { program := "ytjagadldibbbbaagreat", sum := "cdb72812761c1d91ca1ee009b7b50a47f4a33ac63c448b9d4f3411f6eb9eff66", func := "reclaim/reclaimlaw06.StackEnded", spec := "stackEnded", unfollowed := true, recurses := true, apart := false }
def StackEndedSaid : Prop := stackEndedRow.holds Tryz.pinned (OpenSpec.ofChange stackEndedSpec)

/-- ITS FALSE NEIGHBOUR: 'it returns false'. Refute it at one input. -/
def stackEndedWrong : ChangeSpec := { name := "stackEnded", fn := fun _ => fun
  | [d1, d2] => { results := [.lit (.bool false)], args := [d1, d2] }
  | _ => none }
def StackEndedWrongFalsely : Prop := stackEndedRow.holds Tryz.pinned (OpenSpec.ofChange stackEndedWrong)

/-- 'reclaimlaw06.StackStill': WHATEVER THE INPUT: true; the input reads as it did. -/
def stackStillSpec : ChangeSpec := { name := "stackStill", fn := fun _ => fun
  | [d1, d2] => { results := [.lit (.bool true)], args := [d1, d2] }
  | _ => none }
def stackStillRow : OpenClaim := { program := "ytjagadldibbbbaagreat", sum := "cdb72812761c1d91ca1ee009b7b50a47f4a33ac63c448b9d4f3411f6eb9eff66", func := "reclaim/reclaimlaw06.StackStill", spec := "stackStill", unfollowed := true, recurses := true, apart := false }
def StackStillSaid : Prop := stackStillRow.holds Tryz.pinned (OpenSpec.ofChange stackStillSpec)

/-- ITS FALSE NEIGHBOUR: 'it returns false'. Refute it at one input. -/
def stackStillWrong : ChangeSpec := { name := "stackStill", fn := fun _ => fun
  | [d1, d2] => { results := [.lit (.bool false)], args := [d1, d2] }
  | _ => none }
def StackStillWrongFalsely : Prop := stackStillRow.holds Tryz.pinned (OpenSpec.ofChange stackStillWrong)

/-- 'reclaimlaw06.StackRoom': WHATEVER THE INPUT: true; the input reads as it did. -/
def stackRoomSpec : ChangeSpec := { name := "stackRoom", fn := fun _ => fun
  | [d1, d2] => { results := [.lit (.bool true)], args := [d1, d2] }
  | _ => none }
def stackRoomRow : OpenClaim := { program := "ytjagadldibbbbaagreat", sum := "cdb72812761c1d91ca1ee009b7b50a47f4a33ac63c448b9d4f3411f6eb9eff66", func := "reclaim/reclaimlaw06.StackRoom", spec := "stackRoom", unfollowed := true, recurses := true, apart := false }
def StackRoomSaid : Prop := stackRoomRow.holds Tryz.pinned (OpenSpec.ofChange stackRoomSpec)

/-- ITS FALSE NEIGHBOUR: 'it returns false'. Refute it at one input. -/
def stackRoomWrong : ChangeSpec := { name := "stackRoom", fn := fun _ => fun
  | [d1, d2] => { results := [.lit (.bool false)], args := [d1, d2] }
  | _ => none }
def StackRoomWrongFalsely : Prop := stackRoomRow.holds Tryz.pinned (OpenSpec.ofChange stackRoomWrong)

/-- 'reclaimlaw06.StackKept': WHATEVER THE INPUT: true; the input reads as it did. -/
def stackKeptSpec : ChangeSpec := { name := "stackKept", fn := fun _ => fun
  | [d1, d2] => { results := [.lit (.bool true)], args := [d1, d2] }
  | _ => none }
def stackKeptRow : OpenClaim := { program := "ytjagadldibbbbaagreat", sum := "cdb72812761c1d91ca1ee009b7b50a47f4a33ac63c448b9d4f3411f6eb9eff66", func := "reclaim/reclaimlaw06.StackKept", spec := "stackKept", unfollowed := true, recurses := true, apart := false }
def StackKeptSaid : Prop := stackKeptRow.holds Tryz.pinned (OpenSpec.ofChange stackKeptSpec)

/-- ITS FALSE NEIGHBOUR: 'it returns false'. Refute it at one input. -/
def stackKeptWrong : ChangeSpec := { name := "stackKept", fn := fun _ => fun
  | [d1, d2] => { results := [.lit (.bool false)], args := [d1, d2] }
  | _ => none }
def StackKeptWrongFalsely : Prop := stackKeptRow.holds Tryz.pinned (OpenSpec.ofChange stackKeptWrong)

/- THE SECOND FORM. 'bulk': how many values and letters a reading holds, each counted each time it is reached (what is shared counts as often as it is met; a slice's spare places count too). A statement '..UptoSaid' is the law's where the arguments, and the package variables that the reading takes, are together of bulk at most 1048576: NARROWER than '..Said'. Prove '..Said' where nothing that the law and all that it calls make is longer than what came in: it says more and counts as full. Else prove '..UptoSaid'. A law counts once. -/
mutual
def uptoBulk {H : Type} : DataW H → Nat
  | .lit (.string bytes) => bytes.length + 1
  | .lit _ => 1
  | .nil => 1
  | .ptr d => uptoBulk d + 1
  | .slice elems spare => uptoBulkAll elems + uptoBulkAll spare + 1
  | .agg parts => uptoBulkAll parts + 1
  | .iface _ d => uptoBulk d + 1
  | .map entries => uptoBulkEntries entries + 1
  | .held _ => 1
def uptoBulkAll {H : Type} : List (DataW H) → Nat
  | [] => 0
  | d :: r => uptoBulk d + uptoBulkAll r
def uptoBulkEntries {H : Type} : List (Lit × DataW H) → Nat
  | [] => 0
  | x :: r => uptoBulkEntry x + uptoBulkEntries r
def uptoBulkEntry {H : Type} : Lit × DataW H → Nat
  | (.string bytes, d) => bytes.length + uptoBulk d + 1
  | (_, d) => uptoBulk d + 1
 end
def uptoSmall : (H : Type) → List (DataW H) → Bool := fun _ ds => decide (uptoBulkAll ds ≤ 1048576)
def OpenSpec.upto (s : _root_.Go.ChangeSpec) : _root_.Go.OpenSpec := { _root_.Go.OpenSpec.ofChange s with cond := some uptoSmall }

/-- 'reclaimlaw06.StackLinear', WHERE WHAT IT READS IS OF BULK AT MOST 1048576: true; the input reads as it did. -/
def stackLinearUptoRow : OpenClaim := { program := "ytjagadldibbbbaagreat", sum := "cdb72812761c1d91ca1ee009b7b50a47f4a33ac63c448b9d4f3411f6eb9eff66", func := "reclaim/reclaimlaw06.StackLinear", spec := "stackLinear", unfollowed := true, recurses := true, apart := false, narrowed := true }
def StackLinearUptoSaid : Prop := stackLinearUptoRow.holds Tryz.pinned (OpenSpec.upto stackLinearSpec)

/-- 'reclaimlaw06.StackEnded', WHERE WHAT IT READS IS OF BULK AT MOST 1048576: true; the input reads as it did. -/
def stackEndedUptoRow : OpenClaim := { program := "ytjagadldibbbbaagreat", sum := "cdb72812761c1d91ca1ee009b7b50a47f4a33ac63c448b9d4f3411f6eb9eff66", func := "reclaim/reclaimlaw06.StackEnded", spec := "stackEnded", unfollowed := true, recurses := true, apart := false, narrowed := true }
def StackEndedUptoSaid : Prop := stackEndedUptoRow.holds Tryz.pinned (OpenSpec.upto stackEndedSpec)

/-- 'reclaimlaw06.StackStill', WHERE WHAT IT READS IS OF BULK AT MOST 1048576: true; the input reads as it did. -/
def stackStillUptoRow : OpenClaim := { program := "ytjagadldibbbbaagreat", sum := "cdb72812761c1d91ca1ee009b7b50a47f4a33ac63c448b9d4f3411f6eb9eff66", func := "reclaim/reclaimlaw06.StackStill", spec := "stackStill", unfollowed := true, recurses := true, apart := false, narrowed := true }
def StackStillUptoSaid : Prop := stackStillUptoRow.holds Tryz.pinned (OpenSpec.upto stackStillSpec)

/-- 'reclaimlaw06.StackRoom', WHERE WHAT IT READS IS OF BULK AT MOST 1048576: true; the input reads as it did. -/
def stackRoomUptoRow : OpenClaim := { program := "ytjagadldibbbbaagreat", sum := "cdb72812761c1d91ca1ee009b7b50a47f4a33ac63c448b9d4f3411f6eb9eff66", func := "reclaim/reclaimlaw06.StackRoom", spec := "stackRoom", unfollowed := true, recurses := true, apart := false, narrowed := true }
def StackRoomUptoSaid : Prop := stackRoomUptoRow.holds Tryz.pinned (OpenSpec.upto stackRoomSpec)

/-- 'reclaimlaw06.StackKept', WHERE WHAT IT READS IS OF BULK AT MOST 1048576: true; the input reads as it did. -/
def stackKeptUptoRow : OpenClaim := { program := "ytjagadldibbbbaagreat", sum := "cdb72812761c1d91ca1ee009b7b50a47f4a33ac63c448b9d4f3411f6eb9eff66", func := "reclaim/reclaimlaw06.StackKept", spec := "stackKept", unfollowed := true, recurses := true, apart := false, narrowed := true }
def StackKeptUptoSaid : Prop := stackKeptUptoRow.holds Tryz.pinned (OpenSpec.upto stackKeptSpec)

end Rows
end Go.Proofs.YtjagadldibbbbaaGreat
