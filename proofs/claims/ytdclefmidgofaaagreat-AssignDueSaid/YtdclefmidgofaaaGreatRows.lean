/-
  No cell of these rows narrows 'for every input' (looked for: loops, veiled, ifaces, maps, wideKeys, modest, calm, conditions, laid).
  DERIVED. THE GIVEN ROWS OF THIS SEAT. 6 by the template 'for every input the law returns true; each argument reads behind the call as it read before'; 0 by the template 'total and deterministic' (their statements: YtdclefmidgofaaaGreatTotals.lean).
  GIVEN WITH THE SEED: the statements are not yours to turn. If you find one false, say at which input.
  Laid BY PROGRAM, IN A SANDBOX (cutbox-rows.mjs): the forced cells as the released guide's own fill.sh prints them over the translation 1340965e5520002c… (all of the seat's roots in one cut). By AI agents, Wed Nov 11 2026. No macro, syntax, notation, axiom, sorry.
-/
import Derived.Test.YtdclefmidgofaaaGreatChecked
import GoSem.Claim
import GoSem.ClaimJoined
import GoSem.ClaimMapViews
import Derived.JoinedTies
import Derived.KernelRfl
namespace Go.Proofs.YtdclefmidgofaaaGreat
/- THE CELL 'sum', in the pinned program and in every row, IS THE sha256 OF THE DUMP (.gsa) THAT YtdclefmidgofaaaGreatProg.lean LOADS. Nothing in Lean hashes anything: it is a label: what it is worth is what the hold of that sum in a sandbox is worth. -/
noncomputable def Tryz.pinned : Pinned := { name := "ytdclefmidgofaaagreat", sum := "1340965e5520002c1850c8425bc54674d7e5f015262a8a40a9d9a62b2b06606a", checked := Tryz.checked }
namespace Rows
def none {H : Type} : Left H := { results := [], args := [] }

/-- 'dispatchlaw14.AssignTurns': WHATEVER THE INPUT: true; the input reads as it did. -/
def assignTurnsSpec : ChangeSpec := { name := "assignTurns", fn := fun _ => fun
  | [d1, d2, d3] => { results := [.lit (.bool true)], args := [d1, d2, d3] }
  | _ => none }
def assignTurnsRow : OpenClaim := { program := "ytdclefmidgofaaagreat", sum := "1340965e5520002c1850c8425bc54674d7e5f015262a8a40a9d9a62b2b06606a", func := "dispatch/dispatchlaw14.AssignTurns", spec := "assignTurns", inPlace := ["slices.overlaps[dispatch/api.Ask]", "slices.overlaps[dispatch/api.App]", "slices.overlaps[dispatch/api.Cont]", "slices.overlaps[dispatch/api.Slot]"], unfollowed := true, recurses := true, named := ["math/bits.divideError", "math/bits.overflowError"], apart := false }
def AssignTurnsSaid : Prop := assignTurnsRow.holds Tryz.pinned (OpenSpec.ofChange assignTurnsSpec)

/-- ITS FALSE NEIGHBOUR: 'it returns false'. Refute it at one input. -/
def assignTurnsWrong : ChangeSpec := { name := "assignTurns", fn := fun _ => fun
  | [d1, d2, d3] => { results := [.lit (.bool false)], args := [d1, d2, d3] }
  | _ => none }
def AssignTurnsWrongFalsely : Prop := assignTurnsRow.holds Tryz.pinned (OpenSpec.ofChange assignTurnsWrong)

/-- 'dispatchlaw14.AssignDue': WHATEVER THE INPUT: true; the input reads as it did. -/
def assignDueSpec : ChangeSpec := { name := "assignDue", fn := fun _ => fun
  | [d1, d2, d3] => { results := [.lit (.bool true)], args := [d1, d2, d3] }
  | _ => none }
def assignDueRow : OpenClaim := { program := "ytdclefmidgofaaagreat", sum := "1340965e5520002c1850c8425bc54674d7e5f015262a8a40a9d9a62b2b06606a", func := "dispatch/dispatchlaw14.AssignDue", spec := "assignDue", inPlace := ["slices.overlaps[dispatch/api.Ask]", "slices.overlaps[dispatch/api.App]", "slices.overlaps[dispatch/api.Cont]", "slices.overlaps[dispatch/api.Slot]"], unfollowed := true, recurses := true, named := ["math/bits.divideError", "math/bits.overflowError"], apart := false }
def AssignDueSaid : Prop := assignDueRow.holds Tryz.pinned (OpenSpec.ofChange assignDueSpec)

/-- ITS FALSE NEIGHBOUR: 'it returns false'. Refute it at one input. -/
def assignDueWrong : ChangeSpec := { name := "assignDue", fn := fun _ => fun
  | [d1, d2, d3] => { results := [.lit (.bool false)], args := [d1, d2, d3] }
  | _ => none }
def AssignDueWrongFalsely : Prop := assignDueRow.holds Tryz.pinned (OpenSpec.ofChange assignDueWrong)

/-- 'dispatchlaw14.AssignHolds': WHATEVER THE INPUT: true; the input reads as it did. -/
def assignHoldsSpec : ChangeSpec := { name := "assignHolds", fn := fun _ => fun
  | [d1, d2] => { results := [.lit (.bool true)], args := [d1, d2] }
  | _ => none }
def assignHoldsRow : OpenClaim := { program := "ytdclefmidgofaaagreat", sum := "1340965e5520002c1850c8425bc54674d7e5f015262a8a40a9d9a62b2b06606a", func := "dispatch/dispatchlaw14.AssignHolds", spec := "assignHolds", inPlace := ["slices.overlaps[dispatch/api.Ask]", "slices.overlaps[dispatch/api.App]", "slices.overlaps[dispatch/api.Cont]", "slices.overlaps[dispatch/api.Slot]"], unfollowed := true, recurses := true, named := ["math/bits.divideError", "math/bits.overflowError"], apart := false }
def AssignHoldsSaid : Prop := assignHoldsRow.holds Tryz.pinned (OpenSpec.ofChange assignHoldsSpec)

/-- ITS FALSE NEIGHBOUR: 'it returns false'. Refute it at one input. -/
def assignHoldsWrong : ChangeSpec := { name := "assignHolds", fn := fun _ => fun
  | [d1, d2] => { results := [.lit (.bool false)], args := [d1, d2] }
  | _ => none }
def AssignHoldsWrongFalsely : Prop := assignHoldsRow.holds Tryz.pinned (OpenSpec.ofChange assignHoldsWrong)

/-- 'dispatchlaw14.AssignMost': WHATEVER THE INPUT: true; the input reads as it did. -/
def assignMostSpec : ChangeSpec := { name := "assignMost", fn := fun _ => fun
  | [d1, d2] => { results := [.lit (.bool true)], args := [d1, d2] }
  | _ => none }
def assignMostRow : OpenClaim := { program := "ytdclefmidgofaaagreat", sum := "1340965e5520002c1850c8425bc54674d7e5f015262a8a40a9d9a62b2b06606a", func := "dispatch/dispatchlaw14.AssignMost", spec := "assignMost", inPlace := ["slices.overlaps[dispatch/api.Ask]", "slices.overlaps[dispatch/api.App]", "slices.overlaps[dispatch/api.Cont]", "slices.overlaps[dispatch/api.Slot]"], unfollowed := true, recurses := true, named := ["math/bits.divideError", "math/bits.overflowError"], apart := false }
def AssignMostSaid : Prop := assignMostRow.holds Tryz.pinned (OpenSpec.ofChange assignMostSpec)

/-- ITS FALSE NEIGHBOUR: 'it returns false'. Refute it at one input. -/
def assignMostWrong : ChangeSpec := { name := "assignMost", fn := fun _ => fun
  | [d1, d2] => { results := [.lit (.bool false)], args := [d1, d2] }
  | _ => none }
def AssignMostWrongFalsely : Prop := assignMostRow.holds Tryz.pinned (OpenSpec.ofChange assignMostWrong)

/-- 'dispatchlaw14.AssignUser': WHATEVER THE INPUT: true; the input reads as it did. -/
def assignUserSpec : ChangeSpec := { name := "assignUser", fn := fun _ => fun
  | [d1, d2] => { results := [.lit (.bool true)], args := [d1, d2] }
  | _ => none }
def assignUserRow : OpenClaim := { program := "ytdclefmidgofaaagreat", sum := "1340965e5520002c1850c8425bc54674d7e5f015262a8a40a9d9a62b2b06606a", func := "dispatch/dispatchlaw14.AssignUser", spec := "assignUser", inPlace := ["slices.overlaps[dispatch/api.Ask]", "slices.overlaps[dispatch/api.App]", "slices.overlaps[dispatch/api.Cont]", "slices.overlaps[dispatch/api.Slot]"], unfollowed := true, recurses := true, named := ["math/bits.divideError", "math/bits.overflowError"], apart := false }
def AssignUserSaid : Prop := assignUserRow.holds Tryz.pinned (OpenSpec.ofChange assignUserSpec)

/-- ITS FALSE NEIGHBOUR: 'it returns false'. Refute it at one input. -/
def assignUserWrong : ChangeSpec := { name := "assignUser", fn := fun _ => fun
  | [d1, d2] => { results := [.lit (.bool false)], args := [d1, d2] }
  | _ => none }
def AssignUserWrongFalsely : Prop := assignUserRow.holds Tryz.pinned (OpenSpec.ofChange assignUserWrong)

/-- 'dispatchlaw14.AssignLabels': WHATEVER THE INPUT: true; the input reads as it did. -/
def assignLabelsSpec : ChangeSpec := { name := "assignLabels", fn := fun _ => fun
  | [d1, d2] => { results := [.lit (.bool true)], args := [d1, d2] }
  | _ => none }
def assignLabelsRow : OpenClaim := { program := "ytdclefmidgofaaagreat", sum := "1340965e5520002c1850c8425bc54674d7e5f015262a8a40a9d9a62b2b06606a", func := "dispatch/dispatchlaw14.AssignLabels", spec := "assignLabels", inPlace := ["slices.overlaps[dispatch/api.Ask]", "slices.overlaps[dispatch/api.App]", "slices.overlaps[dispatch/api.Cont]", "slices.overlaps[dispatch/api.Slot]"], unfollowed := true, recurses := true, named := ["math/bits.divideError", "math/bits.overflowError"], apart := false }
def AssignLabelsSaid : Prop := assignLabelsRow.holds Tryz.pinned (OpenSpec.ofChange assignLabelsSpec)

/-- ITS FALSE NEIGHBOUR: 'it returns false'. Refute it at one input. -/
def assignLabelsWrong : ChangeSpec := { name := "assignLabels", fn := fun _ => fun
  | [d1, d2] => { results := [.lit (.bool false)], args := [d1, d2] }
  | _ => none }
def AssignLabelsWrongFalsely : Prop := assignLabelsRow.holds Tryz.pinned (OpenSpec.ofChange assignLabelsWrong)

/- THE SECOND FORM. 'bulk': how many values and letters a reading holds, each counted each time it is reached (what is shared counts as often as it is met; a slice's spare places count too). A statement '..UptoSaid' is the law's where the arguments, and the package variables that the reading takes, are together of bulk at most 1048576: NARROWER than '..Said'. Prove '..Said' where nothing that the law and all that it calls make is longer than what came in: it says more and counts as full. Else prove '..UptoSaid'. A law counts once. -/
mutual
def uptoBulk {H : Type} : DataW H → Nat
  | .lit (.string bytes) => bytes.length + 1
  | .lit _ => 1
  | .nil => 1
  | .ptr d => uptoBulk d + 1
  | .slice elems spare => uptoBulkAll elems + uptoBulkAll spare + 1
  | .agg parts => uptoBulkAll parts + 1
  | .iface _ d => uptoBulk d + 1
  | .map entries => uptoBulkEntries entries + 1
  | .held _ => 1
def uptoBulkAll {H : Type} : List (DataW H) → Nat
  | [] => 0
  | d :: r => uptoBulk d + uptoBulkAll r
def uptoBulkEntries {H : Type} : List (Lit × DataW H) → Nat
  | [] => 0
  | x :: r => uptoBulkEntry x + uptoBulkEntries r
def uptoBulkEntry {H : Type} : Lit × DataW H → Nat
  | (.string bytes, d) => bytes.length + uptoBulk d + 1
  | (_, d) => uptoBulk d + 1
 end
def uptoSmall : (H : Type) → List (DataW H) → Bool := fun _ ds => decide (uptoBulkAll ds ≤ 1048576)
def OpenSpec.upto (s : _root_.Go.ChangeSpec) : _root_.Go.OpenSpec := { _root_.Go.OpenSpec.ofChange s with cond := some uptoSmall }

/-- 'dispatchlaw14.AssignTurns', WHERE WHAT IT READS IS OF BULK AT MOST 1048576: true; the input reads as it did. -/
def assignTurnsUptoRow : OpenClaim := { program := "ytdclefmidgofaaagreat", sum := "1340965e5520002c1850c8425bc54674d7e5f015262a8a40a9d9a62b2b06606a", func := "dispatch/dispatchlaw14.AssignTurns", spec := "assignTurns", inPlace := ["slices.overlaps[dispatch/api.Ask]", "slices.overlaps[dispatch/api.App]", "slices.overlaps[dispatch/api.Cont]", "slices.overlaps[dispatch/api.Slot]"], unfollowed := true, recurses := true, named := ["math/bits.divideError", "math/bits.overflowError"], apart := false, narrowed := true }
def AssignTurnsUptoSaid : Prop := assignTurnsUptoRow.holds Tryz.pinned (OpenSpec.upto assignTurnsSpec)

/-- 'dispatchlaw14.AssignDue', WHERE WHAT IT READS IS OF BULK AT MOST 1048576: true; the input reads as it did. -/
def assignDueUptoRow : OpenClaim := { program := "ytdclefmidgofaaagreat", sum := "1340965e5520002c1850c8425bc54674d7e5f015262a8a40a9d9a62b2b06606a", func := "dispatch/dispatchlaw14.AssignDue", spec := "assignDue", inPlace := ["slices.overlaps[dispatch/api.Ask]", "slices.overlaps[dispatch/api.App]", "slices.overlaps[dispatch/api.Cont]", "slices.overlaps[dispatch/api.Slot]"], unfollowed := true, recurses := true, named := ["math/bits.divideError", "math/bits.overflowError"], apart := false, narrowed := true }
def AssignDueUptoSaid : Prop := assignDueUptoRow.holds Tryz.pinned (OpenSpec.upto assignDueSpec)

/-- 'dispatchlaw14.AssignHolds', WHERE WHAT IT READS IS OF BULK AT MOST 1048576: true; the input reads as it did. -/
def assignHoldsUptoRow : OpenClaim := { program := "ytdclefmidgofaaagreat", sum := "1340965e5520002c1850c8425bc54674d7e5f015262a8a40a9d9a62b2b06606a", func := "dispatch/dispatchlaw14.AssignHolds", spec := "assignHolds", inPlace := ["slices.overlaps[dispatch/api.Ask]", "slices.overlaps[dispatch/api.App]", "slices.overlaps[dispatch/api.Cont]", "slices.overlaps[dispatch/api.Slot]"], unfollowed := true, recurses := true, named := ["math/bits.divideError", "math/bits.overflowError"], apart := false, narrowed := true }
def AssignHoldsUptoSaid : Prop := assignHoldsUptoRow.holds Tryz.pinned (OpenSpec.upto assignHoldsSpec)

/-- 'dispatchlaw14.AssignMost', WHERE WHAT IT READS IS OF BULK AT MOST 1048576: true; the input reads as it did. -/
def assignMostUptoRow : OpenClaim := { program := "ytdclefmidgofaaagreat", sum := "1340965e5520002c1850c8425bc54674d7e5f015262a8a40a9d9a62b2b06606a", func := "dispatch/dispatchlaw14.AssignMost", spec := "assignMost", inPlace := ["slices.overlaps[dispatch/api.Ask]", "slices.overlaps[dispatch/api.App]", "slices.overlaps[dispatch/api.Cont]", "slices.overlaps[dispatch/api.Slot]"], unfollowed := true, recurses := true, named := ["math/bits.divideError", "math/bits.overflowError"], apart := false, narrowed := true }
def AssignMostUptoSaid : Prop := assignMostUptoRow.holds Tryz.pinned (OpenSpec.upto assignMostSpec)

/-- 'dispatchlaw14.AssignUser', WHERE WHAT IT READS IS OF BULK AT MOST 1048576: true; the input reads as it did. -/
def assignUserUptoRow : OpenClaim := { program := "ytdclefmidgofaaagreat", sum := "1340965e5520002c1850c8425bc54674d7e5f015262a8a40a9d9a62b2b06606a", func := "dispatch/dispatchlaw14.AssignUser", spec := "assignUser", inPlace := ["slices.overlaps[dispatch/api.Ask]", "slices.overlaps[dispatch/api.App]", "slices.overlaps[dispatch/api.Cont]", "slices.overlaps[dispatch/api.Slot]"], unfollowed := true, recurses := true, named := ["math/bits.divideError", "math/bits.overflowError"], apart := false, narrowed := true }
def AssignUserUptoSaid : Prop := assignUserUptoRow.holds Tryz.pinned (OpenSpec.upto assignUserSpec)

/-- 'dispatchlaw14.AssignLabels', WHERE WHAT IT READS IS OF BULK AT MOST 1048576: true; the input reads as it did. -/
def assignLabelsUptoRow : OpenClaim := { program := "ytdclefmidgofaaagreat", sum := "1340965e5520002c1850c8425bc54674d7e5f015262a8a40a9d9a62b2b06606a", func := "dispatch/dispatchlaw14.AssignLabels", spec := "assignLabels", inPlace := ["slices.overlaps[dispatch/api.Ask]", "slices.overlaps[dispatch/api.App]", "slices.overlaps[dispatch/api.Cont]", "slices.overlaps[dispatch/api.Slot]"], unfollowed := true, recurses := true, named := ["math/bits.divideError", "math/bits.overflowError"], apart := false, narrowed := true }
def AssignLabelsUptoSaid : Prop := assignLabelsUptoRow.holds Tryz.pinned (OpenSpec.upto assignLabelsSpec)

end Rows
end Go.Proofs.YtdclefmidgofaaaGreat
