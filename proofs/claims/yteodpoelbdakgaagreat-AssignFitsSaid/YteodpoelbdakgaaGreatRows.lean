/-
  No cell of these rows narrows 'for every input' (looked for: loops, veiled, ifaces, maps, wideKeys, modest, calm, conditions, laid).
  DERIVED. THE GIVEN ROWS OF THIS SEAT. 12 by the template 'for every input the law returns true; each argument reads behind the call as it read before'; 0 by the template 'total and deterministic' (their statements: YteodpoelbdakgaaGreatTotals.lean).
  GIVEN WITH THE SEED: the statements are not yours to turn. If you find one false, say at which input.
  Laid BY PROGRAM, IN A SANDBOX (cutbox-rows.mjs): the forced cells as the released guide's own fill.sh prints them over the translation 7aa2854d6533a0ed… (all of the seat's roots in one cut). By AI agents, Wed Nov 11 2026. No macro, syntax, notation, axiom, sorry.
-/
import Derived.Test.YteodpoelbdakgaaGreatChecked
import GoSem.Claim
import GoSem.ClaimJoined
import GoSem.ClaimMapViews
import Derived.JoinedTies
import Derived.KernelRfl
namespace Go.Proofs.YteodpoelbdakgaaGreat
/- THE CELL 'sum', in the pinned program and in every row, IS THE sha256 OF THE DUMP (.gsa) THAT YteodpoelbdakgaaGreatProg.lean LOADS. Nothing in Lean hashes anything: it is a label: what it is worth is what the hold of that sum in a sandbox is worth. -/
noncomputable def Tryz.pinned : Pinned := { name := "yteodpoelbdakgaagreat", sum := "7aa2854d6533a0edab490fdc19ae0d43e9b2c34bb57129ee74f06284541207d6", checked := Tryz.checked }
namespace Rows
def none {H : Type} : Left H := { results := [], args := [] }

/-- 'dispatchlaw12.OrderApps': WHATEVER THE INPUT: true; the input reads as it did. -/
def orderAppsSpec : ChangeSpec := { name := "orderApps", fn := fun _ => fun
  | [d] => { results := [.lit (.bool true)], args := [d] }
  | _ => none }
def orderAppsRow : OpenClaim := { program := "yteodpoelbdakgaagreat", sum := "7aa2854d6533a0edab490fdc19ae0d43e9b2c34bb57129ee74f06284541207d6", func := "dispatch/dispatchlaw12.OrderApps", spec := "orderApps", unfollowed := true, recurses := true, named := ["math/bits.divideError", "math/bits.overflowError"], apart := false }
def OrderAppsSaid : Prop := orderAppsRow.holds Tryz.pinned (OpenSpec.ofChange orderAppsSpec)

/-- ITS FALSE NEIGHBOUR: 'it returns false'. Refute it at one input. -/
def orderAppsWrong : ChangeSpec := { name := "orderApps", fn := fun _ => fun
  | [d] => { results := [.lit (.bool false)], args := [d] }
  | _ => none }
def OrderAppsWrongFalsely : Prop := orderAppsRow.holds Tryz.pinned (OpenSpec.ofChange orderAppsWrong)

/-- 'dispatchlaw17.VictimsAsk': WHATEVER THE INPUT: true; the input reads as it did. -/
def victimsAskSpec : ChangeSpec := { name := "victimsAsk", fn := fun _ => fun
  | [d1, d2, d3] => { results := [.lit (.bool true)], args := [d1, d2, d3] }
  | _ => none }
def victimsAskRow : OpenClaim := { program := "yteodpoelbdakgaagreat", sum := "7aa2854d6533a0edab490fdc19ae0d43e9b2c34bb57129ee74f06284541207d6", func := "dispatch/dispatchlaw17.VictimsAsk", spec := "victimsAsk", inPlace := ["slices.overlaps[dispatch/api.Ask]"], unfollowed := true, recurses := true, named := ["math/bits.divideError", "math/bits.overflowError"], apart := false }
def VictimsAskSaid : Prop := victimsAskRow.holds Tryz.pinned (OpenSpec.ofChange victimsAskSpec)

/-- ITS FALSE NEIGHBOUR: 'it returns false'. Refute it at one input. -/
def victimsAskWrong : ChangeSpec := { name := "victimsAsk", fn := fun _ => fun
  | [d1, d2, d3] => { results := [.lit (.bool false)], args := [d1, d2, d3] }
  | _ => none }
def VictimsAskWrongFalsely : Prop := victimsAskRow.holds Tryz.pinned (OpenSpec.ofChange victimsAskWrong)

/-- 'dispatchlaw17.VictimsOver': WHATEVER THE INPUT: true; the input reads as it did. -/
def victimsOverSpec : ChangeSpec := { name := "victimsOver", fn := fun _ => fun
  | [d1, d2, d3] => { results := [.lit (.bool true)], args := [d1, d2, d3] }
  | _ => none }
def victimsOverRow : OpenClaim := { program := "yteodpoelbdakgaagreat", sum := "7aa2854d6533a0edab490fdc19ae0d43e9b2c34bb57129ee74f06284541207d6", func := "dispatch/dispatchlaw17.VictimsOver", spec := "victimsOver", inPlace := ["slices.overlaps[dispatch/api.Ask]"], unfollowed := true, recurses := true, named := ["math/bits.divideError", "math/bits.overflowError"], apart := false }
def VictimsOverSaid : Prop := victimsOverRow.holds Tryz.pinned (OpenSpec.ofChange victimsOverSpec)

/-- ITS FALSE NEIGHBOUR: 'it returns false'. Refute it at one input. -/
def victimsOverWrong : ChangeSpec := { name := "victimsOver", fn := fun _ => fun
  | [d1, d2, d3] => { results := [.lit (.bool false)], args := [d1, d2, d3] }
  | _ => none }
def VictimsOverWrongFalsely : Prop := victimsOverRow.holds Tryz.pinned (OpenSpec.ofChange victimsOverWrong)

/-- 'dispatchlaw17.VictimsNeed': WHATEVER THE INPUT: true; the input reads as it did. -/
def victimsNeedSpec : ChangeSpec := { name := "victimsNeed", fn := fun _ => fun
  | [d] => { results := [.lit (.bool true)], args := [d] }
  | _ => none }
def victimsNeedRow : OpenClaim := { program := "yteodpoelbdakgaagreat", sum := "7aa2854d6533a0edab490fdc19ae0d43e9b2c34bb57129ee74f06284541207d6", func := "dispatch/dispatchlaw17.VictimsNeed", spec := "victimsNeed", inPlace := ["slices.overlaps[dispatch/api.Ask]"], unfollowed := true, recurses := true, named := ["math/bits.divideError", "math/bits.overflowError"], apart := false }
def VictimsNeedSaid : Prop := victimsNeedRow.holds Tryz.pinned (OpenSpec.ofChange victimsNeedSpec)

/-- ITS FALSE NEIGHBOUR: 'it returns false'. Refute it at one input. -/
def victimsNeedWrong : ChangeSpec := { name := "victimsNeed", fn := fun _ => fun
  | [d] => { results := [.lit (.bool false)], args := [d] }
  | _ => none }
def VictimsNeedWrongFalsely : Prop := victimsNeedRow.holds Tryz.pinned (OpenSpec.ofChange victimsNeedWrong)

/-- 'dispatchlaw17.VictimsGrace': WHATEVER THE INPUT: true; the input reads as it did. -/
def victimsGraceSpec : ChangeSpec := { name := "victimsGrace", fn := fun _ => fun
  | [d1, d2, d3] => { results := [.lit (.bool true)], args := [d1, d2, d3] }
  | _ => none }
def victimsGraceRow : OpenClaim := { program := "yteodpoelbdakgaagreat", sum := "7aa2854d6533a0edab490fdc19ae0d43e9b2c34bb57129ee74f06284541207d6", func := "dispatch/dispatchlaw17.VictimsGrace", spec := "victimsGrace", inPlace := ["slices.overlaps[dispatch/api.Ask]"], unfollowed := true, recurses := true, named := ["math/bits.divideError", "math/bits.overflowError"], apart := false }
def VictimsGraceSaid : Prop := victimsGraceRow.holds Tryz.pinned (OpenSpec.ofChange victimsGraceSpec)

/-- ITS FALSE NEIGHBOUR: 'it returns false'. Refute it at one input. -/
def victimsGraceWrong : ChangeSpec := { name := "victimsGrace", fn := fun _ => fun
  | [d1, d2, d3] => { results := [.lit (.bool false)], args := [d1, d2, d3] }
  | _ => none }
def VictimsGraceWrongFalsely : Prop := victimsGraceRow.holds Tryz.pinned (OpenSpec.ofChange victimsGraceWrong)

/-- 'dispatchlaw17.VictimsCount': WHATEVER THE INPUT: true; the input reads as it did. -/
def victimsCountSpec : ChangeSpec := { name := "victimsCount", fn := fun _ => fun
  | [d1, d2, d3] => { results := [.lit (.bool true)], args := [d1, d2, d3] }
  | _ => none }
def victimsCountRow : OpenClaim := { program := "yteodpoelbdakgaagreat", sum := "7aa2854d6533a0edab490fdc19ae0d43e9b2c34bb57129ee74f06284541207d6", func := "dispatch/dispatchlaw17.VictimsCount", spec := "victimsCount", inPlace := ["slices.overlaps[dispatch/api.Ask]"], unfollowed := true, recurses := true, named := ["math/bits.divideError", "math/bits.overflowError"], apart := false }
def VictimsCountSaid : Prop := victimsCountRow.holds Tryz.pinned (OpenSpec.ofChange victimsCountSpec)

/-- ITS FALSE NEIGHBOUR: 'it returns false'. Refute it at one input. -/
def victimsCountWrong : ChangeSpec := { name := "victimsCount", fn := fun _ => fun
  | [d1, d2, d3] => { results := [.lit (.bool false)], args := [d1, d2, d3] }
  | _ => none }
def VictimsCountWrongFalsely : Prop := victimsCountRow.holds Tryz.pinned (OpenSpec.ofChange victimsCountWrong)

/-- 'dispatchlaw17.VictimsKill': WHATEVER THE INPUT: true; the input reads as it did. -/
def victimsKillSpec : ChangeSpec := { name := "victimsKill", fn := fun _ => fun
  | [d1, d2] => { results := [.lit (.bool true)], args := [d1, d2] }
  | _ => none }
def victimsKillRow : OpenClaim := { program := "yteodpoelbdakgaagreat", sum := "7aa2854d6533a0edab490fdc19ae0d43e9b2c34bb57129ee74f06284541207d6", func := "dispatch/dispatchlaw17.VictimsKill", spec := "victimsKill", inPlace := ["slices.overlaps[dispatch/api.Ask]"], unfollowed := true, recurses := true, named := ["math/bits.divideError", "math/bits.overflowError"], apart := false }
def VictimsKillSaid : Prop := victimsKillRow.holds Tryz.pinned (OpenSpec.ofChange victimsKillSpec)

/-- ITS FALSE NEIGHBOUR: 'it returns false'. Refute it at one input. -/
def victimsKillWrong : ChangeSpec := { name := "victimsKill", fn := fun _ => fun
  | [d1, d2] => { results := [.lit (.bool false)], args := [d1, d2] }
  | _ => none }
def VictimsKillWrongFalsely : Prop := victimsKillRow.holds Tryz.pinned (OpenSpec.ofChange victimsKillWrong)

/-- 'dispatchlaw14.AssignFits': WHATEVER THE INPUT: true; the input reads as it did. -/
def assignFitsSpec : ChangeSpec := { name := "assignFits", fn := fun _ => fun
  | [d] => { results := [.lit (.bool true)], args := [d] }
  | _ => none }
def assignFitsRow : OpenClaim := { program := "yteodpoelbdakgaagreat", sum := "7aa2854d6533a0edab490fdc19ae0d43e9b2c34bb57129ee74f06284541207d6", func := "dispatch/dispatchlaw14.AssignFits", spec := "assignFits", inPlace := ["slices.overlaps[dispatch/api.Ask]", "slices.overlaps[dispatch/api.App]", "slices.overlaps[dispatch/api.Cont]", "slices.overlaps[dispatch/api.Slot]"], unfollowed := true, recurses := true, named := ["math/bits.divideError", "math/bits.overflowError"], apart := false }
def AssignFitsSaid : Prop := assignFitsRow.holds Tryz.pinned (OpenSpec.ofChange assignFitsSpec)

/-- ITS FALSE NEIGHBOUR: 'it returns false'. Refute it at one input. -/
def assignFitsWrong : ChangeSpec := { name := "assignFits", fn := fun _ => fun
  | [d] => { results := [.lit (.bool false)], args := [d] }
  | _ => none }
def AssignFitsWrongFalsely : Prop := assignFitsRow.holds Tryz.pinned (OpenSpec.ofChange assignFitsWrong)

/-- 'dispatchlaw14.AssignTurns': WHATEVER THE INPUT: true; the input reads as it did. -/
def assignTurnsSpec : ChangeSpec := { name := "assignTurns", fn := fun _ => fun
  | [d1, d2, d3] => { results := [.lit (.bool true)], args := [d1, d2, d3] }
  | _ => none }
def assignTurnsRow : OpenClaim := { program := "yteodpoelbdakgaagreat", sum := "7aa2854d6533a0edab490fdc19ae0d43e9b2c34bb57129ee74f06284541207d6", func := "dispatch/dispatchlaw14.AssignTurns", spec := "assignTurns", inPlace := ["slices.overlaps[dispatch/api.Ask]", "slices.overlaps[dispatch/api.App]", "slices.overlaps[dispatch/api.Cont]", "slices.overlaps[dispatch/api.Slot]"], unfollowed := true, recurses := true, named := ["math/bits.divideError", "math/bits.overflowError"], apart := false }
def AssignTurnsSaid : Prop := assignTurnsRow.holds Tryz.pinned (OpenSpec.ofChange assignTurnsSpec)

/-- ITS FALSE NEIGHBOUR: 'it returns false'. Refute it at one input. -/
def assignTurnsWrong : ChangeSpec := { name := "assignTurns", fn := fun _ => fun
  | [d1, d2, d3] => { results := [.lit (.bool false)], args := [d1, d2, d3] }
  | _ => none }
def AssignTurnsWrongFalsely : Prop := assignTurnsRow.holds Tryz.pinned (OpenSpec.ofChange assignTurnsWrong)

/-- 'dispatchlaw14.AssignHolds': WHATEVER THE INPUT: true; the input reads as it did. -/
def assignHoldsSpec : ChangeSpec := { name := "assignHolds", fn := fun _ => fun
  | [d1, d2] => { results := [.lit (.bool true)], args := [d1, d2] }
  | _ => none }
def assignHoldsRow : OpenClaim := { program := "yteodpoelbdakgaagreat", sum := "7aa2854d6533a0edab490fdc19ae0d43e9b2c34bb57129ee74f06284541207d6", func := "dispatch/dispatchlaw14.AssignHolds", spec := "assignHolds", inPlace := ["slices.overlaps[dispatch/api.Ask]", "slices.overlaps[dispatch/api.App]", "slices.overlaps[dispatch/api.Cont]", "slices.overlaps[dispatch/api.Slot]"], unfollowed := true, recurses := true, named := ["math/bits.divideError", "math/bits.overflowError"], apart := false }
def AssignHoldsSaid : Prop := assignHoldsRow.holds Tryz.pinned (OpenSpec.ofChange assignHoldsSpec)

/-- ITS FALSE NEIGHBOUR: 'it returns false'. Refute it at one input. -/
def assignHoldsWrong : ChangeSpec := { name := "assignHolds", fn := fun _ => fun
  | [d1, d2] => { results := [.lit (.bool false)], args := [d1, d2] }
  | _ => none }
def AssignHoldsWrongFalsely : Prop := assignHoldsRow.holds Tryz.pinned (OpenSpec.ofChange assignHoldsWrong)

/-- 'dispatchlaw14.AssignOnes': WHATEVER THE INPUT: true; the input reads as it did. -/
def assignOnesSpec : ChangeSpec := { name := "assignOnes", fn := fun _ => fun
  | [d1, d2, d3] => { results := [.lit (.bool true)], args := [d1, d2, d3] }
  | _ => none }
def assignOnesRow : OpenClaim := { program := "yteodpoelbdakgaagreat", sum := "7aa2854d6533a0edab490fdc19ae0d43e9b2c34bb57129ee74f06284541207d6", func := "dispatch/dispatchlaw14.AssignOnes", spec := "assignOnes", inPlace := ["slices.overlaps[dispatch/api.Ask]", "slices.overlaps[dispatch/api.App]", "slices.overlaps[dispatch/api.Cont]", "slices.overlaps[dispatch/api.Slot]"], unfollowed := true, recurses := true, named := ["math/bits.divideError", "math/bits.overflowError"], apart := false }
def AssignOnesSaid : Prop := assignOnesRow.holds Tryz.pinned (OpenSpec.ofChange assignOnesSpec)

/-- ITS FALSE NEIGHBOUR: 'it returns false'. Refute it at one input. -/
def assignOnesWrong : ChangeSpec := { name := "assignOnes", fn := fun _ => fun
  | [d1, d2, d3] => { results := [.lit (.bool false)], args := [d1, d2, d3] }
  | _ => none }
def AssignOnesWrongFalsely : Prop := assignOnesRow.holds Tryz.pinned (OpenSpec.ofChange assignOnesWrong)

/-- 'dispatchlaw14.AssignIds': WHATEVER THE INPUT: true; the input reads as it did. -/
def assignIdsSpec : ChangeSpec := { name := "assignIds", fn := fun _ => fun
  | [d1, d2, d3] => { results := [.lit (.bool true)], args := [d1, d2, d3] }
  | _ => none }
def assignIdsRow : OpenClaim := { program := "yteodpoelbdakgaagreat", sum := "7aa2854d6533a0edab490fdc19ae0d43e9b2c34bb57129ee74f06284541207d6", func := "dispatch/dispatchlaw14.AssignIds", spec := "assignIds", inPlace := ["slices.overlaps[dispatch/api.Ask]", "slices.overlaps[dispatch/api.App]", "slices.overlaps[dispatch/api.Cont]", "slices.overlaps[dispatch/api.Slot]"], unfollowed := true, recurses := true, named := ["math/bits.divideError", "math/bits.overflowError"], apart := false }
def AssignIdsSaid : Prop := assignIdsRow.holds Tryz.pinned (OpenSpec.ofChange assignIdsSpec)

/-- ITS FALSE NEIGHBOUR: 'it returns false'. Refute it at one input. -/
def assignIdsWrong : ChangeSpec := { name := "assignIds", fn := fun _ => fun
  | [d1, d2, d3] => { results := [.lit (.bool false)], args := [d1, d2, d3] }
  | _ => none }
def AssignIdsWrongFalsely : Prop := assignIdsRow.holds Tryz.pinned (OpenSpec.ofChange assignIdsWrong)

/- THE SECOND FORM. 'bulk': how many values and letters a reading holds, each counted each time it is reached (what is shared counts as often as it is met; a slice's spare places count too). A statement '..UptoSaid' is the law's where the arguments, and the package variables that the reading takes, are together of bulk at most 1048576: NARROWER than '..Said'. Prove '..Said' where nothing that the law and all that it calls make is longer than what came in: it says more and counts as full. Else prove '..UptoSaid'. A law counts once. -/
mutual
def uptoBulk {H : Type} : DataW H → Nat
  | .lit (.string bytes) => bytes.length + 1
  | .lit _ => 1
  | .nil => 1
  | .ptr d => uptoBulk d + 1
  | .slice elems spare => uptoBulkAll elems + uptoBulkAll spare + 1
  | .agg parts => uptoBulkAll parts + 1
  | .iface _ d => uptoBulk d + 1
  | .map entries => uptoBulkEntries entries + 1
  | .held _ => 1
def uptoBulkAll {H : Type} : List (DataW H) → Nat
  | [] => 0
  | d :: r => uptoBulk d + uptoBulkAll r
def uptoBulkEntries {H : Type} : List (Lit × DataW H) → Nat
  | [] => 0
  | x :: r => uptoBulkEntry x + uptoBulkEntries r
def uptoBulkEntry {H : Type} : Lit × DataW H → Nat
  | (.string bytes, d) => bytes.length + uptoBulk d + 1
  | (_, d) => uptoBulk d + 1
 end
def uptoSmall : (H : Type) → List (DataW H) → Bool := fun _ ds => decide (uptoBulkAll ds ≤ 1048576)
def OpenSpec.upto (s : _root_.Go.ChangeSpec) : _root_.Go.OpenSpec := { _root_.Go.OpenSpec.ofChange s with cond := some uptoSmall }

/-- 'dispatchlaw12.OrderApps', WHERE WHAT IT READS IS OF BULK AT MOST 1048576: true; the input reads as it did. -/
def orderAppsUptoRow : OpenClaim := { program := "yteodpoelbdakgaagreat", sum := "7aa2854d6533a0edab490fdc19ae0d43e9b2c34bb57129ee74f06284541207d6", func := "dispatch/dispatchlaw12.OrderApps", spec := "orderApps", unfollowed := true, recurses := true, named := ["math/bits.divideError", "math/bits.overflowError"], apart := false, narrowed := true }
def OrderAppsUptoSaid : Prop := orderAppsUptoRow.holds Tryz.pinned (OpenSpec.upto orderAppsSpec)

/-- 'dispatchlaw17.VictimsAsk', WHERE WHAT IT READS IS OF BULK AT MOST 1048576: true; the input reads as it did. -/
def victimsAskUptoRow : OpenClaim := { program := "yteodpoelbdakgaagreat", sum := "7aa2854d6533a0edab490fdc19ae0d43e9b2c34bb57129ee74f06284541207d6", func := "dispatch/dispatchlaw17.VictimsAsk", spec := "victimsAsk", inPlace := ["slices.overlaps[dispatch/api.Ask]"], unfollowed := true, recurses := true, named := ["math/bits.divideError", "math/bits.overflowError"], apart := false, narrowed := true }
def VictimsAskUptoSaid : Prop := victimsAskUptoRow.holds Tryz.pinned (OpenSpec.upto victimsAskSpec)

/-- 'dispatchlaw17.VictimsOver', WHERE WHAT IT READS IS OF BULK AT MOST 1048576: true; the input reads as it did. -/
def victimsOverUptoRow : OpenClaim := { program := "yteodpoelbdakgaagreat", sum := "7aa2854d6533a0edab490fdc19ae0d43e9b2c34bb57129ee74f06284541207d6", func := "dispatch/dispatchlaw17.VictimsOver", spec := "victimsOver", inPlace := ["slices.overlaps[dispatch/api.Ask]"], unfollowed := true, recurses := true, named := ["math/bits.divideError", "math/bits.overflowError"], apart := false, narrowed := true }
def VictimsOverUptoSaid : Prop := victimsOverUptoRow.holds Tryz.pinned (OpenSpec.upto victimsOverSpec)

/-- 'dispatchlaw17.VictimsNeed', WHERE WHAT IT READS IS OF BULK AT MOST 1048576: true; the input reads as it did. -/
def victimsNeedUptoRow : OpenClaim := { program := "yteodpoelbdakgaagreat", sum := "7aa2854d6533a0edab490fdc19ae0d43e9b2c34bb57129ee74f06284541207d6", func := "dispatch/dispatchlaw17.VictimsNeed", spec := "victimsNeed", inPlace := ["slices.overlaps[dispatch/api.Ask]"], unfollowed := true, recurses := true, named := ["math/bits.divideError", "math/bits.overflowError"], apart := false, narrowed := true }
def VictimsNeedUptoSaid : Prop := victimsNeedUptoRow.holds Tryz.pinned (OpenSpec.upto victimsNeedSpec)

/-- 'dispatchlaw17.VictimsGrace', WHERE WHAT IT READS IS OF BULK AT MOST 1048576: true; the input reads as it did. -/
def victimsGraceUptoRow : OpenClaim := { program := "yteodpoelbdakgaagreat", sum := "7aa2854d6533a0edab490fdc19ae0d43e9b2c34bb57129ee74f06284541207d6", func := "dispatch/dispatchlaw17.VictimsGrace", spec := "victimsGrace", inPlace := ["slices.overlaps[dispatch/api.Ask]"], unfollowed := true, recurses := true, named := ["math/bits.divideError", "math/bits.overflowError"], apart := false, narrowed := true }
def VictimsGraceUptoSaid : Prop := victimsGraceUptoRow.holds Tryz.pinned (OpenSpec.upto victimsGraceSpec)

/-- 'dispatchlaw17.VictimsCount', WHERE WHAT IT READS IS OF BULK AT MOST 1048576: true; the input reads as it did. -/
def victimsCountUptoRow : OpenClaim := { program := "yteodpoelbdakgaagreat", sum := "7aa2854d6533a0edab490fdc19ae0d43e9b2c34bb57129ee74f06284541207d6", func := "dispatch/dispatchlaw17.VictimsCount", spec := "victimsCount", inPlace := ["slices.overlaps[dispatch/api.Ask]"], unfollowed := true, recurses := true, named := ["math/bits.divideError", "math/bits.overflowError"], apart := false, narrowed := true }
def VictimsCountUptoSaid : Prop := victimsCountUptoRow.holds Tryz.pinned (OpenSpec.upto victimsCountSpec)

/-- 'dispatchlaw17.VictimsKill', WHERE WHAT IT READS IS OF BULK AT MOST 1048576: true; the input reads as it did. -/
def victimsKillUptoRow : OpenClaim := { program := "yteodpoelbdakgaagreat", sum := "7aa2854d6533a0edab490fdc19ae0d43e9b2c34bb57129ee74f06284541207d6", func := "dispatch/dispatchlaw17.VictimsKill", spec := "victimsKill", inPlace := ["slices.overlaps[dispatch/api.Ask]"], unfollowed := true, recurses := true, named := ["math/bits.divideError", "math/bits.overflowError"], apart := false, narrowed := true }
def VictimsKillUptoSaid : Prop := victimsKillUptoRow.holds Tryz.pinned (OpenSpec.upto victimsKillSpec)

/-- 'dispatchlaw14.AssignFits', WHERE WHAT IT READS IS OF BULK AT MOST 1048576: true; the input reads as it did. -/
def assignFitsUptoRow : OpenClaim := { program := "yteodpoelbdakgaagreat", sum := "7aa2854d6533a0edab490fdc19ae0d43e9b2c34bb57129ee74f06284541207d6", func := "dispatch/dispatchlaw14.AssignFits", spec := "assignFits", inPlace := ["slices.overlaps[dispatch/api.Ask]", "slices.overlaps[dispatch/api.App]", "slices.overlaps[dispatch/api.Cont]", "slices.overlaps[dispatch/api.Slot]"], unfollowed := true, recurses := true, named := ["math/bits.divideError", "math/bits.overflowError"], apart := false, narrowed := true }
def AssignFitsUptoSaid : Prop := assignFitsUptoRow.holds Tryz.pinned (OpenSpec.upto assignFitsSpec)

/-- 'dispatchlaw14.AssignTurns', WHERE WHAT IT READS IS OF BULK AT MOST 1048576: true; the input reads as it did. -/
def assignTurnsUptoRow : OpenClaim := { program := "yteodpoelbdakgaagreat", sum := "7aa2854d6533a0edab490fdc19ae0d43e9b2c34bb57129ee74f06284541207d6", func := "dispatch/dispatchlaw14.AssignTurns", spec := "assignTurns", inPlace := ["slices.overlaps[dispatch/api.Ask]", "slices.overlaps[dispatch/api.App]", "slices.overlaps[dispatch/api.Cont]", "slices.overlaps[dispatch/api.Slot]"], unfollowed := true, recurses := true, named := ["math/bits.divideError", "math/bits.overflowError"], apart := false, narrowed := true }
def AssignTurnsUptoSaid : Prop := assignTurnsUptoRow.holds Tryz.pinned (OpenSpec.upto assignTurnsSpec)

/-- 'dispatchlaw14.AssignHolds', WHERE WHAT IT READS IS OF BULK AT MOST 1048576: true; the input reads as it did. -/
def assignHoldsUptoRow : OpenClaim := { program := "yteodpoelbdakgaagreat", sum := "7aa2854d6533a0edab490fdc19ae0d43e9b2c34bb57129ee74f06284541207d6", func := "dispatch/dispatchlaw14.AssignHolds", spec := "assignHolds", inPlace := ["slices.overlaps[dispatch/api.Ask]", "slices.overlaps[dispatch/api.App]", "slices.overlaps[dispatch/api.Cont]", "slices.overlaps[dispatch/api.Slot]"], unfollowed := true, recurses := true, named := ["math/bits.divideError", "math/bits.overflowError"], apart := false, narrowed := true }
def AssignHoldsUptoSaid : Prop := assignHoldsUptoRow.holds Tryz.pinned (OpenSpec.upto assignHoldsSpec)

/-- 'dispatchlaw14.AssignOnes', WHERE WHAT IT READS IS OF BULK AT MOST 1048576: true; the input reads as it did. -/
def assignOnesUptoRow : OpenClaim := { program := "yteodpoelbdakgaagreat", sum := "7aa2854d6533a0edab490fdc19ae0d43e9b2c34bb57129ee74f06284541207d6", func := "dispatch/dispatchlaw14.AssignOnes", spec := "assignOnes", inPlace := ["slices.overlaps[dispatch/api.Ask]", "slices.overlaps[dispatch/api.App]", "slices.overlaps[dispatch/api.Cont]", "slices.overlaps[dispatch/api.Slot]"], unfollowed := true, recurses := true, named := ["math/bits.divideError", "math/bits.overflowError"], apart := false, narrowed := true }
def AssignOnesUptoSaid : Prop := assignOnesUptoRow.holds Tryz.pinned (OpenSpec.upto assignOnesSpec)

/-- 'dispatchlaw14.AssignIds', WHERE WHAT IT READS IS OF BULK AT MOST 1048576: true; the input reads as it did. -/
def assignIdsUptoRow : OpenClaim := { program := "yteodpoelbdakgaagreat", sum := "7aa2854d6533a0edab490fdc19ae0d43e9b2c34bb57129ee74f06284541207d6", func := "dispatch/dispatchlaw14.AssignIds", spec := "assignIds", inPlace := ["slices.overlaps[dispatch/api.Ask]", "slices.overlaps[dispatch/api.App]", "slices.overlaps[dispatch/api.Cont]", "slices.overlaps[dispatch/api.Slot]"], unfollowed := true, recurses := true, named := ["math/bits.divideError", "math/bits.overflowError"], apart := false, narrowed := true }
def AssignIdsUptoSaid : Prop := assignIdsUptoRow.holds Tryz.pinned (OpenSpec.upto assignIdsSpec)

end Rows
end Go.Proofs.YteodpoelbdakgaaGreat
