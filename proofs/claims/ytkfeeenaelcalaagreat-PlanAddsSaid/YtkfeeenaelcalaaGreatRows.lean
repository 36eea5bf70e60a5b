/-
  No cell of these rows narrows 'for every input' (looked for: loops, veiled, ifaces, maps, wideKeys, modest, calm, conditions, laid).
  DERIVED. THE GIVEN ROWS OF THIS SEAT. 12 by the template 'for every input the law returns true; each argument reads behind the call as it read before'; 0 by the template 'total and deterministic' (their statements: YtkfeeenaelcalaaGreatTotals.lean).
  GIVEN WITH THE SEED: the statements are not yours to turn. If you find one false, say at which input.
  Laid BY PROGRAM, IN A SANDBOX (cutbox-rows.mjs): the forced cells as the released guide's own fill.sh prints them over the translation 53249a834cd4f3cf… (all of the seat's roots in one cut). By AI agents, Wed Nov 11 2026. No macro, syntax, notation, axiom, sorry.
-/
import Derived.Test.YtkfeeenaelcalaaGreatChecked
import GoSem.Claim
import GoSem.ClaimJoined
import GoSem.ClaimMapViews
import Derived.JoinedTies
import Derived.KernelRfl
namespace Go.Proofs.YtkfeeenaelcalaaGreat
/- THE CELL 'sum', in the pinned program and in every row, IS THE sha256 OF THE DUMP (.gsa) THAT YtkfeeenaelcalaaGreatProg.lean LOADS. Nothing in Lean hashes anything: it is a label: what it is worth is what the hold of that sum in a sandbox is worth. -/
noncomputable def Tryz.pinned : Pinned := { name := "ytkfeeenaelcalaagreat", sum := "53249a834cd4f3cf14c546d426674bd2c8f8ef8ce7fddffe81d6d3cf4c18d738", checked := Tryz.checked }
namespace Rows
def none {H : Type} : Left H := { results := [], args := [] }

/-- 'dispatchlaw7.ShareSums': WHATEVER THE INPUT: true; the input reads as it did. -/
def shareSumsSpec : ChangeSpec := { name := "shareSums", fn := fun _ => fun
  | [d] => { results := [.lit (.bool true)], args := [d] }
  | _ => none }
def shareSumsRow : OpenClaim := { program := "ytkfeeenaelcalaagreat", sum := "53249a834cd4f3cf14c546d426674bd2c8f8ef8ce7fddffe81d6d3cf4c18d738", func := "dispatch/dispatchlaw7.ShareSums", spec := "shareSums", unfollowed := true, recurses := true, named := ["math/bits.divideError", "math/bits.overflowError"], apart := false }
def ShareSumsSaid : Prop := shareSumsRow.holds Tryz.pinned (OpenSpec.ofChange shareSumsSpec)

/-- ITS FALSE NEIGHBOUR: 'it returns false'. Refute it at one input. -/
def shareSumsWrong : ChangeSpec := { name := "shareSums", fn := fun _ => fun
  | [d] => { results := [.lit (.bool false)], args := [d] }
  | _ => none }
def ShareSumsWrongFalsely : Prop := shareSumsRow.holds Tryz.pinned (OpenSpec.ofChange shareSumsWrong)

/-- 'dispatchlaw7.ShareGrows': WHATEVER THE INPUT: true; the input reads as it did. -/
def shareGrowsSpec : ChangeSpec := { name := "shareGrows", fn := fun _ => fun
  | [d1, d2, d3] => { results := [.lit (.bool true)], args := [d1, d2, d3] }
  | _ => none }
def shareGrowsRow : OpenClaim := { program := "ytkfeeenaelcalaagreat", sum := "53249a834cd4f3cf14c546d426674bd2c8f8ef8ce7fddffe81d6d3cf4c18d738", func := "dispatch/dispatchlaw7.ShareGrows", spec := "shareGrows", unfollowed := true, recurses := true, named := ["math/bits.divideError", "math/bits.overflowError"], apart := false }
def ShareGrowsSaid : Prop := shareGrowsRow.holds Tryz.pinned (OpenSpec.ofChange shareGrowsSpec)

/-- ITS FALSE NEIGHBOUR: 'it returns false'. Refute it at one input. -/
def shareGrowsWrong : ChangeSpec := { name := "shareGrows", fn := fun _ => fun
  | [d1, d2, d3] => { results := [.lit (.bool false)], args := [d1, d2, d3] }
  | _ => none }
def ShareGrowsWrongFalsely : Prop := shareGrowsRow.holds Tryz.pinned (OpenSpec.ofChange shareGrowsWrong)

/-- 'dispatchlaw7.ShareAsks': WHATEVER THE INPUT: true; the input reads as it did. -/
def shareAsksSpec : ChangeSpec := { name := "shareAsks", fn := fun _ => fun
  | [d1, d2] => { results := [.lit (.bool true)], args := [d1, d2] }
  | _ => none }
def shareAsksRow : OpenClaim := { program := "ytkfeeenaelcalaagreat", sum := "53249a834cd4f3cf14c546d426674bd2c8f8ef8ce7fddffe81d6d3cf4c18d738", func := "dispatch/dispatchlaw7.ShareAsks", spec := "shareAsks", unfollowed := true, recurses := true, named := ["math/bits.divideError", "math/bits.overflowError"], apart := false }
def ShareAsksSaid : Prop := shareAsksRow.holds Tryz.pinned (OpenSpec.ofChange shareAsksSpec)

/-- ITS FALSE NEIGHBOUR: 'it returns false'. Refute it at one input. -/
def shareAsksWrong : ChangeSpec := { name := "shareAsks", fn := fun _ => fun
  | [d1, d2] => { results := [.lit (.bool false)], args := [d1, d2] }
  | _ => none }
def ShareAsksWrongFalsely : Prop := shareAsksRow.holds Tryz.pinned (OpenSpec.ofChange shareAsksWrong)

/-- 'dispatchlaw11.QtreeRoom': WHATEVER THE INPUT: true; the input reads as it did. -/
def qtreeRoomSpec : ChangeSpec := { name := "qtreeRoom", fn := fun _ => fun
  | [d1, d2, d3] => { results := [.lit (.bool true)], args := [d1, d2, d3] }
  | _ => none }
def qtreeRoomRow : OpenClaim := { program := "ytkfeeenaelcalaagreat", sum := "53249a834cd4f3cf14c546d426674bd2c8f8ef8ce7fddffe81d6d3cf4c18d738", func := "dispatch/dispatchlaw11.QtreeRoom", spec := "qtreeRoom", unfollowed := true, recurses := true, named := ["math/bits.divideError", "math/bits.overflowError"], apart := false }
def QtreeRoomSaid : Prop := qtreeRoomRow.holds Tryz.pinned (OpenSpec.ofChange qtreeRoomSpec)

/-- ITS FALSE NEIGHBOUR: 'it returns false'. Refute it at one input. -/
def qtreeRoomWrong : ChangeSpec := { name := "qtreeRoom", fn := fun _ => fun
  | [d1, d2, d3] => { results := [.lit (.bool false)], args := [d1, d2, d3] }
  | _ => none }
def QtreeRoomWrongFalsely : Prop := qtreeRoomRow.holds Tryz.pinned (OpenSpec.ofChange qtreeRoomWrong)

/-- 'dispatchlaw11.QtreeFalls': WHATEVER THE INPUT: true; the input reads as it did. -/
def qtreeFallsSpec : ChangeSpec := { name := "qtreeFalls", fn := fun _ => fun
  | [d1, d2, d3] => { results := [.lit (.bool true)], args := [d1, d2, d3] }
  | _ => none }
def qtreeFallsRow : OpenClaim := { program := "ytkfeeenaelcalaagreat", sum := "53249a834cd4f3cf14c546d426674bd2c8f8ef8ce7fddffe81d6d3cf4c18d738", func := "dispatch/dispatchlaw11.QtreeFalls", spec := "qtreeFalls", unfollowed := true, recurses := true, named := ["math/bits.divideError", "math/bits.overflowError"], apart := false }
def QtreeFallsSaid : Prop := qtreeFallsRow.holds Tryz.pinned (OpenSpec.ofChange qtreeFallsSpec)

/-- ITS FALSE NEIGHBOUR: 'it returns false'. Refute it at one input. -/
def qtreeFallsWrong : ChangeSpec := { name := "qtreeFalls", fn := fun _ => fun
  | [d1, d2, d3] => { results := [.lit (.bool false)], args := [d1, d2, d3] }
  | _ => none }
def QtreeFallsWrongFalsely : Prop := qtreeFallsRow.holds Tryz.pinned (OpenSpec.ofChange qtreeFallsWrong)

/-- 'dispatchlaw11.QtreeGone': WHATEVER THE INPUT: true; the input reads as it did. -/
def qtreeGoneSpec : ChangeSpec := { name := "qtreeGone", fn := fun _ => fun
  | [d1, d2] => { results := [.lit (.bool true)], args := [d1, d2] }
  | _ => none }
def qtreeGoneRow : OpenClaim := { program := "ytkfeeenaelcalaagreat", sum := "53249a834cd4f3cf14c546d426674bd2c8f8ef8ce7fddffe81d6d3cf4c18d738", func := "dispatch/dispatchlaw11.QtreeGone", spec := "qtreeGone", unfollowed := true, recurses := true, named := ["math/bits.divideError", "math/bits.overflowError"], apart := false }
def QtreeGoneSaid : Prop := qtreeGoneRow.holds Tryz.pinned (OpenSpec.ofChange qtreeGoneSpec)

/-- ITS FALSE NEIGHBOUR: 'it returns false'. Refute it at one input. -/
def qtreeGoneWrong : ChangeSpec := { name := "qtreeGone", fn := fun _ => fun
  | [d1, d2] => { results := [.lit (.bool false)], args := [d1, d2] }
  | _ => none }
def QtreeGoneWrongFalsely : Prop := qtreeGoneRow.holds Tryz.pinned (OpenSpec.ofChange qtreeGoneWrong)

/-- 'dispatchlaw11.QtreeAsks': WHATEVER THE INPUT: true; the input reads as it did. -/
def qtreeAsksSpec : ChangeSpec := { name := "qtreeAsks", fn := fun _ => fun
  | [d1, d2, d3, d4] => { results := [.lit (.bool true)], args := [d1, d2, d3, d4] }
  | _ => none }
def qtreeAsksRow : OpenClaim := { program := "ytkfeeenaelcalaagreat", sum := "53249a834cd4f3cf14c546d426674bd2c8f8ef8ce7fddffe81d6d3cf4c18d738", func := "dispatch/dispatchlaw11.QtreeAsks", spec := "qtreeAsks", unfollowed := true, recurses := true, named := ["math/bits.divideError", "math/bits.overflowError"], apart := false }
def QtreeAsksSaid : Prop := qtreeAsksRow.holds Tryz.pinned (OpenSpec.ofChange qtreeAsksSpec)

/-- ITS FALSE NEIGHBOUR: 'it returns false'. Refute it at one input. -/
def qtreeAsksWrong : ChangeSpec := { name := "qtreeAsks", fn := fun _ => fun
  | [d1, d2, d3, d4] => { results := [.lit (.bool false)], args := [d1, d2, d3, d4] }
  | _ => none }
def QtreeAsksWrongFalsely : Prop := qtreeAsksRow.holds Tryz.pinned (OpenSpec.ofChange qtreeAsksWrong)

/-- 'dispatchlaw11.QtreeSums': WHATEVER THE INPUT: true; the input reads as it did. -/
def qtreeSumsSpec : ChangeSpec := { name := "qtreeSums", fn := fun _ => fun
  | [d] => { results := [.lit (.bool true)], args := [d] }
  | _ => none }
def qtreeSumsRow : OpenClaim := { program := "ytkfeeenaelcalaagreat", sum := "53249a834cd4f3cf14c546d426674bd2c8f8ef8ce7fddffe81d6d3cf4c18d738", func := "dispatch/dispatchlaw11.QtreeSums", spec := "qtreeSums", unfollowed := true, recurses := true, named := ["math/bits.divideError", "math/bits.overflowError"], apart := false }
def QtreeSumsSaid : Prop := qtreeSumsRow.holds Tryz.pinned (OpenSpec.ofChange qtreeSumsSpec)

/-- ITS FALSE NEIGHBOUR: 'it returns false'. Refute it at one input. -/
def qtreeSumsWrong : ChangeSpec := { name := "qtreeSums", fn := fun _ => fun
  | [d] => { results := [.lit (.bool false)], args := [d] }
  | _ => none }
def QtreeSumsWrongFalsely : Prop := qtreeSumsRow.holds Tryz.pinned (OpenSpec.ofChange qtreeSumsWrong)

/-- 'dispatchlaw16.IdealLeaves': WHATEVER THE INPUT: true; the input reads as it did. -/
def idealLeavesSpec : ChangeSpec := { name := "idealLeaves", fn := fun _ => fun
  | [d] => { results := [.lit (.bool true)], args := [d] }
  | _ => none }
def idealLeavesRow : OpenClaim := { program := "ytkfeeenaelcalaagreat", sum := "53249a834cd4f3cf14c546d426674bd2c8f8ef8ce7fddffe81d6d3cf4c18d738", func := "dispatch/dispatchlaw16.IdealLeaves", spec := "idealLeaves", unfollowed := true, recurses := true, named := ["math/bits.divideError", "math/bits.overflowError"], apart := false }
def IdealLeavesSaid : Prop := idealLeavesRow.holds Tryz.pinned (OpenSpec.ofChange idealLeavesSpec)

/-- ITS FALSE NEIGHBOUR: 'it returns false'. Refute it at one input. -/
def idealLeavesWrong : ChangeSpec := { name := "idealLeaves", fn := fun _ => fun
  | [d] => { results := [.lit (.bool false)], args := [d] }
  | _ => none }
def IdealLeavesWrongFalsely : Prop := idealLeavesRow.holds Tryz.pinned (OpenSpec.ofChange idealLeavesWrong)

/-- 'dispatchlaw12.OrderLeaves': WHATEVER THE INPUT: true; the input reads as it did. -/
def orderLeavesSpec : ChangeSpec := { name := "orderLeaves", fn := fun _ => fun
  | [d] => { results := [.lit (.bool true)], args := [d] }
  | _ => none }
def orderLeavesRow : OpenClaim := { program := "ytkfeeenaelcalaagreat", sum := "53249a834cd4f3cf14c546d426674bd2c8f8ef8ce7fddffe81d6d3cf4c18d738", func := "dispatch/dispatchlaw12.OrderLeaves", spec := "orderLeaves", unfollowed := true, recurses := true, named := ["math/bits.divideError", "math/bits.overflowError"], apart := false }
def OrderLeavesSaid : Prop := orderLeavesRow.holds Tryz.pinned (OpenSpec.ofChange orderLeavesSpec)

/-- ITS FALSE NEIGHBOUR: 'it returns false'. Refute it at one input. -/
def orderLeavesWrong : ChangeSpec := { name := "orderLeaves", fn := fun _ => fun
  | [d] => { results := [.lit (.bool false)], args := [d] }
  | _ => none }
def OrderLeavesWrongFalsely : Prop := orderLeavesRow.holds Tryz.pinned (OpenSpec.ofChange orderLeavesWrong)

/-- 'dispatchlaw15.PlanAdds': WHATEVER THE INPUT: true; the input reads as it did. -/
def planAddsSpec : ChangeSpec := { name := "planAdds", fn := fun _ => fun
  | [d1, d2, d3, d4] => { results := [.lit (.bool true)], args := [d1, d2, d3, d4] }
  | _ => none }
def planAddsRow : OpenClaim := { program := "ytkfeeenaelcalaagreat", sum := "53249a834cd4f3cf14c546d426674bd2c8f8ef8ce7fddffe81d6d3cf4c18d738", func := "dispatch/dispatchlaw15.PlanAdds", spec := "planAdds", inPlace := ["slices.overlaps[dispatch/api.Ask]"], unfollowed := true, recurses := true, apart := false }
def PlanAddsSaid : Prop := planAddsRow.holds Tryz.pinned (OpenSpec.ofChange planAddsSpec)

/-- ITS FALSE NEIGHBOUR: 'it returns false'. Refute it at one input. -/
def planAddsWrong : ChangeSpec := { name := "planAdds", fn := fun _ => fun
  | [d1, d2, d3, d4] => { results := [.lit (.bool false)], args := [d1, d2, d3, d4] }
  | _ => none }
def PlanAddsWrongFalsely : Prop := planAddsRow.holds Tryz.pinned (OpenSpec.ofChange planAddsWrong)

/-- 'dispatchlaw12.OrderAsks': WHATEVER THE INPUT: true; the input reads as it did. -/
def orderAsksSpec : ChangeSpec := { name := "orderAsks", fn := fun _ => fun
  | [d1, d2] => { results := [.lit (.bool true)], args := [d1, d2] }
  | _ => none }
def orderAsksRow : OpenClaim := { program := "ytkfeeenaelcalaagreat", sum := "53249a834cd4f3cf14c546d426674bd2c8f8ef8ce7fddffe81d6d3cf4c18d738", func := "dispatch/dispatchlaw12.OrderAsks", spec := "orderAsks", unfollowed := true, recurses := true, named := ["math/bits.divideError", "math/bits.overflowError"], apart := false }
def OrderAsksSaid : Prop := orderAsksRow.holds Tryz.pinned (OpenSpec.ofChange orderAsksSpec)

/-- ITS FALSE NEIGHBOUR: 'it returns false'. Refute it at one input. -/
def orderAsksWrong : ChangeSpec := { name := "orderAsks", fn := fun _ => fun
  | [d1, d2] => { results := [.lit (.bool false)], args := [d1, d2] }
  | _ => none }
def OrderAsksWrongFalsely : Prop := orderAsksRow.holds Tryz.pinned (OpenSpec.ofChange orderAsksWrong)

/- THE SECOND FORM. 'bulk': how many values and letters a reading holds, each counted each time it is reached (what is shared counts as often as it is met; a slice's spare places count too). A statement '..UptoSaid' is the law's where the arguments, and the package variables that the reading takes, are together of bulk at most 1048576: NARROWER than '..Said'. Prove '..Said' where nothing that the law and all that it calls make is longer than what came in: it says more and counts as full. Else prove '..UptoSaid'. A law counts once. -/
mutual
def uptoBulk {H : Type} : DataW H → Nat
  | .lit (.string bytes) => bytes.length + 1
  | .lit _ => 1
  | .nil => 1
  | .ptr d => uptoBulk d + 1
  | .slice elems spare => uptoBulkAll elems + uptoBulkAll spare + 1
  | .agg parts => uptoBulkAll parts + 1
  | .iface _ d => uptoBulk d + 1
  | .map entries => uptoBulkEntries entries + 1
  | .held _ => 1
def uptoBulkAll {H : Type} : List (DataW H) → Nat
  | [] => 0
  | d :: r => uptoBulk d + uptoBulkAll r
def uptoBulkEntries {H : Type} : List (Lit × DataW H) → Nat
  | [] => 0
  | x :: r => uptoBulkEntry x + uptoBulkEntries r
def uptoBulkEntry {H : Type} : Lit × DataW H → Nat
  | (.string bytes, d) => bytes.length + uptoBulk d + 1
  | (_, d) => uptoBulk d + 1
 end
def uptoSmall : (H : Type) → List (DataW H) → Bool := fun _ ds => decide (uptoBulkAll ds ≤ 1048576)
def OpenSpec.upto (s : _root_.Go.ChangeSpec) : _root_.Go.OpenSpec := { _root_.Go.OpenSpec.ofChange s with cond := some uptoSmall }

/-- 'dispatchlaw7.ShareSums', WHERE WHAT IT READS IS OF BULK AT MOST 1048576: true; the input reads as it did. -/
def shareSumsUptoRow : OpenClaim := { program := "ytkfeeenaelcalaagreat", sum := "53249a834cd4f3cf14c546d426674bd2c8f8ef8ce7fddffe81d6d3cf4c18d738", func := "dispatch/dispatchlaw7.ShareSums", spec := "shareSums", unfollowed := true, recurses := true, named := ["math/bits.divideError", "math/bits.overflowError"], apart := false, narrowed := true }
def ShareSumsUptoSaid : Prop := shareSumsUptoRow.holds Tryz.pinned (OpenSpec.upto shareSumsSpec)

/-- 'dispatchlaw7.ShareGrows', WHERE WHAT IT READS IS OF BULK AT MOST 1048576: true; the input reads as it did. -/
def shareGrowsUptoRow : OpenClaim := { program := "ytkfeeenaelcalaagreat", sum := "53249a834cd4f3cf14c546d426674bd2c8f8ef8ce7fddffe81d6d3cf4c18d738", func := "dispatch/dispatchlaw7.ShareGrows", spec := "shareGrows", unfollowed := true, recurses := true, named := ["math/bits.divideError", "math/bits.overflowError"], apart := false, narrowed := true }
def ShareGrowsUptoSaid : Prop := shareGrowsUptoRow.holds Tryz.pinned (OpenSpec.upto shareGrowsSpec)

/-- 'dispatchlaw7.ShareAsks', WHERE WHAT IT READS IS OF BULK AT MOST 1048576: true; the input reads as it did. -/
def shareAsksUptoRow : OpenClaim := { program := "ytkfeeenaelcalaagreat", sum := "53249a834cd4f3cf14c546d426674bd2c8f8ef8ce7fddffe81d6d3cf4c18d738", func := "dispatch/dispatchlaw7.ShareAsks", spec := "shareAsks", unfollowed := true, recurses := true, named := ["math/bits.divideError", "math/bits.overflowError"], apart := false, narrowed := true }
def ShareAsksUptoSaid : Prop := shareAsksUptoRow.holds Tryz.pinned (OpenSpec.upto shareAsksSpec)

/-- 'dispatchlaw11.QtreeRoom', WHERE WHAT IT READS IS OF BULK AT MOST 1048576: true; the input reads as it did. -/
def qtreeRoomUptoRow : OpenClaim := { program := "ytkfeeenaelcalaagreat", sum := "53249a834cd4f3cf14c546d426674bd2c8f8ef8ce7fddffe81d6d3cf4c18d738", func := "dispatch/dispatchlaw11.QtreeRoom", spec := "qtreeRoom", unfollowed := true, recurses := true, named := ["math/bits.divideError", "math/bits.overflowError"], apart := false, narrowed := true }
def QtreeRoomUptoSaid : Prop := qtreeRoomUptoRow.holds Tryz.pinned (OpenSpec.upto qtreeRoomSpec)

/-- 'dispatchlaw11.QtreeFalls', WHERE WHAT IT READS IS OF BULK AT MOST 1048576: true; the input reads as it did. -/
def qtreeFallsUptoRow : OpenClaim := { program := "ytkfeeenaelcalaagreat", sum := "53249a834cd4f3cf14c546d426674bd2c8f8ef8ce7fddffe81d6d3cf4c18d738", func := "dispatch/dispatchlaw11.QtreeFalls", spec := "qtreeFalls", unfollowed := true, recurses := true, named := ["math/bits.divideError", "math/bits.overflowError"], apart := false, narrowed := true }
def QtreeFallsUptoSaid : Prop := qtreeFallsUptoRow.holds Tryz.pinned (OpenSpec.upto qtreeFallsSpec)

/-- 'dispatchlaw11.QtreeGone', WHERE WHAT IT READS IS OF BULK AT MOST 1048576: true; the input reads as it did. -/
def qtreeGoneUptoRow : OpenClaim := { program := "ytkfeeenaelcalaagreat", sum := "53249a834cd4f3cf14c546d426674bd2c8f8ef8ce7fddffe81d6d3cf4c18d738", func := "dispatch/dispatchlaw11.QtreeGone", spec := "qtreeGone", unfollowed := true, recurses := true, named := ["math/bits.divideError", "math/bits.overflowError"], apart := false, narrowed := true }
def QtreeGoneUptoSaid : Prop := qtreeGoneUptoRow.holds Tryz.pinned (OpenSpec.upto qtreeGoneSpec)

/-- 'dispatchlaw11.QtreeAsks', WHERE WHAT IT READS IS OF BULK AT MOST 1048576: true; the input reads as it did. -/
def qtreeAsksUptoRow : OpenClaim := { program := "ytkfeeenaelcalaagreat", sum := "53249a834cd4f3cf14c546d426674bd2c8f8ef8ce7fddffe81d6d3cf4c18d738", func := "dispatch/dispatchlaw11.QtreeAsks", spec := "qtreeAsks", unfollowed := true, recurses := true, named := ["math/bits.divideError", "math/bits.overflowError"], apart := false, narrowed := true }
def QtreeAsksUptoSaid : Prop := qtreeAsksUptoRow.holds Tryz.pinned (OpenSpec.upto qtreeAsksSpec)

/-- 'dispatchlaw11.QtreeSums', WHERE WHAT IT READS IS OF BULK AT MOST 1048576: true; the input reads as it did. -/
def qtreeSumsUptoRow : OpenClaim := { program := "ytkfeeenaelcalaagreat", sum := "53249a834cd4f3cf14c546d426674bd2c8f8ef8ce7fddffe81d6d3cf4c18d738", func := "dispatch/dispatchlaw11.QtreeSums", spec := "qtreeSums", unfollowed := true, recurses := true, named := ["math/bits.divideError", "math/bits.overflowError"], apart := false, narrowed := true }
def QtreeSumsUptoSaid : Prop := qtreeSumsUptoRow.holds Tryz.pinned (OpenSpec.upto qtreeSumsSpec)

/-- 'dispatchlaw16.IdealLeaves', WHERE WHAT IT READS IS OF BULK AT MOST 1048576: true; the input reads as it did. -/
def idealLeavesUptoRow : OpenClaim := { program := "ytkfeeenaelcalaagreat", sum := "53249a834cd4f3cf14c546d426674bd2c8f8ef8ce7fddffe81d6d3cf4c18d738", func := "dispatch/dispatchlaw16.IdealLeaves", spec := "idealLeaves", unfollowed := true, recurses := true, named := ["math/bits.divideError", "math/bits.overflowError"], apart := false, narrowed := true }
def IdealLeavesUptoSaid : Prop := idealLeavesUptoRow.holds Tryz.pinned (OpenSpec.upto idealLeavesSpec)

/-- 'dispatchlaw12.OrderLeaves', WHERE WHAT IT READS IS OF BULK AT MOST 1048576: true; the input reads as it did. -/
def orderLeavesUptoRow : OpenClaim := { program := "ytkfeeenaelcalaagreat", sum := "53249a834cd4f3cf14c546d426674bd2c8f8ef8ce7fddffe81d6d3cf4c18d738", func := "dispatch/dispatchlaw12.OrderLeaves", spec := "orderLeaves", unfollowed := true, recurses := true, named := ["math/bits.divideError", "math/bits.overflowError"], apart := false, narrowed := true }
def OrderLeavesUptoSaid : Prop := orderLeavesUptoRow.holds Tryz.pinned (OpenSpec.upto orderLeavesSpec)

/-- 'dispatchlaw15.PlanAdds', WHERE WHAT IT READS IS OF BULK AT MOST 1048576: true; the input reads as it did. -/
def planAddsUptoRow : OpenClaim := { program := "ytkfeeenaelcalaagreat", sum := "53249a834cd4f3cf14c546d426674bd2c8f8ef8ce7fddffe81d6d3cf4c18d738", func := "dispatch/dispatchlaw15.PlanAdds", spec := "planAdds", inPlace := ["slices.overlaps[dispatch/api.Ask]"], unfollowed := true, recurses := true, apart := false, narrowed := true }
def PlanAddsUptoSaid : Prop := planAddsUptoRow.holds Tryz.pinned (OpenSpec.upto planAddsSpec)

/-- 'dispatchlaw12.OrderAsks', WHERE WHAT IT READS IS OF BULK AT MOST 1048576: true; the input reads as it did. -/
def orderAsksUptoRow : OpenClaim := { program := "ytkfeeenaelcalaagreat", sum := "53249a834cd4f3cf14c546d426674bd2c8f8ef8ce7fddffe81d6d3cf4c18d738", func := "dispatch/dispatchlaw12.OrderAsks", spec := "orderAsks", unfollowed := true, recurses := true, named := ["math/bits.divideError", "math/bits.overflowError"], apart := false, narrowed := true }
def OrderAsksUptoSaid : Prop := orderAsksUptoRow.holds Tryz.pinned (OpenSpec.upto orderAsksSpec)

end Rows
end Go.Proofs.YtkfeeenaelcalaaGreat
