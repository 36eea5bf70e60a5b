/-
  No cell of these rows narrows 'for every input' (looked for: loops, veiled, ifaces, maps, wideKeys, modest, calm, conditions, laid).
  DERIVED. THE GIVEN ROWS OF THIS SEAT. 8 by the template 'for every input the law returns true; each argument reads behind the call as it read before'; 0 by the template 'total and deterministic' (their statements: YtnmgbgbedngcmaaTotals.lean).
  GIVEN WITH THE SEED: the statements are not yours to turn. If you find one false, say at which input.
  Laid BY PROGRAM, IN A SANDBOX (cutbox-rows.mjs): the forced cells as the released guide's own fill.sh prints them over the translation 8d0b5f51e1303aa5… (all of the seat's roots in one cut). By AI agents, Wed Nov 11 2026. No macro, syntax, notation, axiom, sorry.
-/
import Derived.Test.YtnmgbgbedngcmaaChecked
import GoSem.Claim
import GoSem.ClaimJoined
import GoSem.ClaimMapViews
import Derived.JoinedTies
import Derived.KernelRfl
namespace Go.Proofs.Ytnmgbgbedngcmaa
/- THE CELL 'sum', in the pinned program and in every row, IS THE sha256 OF THE DUMP (.gsa) THAT YtnmgbgbedngcmaaProg.lean LOADS. Nothing in Lean hashes anything: it is a label: what it is worth is what the hold of that sum in a sandbox is worth. -/
noncomputable def Try.pinned : Pinned := { name := "ytnmgbgbedngcmaa", sum := "8d0b5f51e1303aa57342621ff1359a3b55e0be72b627db8123bb493043fdd2e2", checked := Try.checked }
namespace Rows
def none {H : Type} : Left H := { results := [], args := [] }

/-- 'dispatchlaw21.SplitSums': WHATEVER THE INPUT: true; the input reads as it did. -/
def splitSumsSpec : ChangeSpec := { name := "splitSums", fn := fun _ => fun
  | [d1, d2] => { results := [.lit (.bool true)], args := [d1, d2] }
  | _ => none }
def splitSumsRow : OpenClaim := { program := "ytnmgbgbedngcmaa", sum := "8d0b5f51e1303aa57342621ff1359a3b55e0be72b627db8123bb493043fdd2e2", func := "dispatch/dispatchlaw21.SplitSums", spec := "splitSums", unfollowed := true, recurses := true, apart := false }
def SplitSumsSaid : Prop := splitSumsRow.holds Try.pinned (OpenSpec.ofChange splitSumsSpec)

/-- ITS FALSE NEIGHBOUR: 'it returns false'. Refute it at one input. -/
def splitSumsWrong : ChangeSpec := { name := "splitSums", fn := fun _ => fun
  | [d1, d2] => { results := [.lit (.bool false)], args := [d1, d2] }
  | _ => none }
def SplitSumsWrongFalsely : Prop := splitSumsRow.holds Try.pinned (OpenSpec.ofChange splitSumsWrong)

/-- 'dispatchlaw21.SplitEven': WHATEVER THE INPUT: true; the input reads as it did. -/
def splitEvenSpec : ChangeSpec := { name := "splitEven", fn := fun _ => fun
  | [d1, d2, d3] => { results := [.lit (.bool true)], args := [d1, d2, d3] }
  | _ => none }
def splitEvenRow : OpenClaim := { program := "ytnmgbgbedngcmaa", sum := "8d0b5f51e1303aa57342621ff1359a3b55e0be72b627db8123bb493043fdd2e2", func := "dispatch/dispatchlaw21.SplitEven", spec := "splitEven", unfollowed := true, recurses := true, apart := false }
def SplitEvenSaid : Prop := splitEvenRow.holds Try.pinned (OpenSpec.ofChange splitEvenSpec)

/-- ITS FALSE NEIGHBOUR: 'it returns false'. Refute it at one input. -/
def splitEvenWrong : ChangeSpec := { name := "splitEven", fn := fun _ => fun
  | [d1, d2, d3] => { results := [.lit (.bool false)], args := [d1, d2, d3] }
  | _ => none }
def SplitEvenWrongFalsely : Prop := splitEvenRow.holds Try.pinned (OpenSpec.ofChange splitEvenWrong)

/-- 'dispatchlaw21.SplitTimes': WHATEVER THE INPUT: true; the input reads as it did. -/
def splitTimesSpec : ChangeSpec := { name := "splitTimes", fn := fun _ => fun
  | [d1, d2, d3] => { results := [.lit (.bool true)], args := [d1, d2, d3] }
  | _ => none }
def splitTimesRow : OpenClaim := { program := "ytnmgbgbedngcmaa", sum := "8d0b5f51e1303aa57342621ff1359a3b55e0be72b627db8123bb493043fdd2e2", func := "dispatch/dispatchlaw21.SplitTimes", spec := "splitTimes", unfollowed := true, recurses := true, apart := false }
def SplitTimesSaid : Prop := splitTimesRow.holds Try.pinned (OpenSpec.ofChange splitTimesSpec)

/-- ITS FALSE NEIGHBOUR: 'it returns false'. Refute it at one input. -/
def splitTimesWrong : ChangeSpec := { name := "splitTimes", fn := fun _ => fun
  | [d1, d2, d3] => { results := [.lit (.bool false)], args := [d1, d2, d3] }
  | _ => none }
def SplitTimesWrongFalsely : Prop := splitTimesRow.holds Try.pinned (OpenSpec.ofChange splitTimesWrong)

/-- 'dispatchlaw21.SplitMore': WHATEVER THE INPUT: true; the input reads as it did. -/
def splitMoreSpec : ChangeSpec := { name := "splitMore", fn := fun _ => fun
  | [d1, d2] => { results := [.lit (.bool true)], args := [d1, d2] }
  | _ => none }
def splitMoreRow : OpenClaim := { program := "ytnmgbgbedngcmaa", sum := "8d0b5f51e1303aa57342621ff1359a3b55e0be72b627db8123bb493043fdd2e2", func := "dispatch/dispatchlaw21.SplitMore", spec := "splitMore", unfollowed := true, recurses := true, apart := false }
def SplitMoreSaid : Prop := splitMoreRow.holds Try.pinned (OpenSpec.ofChange splitMoreSpec)

/-- ITS FALSE NEIGHBOUR: 'it returns false'. Refute it at one input. -/
def splitMoreWrong : ChangeSpec := { name := "splitMore", fn := fun _ => fun
  | [d1, d2] => { results := [.lit (.bool false)], args := [d1, d2] }
  | _ => none }
def SplitMoreWrongFalsely : Prop := splitMoreRow.holds Try.pinned (OpenSpec.ofChange splitMoreWrong)

/-- 'dispatchlaw21.SplitHomes': WHATEVER THE INPUT: true; the input reads as it did. -/
def splitHomesSpec : ChangeSpec := { name := "splitHomes", fn := fun _ => fun
  | [d1, d2] => { results := [.lit (.bool true)], args := [d1, d2] }
  | _ => none }
def splitHomesRow : OpenClaim := { program := "ytnmgbgbedngcmaa", sum := "8d0b5f51e1303aa57342621ff1359a3b55e0be72b627db8123bb493043fdd2e2", func := "dispatch/dispatchlaw21.SplitHomes", spec := "splitHomes", unfollowed := true, recurses := true, apart := false }
def SplitHomesSaid : Prop := splitHomesRow.holds Try.pinned (OpenSpec.ofChange splitHomesSpec)

/-- ITS FALSE NEIGHBOUR: 'it returns false'. Refute it at one input. -/
def splitHomesWrong : ChangeSpec := { name := "splitHomes", fn := fun _ => fun
  | [d1, d2] => { results := [.lit (.bool false)], args := [d1, d2] }
  | _ => none }
def SplitHomesWrongFalsely : Prop := splitHomesRow.holds Try.pinned (OpenSpec.ofChange splitHomesWrong)

/-- 'dispatchlaw21.SplitUps': WHATEVER THE INPUT: true; the input reads as it did. -/
def splitUpsSpec : ChangeSpec := { name := "splitUps", fn := fun _ => fun
  | [d1, d2, d3, d4] => { results := [.lit (.bool true)], args := [d1, d2, d3, d4] }
  | _ => none }
def splitUpsRow : OpenClaim := { program := "ytnmgbgbedngcmaa", sum := "8d0b5f51e1303aa57342621ff1359a3b55e0be72b627db8123bb493043fdd2e2", func := "dispatch/dispatchlaw21.SplitUps", spec := "splitUps", unfollowed := true, recurses := true, apart := false }
def SplitUpsSaid : Prop := splitUpsRow.holds Try.pinned (OpenSpec.ofChange splitUpsSpec)

/-- ITS FALSE NEIGHBOUR: 'it returns false'. Refute it at one input. -/
def splitUpsWrong : ChangeSpec := { name := "splitUps", fn := fun _ => fun
  | [d1, d2, d3, d4] => { results := [.lit (.bool false)], args := [d1, d2, d3, d4] }
  | _ => none }
def SplitUpsWrongFalsely : Prop := splitUpsRow.holds Try.pinned (OpenSpec.ofChange splitUpsWrong)

/-- 'dispatchlaw21.SplitLoads': WHATEVER THE INPUT: true; the input reads as it did. -/
def splitLoadsSpec : ChangeSpec := { name := "splitLoads", fn := fun _ => fun
  | [d1, d2] => { results := [.lit (.bool true)], args := [d1, d2] }
  | _ => none }
def splitLoadsRow : OpenClaim := { program := "ytnmgbgbedngcmaa", sum := "8d0b5f51e1303aa57342621ff1359a3b55e0be72b627db8123bb493043fdd2e2", func := "dispatch/dispatchlaw21.SplitLoads", spec := "splitLoads", unfollowed := true, recurses := true, apart := false }
def SplitLoadsSaid : Prop := splitLoadsRow.holds Try.pinned (OpenSpec.ofChange splitLoadsSpec)

/-- ITS FALSE NEIGHBOUR: 'it returns false'. Refute it at one input. -/
def splitLoadsWrong : ChangeSpec := { name := "splitLoads", fn := fun _ => fun
  | [d1, d2] => { results := [.lit (.bool false)], args := [d1, d2] }
  | _ => none }
def SplitLoadsWrongFalsely : Prop := splitLoadsRow.holds Try.pinned (OpenSpec.ofChange splitLoadsWrong)

/-- 'dispatchlaw21.SplitAsks': WHATEVER THE INPUT: true; the input reads as it did. -/
def splitAsksSpec : ChangeSpec := { name := "splitAsks", fn := fun _ => fun
  | [d1, d2, d3, d4, d5] => { results := [.lit (.bool true)], args := [d1, d2, d3, d4, d5] }
  | _ => none }
def splitAsksRow : OpenClaim := { program := "ytnmgbgbedngcmaa", sum := "8d0b5f51e1303aa57342621ff1359a3b55e0be72b627db8123bb493043fdd2e2", func := "dispatch/dispatchlaw21.SplitAsks", spec := "splitAsks", unfollowed := true, recurses := true, apart := false }
def SplitAsksSaid : Prop := splitAsksRow.holds Try.pinned (OpenSpec.ofChange splitAsksSpec)

/-- ITS FALSE NEIGHBOUR: 'it returns false'. Refute it at one input. -/
def splitAsksWrong : ChangeSpec := { name := "splitAsks", fn := fun _ => fun
  | [d1, d2, d3, d4, d5] => { results := [.lit (.bool false)], args := [d1, d2, d3, d4, d5] }
  | _ => none }
def SplitAsksWrongFalsely : Prop := splitAsksRow.holds Try.pinned (OpenSpec.ofChange splitAsksWrong)

/- THE SECOND FORM. 'bulk': how many values and letters a reading holds, each counted each time it is reached (what is shared counts as often as it is met; a slice's spare places count too). A statement '..UptoSaid' is the law's where the arguments, and the package variables that the reading takes, are together of bulk at most 1048576: NARROWER than '..Said'. Prove '..Said' where nothing that the law and all that it calls make is longer than what came in: it says more and counts as full. Else prove '..UptoSaid'. A law counts once. -/
mutual
def uptoBulk {H : Type} : DataW H → Nat
  | .lit (.string bytes) => bytes.length + 1
  | .lit _ => 1
  | .nil => 1
  | .ptr d => uptoBulk d + 1
  | .slice elems spare => uptoBulkAll elems + uptoBulkAll spare + 1
  | .agg parts => uptoBulkAll parts + 1
  | .iface _ d => uptoBulk d + 1
  | .map entries => uptoBulkEntries entries + 1
  | .held _ => 1
def uptoBulkAll {H : Type} : List (DataW H) → Nat
  | [] => 0
  | d :: r => uptoBulk d + uptoBulkAll r
def uptoBulkEntries {H : Type} : List (Lit × DataW H) → Nat
  | [] => 0
  | x :: r => uptoBulkEntry x + uptoBulkEntries r
def uptoBulkEntry {H : Type} : Lit × DataW H → Nat
  | (.string bytes, d) => bytes.length + uptoBulk d + 1
  | (_, d) => uptoBulk d + 1
 end
def uptoSmall : (H : Type) → List (DataW H) → Bool := fun _ ds => decide (uptoBulkAll ds ≤ 1048576)
def OpenSpec.upto (s : _root_.Go.ChangeSpec) : _root_.Go.OpenSpec := { _root_.Go.OpenSpec.ofChange s with cond := some uptoSmall }

/-- 'dispatchlaw21.SplitSums', WHERE WHAT IT READS IS OF BULK AT MOST 1048576: true; the input reads as it did. -/
def splitSumsUptoRow : OpenClaim := { program := "ytnmgbgbedngcmaa", sum := "8d0b5f51e1303aa57342621ff1359a3b55e0be72b627db8123bb493043fdd2e2", func := "dispatch/dispatchlaw21.SplitSums", spec := "splitSums", unfollowed := true, recurses := true, apart := false, narrowed := true }
def SplitSumsUptoSaid : Prop := splitSumsUptoRow.holds Try.pinned (OpenSpec.upto splitSumsSpec)

/-- 'dispatchlaw21.SplitEven', WHERE WHAT IT READS IS OF BULK AT MOST 1048576: true; the input reads as it did. -/
def splitEvenUptoRow : OpenClaim := { program := "ytnmgbgbedngcmaa", sum := "8d0b5f51e1303aa57342621ff1359a3b55e0be72b627db8123bb493043fdd2e2", func := "dispatch/dispatchlaw21.SplitEven", spec := "splitEven", unfollowed := true, recurses := true, apart := false, narrowed := true }
def SplitEvenUptoSaid : Prop := splitEvenUptoRow.holds Try.pinned (OpenSpec.upto splitEvenSpec)

/-- 'dispatchlaw21.SplitTimes', WHERE WHAT IT READS IS OF BULK AT MOST 1048576: true; the input reads as it did. -/
def splitTimesUptoRow : OpenClaim := { program := "ytnmgbgbedngcmaa", sum := "8d0b5f51e1303aa57342621ff1359a3b55e0be72b627db8123bb493043fdd2e2", func := "dispatch/dispatchlaw21.SplitTimes", spec := "splitTimes", unfollowed := true, recurses := true, apart := false, narrowed := true }
def SplitTimesUptoSaid : Prop := splitTimesUptoRow.holds Try.pinned (OpenSpec.upto splitTimesSpec)

/-- 'dispatchlaw21.SplitMore', WHERE WHAT IT READS IS OF BULK AT MOST 1048576: true; the input reads as it did. -/
def splitMoreUptoRow : OpenClaim := { program := "ytnmgbgbedngcmaa", sum := "8d0b5f51e1303aa57342621ff1359a3b55e0be72b627db8123bb493043fdd2e2", func := "dispatch/dispatchlaw21.SplitMore", spec := "splitMore", unfollowed := true, recurses := true, apart := false, narrowed := true }
def SplitMoreUptoSaid : Prop := splitMoreUptoRow.holds Try.pinned (OpenSpec.upto splitMoreSpec)

/-- 'dispatchlaw21.SplitHomes', WHERE WHAT IT READS IS OF BULK AT MOST 1048576: true; the input reads as it did. -/
def splitHomesUptoRow : OpenClaim := { program := "ytnmgbgbedngcmaa", sum := "8d0b5f51e1303aa57342621ff1359a3b55e0be72b627db8123bb493043fdd2e2", func := "dispatch/dispatchlaw21.SplitHomes", spec := "splitHomes", unfollowed := true, recurses := true, apart := false, narrowed := true }
def SplitHomesUptoSaid : Prop := splitHomesUptoRow.holds Try.pinned (OpenSpec.upto splitHomesSpec)

/-- 'dispatchlaw21.SplitUps', WHERE WHAT IT READS IS OF BULK AT MOST 1048576: true; the input reads as it did. -/
def splitUpsUptoRow : OpenClaim := { program := "ytnmgbgbedngcmaa", sum := "8d0b5f51e1303aa57342621ff1359a3b55e0be72b627db8123bb493043fdd2e2", func := "dispatch/dispatchlaw21.SplitUps", spec := "splitUps", unfollowed := true, recurses := true, apart := false, narrowed := true }
def SplitUpsUptoSaid : Prop := splitUpsUptoRow.holds Try.pinned (OpenSpec.upto splitUpsSpec)

/-- 'dispatchlaw21.SplitLoads', WHERE WHAT IT READS IS OF BULK AT MOST 1048576: true; the input reads as it did. -/
def splitLoadsUptoRow : OpenClaim := { program := "ytnmgbgbedngcmaa", sum := "8d0b5f51e1303aa57342621ff1359a3b55e0be72b627db8123bb493043fdd2e2", func := "dispatch/dispatchlaw21.SplitLoads", spec := "splitLoads", unfollowed := true, recurses := true, apart := false, narrowed := true }
def SplitLoadsUptoSaid : Prop := splitLoadsUptoRow.holds Try.pinned (OpenSpec.upto splitLoadsSpec)

/-- 'dispatchlaw21.SplitAsks', WHERE WHAT IT READS IS OF BULK AT MOST 1048576: true; the input reads as it did. -/
def splitAsksUptoRow : OpenClaim := { program := "ytnmgbgbedngcmaa", sum := "8d0b5f51e1303aa57342621ff1359a3b55e0be72b627db8123bb493043fdd2e2", func := "dispatch/dispatchlaw21.SplitAsks", spec := "splitAsks", unfollowed := true, recurses := true, apart := false, narrowed := true }
def SplitAsksUptoSaid : Prop := splitAsksUptoRow.holds Try.pinned (OpenSpec.upto splitAsksSpec)

end Rows
end Go.Proofs.Ytnmgbgbedngcmaa
