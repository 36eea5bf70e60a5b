/-
  No cell of these rows narrows 'for every input' (looked for: loops, veiled, ifaces, maps, wideKeys, modest, calm, conditions, laid).
  DERIVED. THE GIVEN ROWS OF THIS SEAT. 6 by the template 'for every input the law returns true; each argument reads behind the call as it read before'; 0 by the template 'total and deterministic' (their statements: YtkbpndpddlhgbaaTotals.lean).
  GIVEN WITH THE SEED: the statements are not yours to turn. If you find one false, say at which input.
  Laid BY PROGRAM, IN A SANDBOX (cutbox-rows.mjs): the forced cells as the released guide's own fill.sh prints them over the translation 62d0444cf3385c6a… (all of the seat's roots in one cut). By AI agents, Wed Nov 11 2026. No macro, syntax, notation, axiom, sorry.
-/
import Derived.Test.YtkbpndpddlhgbaaChecked
import GoSem.Claim
import GoSem.ClaimJoined
import GoSem.ClaimMapViews
import Derived.JoinedTies
import Derived.KernelRfl
namespace Go.Proofs.Ytkbpndpddlhgbaa
/- THE CELL 'sum', in the pinned program and in every row, IS THE sha256 OF THE DUMP (.gsa) THAT YtkbpndpddlhgbaaProg.lean LOADS. Nothing in Lean hashes anything: it is a label: what it is worth is what the hold of that sum in a sandbox is worth. -/
noncomputable def Try.pinned : Pinned := { name := "ytkbpndpddlhgbaa", sum := "62d0444cf3385c6a52cd836148d1814711f7e59de056886c7077dbf2aed461cb", checked := Try.checked }
namespace Rows
def none {H : Type} : Left H := { results := [], args := [] }

/-- 'dispatchlaw15.PlanPlaces': WHATEVER THE INPUT: true; the input reads as it did. -/
def planPlacesSpec : ChangeSpec := { name := "planPlaces", fn := fun _ => fun
  | [d1, d2, d3, d4, d5] => { results := [.lit (.bool true)], args := [d1, d2, d3, d4, d5] }
  | _ => none }
def planPlacesRow : OpenClaim := { program := "ytkbpndpddlhgbaa", sum := "62d0444cf3385c6a52cd836148d1814711f7e59de056886c7077dbf2aed461cb", func := "dispatch/dispatchlaw15.PlanPlaces", spec := "planPlaces", unfollowed := true, recurses := true, apart := false }
def PlanPlacesSaid : Prop := planPlacesRow.holds Try.pinned (OpenSpec.ofChange planPlacesSpec)

/-- ITS FALSE NEIGHBOUR: 'it returns false'. Refute it at one input. -/
def planPlacesWrong : ChangeSpec := { name := "planPlaces", fn := fun _ => fun
  | [d1, d2, d3, d4, d5] => { results := [.lit (.bool false)], args := [d1, d2, d3, d4, d5] }
  | _ => none }
def PlanPlacesWrongFalsely : Prop := planPlacesRow.holds Try.pinned (OpenSpec.ofChange planPlacesWrong)

/-- 'dispatchlaw15.PlanFits': WHATEVER THE INPUT: true; the input reads as it did. -/
def planFitsSpec : ChangeSpec := { name := "planFits", fn := fun _ => fun
  | [d1, d2, d3] => { results := [.lit (.bool true)], args := [d1, d2, d3] }
  | _ => none }
def planFitsRow : OpenClaim := { program := "ytkbpndpddlhgbaa", sum := "62d0444cf3385c6a52cd836148d1814711f7e59de056886c7077dbf2aed461cb", func := "dispatch/dispatchlaw15.PlanFits", spec := "planFits", unfollowed := true, recurses := true, apart := false }
def PlanFitsSaid : Prop := planFitsRow.holds Try.pinned (OpenSpec.ofChange planFitsSpec)

/-- ITS FALSE NEIGHBOUR: 'it returns false'. Refute it at one input. -/
def planFitsWrong : ChangeSpec := { name := "planFits", fn := fun _ => fun
  | [d1, d2, d3] => { results := [.lit (.bool false)], args := [d1, d2, d3] }
  | _ => none }
def PlanFitsWrongFalsely : Prop := planFitsRow.holds Try.pinned (OpenSpec.ofChange planFitsWrong)

/-- 'dispatchlaw15.PlanGaps': WHATEVER THE INPUT: true; the input reads as it did. -/
def planGapsSpec : ChangeSpec := { name := "planGaps", fn := fun _ => fun
  | [d1, d2] => { results := [.lit (.bool true)], args := [d1, d2] }
  | _ => none }
def planGapsRow : OpenClaim := { program := "ytkbpndpddlhgbaa", sum := "62d0444cf3385c6a52cd836148d1814711f7e59de056886c7077dbf2aed461cb", func := "dispatch/dispatchlaw15.PlanGaps", spec := "planGaps", unfollowed := true, recurses := true, apart := false }
def PlanGapsSaid : Prop := planGapsRow.holds Try.pinned (OpenSpec.ofChange planGapsSpec)

/-- ITS FALSE NEIGHBOUR: 'it returns false'. Refute it at one input. -/
def planGapsWrong : ChangeSpec := { name := "planGaps", fn := fun _ => fun
  | [d1, d2] => { results := [.lit (.bool false)], args := [d1, d2] }
  | _ => none }
def PlanGapsWrongFalsely : Prop := planGapsRow.holds Try.pinned (OpenSpec.ofChange planGapsWrong)

/-- 'dispatchlaw15.PlanKeeps': WHATEVER THE INPUT: true; the input reads as it did. -/
def planKeepsSpec : ChangeSpec := { name := "planKeeps", fn := fun _ => fun
  | [d1, d2, d3] => { results := [.lit (.bool true)], args := [d1, d2, d3] }
  | _ => none }
def planKeepsRow : OpenClaim := { program := "ytkbpndpddlhgbaa", sum := "62d0444cf3385c6a52cd836148d1814711f7e59de056886c7077dbf2aed461cb", func := "dispatch/dispatchlaw15.PlanKeeps", spec := "planKeeps", inPlace := ["slices.overlaps[dispatch/api.Ask]"], unfollowed := true, recurses := true, apart := false }
def PlanKeepsSaid : Prop := planKeepsRow.holds Try.pinned (OpenSpec.ofChange planKeepsSpec)

/-- ITS FALSE NEIGHBOUR: 'it returns false'. Refute it at one input. -/
def planKeepsWrong : ChangeSpec := { name := "planKeeps", fn := fun _ => fun
  | [d1, d2, d3] => { results := [.lit (.bool false)], args := [d1, d2, d3] }
  | _ => none }
def PlanKeepsWrongFalsely : Prop := planKeepsRow.holds Try.pinned (OpenSpec.ofChange planKeepsWrong)

/-- 'dispatchlaw15.PlanMany': WHATEVER THE INPUT: true; the input reads as it did. -/
def planManySpec : ChangeSpec := { name := "planMany", fn := fun _ => fun
  | [d] => { results := [.lit (.bool true)], args := [d] }
  | _ => none }
def planManyRow : OpenClaim := { program := "ytkbpndpddlhgbaa", sum := "62d0444cf3385c6a52cd836148d1814711f7e59de056886c7077dbf2aed461cb", func := "dispatch/dispatchlaw15.PlanMany", spec := "planMany", inPlace := ["slices.overlaps[dispatch/api.Ask]"], unfollowed := true, recurses := true, apart := false }
def PlanManySaid : Prop := planManyRow.holds Try.pinned (OpenSpec.ofChange planManySpec)

/-- ITS FALSE NEIGHBOUR: 'it returns false'. Refute it at one input. -/
def planManyWrong : ChangeSpec := { name := "planMany", fn := fun _ => fun
  | [d] => { results := [.lit (.bool false)], args := [d] }
  | _ => none }
def PlanManyWrongFalsely : Prop := planManyRow.holds Try.pinned (OpenSpec.ofChange planManyWrong)

/-- 'dispatchlaw15.PlanDrops': WHATEVER THE INPUT: true; the input reads as it did. -/
def planDropsSpec : ChangeSpec := { name := "planDrops", fn := fun _ => fun
  | [d1, d2, d3] => { results := [.lit (.bool true)], args := [d1, d2, d3] }
  | _ => none }
def planDropsRow : OpenClaim := { program := "ytkbpndpddlhgbaa", sum := "62d0444cf3385c6a52cd836148d1814711f7e59de056886c7077dbf2aed461cb", func := "dispatch/dispatchlaw15.PlanDrops", spec := "planDrops", inPlace := ["slices.overlaps[dispatch/api.Ask]"], unfollowed := true, recurses := true, apart := false }
def PlanDropsSaid : Prop := planDropsRow.holds Try.pinned (OpenSpec.ofChange planDropsSpec)

/-- ITS FALSE NEIGHBOUR: 'it returns false'. Refute it at one input. -/
def planDropsWrong : ChangeSpec := { name := "planDrops", fn := fun _ => fun
  | [d1, d2, d3] => { results := [.lit (.bool false)], args := [d1, d2, d3] }
  | _ => none }
def PlanDropsWrongFalsely : Prop := planDropsRow.holds Try.pinned (OpenSpec.ofChange planDropsWrong)

/- THE SECOND FORM. 'bulk': how many values and letters a reading holds, each counted each time it is reached (what is shared counts as often as it is met; a slice's spare places count too). A statement '..UptoSaid' is the law's where the arguments, and the package variables that the reading takes, are together of bulk at most 1048576: NARROWER than '..Said'. Prove '..Said' where nothing that the law and all that it calls make is longer than what came in: it says more and counts as full. Else prove '..UptoSaid'. A law counts once. -/
mutual
def uptoBulk {H : Type} : DataW H → Nat
  | .lit (.string bytes) => bytes.length + 1
  | .lit _ => 1
  | .nil => 1
  | .ptr d => uptoBulk d + 1
  | .slice elems spare => uptoBulkAll elems + uptoBulkAll spare + 1
  | .agg parts => uptoBulkAll parts + 1
  | .iface _ d => uptoBulk d + 1
  | .map entries => uptoBulkEntries entries + 1
  | .held _ => 1
def uptoBulkAll {H : Type} : List (DataW H) → Nat
  | [] => 0
  | d :: r => uptoBulk d + uptoBulkAll r
def uptoBulkEntries {H : Type} : List (Lit × DataW H) → Nat
  | [] => 0
  | x :: r => uptoBulkEntry x + uptoBulkEntries r
def uptoBulkEntry {H : Type} : Lit × DataW H → Nat
  | (.string bytes, d) => bytes.length + uptoBulk d + 1
  | (_, d) => uptoBulk d + 1
 end
def uptoSmall : (H : Type) → List (DataW H) → Bool := fun _ ds => decide (uptoBulkAll ds ≤ 1048576)
def OpenSpec.upto (s : _root_.Go.ChangeSpec) : _root_.Go.OpenSpec := { _root_.Go.OpenSpec.ofChange s with cond := some uptoSmall }

/-- 'dispatchlaw15.PlanPlaces', WHERE WHAT IT READS IS OF BULK AT MOST 1048576: true; the input reads as it did. -/
def planPlacesUptoRow : OpenClaim := { program := "ytkbpndpddlhgbaa", sum := "62d0444cf3385c6a52cd836148d1814711f7e59de056886c7077dbf2aed461cb", func := "dispatch/dispatchlaw15.PlanPlaces", spec := "planPlaces", unfollowed := true, recurses := true, apart := false, narrowed := true }
def PlanPlacesUptoSaid : Prop := planPlacesUptoRow.holds Try.pinned (OpenSpec.upto planPlacesSpec)

/-- 'dispatchlaw15.PlanFits', WHERE WHAT IT READS IS OF BULK AT MOST 1048576: true; the input reads as it did. -/
def planFitsUptoRow : OpenClaim := { program := "ytkbpndpddlhgbaa", sum := "62d0444cf3385c6a52cd836148d1814711f7e59de056886c7077dbf2aed461cb", func := "dispatch/dispatchlaw15.PlanFits", spec := "planFits", unfollowed := true, recurses := true, apart := false, narrowed := true }
def PlanFitsUptoSaid : Prop := planFitsUptoRow.holds Try.pinned (OpenSpec.upto planFitsSpec)

/-- 'dispatchlaw15.PlanGaps', WHERE WHAT IT READS IS OF BULK AT MOST 1048576: true; the input reads as it did. -/
def planGapsUptoRow : OpenClaim := { program := "ytkbpndpddlhgbaa", sum := "62d0444cf3385c6a52cd836148d1814711f7e59de056886c7077dbf2aed461cb", func := "dispatch/dispatchlaw15.PlanGaps", spec := "planGaps", unfollowed := true, recurses := true, apart := false, narrowed := true }
def PlanGapsUptoSaid : Prop := planGapsUptoRow.holds Try.pinned (OpenSpec.upto planGapsSpec)

/-- 'dispatchlaw15.PlanKeeps', WHERE WHAT IT READS IS OF BULK AT MOST 1048576: true; the input reads as it did. -/
def planKeepsUptoRow : OpenClaim := { program := "ytkbpndpddlhgbaa", sum := "62d0444cf3385c6a52cd836148d1814711f7e59de056886c7077dbf2aed461cb", func := "dispatch/dispatchlaw15.PlanKeeps", spec := "planKeeps", inPlace := ["slices.overlaps[dispatch/api.Ask]"], unfollowed := true, recurses := true, apart := false, narrowed := true }
def PlanKeepsUptoSaid : Prop := planKeepsUptoRow.holds Try.pinned (OpenSpec.upto planKeepsSpec)

/-- 'dispatchlaw15.PlanMany', WHERE WHAT IT READS IS OF BULK AT MOST 1048576: true; the input reads as it did. -/
def planManyUptoRow : OpenClaim := { program := "ytkbpndpddlhgbaa", sum := "62d0444cf3385c6a52cd836148d1814711f7e59de056886c7077dbf2aed461cb", func := "dispatch/dispatchlaw15.PlanMany", spec := "planMany", inPlace := ["slices.overlaps[dispatch/api.Ask]"], unfollowed := true, recurses := true, apart := false, narrowed := true }
def PlanManyUptoSaid : Prop := planManyUptoRow.holds Try.pinned (OpenSpec.upto planManySpec)

/-- 'dispatchlaw15.PlanDrops', WHERE WHAT IT READS IS OF BULK AT MOST 1048576: true; the input reads as it did. -/
def planDropsUptoRow : OpenClaim := { program := "ytkbpndpddlhgbaa", sum := "62d0444cf3385c6a52cd836148d1814711f7e59de056886c7077dbf2aed461cb", func := "dispatch/dispatchlaw15.PlanDrops", spec := "planDrops", inPlace := ["slices.overlaps[dispatch/api.Ask]"], unfollowed := true, recurses := true, apart := false, narrowed := true }
def PlanDropsUptoSaid : Prop := planDropsUptoRow.holds Try.pinned (OpenSpec.upto planDropsSpec)

end Rows
end Go.Proofs.Ytkbpndpddlhgbaa
