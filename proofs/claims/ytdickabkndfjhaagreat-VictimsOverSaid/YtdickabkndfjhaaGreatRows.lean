/-
  No cell of these rows narrows 'for every input' (looked for: loops, veiled, ifaces, maps, wideKeys, modest, calm, conditions, laid).
  DERIVED. THE GIVEN ROWS OF THIS SEAT. 2 by the template 'for every input the law returns true; each argument reads behind the call as it read before'; 0 by the template 'total and deterministic' (their statements: YtdickabkndfjhaaGreatTotals.lean).
  GIVEN WITH THE SEED: the statements are not yours to turn. If you find one false, say at which input.
  Laid BY PROGRAM, IN A SANDBOX (cutbox-rows.mjs): the forced cells as the released guide's own fill.sh prints them over the translation ae928d2c3f6ed67d… (all of the seat's roots in one cut). By AI agents, Wed Nov 11 2026. No macro, syntax, notation, axiom, sorry.
-/
import Derived.Test.YtdickabkndfjhaaGreatChecked
import GoSem.Claim
import GoSem.ClaimJoined
import GoSem.ClaimMapViews
import Derived.JoinedTies
import Derived.KernelRfl
namespace Go.Proofs.YtdickabkndfjhaaGreat
/- THE CELL 'sum', in the pinned program and in every row, IS THE sha256 OF THE DUMP (.gsa) THAT YtdickabkndfjhaaGreatProg.lean LOADS. Nothing in Lean hashes anything: it is a label: what it is worth is what the hold of that sum in a sandbox is worth. -/
noncomputable def Tryz.pinned : Pinned := { name := "ytdickabkndfjhaagreat", sum := "ae928d2c3f6ed67d2e7375b6e27a6b9b1d66975bc314fe5ea80333342e98eae4", checked := Tryz.checked }
namespace Rows
def none {H : Type} : Left H := { results := [], args := [] }

/-- 'dispatchlaw17.VictimsAsk': WHATEVER THE INPUT: true; the input reads as it did. -/
def victimsAskSpec : ChangeSpec := { name := "victimsAsk", fn := fun _ => fun
  | [d1, d2, d3] => { results := [.lit (.bool true)], args := [d1, d2, d3] }
  | _ => none }
def victimsAskRow : OpenClaim := { program := "ytdickabkndfjhaagreat", sum := "ae928d2c3f6ed67d2e7375b6e27a6b9b1d66975bc314fe5ea80333342e98eae4", func := "dispatch/dispatchlaw17.VictimsAsk", spec := "victimsAsk", inPlace := ["slices.overlaps[dispatch/api.Ask]"], unfollowed := true, recurses := true, named := ["math/bits.divideError", "math/bits.overflowError"], apart := false }
def VictimsAskSaid : Prop := victimsAskRow.holds Tryz.pinned (OpenSpec.ofChange victimsAskSpec)

/-- ITS FALSE NEIGHBOUR: 'it returns false'. Refute it at one input. -/
def victimsAskWrong : ChangeSpec := { name := "victimsAsk", fn := fun _ => fun
  | [d1, d2, d3] => { results := [.lit (.bool false)], args := [d1, d2, d3] }
  | _ => none }
def VictimsAskWrongFalsely : Prop := victimsAskRow.holds Tryz.pinned (OpenSpec.ofChange victimsAskWrong)

/-- 'dispatchlaw17.VictimsOver': WHATEVER THE INPUT: true; the input reads as it did. -/
def victimsOverSpec : ChangeSpec := { name := "victimsOver", fn := fun _ => fun
  | [d1, d2, d3] => { results := [.lit (.bool true)], args := [d1, d2, d3] }
  | _ => none }
def victimsOverRow : OpenClaim := { program := "ytdickabkndfjhaagreat", sum := "ae928d2c3f6ed67d2e7375b6e27a6b9b1d66975bc314fe5ea80333342e98eae4", func := "dispatch/dispatchlaw17.VictimsOver", spec := "victimsOver", inPlace := ["slices.overlaps[dispatch/api.Ask]"], unfollowed := true, recurses := true, named := ["math/bits.divideError", "math/bits.overflowError"], apart := false }
def VictimsOverSaid : Prop := victimsOverRow.holds Tryz.pinned (OpenSpec.ofChange victimsOverSpec)

/-- ITS FALSE NEIGHBOUR: 'it returns false'. Refute it at one input. -/
def victimsOverWrong : ChangeSpec := { name := "victimsOver", fn := fun _ => fun
  | [d1, d2, d3] => { results := [.lit (.bool false)], args := [d1, d2, d3] }
  | _ => none }
def VictimsOverWrongFalsely : Prop := victimsOverRow.holds Tryz.pinned (OpenSpec.ofChange victimsOverWrong)

/- THE SECOND FORM. 'bulk': how many values and letters a reading holds, each counted each time it is reached (what is shared counts as often as it is met; a slice's spare places count too). A statement '..UptoSaid' is the law's where the arguments, and the package variables that the reading takes, are together of bulk at most 1048576: NARROWER than '..Said'. Prove '..Said' where nothing that the law and all that it calls make is longer than what came in: it says more and counts as full. Else prove '..UptoSaid'. A law counts once. -/
mutual
def uptoBulk {H : Type} : DataW H → Nat
  | .lit (.string bytes) => bytes.length + 1
  | .lit _ => 1
  | .nil => 1
  | .ptr d => uptoBulk d + 1
  | .slice elems spare => uptoBulkAll elems + uptoBulkAll spare + 1
  | .agg parts => uptoBulkAll parts + 1
  | .iface _ d => uptoBulk d + 1
  | .map entries => uptoBulkEntries entries + 1
  | .held _ => 1
def uptoBulkAll {H : Type} : List (DataW H) → Nat
  | [] => 0
  | d :: r => uptoBulk d + uptoBulkAll r
def uptoBulkEntries {H : Type} : List (Lit × DataW H) → Nat
  | [] => 0
  | x :: r => uptoBulkEntry x + uptoBulkEntries r
def uptoBulkEntry {H : Type} : Lit × DataW H → Nat
  | (.string bytes, d) => bytes.length + uptoBulk d + 1
  | (_, d) => uptoBulk d + 1
 end
def uptoSmall : (H : Type) → List (DataW H) → Bool := fun _ ds => decide (uptoBulkAll ds ≤ 1048576)
def OpenSpec.upto (s : _root_.Go.ChangeSpec) : _root_.Go.OpenSpec := { _root_.Go.OpenSpec.ofChange s with cond := some uptoSmall }

/-- 'dispatchlaw17.VictimsAsk', WHERE WHAT IT READS IS OF BULK AT MOST 1048576: true; the input reads as it did. -/
def victimsAskUptoRow : OpenClaim := { program := "ytdickabkndfjhaagreat", sum := "ae928d2c3f6ed67d2e7375b6e27a6b9b1d66975bc314fe5ea80333342e98eae4", func := "dispatch/dispatchlaw17.VictimsAsk", spec := "victimsAsk", inPlace := ["slices.overlaps[dispatch/api.Ask]"], unfollowed := true, recurses := true, named := ["math/bits.divideError", "math/bits.overflowError"], apart := false, narrowed := true }
def VictimsAskUptoSaid : Prop := victimsAskUptoRow.holds Tryz.pinned (OpenSpec.upto victimsAskSpec)

/-- 'dispatchlaw17.VictimsOver', WHERE WHAT IT READS IS OF BULK AT MOST 1048576: true; the input reads as it did. -/
def victimsOverUptoRow : OpenClaim := { program := "ytdickabkndfjhaagreat", sum := "ae928d2c3f6ed67d2e7375b6e27a6b9b1d66975bc314fe5ea80333342e98eae4", func := "dispatch/dispatchlaw17.VictimsOver", spec := "victimsOver", inPlace := ["slices.overlaps[dispatch/api.Ask]"], unfollowed := true, recurses := true, named := ["math/bits.divideError", "math/bits.overflowError"], apart := false, narrowed := true }
def VictimsOverUptoSaid : Prop := victimsOverUptoRow.holds Tryz.pinned (OpenSpec.upto victimsOverSpec)

end Rows
end Go.Proofs.YtdickabkndfjhaaGreat
