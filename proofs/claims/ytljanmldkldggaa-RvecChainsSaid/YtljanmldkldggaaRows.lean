/-
  No cell of these rows narrows 'for every input' (looked for: loops, veiled, ifaces, maps, wideKeys, modest, calm, conditions, laid).
  DERIVED. THE GIVEN ROWS OF THIS SEAT. 9 by the template 'for every input the law returns true; each argument reads behind the call as it read before'; 0 by the template 'total and deterministic' (their statements: YtljanmldkldggaaTotals.lean).
  GIVEN WITH THE SEED: the statements are not yours to turn. If you find one false, say at which input.
  Laid BY PROGRAM, IN A SANDBOX (cutbox-rows.mjs): the forced cells as the released guide's own fill.sh prints them over the translation 179c556f0c7d05a9… (all of the seat's roots in one cut). By AI agents, Wed Nov 11 2026. No macro, syntax, notation, axiom, sorry.
-/
import Derived.Test.YtljanmldkldggaaChecked
import GoSem.Claim
import GoSem.ClaimJoined
import GoSem.ClaimMapViews
import Derived.JoinedTies
import Derived.KernelRfl
namespace Go.Proofs.Ytljanmldkldggaa
/- THE CELL 'sum', in the pinned program and in every row, IS THE sha256 OF THE DUMP (.gsa) THAT YtljanmldkldggaaProg.lean LOADS. Nothing in Lean hashes anything: it is a label: what it is worth is what the hold of that sum in a sandbox is worth. -/
noncomputable def Try.pinned : Pinned := { name := "ytljanmldkldggaa", sum := "179c556f0c7d05a9474698dd4c4e52c215f62eaf0fa057e42583c12e03b55c73", checked := Try.checked }
namespace Rows
def none {H : Type} : Left H := { results := [], args := [] }

/-- 'dispatchlaw1.RvecScales': WHATEVER THE INPUT: true; the input reads as it did. -/
def rvecScalesSpec : ChangeSpec := { name := "rvecScales", fn := fun _ => fun
  | [d1, d2, d3] => { results := [.lit (.bool true)], args := [d1, d2, d3] }
  | _ => none }
def rvecScalesRow : OpenClaim := { program := "ytljanmldkldggaa", sum := "179c556f0c7d05a9474698dd4c4e52c215f62eaf0fa057e42583c12e03b55c73", func := "dispatch/dispatchlaw1.RvecScales", spec := "rvecScales", named := ["math/bits.divideError", "math/bits.overflowError"], apart := false }
def RvecScalesSaid : Prop := rvecScalesRow.holds Try.pinned (OpenSpec.ofChange rvecScalesSpec)

/-- ITS FALSE NEIGHBOUR: 'it returns false'. Refute it at one input. -/
def rvecScalesWrong : ChangeSpec := { name := "rvecScales", fn := fun _ => fun
  | [d1, d2, d3] => { results := [.lit (.bool false)], args := [d1, d2, d3] }
  | _ => none }
def RvecScalesWrongFalsely : Prop := rvecScalesRow.holds Try.pinned (OpenSpec.ofChange rvecScalesWrong)

/-- 'dispatchlaw1.RvecFit': WHATEVER THE INPUT: true; the input reads as it did. -/
def rvecFitSpec : ChangeSpec := { name := "rvecFit", fn := fun _ => fun
  | [d1, d2, d3, d4] => { results := [.lit (.bool true)], args := [d1, d2, d3, d4] }
  | _ => none }
def rvecFitRow : OpenClaim := { program := "ytljanmldkldggaa", sum := "179c556f0c7d05a9474698dd4c4e52c215f62eaf0fa057e42583c12e03b55c73", func := "dispatch/dispatchlaw1.RvecFit", spec := "rvecFit", named := ["math/bits.divideError", "math/bits.overflowError"], apart := false }
def RvecFitSaid : Prop := rvecFitRow.holds Try.pinned (OpenSpec.ofChange rvecFitSpec)

/-- ITS FALSE NEIGHBOUR: 'it returns false'. Refute it at one input. -/
def rvecFitWrong : ChangeSpec := { name := "rvecFit", fn := fun _ => fun
  | [d1, d2, d3, d4] => { results := [.lit (.bool false)], args := [d1, d2, d3, d4] }
  | _ => none }
def RvecFitWrongFalsely : Prop := rvecFitRow.holds Try.pinned (OpenSpec.ofChange rvecFitWrong)

/-- 'dispatchlaw1.RvecParts': WHATEVER THE INPUT: true; the input reads as it did. -/
def rvecPartsSpec : ChangeSpec := { name := "rvecParts", fn := fun _ => fun
  | [d1, d2, d3, d4] => { results := [.lit (.bool true)], args := [d1, d2, d3, d4] }
  | _ => none }
def rvecPartsRow : OpenClaim := { program := "ytljanmldkldggaa", sum := "179c556f0c7d05a9474698dd4c4e52c215f62eaf0fa057e42583c12e03b55c73", func := "dispatch/dispatchlaw1.RvecParts", spec := "rvecParts", named := ["math/bits.divideError", "math/bits.overflowError"], apart := false }
def RvecPartsSaid : Prop := rvecPartsRow.holds Try.pinned (OpenSpec.ofChange rvecPartsSpec)

/-- ITS FALSE NEIGHBOUR: 'it returns false'. Refute it at one input. -/
def rvecPartsWrong : ChangeSpec := { name := "rvecParts", fn := fun _ => fun
  | [d1, d2, d3, d4] => { results := [.lit (.bool false)], args := [d1, d2, d3, d4] }
  | _ => none }
def RvecPartsWrongFalsely : Prop := rvecPartsRow.holds Try.pinned (OpenSpec.ofChange rvecPartsWrong)

/-- 'dispatchlaw1.RvecEdges': WHATEVER THE INPUT: true; the input reads as it did. -/
def rvecEdgesSpec : ChangeSpec := { name := "rvecEdges", fn := fun _ => fun
  | [d1, d2] => { results := [.lit (.bool true)], args := [d1, d2] }
  | _ => none }
def rvecEdgesRow : OpenClaim := { program := "ytljanmldkldggaa", sum := "179c556f0c7d05a9474698dd4c4e52c215f62eaf0fa057e42583c12e03b55c73", func := "dispatch/dispatchlaw1.RvecEdges", spec := "rvecEdges", named := ["math/bits.divideError", "math/bits.overflowError"], apart := false }
def RvecEdgesSaid : Prop := rvecEdgesRow.holds Try.pinned (OpenSpec.ofChange rvecEdgesSpec)

/-- ITS FALSE NEIGHBOUR: 'it returns false'. Refute it at one input. -/
def rvecEdgesWrong : ChangeSpec := { name := "rvecEdges", fn := fun _ => fun
  | [d1, d2] => { results := [.lit (.bool false)], args := [d1, d2] }
  | _ => none }
def RvecEdgesWrongFalsely : Prop := rvecEdgesRow.holds Try.pinned (OpenSpec.ofChange rvecEdgesWrong)

/-- 'dispatchlaw1.RvecSums': WHATEVER THE INPUT: true; the input reads as it did. -/
def rvecSumsSpec : ChangeSpec := { name := "rvecSums", fn := fun _ => fun
  | [d1, d2, d3] => { results := [.lit (.bool true)], args := [d1, d2, d3] }
  | _ => none }
def rvecSumsRow : OpenClaim := { program := "ytljanmldkldggaa", sum := "179c556f0c7d05a9474698dd4c4e52c215f62eaf0fa057e42583c12e03b55c73", func := "dispatch/dispatchlaw1.RvecSums", spec := "rvecSums", named := ["math/bits.divideError", "math/bits.overflowError"], apart := false }
def RvecSumsSaid : Prop := rvecSumsRow.holds Try.pinned (OpenSpec.ofChange rvecSumsSpec)

/-- ITS FALSE NEIGHBOUR: 'it returns false'. Refute it at one input. -/
def rvecSumsWrong : ChangeSpec := { name := "rvecSums", fn := fun _ => fun
  | [d1, d2, d3] => { results := [.lit (.bool false)], args := [d1, d2, d3] }
  | _ => none }
def RvecSumsWrongFalsely : Prop := rvecSumsRow.holds Try.pinned (OpenSpec.ofChange rvecSumsWrong)

/-- 'dispatchlaw1.RvecOrders': WHATEVER THE INPUT: true; the input reads as it did. -/
def rvecOrdersSpec : ChangeSpec := { name := "rvecOrders", fn := fun _ => fun
  | [d1, d2, d3, d4, d5] => { results := [.lit (.bool true)], args := [d1, d2, d3, d4, d5] }
  | _ => none }
def rvecOrdersRow : OpenClaim := { program := "ytljanmldkldggaa", sum := "179c556f0c7d05a9474698dd4c4e52c215f62eaf0fa057e42583c12e03b55c73", func := "dispatch/dispatchlaw1.RvecOrders", spec := "rvecOrders", unfollowed := true, recurses := true, named := ["math/bits.divideError", "math/bits.overflowError"], apart := false }
def RvecOrdersSaid : Prop := rvecOrdersRow.holds Try.pinned (OpenSpec.ofChange rvecOrdersSpec)

/-- ITS FALSE NEIGHBOUR: 'it returns false'. Refute it at one input. -/
def rvecOrdersWrong : ChangeSpec := { name := "rvecOrders", fn := fun _ => fun
  | [d1, d2, d3, d4, d5] => { results := [.lit (.bool false)], args := [d1, d2, d3, d4, d5] }
  | _ => none }
def RvecOrdersWrongFalsely : Prop := rvecOrdersRow.holds Try.pinned (OpenSpec.ofChange rvecOrdersWrong)

/-- 'dispatchlaw1.RvecChains': WHATEVER THE INPUT: true; the input reads as it did. -/
def rvecChainsSpec : ChangeSpec := { name := "rvecChains", fn := fun _ => fun
  | [d1, d2] => { results := [.lit (.bool true)], args := [d1, d2] }
  | _ => none }
def rvecChainsRow : OpenClaim := { program := "ytljanmldkldggaa", sum := "179c556f0c7d05a9474698dd4c4e52c215f62eaf0fa057e42583c12e03b55c73", func := "dispatch/dispatchlaw1.RvecChains", spec := "rvecChains", unfollowed := true, recurses := true, named := ["math/bits.divideError", "math/bits.overflowError"], apart := false }
def RvecChainsSaid : Prop := rvecChainsRow.holds Try.pinned (OpenSpec.ofChange rvecChainsSpec)

/-- ITS FALSE NEIGHBOUR: 'it returns false'. Refute it at one input. -/
def rvecChainsWrong : ChangeSpec := { name := "rvecChains", fn := fun _ => fun
  | [d1, d2] => { results := [.lit (.bool false)], args := [d1, d2] }
  | _ => none }
def RvecChainsWrongFalsely : Prop := rvecChainsRow.holds Try.pinned (OpenSpec.ofChange rvecChainsWrong)

/-- 'dispatchlaw1.RvecWide': WHATEVER THE INPUT: true; the input reads as it did. -/
def rvecWideSpec : ChangeSpec := { name := "rvecWide", fn := fun _ => fun
  | [d1, d2, d3] => { results := [.lit (.bool true)], args := [d1, d2, d3] }
  | _ => none }
def rvecWideRow : OpenClaim := { program := "ytljanmldkldggaa", sum := "179c556f0c7d05a9474698dd4c4e52c215f62eaf0fa057e42583c12e03b55c73", func := "dispatch/dispatchlaw1.RvecWide", spec := "rvecWide", unfollowed := true, recurses := true, named := ["math/bits.divideError", "math/bits.overflowError"], apart := false }
def RvecWideSaid : Prop := rvecWideRow.holds Try.pinned (OpenSpec.ofChange rvecWideSpec)

/-- ITS FALSE NEIGHBOUR: 'it returns false'. Refute it at one input. -/
def rvecWideWrong : ChangeSpec := { name := "rvecWide", fn := fun _ => fun
  | [d1, d2, d3] => { results := [.lit (.bool false)], args := [d1, d2, d3] }
  | _ => none }
def RvecWideWrongFalsely : Prop := rvecWideRow.holds Try.pinned (OpenSpec.ofChange rvecWideWrong)

/-- 'dispatchlaw1.RvecNought': WHATEVER THE INPUT: true; the input reads as it did. -/
def rvecNoughtSpec : ChangeSpec := { name := "rvecNought", fn := fun _ => fun
  | [d1, d2] => { results := [.lit (.bool true)], args := [d1, d2] }
  | _ => none }
def rvecNoughtRow : OpenClaim := { program := "ytljanmldkldggaa", sum := "179c556f0c7d05a9474698dd4c4e52c215f62eaf0fa057e42583c12e03b55c73", func := "dispatch/dispatchlaw1.RvecNought", spec := "rvecNought", unfollowed := true, recurses := true, named := ["math/bits.divideError", "math/bits.overflowError"], apart := false }
def RvecNoughtSaid : Prop := rvecNoughtRow.holds Try.pinned (OpenSpec.ofChange rvecNoughtSpec)

/-- ITS FALSE NEIGHBOUR: 'it returns false'. Refute it at one input. -/
def rvecNoughtWrong : ChangeSpec := { name := "rvecNought", fn := fun _ => fun
  | [d1, d2] => { results := [.lit (.bool false)], args := [d1, d2] }
  | _ => none }
def RvecNoughtWrongFalsely : Prop := rvecNoughtRow.holds Try.pinned (OpenSpec.ofChange rvecNoughtWrong)

/- THE SECOND FORM. 'bulk': how many values and letters a reading holds, each counted each time it is reached (what is shared counts as often as it is met; a slice's spare places count too). A statement '..UptoSaid' is the law's where the arguments, and the package variables that the reading takes, are together of bulk at most 1048576: NARROWER than '..Said'. Prove '..Said' where nothing that the law and all that it calls make is longer than what came in: it says more and counts as full. Else prove '..UptoSaid'. A law counts once. -/
mutual
def uptoBulk {H : Type} : DataW H → Nat
  | .lit (.string bytes) => bytes.length + 1
  | .lit _ => 1
  | .nil => 1
  | .ptr d => uptoBulk d + 1
  | .slice elems spare => uptoBulkAll elems + uptoBulkAll spare + 1
  | .agg parts => uptoBulkAll parts + 1
  | .iface _ d => uptoBulk d + 1
  | .map entries => uptoBulkEntries entries + 1
  | .held _ => 1
def uptoBulkAll {H : Type} : List (DataW H) → Nat
  | [] => 0
  | d :: r => uptoBulk d + uptoBulkAll r
def uptoBulkEntries {H : Type} : List (Lit × DataW H) → Nat
  | [] => 0
  | x :: r => uptoBulkEntry x + uptoBulkEntries r
def uptoBulkEntry {H : Type} : Lit × DataW H → Nat
  | (.string bytes, d) => bytes.length + uptoBulk d + 1
  | (_, d) => uptoBulk d + 1
 end
def uptoSmall : (H : Type) → List (DataW H) → Bool := fun _ ds => decide (uptoBulkAll ds ≤ 1048576)
def OpenSpec.upto (s : _root_.Go.ChangeSpec) : _root_.Go.OpenSpec := { _root_.Go.OpenSpec.ofChange s with cond := some uptoSmall }

/-- 'dispatchlaw1.RvecScales', WHERE WHAT IT READS IS OF BULK AT MOST 1048576: true; the input reads as it did. -/
def rvecScalesUptoRow : OpenClaim := { program := "ytljanmldkldggaa", sum := "179c556f0c7d05a9474698dd4c4e52c215f62eaf0fa057e42583c12e03b55c73", func := "dispatch/dispatchlaw1.RvecScales", spec := "rvecScales", named := ["math/bits.divideError", "math/bits.overflowError"], apart := false, narrowed := true }
def RvecScalesUptoSaid : Prop := rvecScalesUptoRow.holds Try.pinned (OpenSpec.upto rvecScalesSpec)

/-- 'dispatchlaw1.RvecFit', WHERE WHAT IT READS IS OF BULK AT MOST 1048576: true; the input reads as it did. -/
def rvecFitUptoRow : OpenClaim := { program := "ytljanmldkldggaa", sum := "179c556f0c7d05a9474698dd4c4e52c215f62eaf0fa057e42583c12e03b55c73", func := "dispatch/dispatchlaw1.RvecFit", spec := "rvecFit", named := ["math/bits.divideError", "math/bits.overflowError"], apart := false, narrowed := true }
def RvecFitUptoSaid : Prop := rvecFitUptoRow.holds Try.pinned (OpenSpec.upto rvecFitSpec)

/-- 'dispatchlaw1.RvecParts', WHERE WHAT IT READS IS OF BULK AT MOST 1048576: true; the input reads as it did. -/
def rvecPartsUptoRow : OpenClaim := { program := "ytljanmldkldggaa", sum := "179c556f0c7d05a9474698dd4c4e52c215f62eaf0fa057e42583c12e03b55c73", func := "dispatch/dispatchlaw1.RvecParts", spec := "rvecParts", named := ["math/bits.divideError", "math/bits.overflowError"], apart := false, narrowed := true }
def RvecPartsUptoSaid : Prop := rvecPartsUptoRow.holds Try.pinned (OpenSpec.upto rvecPartsSpec)

/-- 'dispatchlaw1.RvecEdges', WHERE WHAT IT READS IS OF BULK AT MOST 1048576: true; the input reads as it did. -/
def rvecEdgesUptoRow : OpenClaim := { program := "ytljanmldkldggaa", sum := "179c556f0c7d05a9474698dd4c4e52c215f62eaf0fa057e42583c12e03b55c73", func := "dispatch/dispatchlaw1.RvecEdges", spec := "rvecEdges", named := ["math/bits.divideError", "math/bits.overflowError"], apart := false, narrowed := true }
def RvecEdgesUptoSaid : Prop := rvecEdgesUptoRow.holds Try.pinned (OpenSpec.upto rvecEdgesSpec)

/-- 'dispatchlaw1.RvecSums', WHERE WHAT IT READS IS OF BULK AT MOST 1048576: true; the input reads as it did. -/
def rvecSumsUptoRow : OpenClaim := { program := "ytljanmldkldggaa", sum := "179c556f0c7d05a9474698dd4c4e52c215f62eaf0fa057e42583c12e03b55c73", func := "dispatch/dispatchlaw1.RvecSums", spec := "rvecSums", named := ["math/bits.divideError", "math/bits.overflowError"], apart := false, narrowed := true }
def RvecSumsUptoSaid : Prop := rvecSumsUptoRow.holds Try.pinned (OpenSpec.upto rvecSumsSpec)

/-- 'dispatchlaw1.RvecOrders', WHERE WHAT IT READS IS OF BULK AT MOST 1048576: true; the input reads as it did. -/
def rvecOrdersUptoRow : OpenClaim := { program := "ytljanmldkldggaa", sum := "179c556f0c7d05a9474698dd4c4e52c215f62eaf0fa057e42583c12e03b55c73", func := "dispatch/dispatchlaw1.RvecOrders", spec := "rvecOrders", unfollowed := true, recurses := true, named := ["math/bits.divideError", "math/bits.overflowError"], apart := false, narrowed := true }
def RvecOrdersUptoSaid : Prop := rvecOrdersUptoRow.holds Try.pinned (OpenSpec.upto rvecOrdersSpec)

/-- 'dispatchlaw1.RvecChains', WHERE WHAT IT READS IS OF BULK AT MOST 1048576: true; the input reads as it did. -/
def rvecChainsUptoRow : OpenClaim := { program := "ytljanmldkldggaa", sum := "179c556f0c7d05a9474698dd4c4e52c215f62eaf0fa057e42583c12e03b55c73", func := "dispatch/dispatchlaw1.RvecChains", spec := "rvecChains", unfollowed := true, recurses := true, named := ["math/bits.divideError", "math/bits.overflowError"], apart := false, narrowed := true }
def RvecChainsUptoSaid : Prop := rvecChainsUptoRow.holds Try.pinned (OpenSpec.upto rvecChainsSpec)

/-- 'dispatchlaw1.RvecWide', WHERE WHAT IT READS IS OF BULK AT MOST 1048576: true; the input reads as it did. -/
def rvecWideUptoRow : OpenClaim := { program := "ytljanmldkldggaa", sum := "179c556f0c7d05a9474698dd4c4e52c215f62eaf0fa057e42583c12e03b55c73", func := "dispatch/dispatchlaw1.RvecWide", spec := "rvecWide", unfollowed := true, recurses := true, named := ["math/bits.divideError", "math/bits.overflowError"], apart := false, narrowed := true }
def RvecWideUptoSaid : Prop := rvecWideUptoRow.holds Try.pinned (OpenSpec.upto rvecWideSpec)

/-- 'dispatchlaw1.RvecNought', WHERE WHAT IT READS IS OF BULK AT MOST 1048576: true; the input reads as it did. -/
def rvecNoughtUptoRow : OpenClaim := { program := "ytljanmldkldggaa", sum := "179c556f0c7d05a9474698dd4c4e52c215f62eaf0fa057e42583c12e03b55c73", func := "dispatch/dispatchlaw1.RvecNought", spec := "rvecNought", unfollowed := true, recurses := true, named := ["math/bits.divideError", "math/bits.overflowError"], apart := false, narrowed := true }
def RvecNoughtUptoSaid : Prop := rvecNoughtUptoRow.holds Try.pinned (OpenSpec.upto rvecNoughtSpec)

end Rows
end Go.Proofs.Ytljanmldkldggaa
