/-
  No cell of these rows narrows 'for every input' (looked for: loops, veiled, ifaces, maps, wideKeys, modest, calm, conditions, laid).
  DERIVED. THE GIVEN ROWS OF THIS SEAT. 4 by the template 'for every input the law returns true; each argument reads behind the call as it read before'; 0 by the template 'total and deterministic' (their statements: YtnhilghgjpjkjaaTotals.lean).
  GIVEN WITH THE SEED: the statements are not yours to turn. If you find one false, say at which input.
  Laid BY PROGRAM, IN A SANDBOX (cutbox-rows.mjs): the forced cells as the released guide's own fill.sh prints them over the translation 11578dd92e43f3a7… (all of the seat's roots in one cut). By AI agents, Wed Nov 11 2026. No macro, syntax, notation, axiom, sorry.
-/
import Derived.Test.YtnhilghgjpjkjaaChecked
import GoSem.Claim
import GoSem.ClaimJoined
import GoSem.ClaimMapViews
import Derived.JoinedTies
import Derived.KernelRfl
namespace Go.Proofs.Ytnhilghgjpjkjaa
/- THE CELL 'sum', in the pinned program and in every row, IS THE sha256 OF THE DUMP (.gsa) THAT YtnhilghgjpjkjaaProg.lean LOADS. Nothing in Lean hashes anything: it is a label: what it is worth is what the hold of that sum in a sandbox is worth. -/
noncomputable def Try.pinned : Pinned := { name := "ytnhilghgjpjkjaa", sum := "11578dd92e43f3a75ccf8aed5dfebe2bd65806ea9e45ebdb90a2535aac102fd1", checked := Try.checked }
namespace Rows
def none {H : Type} : Left H := { results := [], args := [] }

/-- 'dispatchlaw16.IdealSplits': WHATEVER THE INPUT: true; the input reads as it did. -/
def idealSplitsSpec : ChangeSpec := { name := "idealSplits", fn := fun _ => fun
  | [d1, d2, d3, d4, d5] => { results := [.lit (.bool true)], args := [d1, d2, d3, d4, d5] }
  | _ => none }
def idealSplitsRow : OpenClaim := { program := "ytnhilghgjpjkjaa", sum := "11578dd92e43f3a75ccf8aed5dfebe2bd65806ea9e45ebdb90a2535aac102fd1", func := "dispatch/dispatchlaw16.IdealSplits", spec := "idealSplits", apart := false }
def IdealSplitsSaid : Prop := idealSplitsRow.holds Try.pinned (OpenSpec.ofChange idealSplitsSpec)

/-- ITS FALSE NEIGHBOUR: 'it returns false'. Refute it at one input. -/
def idealSplitsWrong : ChangeSpec := { name := "idealSplits", fn := fun _ => fun
  | [d1, d2, d3, d4, d5] => { results := [.lit (.bool false)], args := [d1, d2, d3, d4, d5] }
  | _ => none }
def IdealSplitsWrongFalsely : Prop := idealSplitsRow.holds Try.pinned (OpenSpec.ofChange idealSplitsWrong)

/-- 'dispatchlaw16.IdealSums': WHATEVER THE INPUT: true; the input reads as it did. -/
def idealSumsSpec : ChangeSpec := { name := "idealSums", fn := fun _ => fun
  | [d1, d2, d3, d4] => { results := [.lit (.bool true)], args := [d1, d2, d3, d4] }
  | _ => none }
def idealSumsRow : OpenClaim := { program := "ytnhilghgjpjkjaa", sum := "11578dd92e43f3a75ccf8aed5dfebe2bd65806ea9e45ebdb90a2535aac102fd1", func := "dispatch/dispatchlaw16.IdealSums", spec := "idealSums", apart := false }
def IdealSumsSaid : Prop := idealSumsRow.holds Try.pinned (OpenSpec.ofChange idealSumsSpec)

/-- ITS FALSE NEIGHBOUR: 'it returns false'. Refute it at one input. -/
def idealSumsWrong : ChangeSpec := { name := "idealSums", fn := fun _ => fun
  | [d1, d2, d3, d4] => { results := [.lit (.bool false)], args := [d1, d2, d3, d4] }
  | _ => none }
def IdealSumsWrongFalsely : Prop := idealSumsRow.holds Try.pinned (OpenSpec.ofChange idealSumsWrong)

/-- 'dispatchlaw16.IdealMore': WHATEVER THE INPUT: true; the input reads as it did. -/
def idealMoreSpec : ChangeSpec := { name := "idealMore", fn := fun _ => fun
  | [d1, d2, d3, d4, d5] => { results := [.lit (.bool true)], args := [d1, d2, d3, d4, d5] }
  | _ => none }
def idealMoreRow : OpenClaim := { program := "ytnhilghgjpjkjaa", sum := "11578dd92e43f3a75ccf8aed5dfebe2bd65806ea9e45ebdb90a2535aac102fd1", func := "dispatch/dispatchlaw16.IdealMore", spec := "idealMore", apart := false }
def IdealMoreSaid : Prop := idealMoreRow.holds Try.pinned (OpenSpec.ofChange idealMoreSpec)

/-- ITS FALSE NEIGHBOUR: 'it returns false'. Refute it at one input. -/
def idealMoreWrong : ChangeSpec := { name := "idealMore", fn := fun _ => fun
  | [d1, d2, d3, d4, d5] => { results := [.lit (.bool false)], args := [d1, d2, d3, d4, d5] }
  | _ => none }
def IdealMoreWrongFalsely : Prop := idealMoreRow.holds Try.pinned (OpenSpec.ofChange idealMoreWrong)

/-- 'dispatchlaw16.IdealAll': WHATEVER THE INPUT: true; the input reads as it did. -/
def idealAllSpec : ChangeSpec := { name := "idealAll", fn := fun _ => fun
  | [d1, d2, d3, d4] => { results := [.lit (.bool true)], args := [d1, d2, d3, d4] }
  | _ => none }
def idealAllRow : OpenClaim := { program := "ytnhilghgjpjkjaa", sum := "11578dd92e43f3a75ccf8aed5dfebe2bd65806ea9e45ebdb90a2535aac102fd1", func := "dispatch/dispatchlaw16.IdealAll", spec := "idealAll", apart := false }
def IdealAllSaid : Prop := idealAllRow.holds Try.pinned (OpenSpec.ofChange idealAllSpec)

/-- ITS FALSE NEIGHBOUR: 'it returns false'. Refute it at one input. -/
def idealAllWrong : ChangeSpec := { name := "idealAll", fn := fun _ => fun
  | [d1, d2, d3, d4] => { results := [.lit (.bool false)], args := [d1, d2, d3, d4] }
  | _ => none }
def IdealAllWrongFalsely : Prop := idealAllRow.holds Try.pinned (OpenSpec.ofChange idealAllWrong)

/- THE SECOND FORM. 'bulk': how many values and letters a reading holds, each counted each time it is reached (what is shared counts as often as it is met; a slice's spare places count too). A statement '..UptoSaid' is the law's where the arguments, and the package variables that the reading takes, are together of bulk at most 1048576: NARROWER than '..Said'. Prove '..Said' where nothing that the law and all that it calls make is longer than what came in: it says more and counts as full. Else prove '..UptoSaid'. A law counts once. -/
mutual
def uptoBulk {H : Type} : DataW H → Nat
  | .lit (.string bytes) => bytes.length + 1
  | .lit _ => 1
  | .nil => 1
  | .ptr d => uptoBulk d + 1
  | .slice elems spare => uptoBulkAll elems + uptoBulkAll spare + 1
  | .agg parts => uptoBulkAll parts + 1
  | .iface _ d => uptoBulk d + 1
  | .map entries => uptoBulkEntries entries + 1
  | .held _ => 1
def uptoBulkAll {H : Type} : List (DataW H) → Nat
  | [] => 0
  | d :: r => uptoBulk d + uptoBulkAll r
def uptoBulkEntries {H : Type} : List (Lit × DataW H) → Nat
  | [] => 0
  | x :: r => uptoBulkEntry x + uptoBulkEntries r
def uptoBulkEntry {H : Type} : Lit × DataW H → Nat
  | (.string bytes, d) => bytes.length + uptoBulk d + 1
  | (_, d) => uptoBulk d + 1
 end
def uptoSmall : (H : Type) → List (DataW H) → Bool := fun _ ds => decide (uptoBulkAll ds ≤ 1048576)
def OpenSpec.upto (s : _root_.Go.ChangeSpec) : _root_.Go.OpenSpec := { _root_.Go.OpenSpec.ofChange s with cond := some uptoSmall }

/-- 'dispatchlaw16.IdealSplits', WHERE WHAT IT READS IS OF BULK AT MOST 1048576: true; the input reads as it did. -/
def idealSplitsUptoRow : OpenClaim := { program := "ytnhilghgjpjkjaa", sum := "11578dd92e43f3a75ccf8aed5dfebe2bd65806ea9e45ebdb90a2535aac102fd1", func := "dispatch/dispatchlaw16.IdealSplits", spec := "idealSplits", apart := false, narrowed := true }
def IdealSplitsUptoSaid : Prop := idealSplitsUptoRow.holds Try.pinned (OpenSpec.upto idealSplitsSpec)

/-- 'dispatchlaw16.IdealSums', WHERE WHAT IT READS IS OF BULK AT MOST 1048576: true; the input reads as it did. -/
def idealSumsUptoRow : OpenClaim := { program := "ytnhilghgjpjkjaa", sum := "11578dd92e43f3a75ccf8aed5dfebe2bd65806ea9e45ebdb90a2535aac102fd1", func := "dispatch/dispatchlaw16.IdealSums", spec := "idealSums", apart := false, narrowed := true }
def IdealSumsUptoSaid : Prop := idealSumsUptoRow.holds Try.pinned (OpenSpec.upto idealSumsSpec)

/-- 'dispatchlaw16.IdealMore', WHERE WHAT IT READS IS OF BULK AT MOST 1048576: true; the input reads as it did. -/
def idealMoreUptoRow : OpenClaim := { program := "ytnhilghgjpjkjaa", sum := "11578dd92e43f3a75ccf8aed5dfebe2bd65806ea9e45ebdb90a2535aac102fd1", func := "dispatch/dispatchlaw16.IdealMore", spec := "idealMore", apart := false, narrowed := true }
def IdealMoreUptoSaid : Prop := idealMoreUptoRow.holds Try.pinned (OpenSpec.upto idealMoreSpec)

/-- 'dispatchlaw16.IdealAll', WHERE WHAT IT READS IS OF BULK AT MOST 1048576: true; the input reads as it did. -/
def idealAllUptoRow : OpenClaim := { program := "ytnhilghgjpjkjaa", sum := "11578dd92e43f3a75ccf8aed5dfebe2bd65806ea9e45ebdb90a2535aac102fd1", func := "dispatch/dispatchlaw16.IdealAll", spec := "idealAll", apart := false, narrowed := true }
def IdealAllUptoSaid : Prop := idealAllUptoRow.holds Try.pinned (OpenSpec.upto idealAllSpec)

end Rows
end Go.Proofs.Ytnhilghgjpjkjaa
