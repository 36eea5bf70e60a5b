/-
  Facts of the program and of this law's row. Conditions: none.
-/
import Derived.Test.YteodpoelbdakgaaGreatPF
namespace Go.Proofs.YteodpoelbdakgaaGreat.assignTurns.k
open Go
set_option maxRecDepth 100000
theorem named : Tryz.pinned.checked.prog.funcNamed (OpenClaim.func Rows.assignTurnsRow) = some 11 := by kernel_rfl
theorem wf : Rows.assignTurnsRow.wf (OpenSpec.ofChange Rows.assignTurnsSpec) = true := by kernel_rfl
theorem yg : Tryz.f11.params.all (Tryz.prog.readableRec ·) = true := by kernel_rfl
theorem tie : namedTie Tryz.prog Rows.assignTurnsRow.named Rows.assignTurnsSpec.vars = true := by kernel_rfl
theorem stops : (Rows.assignTurnsRow.stops == []) = true := by kernel_rfl
theorem knobs : (Rows.assignTurnsRow.knobs == []) = true := by kernel_rfl
theorem inPlace : (Rows.assignTurnsRow.inPlace == Tryz.prog.inPlace 11) = true := by kernel_rfl
theorem unfollowed : (Rows.assignTurnsRow.unfollowed == Tryz.prog.unfollowed 11) = true := by kernel_rfl
theorem recurses : (Rows.assignTurnsRow.recurses == Tryz.prog.recurses 11) = true := by kernel_rfl
theorem AL : (Rows.assignTurnsRow.named == Tryz.prog.varsNamed 11) = true := by kernel_rfl
theorem maps : (Rows.assignTurnsRow.maps == (Tryz.f11.params.toList ++ Rows.assignTurnsSpec.plain.varTypes Tryz.prog).any (Tryz.prog.mapsRec ·)) = true := by kernel_rfl
theorem ifaces : (Rows.assignTurnsRow.ifaces == (Tryz.f11.params.toList ++ Rows.assignTurnsSpec.plain.varTypes Tryz.prog).any (Tryz.prog.ifacesRec ·)) = true := by kernel_rfl
theorem mapsOut : (Rows.assignTurnsRow.mapsOut == Tryz.prog.mapsAmong Tryz.f11.resultTypes.toList) = true := by kernel_rfl
theorem loops : (Rows.assignTurnsRow.loops == (Tryz.f11.params.toList ++ Rows.assignTurnsSpec.plain.varTypes Tryz.prog).any (Tryz.prog.loopsFrom ·)) = true := by kernel_rfl
theorem wideKeys : (Rows.assignTurnsRow.wideKeys == (Tryz.f11.params.toList ++ Rows.assignTurnsSpec.plain.varTypes Tryz.prog ++ Tryz.f11.resultTypes.toList).any (Tryz.prog.wideKeysFrom ·)) = true := by kernel_rfl
theorem vars : Rows.assignTurnsSpec.vars.all (Tryz.prog.varReadable ·) = true := by kernel_rfl
theorem results : Tryz.f11.resultTypes.all (fun t => Tryz.prog.readableRec t && decide (t < Tryz.prog.types.size)) = true := by kernel_rfl
theorem ifacesOut : (Rows.assignTurnsRow.ifacesOut == Tryz.f11.resultTypes.toList.any (Tryz.prog.ifacesRec ·)) = true := by kernel_rfl
theorem loopsOut : (Rows.assignTurnsRow.loopsOut == Tryz.f11.resultTypes.toList.any (Tryz.prog.loopsFrom ·)) = true := by kernel_rfl
theorem plainKeys : (Rows.assignTurnsRow.plainKeys == Tryz.prog.plainKeys) = true := (congrArg (Rows.assignTurnsRow.plainKeys == ·) pf.plainKeys).trans (by kernel_rfl)
theorem shortTexts : Rows.assignTurnsRow.shortTexts.isNone = true := by kernel_rfl
theorem lifted : (Rows.assignTurnsRow.lifted == Tryz.prog.liftsFinal) = true := (congrArg (Rows.assignTurnsRow.lifted == ·) pf.lifts).trans (by kernel_rfl)
theorem make : (Tryz.prog.make == some Rows.assignTurnsRow.make) = true := (congrArg (· == some Rows.assignTurnsRow.make) pf.make).trans (by kernel_rfl)
theorem kinds : (Rows.assignTurnsRow.kinds == (if Rows.assignTurnsRow.domain.isEmpty then [] else Tryz.f11.params.toList.map fun t => match Tryz.prog.underlying t with | some (.int k) => some k | _ => none)) = true := by kernel_rfl
theorem pinned : (Rows.assignTurnsRow.pinned == Rows.assignTurnsRow.pinnedBy) = true := by kernel_rfl
theorem veiled : (Rows.assignTurnsRow.veiled == (Tryz.f11.params.toList ++ Rows.assignTurnsSpec.plain.varTypes Tryz.prog ++ Tryz.f11.resultTypes.toList).any (Tryz.prog.veiledRec ·)) = true := by kernel_rfl
theorem veiledFits : Rows.assignTurnsRow.veiledFits Tryz.prog Tryz.f11.params.toList (Tryz.f11.params.toList ++ Rows.assignTurnsSpec.plain.varTypes Tryz.prog ++ Tryz.f11.resultTypes.toList) = true := by kernel_rfl
theorem closed0 : joinedFacts Tryz.prog 11 Tryz.f11 Rows.assignTurnsSpec Rows.assignTurnsRow = true := by
 unfold joinedFacts
 exact (pf.band (pf.band (pf.band (pf.band (pf.band (pf.band (pf.band (pf.band (pf.band (pf.band (pf.band (pf.band (pf.band (pf.band (pf.band (pf.band (pf.band (pf.band (pf.band (pf.band (pf.band (pf.band (pf.band (pf.band (pf.band (pf.band (pf.band (pf.band (pf.band (pf.band (pf.band wf pf.laid) pf.maps) yg) tie) stops) pf.stops) knobs) pf.stopKnobs) inPlace) unfollowed) recurses) AL) maps) ifaces) mapsOut) loops) wideKeys) vars) results) ifacesOut) loopsOut) plainKeys) shortTexts) pf.stopsHeard) pf.mayEnter) lifted) make) kinds) pinned) veiled) veiledFits)
theorem closed : joinedFacts Tryz.pinned.checked.prog 11 Tryz.f11 Rows.assignTurnsSpec Rows.assignTurnsRow = true := closed0
end Go.Proofs.YteodpoelbdakgaaGreat.assignTurns.k
