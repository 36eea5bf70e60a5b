/-
  Facts of the program and of this law's row. Conditions: none.
-/
import Derived.Test.YtkfeeenaelcalaaGreatPF
namespace Go.Proofs.YtkfeeenaelcalaaGreat.orderLeaves.k
open Go
set_option maxRecDepth 100000

theorem named : Tryz.pinned.checked.prog.funcNamed (OpenClaim.func Rows.orderLeavesRow) = some 12 := by kernel_rfl
theorem wf : Rows.orderLeavesRow.wf (OpenSpec.ofChange Rows.orderLeavesSpec) = true := by kernel_rfl
theorem readable : Tryz.f12.params.all (Tryz.prog.readableRec ·) = true := by kernel_rfl
theorem tie : namedTie Tryz.prog Rows.orderLeavesRow.named Rows.orderLeavesSpec.vars = true := by kernel_rfl
theorem stops : (Rows.orderLeavesRow.stops == []) = true := by kernel_rfl
theorem knobs : (Rows.orderLeavesRow.knobs == []) = true := by kernel_rfl
theorem inPlace : (Rows.orderLeavesRow.inPlace == Tryz.prog.inPlace 12) = true := by kernel_rfl
theorem unfollowed : (Rows.orderLeavesRow.unfollowed == Tryz.prog.unfollowed 12) = true := by kernel_rfl
theorem recurses : (Rows.orderLeavesRow.recurses == Tryz.prog.recurses 12) = true := by kernel_rfl
theorem vnamed : (Rows.orderLeavesRow.named == Tryz.prog.varsNamed 12) = true := by kernel_rfl
theorem maps : (Rows.orderLeavesRow.maps == (Tryz.f12.params.toList ++ Rows.orderLeavesSpec.plain.varTypes Tryz.prog).any (Tryz.prog.mapsRec ·)) = true := by kernel_rfl
theorem ifaces : (Rows.orderLeavesRow.ifaces == (Tryz.f12.params.toList ++ Rows.orderLeavesSpec.plain.varTypes Tryz.prog).any (Tryz.prog.ifacesRec ·)) = true := by kernel_rfl
theorem mapsOut : (Rows.orderLeavesRow.mapsOut == Tryz.prog.mapsAmong Tryz.f12.resultTypes.toList) = true := by kernel_rfl
theorem loops : (Rows.orderLeavesRow.loops == (Tryz.f12.params.toList ++ Rows.orderLeavesSpec.plain.varTypes Tryz.prog).any (Tryz.prog.loopsFrom ·)) = true := by kernel_rfl
theorem wideKeys : (Rows.orderLeavesRow.wideKeys == (Tryz.f12.params.toList ++ Rows.orderLeavesSpec.plain.varTypes Tryz.prog ++ Tryz.f12.resultTypes.toList).any (Tryz.prog.wideKeysFrom ·)) = true := by kernel_rfl
theorem vars : Rows.orderLeavesSpec.vars.all (Tryz.prog.varReadable ·) = true := by kernel_rfl
theorem results : Tryz.f12.resultTypes.all (fun t => Tryz.prog.readableRec t && decide (t < Tryz.prog.types.size)) = true := by kernel_rfl
theorem ifacesOut : (Rows.orderLeavesRow.ifacesOut == Tryz.f12.resultTypes.toList.any (Tryz.prog.ifacesRec ·)) = true := by kernel_rfl
theorem loopsOut : (Rows.orderLeavesRow.loopsOut == Tryz.f12.resultTypes.toList.any (Tryz.prog.loopsFrom ·)) = true := by kernel_rfl
theorem plainKeys : (Rows.orderLeavesRow.plainKeys == Tryz.prog.plainKeys) = true := (congrArg (Rows.orderLeavesRow.plainKeys == ·) pf.plainKeys).trans (by kernel_rfl)
theorem shortTexts : Rows.orderLeavesRow.shortTexts.isNone = true := by kernel_rfl
theorem lifted : (Rows.orderLeavesRow.lifted == Tryz.prog.liftsFinal) = true := (congrArg (Rows.orderLeavesRow.lifted == ·) pf.lifts).trans (by kernel_rfl)
theorem make : (Tryz.prog.make == some Rows.orderLeavesRow.make) = true := (congrArg (· == some Rows.orderLeavesRow.make) pf.make).trans (by kernel_rfl)
theorem kinds : (Rows.orderLeavesRow.kinds == (if Rows.orderLeavesRow.domain.isEmpty then [] else Tryz.f12.params.toList.map fun t => match Tryz.prog.underlying t with | some (.int k) => some k | _ => none)) = true := by kernel_rfl
theorem pinned : (Rows.orderLeavesRow.pinned == Rows.orderLeavesRow.pinnedBy) = true := by kernel_rfl
theorem veiled : (Rows.orderLeavesRow.veiled == (Tryz.f12.params.toList ++ Rows.orderLeavesSpec.plain.varTypes Tryz.prog ++ Tryz.f12.resultTypes.toList).any (Tryz.prog.veiledRec ·)) = true := by kernel_rfl
theorem veiledFits : Rows.orderLeavesRow.veiledFits Tryz.prog Tryz.f12.params.toList (Tryz.f12.params.toList ++ Rows.orderLeavesSpec.plain.varTypes Tryz.prog ++ Tryz.f12.resultTypes.toList) = true := by kernel_rfl
theorem closed0 : joinedFacts Tryz.prog 12 Tryz.f12 Rows.orderLeavesSpec Rows.orderLeavesRow = true := by
  unfold joinedFacts
  exact (pf.band (pf.band (pf.band (pf.band (pf.band (pf.band (pf.band (pf.band (pf.band (pf.band (pf.band (pf.band (pf.band (pf.band (pf.band (pf.band (pf.band (pf.band (pf.band (pf.band (pf.band (pf.band (pf.band (pf.band (pf.band (pf.band (pf.band (pf.band (pf.band (pf.band (pf.band wf pf.laid) pf.maps) readable) tie) stops) pf.stops) knobs) pf.stopKnobs) inPlace) unfollowed) recurses) vnamed) maps) ifaces) mapsOut) loops) wideKeys) vars) results) ifacesOut) loopsOut) plainKeys) shortTexts) pf.stopsHeard) pf.mayEnter) lifted) make) kinds) pinned) veiled) veiledFits)
theorem closed : joinedFacts Tryz.pinned.checked.prog 12 Tryz.f12 Rows.orderLeavesSpec Rows.orderLeavesRow = true := closed0
end Go.Proofs.YtkfeeenaelcalaaGreat.orderLeaves.k

