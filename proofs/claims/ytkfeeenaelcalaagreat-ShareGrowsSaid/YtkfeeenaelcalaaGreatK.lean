/-
  Facts of the program and of this law's row. Conditions: none.
-/
import Derived.Test.YtkfeeenaelcalaaGreatPF
namespace Go.Proofs.YtkfeeenaelcalaaGreat.shareGrows.k
open Go
set_option maxRecDepth 100000

theorem named : Tryz.pinned.checked.prog.funcNamed (OpenClaim.func Rows.shareGrowsRow) = some 4 := by kernel_rfl
theorem wf : Rows.shareGrowsRow.wf (OpenSpec.ofChange Rows.shareGrowsSpec) = true := by kernel_rfl
theorem readable : Tryz.f4.params.all (Tryz.prog.readableRec ·) = true := by kernel_rfl
theorem tie : namedTie Tryz.prog Rows.shareGrowsRow.named Rows.shareGrowsSpec.vars = true := by kernel_rfl
theorem stops : (Rows.shareGrowsRow.stops == []) = true := by kernel_rfl
theorem knobs : (Rows.shareGrowsRow.knobs == []) = true := by kernel_rfl
theorem inPlace : (Rows.shareGrowsRow.inPlace == Tryz.prog.inPlace 4) = true := by kernel_rfl
theorem unfollowed : (Rows.shareGrowsRow.unfollowed == Tryz.prog.unfollowed 4) = true := by kernel_rfl
theorem recurses : (Rows.shareGrowsRow.recurses == Tryz.prog.recurses 4) = true := by kernel_rfl
theorem vnamed : (Rows.shareGrowsRow.named == Tryz.prog.varsNamed 4) = true := by kernel_rfl
theorem maps : (Rows.shareGrowsRow.maps == (Tryz.f4.params.toList ++ Rows.shareGrowsSpec.plain.varTypes Tryz.prog).any (Tryz.prog.mapsRec ·)) = true := by kernel_rfl
theorem ifaces : (Rows.shareGrowsRow.ifaces == (Tryz.f4.params.toList ++ Rows.shareGrowsSpec.plain.varTypes Tryz.prog).any (Tryz.prog.ifacesRec ·)) = true := by kernel_rfl
theorem mapsOut : (Rows.shareGrowsRow.mapsOut == Tryz.prog.mapsAmong Tryz.f4.resultTypes.toList) = true := by kernel_rfl
theorem loops : (Rows.shareGrowsRow.loops == (Tryz.f4.params.toList ++ Rows.shareGrowsSpec.plain.varTypes Tryz.prog).any (Tryz.prog.loopsFrom ·)) = true := by kernel_rfl
theorem wideKeys : (Rows.shareGrowsRow.wideKeys == (Tryz.f4.params.toList ++ Rows.shareGrowsSpec.plain.varTypes Tryz.prog ++ Tryz.f4.resultTypes.toList).any (Tryz.prog.wideKeysFrom ·)) = true := by kernel_rfl
theorem vars : Rows.shareGrowsSpec.vars.all (Tryz.prog.varReadable ·) = true := by kernel_rfl
theorem results : Tryz.f4.resultTypes.all (fun t => Tryz.prog.readableRec t && decide (t < Tryz.prog.types.size)) = true := by kernel_rfl
theorem ifacesOut : (Rows.shareGrowsRow.ifacesOut == Tryz.f4.resultTypes.toList.any (Tryz.prog.ifacesRec ·)) = true := by kernel_rfl
theorem loopsOut : (Rows.shareGrowsRow.loopsOut == Tryz.f4.resultTypes.toList.any (Tryz.prog.loopsFrom ·)) = true := by kernel_rfl
theorem plainKeys : (Rows.shareGrowsRow.plainKeys == Tryz.prog.plainKeys) = true := (congrArg (Rows.shareGrowsRow.plainKeys == ·) pf.plainKeys).trans (by kernel_rfl)
theorem shortTexts : Rows.shareGrowsRow.shortTexts.isNone = true := by kernel_rfl
theorem lifted : (Rows.shareGrowsRow.lifted == Tryz.prog.liftsFinal) = true := (congrArg (Rows.shareGrowsRow.lifted == ·) pf.lifts).trans (by kernel_rfl)
theorem make : (Tryz.prog.make == some Rows.shareGrowsRow.make) = true := (congrArg (· == some Rows.shareGrowsRow.make) pf.make).trans (by kernel_rfl)
theorem kinds : (Rows.shareGrowsRow.kinds == (if Rows.shareGrowsRow.domain.isEmpty then [] else Tryz.f4.params.toList.map fun t => match Tryz.prog.underlying t with | some (.int k) => some k | _ => none)) = true := by kernel_rfl
theorem pinned : (Rows.shareGrowsRow.pinned == Rows.shareGrowsRow.pinnedBy) = true := by kernel_rfl
theorem veiled : (Rows.shareGrowsRow.veiled == (Tryz.f4.params.toList ++ Rows.shareGrowsSpec.plain.varTypes Tryz.prog ++ Tryz.f4.resultTypes.toList).any (Tryz.prog.veiledRec ·)) = true := by kernel_rfl
theorem veiledFits : Rows.shareGrowsRow.veiledFits Tryz.prog Tryz.f4.params.toList (Tryz.f4.params.toList ++ Rows.shareGrowsSpec.plain.varTypes Tryz.prog ++ Tryz.f4.resultTypes.toList) = true := by kernel_rfl
theorem closed0 : joinedFacts Tryz.prog 4 Tryz.f4 Rows.shareGrowsSpec Rows.shareGrowsRow = true := by
  unfold joinedFacts
  exact (pf.band (pf.band (pf.band (pf.band (pf.band (pf.band (pf.band (pf.band (pf.band (pf.band (pf.band (pf.band (pf.band (pf.band (pf.band (pf.band (pf.band (pf.band (pf.band (pf.band (pf.band (pf.band (pf.band (pf.band (pf.band (pf.band (pf.band (pf.band (pf.band (pf.band (pf.band wf pf.laid) pf.maps) readable) tie) stops) pf.stops) knobs) pf.stopKnobs) inPlace) unfollowed) recurses) vnamed) maps) ifaces) mapsOut) loops) wideKeys) vars) results) ifacesOut) loopsOut) plainKeys) shortTexts) pf.stopsHeard) pf.mayEnter) lifted) make) kinds) pinned) veiled) veiledFits)
theorem closed : joinedFacts Tryz.pinned.checked.prog 4 Tryz.f4 Rows.shareGrowsSpec Rows.shareGrowsRow = true := closed0
end Go.Proofs.YtkfeeenaelcalaaGreat.shareGrows.k

