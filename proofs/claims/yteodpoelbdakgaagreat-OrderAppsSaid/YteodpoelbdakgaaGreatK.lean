/-
  Facts of the program and of this law's row. Conditions: none.
-/
import Derived.Test.YteodpoelbdakgaaGreatPF
namespace Go.Proofs.YteodpoelbdakgaaGreat.orderApps.k
open Go
set_option maxRecDepth 100000

theorem named : Tryz.pinned.checked.prog.funcNamed (OpenClaim.func Rows.orderAppsRow) = some 3 := by kernel_rfl
theorem wf : Rows.orderAppsRow.wf (OpenSpec.ofChange Rows.orderAppsSpec) = true := by kernel_rfl
theorem readable : Tryz.f3.params.all (Tryz.prog.readableRec ·) = true := by kernel_rfl
theorem tie : namedTie Tryz.prog Rows.orderAppsRow.named Rows.orderAppsSpec.vars = true := by kernel_rfl
theorem stops : (Rows.orderAppsRow.stops == []) = true := by kernel_rfl
theorem knobs : (Rows.orderAppsRow.knobs == []) = true := by kernel_rfl
theorem inPlace : (Rows.orderAppsRow.inPlace == Tryz.prog.inPlace 3) = true := by kernel_rfl
theorem unfollowed : (Rows.orderAppsRow.unfollowed == Tryz.prog.unfollowed 3) = true := by kernel_rfl
theorem recurses : (Rows.orderAppsRow.recurses == Tryz.prog.recurses 3) = true := by kernel_rfl
theorem vnamed : (Rows.orderAppsRow.named == Tryz.prog.varsNamed 3) = true := by kernel_rfl
theorem maps : (Rows.orderAppsRow.maps == (Tryz.f3.params.toList ++ Rows.orderAppsSpec.plain.varTypes Tryz.prog).any (Tryz.prog.mapsRec ·)) = true := by kernel_rfl
theorem ifaces : (Rows.orderAppsRow.ifaces == (Tryz.f3.params.toList ++ Rows.orderAppsSpec.plain.varTypes Tryz.prog).any (Tryz.prog.ifacesRec ·)) = true := by kernel_rfl
theorem mapsOut : (Rows.orderAppsRow.mapsOut == Tryz.prog.mapsAmong Tryz.f3.resultTypes.toList) = true := by kernel_rfl
theorem loops : (Rows.orderAppsRow.loops == (Tryz.f3.params.toList ++ Rows.orderAppsSpec.plain.varTypes Tryz.prog).any (Tryz.prog.loopsFrom ·)) = true := by kernel_rfl
theorem wideKeys : (Rows.orderAppsRow.wideKeys == (Tryz.f3.params.toList ++ Rows.orderAppsSpec.plain.varTypes Tryz.prog ++ Tryz.f3.resultTypes.toList).any (Tryz.prog.wideKeysFrom ·)) = true := by kernel_rfl
theorem vars : Rows.orderAppsSpec.vars.all (Tryz.prog.varReadable ·) = true := by kernel_rfl
theorem results : Tryz.f3.resultTypes.all (fun t => Tryz.prog.readableRec t && decide (t < Tryz.prog.types.size)) = true := by kernel_rfl
theorem ifacesOut : (Rows.orderAppsRow.ifacesOut == Tryz.f3.resultTypes.toList.any (Tryz.prog.ifacesRec ·)) = true := by kernel_rfl
theorem loopsOut : (Rows.orderAppsRow.loopsOut == Tryz.f3.resultTypes.toList.any (Tryz.prog.loopsFrom ·)) = true := by kernel_rfl
theorem plainKeys : (Rows.orderAppsRow.plainKeys == Tryz.prog.plainKeys) = true := (congrArg (Rows.orderAppsRow.plainKeys == ·) pf.plainKeys).trans (by kernel_rfl)
theorem shortTexts : Rows.orderAppsRow.shortTexts.isNone = true := by kernel_rfl
theorem lifted : (Rows.orderAppsRow.lifted == Tryz.prog.liftsFinal) = true := (congrArg (Rows.orderAppsRow.lifted == ·) pf.lifts).trans (by kernel_rfl)
theorem make : (Tryz.prog.make == some Rows.orderAppsRow.make) = true := (congrArg (· == some Rows.orderAppsRow.make) pf.make).trans (by kernel_rfl)
theorem kinds : (Rows.orderAppsRow.kinds == (if Rows.orderAppsRow.domain.isEmpty then [] else Tryz.f3.params.toList.map fun t => match Tryz.prog.underlying t with | some (.int k) => some k | _ => none)) = true := by kernel_rfl
theorem pinned : (Rows.orderAppsRow.pinned == Rows.orderAppsRow.pinnedBy) = true := by kernel_rfl
theorem veiled : (Rows.orderAppsRow.veiled == (Tryz.f3.params.toList ++ Rows.orderAppsSpec.plain.varTypes Tryz.prog ++ Tryz.f3.resultTypes.toList).any (Tryz.prog.veiledRec ·)) = true := by kernel_rfl
theorem veiledFits : Rows.orderAppsRow.veiledFits Tryz.prog Tryz.f3.params.toList (Tryz.f3.params.toList ++ Rows.orderAppsSpec.plain.varTypes Tryz.prog ++ Tryz.f3.resultTypes.toList) = true := by kernel_rfl
theorem closed0 : joinedFacts Tryz.prog 3 Tryz.f3 Rows.orderAppsSpec Rows.orderAppsRow = true := by
  unfold joinedFacts
  exact (pf.band (pf.band (pf.band (pf.band (pf.band (pf.band (pf.band (pf.band (pf.band (pf.band (pf.band (pf.band (pf.band (pf.band (pf.band (pf.band (pf.band (pf.band (pf.band (pf.band (pf.band (pf.band (pf.band (pf.band (pf.band (pf.band (pf.band (pf.band (pf.band (pf.band (pf.band wf pf.laid) pf.maps) readable) tie) stops) pf.stops) knobs) pf.stopKnobs) inPlace) unfollowed) recurses) vnamed) maps) ifaces) mapsOut) loops) wideKeys) vars) results) ifacesOut) loopsOut) plainKeys) shortTexts) pf.stopsHeard) pf.mayEnter) lifted) make) kinds) pinned) veiled) veiledFits)
theorem closed : joinedFacts Tryz.pinned.checked.prog 3 Tryz.f3 Rows.orderAppsSpec Rows.orderAppsRow = true := closed0
end Go.Proofs.YteodpoelbdakgaaGreat.orderApps.k

