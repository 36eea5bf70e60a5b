/-
  Facts of the program and of this law's row. Conditions: none.
-/
import Derived.Test.YteodpoelbdakgaaGreatPF
namespace Go.Proofs.YteodpoelbdakgaaGreat.assignIds.k
open Go
set_option maxRecDepth 100000
theorem named : Tryz.pinned.checked.prog.funcNamed (OpenClaim.func Rows.assignIdsRow) = some 14 := by kernel_rfl
theorem wf : Rows.assignIdsRow.wf (OpenSpec.ofChange Rows.assignIdsSpec) = true := by kernel_rfl
theorem CY : Tryz.f14.params.all (Tryz.prog.readableRec ·) = true := by kernel_rfl
theorem tie : namedTie Tryz.prog Rows.assignIdsRow.named Rows.assignIdsSpec.vars = true := by kernel_rfl
theorem stops : (Rows.assignIdsRow.stops == []) = true := by kernel_rfl
theorem knobs : (Rows.assignIdsRow.knobs == []) = true := by kernel_rfl
theorem inPlace : (Rows.assignIdsRow.inPlace == Tryz.prog.inPlace 14) = true := by kernel_rfl
theorem unfollowed : (Rows.assignIdsRow.unfollowed == Tryz.prog.unfollowed 14) = true := by kernel_rfl
theorem recurses : (Rows.assignIdsRow.recurses == Tryz.prog.recurses 14) = true := by kernel_rfl
theorem FV : (Rows.assignIdsRow.named == Tryz.prog.varsNamed 14) = true := by kernel_rfl
theorem maps : (Rows.assignIdsRow.maps == (Tryz.f14.params.toList ++ Rows.assignIdsSpec.plain.varTypes Tryz.prog).any (Tryz.prog.mapsRec ·)) = true := by kernel_rfl
theorem ifaces : (Rows.assignIdsRow.ifaces == (Tryz.f14.params.toList ++ Rows.assignIdsSpec.plain.varTypes Tryz.prog).any (Tryz.prog.ifacesRec ·)) = true := by kernel_rfl
theorem mapsOut : (Rows.assignIdsRow.mapsOut == Tryz.prog.mapsAmong Tryz.f14.resultTypes.toList) = true := by kernel_rfl
theorem loops : (Rows.assignIdsRow.loops == (Tryz.f14.params.toList ++ Rows.assignIdsSpec.plain.varTypes Tryz.prog).any (Tryz.prog.loopsFrom ·)) = true := by kernel_rfl
theorem wideKeys : (Rows.assignIdsRow.wideKeys == (Tryz.f14.params.toList ++ Rows.assignIdsSpec.plain.varTypes Tryz.prog ++ Tryz.f14.resultTypes.toList).any (Tryz.prog.wideKeysFrom ·)) = true := by kernel_rfl
theorem vars : Rows.assignIdsSpec.vars.all (Tryz.prog.varReadable ·) = true := by kernel_rfl
theorem results : Tryz.f14.resultTypes.all (fun t => Tryz.prog.readableRec t && decide (t < Tryz.prog.types.size)) = true := by kernel_rfl
theorem ifacesOut : (Rows.assignIdsRow.ifacesOut == Tryz.f14.resultTypes.toList.any (Tryz.prog.ifacesRec ·)) = true := by kernel_rfl
theorem loopsOut : (Rows.assignIdsRow.loopsOut == Tryz.f14.resultTypes.toList.any (Tryz.prog.loopsFrom ·)) = true := by kernel_rfl
theorem plainKeys : (Rows.assignIdsRow.plainKeys == Tryz.prog.plainKeys) = true := (congrArg (Rows.assignIdsRow.plainKeys == ·) pf.plainKeys).trans (by kernel_rfl)
theorem shortTexts : Rows.assignIdsRow.shortTexts.isNone = true := by kernel_rfl
theorem lifted : (Rows.assignIdsRow.lifted == Tryz.prog.liftsFinal) = true := (congrArg (Rows.assignIdsRow.lifted == ·) pf.lifts).trans (by kernel_rfl)
theorem make : (Tryz.prog.make == some Rows.assignIdsRow.make) = true := (congrArg (· == some Rows.assignIdsRow.make) pf.make).trans (by kernel_rfl)
theorem kinds : (Rows.assignIdsRow.kinds == (if Rows.assignIdsRow.domain.isEmpty then [] else Tryz.f14.params.toList.map fun t => match Tryz.prog.underlying t with | some (.int k) => some k | _ => none)) = true := by kernel_rfl
theorem pinned : (Rows.assignIdsRow.pinned == Rows.assignIdsRow.pinnedBy) = true := by kernel_rfl
theorem veiled : (Rows.assignIdsRow.veiled == (Tryz.f14.params.toList ++ Rows.assignIdsSpec.plain.varTypes Tryz.prog ++ Tryz.f14.resultTypes.toList).any (Tryz.prog.veiledRec ·)) = true := by kernel_rfl
theorem veiledFits : Rows.assignIdsRow.veiledFits Tryz.prog Tryz.f14.params.toList (Tryz.f14.params.toList ++ Rows.assignIdsSpec.plain.varTypes Tryz.prog ++ Tryz.f14.resultTypes.toList) = true := by kernel_rfl
theorem closed0 : joinedFacts Tryz.prog 14 Tryz.f14 Rows.assignIdsSpec Rows.assignIdsRow = true := by
 unfold joinedFacts
 exact (pf.band (pf.band (pf.band (pf.band (pf.band (pf.band (pf.band (pf.band (pf.band (pf.band (pf.band (pf.band (pf.band (pf.band (pf.band (pf.band (pf.band (pf.band (pf.band (pf.band (pf.band (pf.band (pf.band (pf.band (pf.band (pf.band (pf.band (pf.band (pf.band (pf.band (pf.band wf pf.laid) pf.maps) CY) tie) stops) pf.stops) knobs) pf.stopKnobs) inPlace) unfollowed) recurses) FV) maps) ifaces) mapsOut) loops) wideKeys) vars) results) ifacesOut) loopsOut) plainKeys) shortTexts) pf.stopsHeard) pf.mayEnter) lifted) make) kinds) pinned) veiled) veiledFits)
theorem closed : joinedFacts Tryz.pinned.checked.prog 14 Tryz.f14 Rows.assignIdsSpec Rows.assignIdsRow = true := closed0
end Go.Proofs.YteodpoelbdakgaaGreat.assignIds.k
