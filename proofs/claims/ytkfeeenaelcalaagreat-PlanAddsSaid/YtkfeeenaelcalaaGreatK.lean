/-
  Facts of the program and of this law's row. Conditions: none.
-/
import Derived.Test.YtkfeeenaelcalaaGreatPF
namespace Go.Proofs.YtkfeeenaelcalaaGreat.planAdds.k
open Go
set_option maxRecDepth 100000

theorem named : Tryz.pinned.checked.prog.funcNamed (OpenClaim.func Rows.planAddsRow) = some 13 := by kernel_rfl
theorem wf : Rows.planAddsRow.wf (OpenSpec.ofChange Rows.planAddsSpec) = true := by kernel_rfl
theorem readable : Tryz.f13.params.all (Tryz.prog.readableRec ·) = true := by kernel_rfl
theorem tie : namedTie Tryz.prog Rows.planAddsRow.named Rows.planAddsSpec.vars = true := by kernel_rfl
theorem stops : (Rows.planAddsRow.stops == []) = true := by kernel_rfl
theorem knobs : (Rows.planAddsRow.knobs == []) = true := by kernel_rfl
theorem inPlace : (Rows.planAddsRow.inPlace == Tryz.prog.inPlace 13) = true := by kernel_rfl
theorem unfollowed : (Rows.planAddsRow.unfollowed == Tryz.prog.unfollowed 13) = true := by kernel_rfl
theorem recurses : (Rows.planAddsRow.recurses == Tryz.prog.recurses 13) = true := by kernel_rfl
theorem vnamed : (Rows.planAddsRow.named == Tryz.prog.varsNamed 13) = true := by kernel_rfl
theorem maps : (Rows.planAddsRow.maps == (Tryz.f13.params.toList ++ Rows.planAddsSpec.plain.varTypes Tryz.prog).any (Tryz.prog.mapsRec ·)) = true := by kernel_rfl
theorem ifaces : (Rows.planAddsRow.ifaces == (Tryz.f13.params.toList ++ Rows.planAddsSpec.plain.varTypes Tryz.prog).any (Tryz.prog.ifacesRec ·)) = true := by kernel_rfl
theorem mapsOut : (Rows.planAddsRow.mapsOut == Tryz.prog.mapsAmong Tryz.f13.resultTypes.toList) = true := by kernel_rfl
theorem loops : (Rows.planAddsRow.loops == (Tryz.f13.params.toList ++ Rows.planAddsSpec.plain.varTypes Tryz.prog).any (Tryz.prog.loopsFrom ·)) = true := by kernel_rfl
theorem wideKeys : (Rows.planAddsRow.wideKeys == (Tryz.f13.params.toList ++ Rows.planAddsSpec.plain.varTypes Tryz.prog ++ Tryz.f13.resultTypes.toList).any (Tryz.prog.wideKeysFrom ·)) = true := by kernel_rfl
theorem vars : Rows.planAddsSpec.vars.all (Tryz.prog.varReadable ·) = true := by kernel_rfl
theorem results : Tryz.f13.resultTypes.all (fun t => Tryz.prog.readableRec t && decide (t < Tryz.prog.types.size)) = true := by kernel_rfl
theorem ifacesOut : (Rows.planAddsRow.ifacesOut == Tryz.f13.resultTypes.toList.any (Tryz.prog.ifacesRec ·)) = true := by kernel_rfl
theorem loopsOut : (Rows.planAddsRow.loopsOut == Tryz.f13.resultTypes.toList.any (Tryz.prog.loopsFrom ·)) = true := by kernel_rfl
theorem plainKeys : (Rows.planAddsRow.plainKeys == Tryz.prog.plainKeys) = true := (congrArg (Rows.planAddsRow.plainKeys == ·) pf.plainKeys).trans (by kernel_rfl)
theorem shortTexts : Rows.planAddsRow.shortTexts.isNone = true := by kernel_rfl
theorem lifted : (Rows.planAddsRow.lifted == Tryz.prog.liftsFinal) = true := (congrArg (Rows.planAddsRow.lifted == ·) pf.lifts).trans (by kernel_rfl)
theorem make : (Tryz.prog.make == some Rows.planAddsRow.make) = true := (congrArg (· == some Rows.planAddsRow.make) pf.make).trans (by kernel_rfl)
theorem kinds : (Rows.planAddsRow.kinds == (if Rows.planAddsRow.domain.isEmpty then [] else Tryz.f13.params.toList.map fun t => match Tryz.prog.underlying t with | some (.int k) => some k | _ => none)) = true := by kernel_rfl
theorem pinned : (Rows.planAddsRow.pinned == Rows.planAddsRow.pinnedBy) = true := by kernel_rfl
theorem veiled : (Rows.planAddsRow.veiled == (Tryz.f13.params.toList ++ Rows.planAddsSpec.plain.varTypes Tryz.prog ++ Tryz.f13.resultTypes.toList).any (Tryz.prog.veiledRec ·)) = true := by kernel_rfl
theorem veiledFits : Rows.planAddsRow.veiledFits Tryz.prog Tryz.f13.params.toList (Tryz.f13.params.toList ++ Rows.planAddsSpec.plain.varTypes Tryz.prog ++ Tryz.f13.resultTypes.toList) = true := by kernel_rfl
theorem closed0 : joinedFacts Tryz.prog 13 Tryz.f13 Rows.planAddsSpec Rows.planAddsRow = true := by
  unfold joinedFacts
  exact (pf.band (pf.band (pf.band (pf.band (pf.band (pf.band (pf.band (pf.band (pf.band (pf.band (pf.band (pf.band (pf.band (pf.band (pf.band (pf.band (pf.band (pf.band (pf.band (pf.band (pf.band (pf.band (pf.band (pf.band (pf.band (pf.band (pf.band (pf.band (pf.band (pf.band (pf.band wf pf.laid) pf.maps) readable) tie) stops) pf.stops) knobs) pf.stopKnobs) inPlace) unfollowed) recurses) vnamed) maps) ifaces) mapsOut) loops) wideKeys) vars) results) ifacesOut) loopsOut) plainKeys) shortTexts) pf.stopsHeard) pf.mayEnter) lifted) make) kinds) pinned) veiled) veiledFits)
theorem closed : joinedFacts Tryz.pinned.checked.prog 13 Tryz.f13 Rows.planAddsSpec Rows.planAddsRow = true := closed0
end Go.Proofs.YtkfeeenaelcalaaGreat.planAdds.k

