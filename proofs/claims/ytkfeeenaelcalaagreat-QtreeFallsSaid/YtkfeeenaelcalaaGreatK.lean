/-
  Facts of the program and of this law's row. Conditions: none.
-/
import Derived.Test.YtkfeeenaelcalaaGreatPF
namespace Go.Proofs.YtkfeeenaelcalaaGreat.qtreeFalls.k
open Go
set_option maxRecDepth 100000

theorem named : Tryz.pinned.checked.prog.funcNamed (OpenClaim.func Rows.qtreeFallsRow) = some 7 := by kernel_rfl
theorem wf : Rows.qtreeFallsRow.wf (OpenSpec.ofChange Rows.qtreeFallsSpec) = true := by kernel_rfl
theorem readable : Tryz.f7.params.all (Tryz.prog.readableRec ·) = true := by kernel_rfl
theorem tie : namedTie Tryz.prog Rows.qtreeFallsRow.named Rows.qtreeFallsSpec.vars = true := by kernel_rfl
theorem stops : (Rows.qtreeFallsRow.stops == []) = true := by kernel_rfl
theorem knobs : (Rows.qtreeFallsRow.knobs == []) = true := by kernel_rfl
theorem inPlace : (Rows.qtreeFallsRow.inPlace == Tryz.prog.inPlace 7) = true := by kernel_rfl
theorem unfollowed : (Rows.qtreeFallsRow.unfollowed == Tryz.prog.unfollowed 7) = true := by kernel_rfl
theorem recurses : (Rows.qtreeFallsRow.recurses == Tryz.prog.recurses 7) = true := by kernel_rfl
theorem vnamed : (Rows.qtreeFallsRow.named == Tryz.prog.varsNamed 7) = true := by kernel_rfl
theorem maps : (Rows.qtreeFallsRow.maps == (Tryz.f7.params.toList ++ Rows.qtreeFallsSpec.plain.varTypes Tryz.prog).any (Tryz.prog.mapsRec ·)) = true := by kernel_rfl
theorem ifaces : (Rows.qtreeFallsRow.ifaces == (Tryz.f7.params.toList ++ Rows.qtreeFallsSpec.plain.varTypes Tryz.prog).any (Tryz.prog.ifacesRec ·)) = true := by kernel_rfl
theorem mapsOut : (Rows.qtreeFallsRow.mapsOut == Tryz.prog.mapsAmong Tryz.f7.resultTypes.toList) = true := by kernel_rfl
theorem loops : (Rows.qtreeFallsRow.loops == (Tryz.f7.params.toList ++ Rows.qtreeFallsSpec.plain.varTypes Tryz.prog).any (Tryz.prog.loopsFrom ·)) = true := by kernel_rfl
theorem wideKeys : (Rows.qtreeFallsRow.wideKeys == (Tryz.f7.params.toList ++ Rows.qtreeFallsSpec.plain.varTypes Tryz.prog ++ Tryz.f7.resultTypes.toList).any (Tryz.prog.wideKeysFrom ·)) = true := by kernel_rfl
theorem vars : Rows.qtreeFallsSpec.vars.all (Tryz.prog.varReadable ·) = true := by kernel_rfl
theorem results : Tryz.f7.resultTypes.all (fun t => Tryz.prog.readableRec t && decide (t < Tryz.prog.types.size)) = true := by kernel_rfl
theorem ifacesOut : (Rows.qtreeFallsRow.ifacesOut == Tryz.f7.resultTypes.toList.any (Tryz.prog.ifacesRec ·)) = true := by kernel_rfl
theorem loopsOut : (Rows.qtreeFallsRow.loopsOut == Tryz.f7.resultTypes.toList.any (Tryz.prog.loopsFrom ·)) = true := by kernel_rfl
theorem plainKeys : (Rows.qtreeFallsRow.plainKeys == Tryz.prog.plainKeys) = true := (congrArg (Rows.qtreeFallsRow.plainKeys == ·) pf.plainKeys).trans (by kernel_rfl)
theorem shortTexts : Rows.qtreeFallsRow.shortTexts.isNone = true := by kernel_rfl
theorem lifted : (Rows.qtreeFallsRow.lifted == Tryz.prog.liftsFinal) = true := (congrArg (Rows.qtreeFallsRow.lifted == ·) pf.lifts).trans (by kernel_rfl)
theorem make : (Tryz.prog.make == some Rows.qtreeFallsRow.make) = true := (congrArg (· == some Rows.qtreeFallsRow.make) pf.make).trans (by kernel_rfl)
theorem kinds : (Rows.qtreeFallsRow.kinds == (if Rows.qtreeFallsRow.domain.isEmpty then [] else Tryz.f7.params.toList.map fun t => match Tryz.prog.underlying t with | some (.int k) => some k | _ => none)) = true := by kernel_rfl
theorem pinned : (Rows.qtreeFallsRow.pinned == Rows.qtreeFallsRow.pinnedBy) = true := by kernel_rfl
theorem veiled : (Rows.qtreeFallsRow.veiled == (Tryz.f7.params.toList ++ Rows.qtreeFallsSpec.plain.varTypes Tryz.prog ++ Tryz.f7.resultTypes.toList).any (Tryz.prog.veiledRec ·)) = true := by kernel_rfl
theorem veiledFits : Rows.qtreeFallsRow.veiledFits Tryz.prog Tryz.f7.params.toList (Tryz.f7.params.toList ++ Rows.qtreeFallsSpec.plain.varTypes Tryz.prog ++ Tryz.f7.resultTypes.toList) = true := by kernel_rfl
theorem closed0 : joinedFacts Tryz.prog 7 Tryz.f7 Rows.qtreeFallsSpec Rows.qtreeFallsRow = true := by
  unfold joinedFacts
  exact (pf.band (pf.band (pf.band (pf.band (pf.band (pf.band (pf.band (pf.band (pf.band (pf.band (pf.band (pf.band (pf.band (pf.band (pf.band (pf.band (pf.band (pf.band (pf.band (pf.band (pf.band (pf.band (pf.band (pf.band (pf.band (pf.band (pf.band (pf.band (pf.band (pf.band (pf.band wf pf.laid) pf.maps) readable) tie) stops) pf.stops) knobs) pf.stopKnobs) inPlace) unfollowed) recurses) vnamed) maps) ifaces) mapsOut) loops) wideKeys) vars) results) ifacesOut) loopsOut) plainKeys) shortTexts) pf.stopsHeard) pf.mayEnter) lifted) make) kinds) pinned) veiled) veiledFits)
theorem closed : joinedFacts Tryz.pinned.checked.prog 7 Tryz.f7 Rows.qtreeFallsSpec Rows.qtreeFallsRow = true := closed0
end Go.Proofs.YtkfeeenaelcalaaGreat.qtreeFalls.k

