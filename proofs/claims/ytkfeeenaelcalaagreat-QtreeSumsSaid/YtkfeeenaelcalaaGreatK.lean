/-
  Facts of the program and of this law's row. Conditions: none.
-/
import Derived.Test.YtkfeeenaelcalaaGreatPF
namespace Go.Proofs.YtkfeeenaelcalaaGreat.qtreeSums.k
open Go
set_option maxRecDepth 100000

theorem named : Tryz.pinned.checked.prog.funcNamed (OpenClaim.func Rows.qtreeSumsRow) = some 10 := by kernel_rfl
theorem wf : Rows.qtreeSumsRow.wf (OpenSpec.ofChange Rows.qtreeSumsSpec) = true := by kernel_rfl
theorem readable : Tryz.f10.params.all (Tryz.prog.readableRec ·) = true := by kernel_rfl
theorem tie : namedTie Tryz.prog Rows.qtreeSumsRow.named Rows.qtreeSumsSpec.vars = true := by kernel_rfl
theorem stops : (Rows.qtreeSumsRow.stops == []) = true := by kernel_rfl
theorem knobs : (Rows.qtreeSumsRow.knobs == []) = true := by kernel_rfl
theorem inPlace : (Rows.qtreeSumsRow.inPlace == Tryz.prog.inPlace 10) = true := by kernel_rfl
theorem unfollowed : (Rows.qtreeSumsRow.unfollowed == Tryz.prog.unfollowed 10) = true := by kernel_rfl
theorem recurses : (Rows.qtreeSumsRow.recurses == Tryz.prog.recurses 10) = true := by kernel_rfl
theorem vnamed : (Rows.qtreeSumsRow.named == Tryz.prog.varsNamed 10) = true := by kernel_rfl
theorem maps : (Rows.qtreeSumsRow.maps == (Tryz.f10.params.toList ++ Rows.qtreeSumsSpec.plain.varTypes Tryz.prog).any (Tryz.prog.mapsRec ·)) = true := by kernel_rfl
theorem ifaces : (Rows.qtreeSumsRow.ifaces == (Tryz.f10.params.toList ++ Rows.qtreeSumsSpec.plain.varTypes Tryz.prog).any (Tryz.prog.ifacesRec ·)) = true := by kernel_rfl
theorem mapsOut : (Rows.qtreeSumsRow.mapsOut == Tryz.prog.mapsAmong Tryz.f10.resultTypes.toList) = true := by kernel_rfl
theorem loops : (Rows.qtreeSumsRow.loops == (Tryz.f10.params.toList ++ Rows.qtreeSumsSpec.plain.varTypes Tryz.prog).any (Tryz.prog.loopsFrom ·)) = true := by kernel_rfl
theorem wideKeys : (Rows.qtreeSumsRow.wideKeys == (Tryz.f10.params.toList ++ Rows.qtreeSumsSpec.plain.varTypes Tryz.prog ++ Tryz.f10.resultTypes.toList).any (Tryz.prog.wideKeysFrom ·)) = true := by kernel_rfl
theorem vars : Rows.qtreeSumsSpec.vars.all (Tryz.prog.varReadable ·) = true := by kernel_rfl
theorem results : Tryz.f10.resultTypes.all (fun t => Tryz.prog.readableRec t && decide (t < Tryz.prog.types.size)) = true := by kernel_rfl
theorem ifacesOut : (Rows.qtreeSumsRow.ifacesOut == Tryz.f10.resultTypes.toList.any (Tryz.prog.ifacesRec ·)) = true := by kernel_rfl
theorem loopsOut : (Rows.qtreeSumsRow.loopsOut == Tryz.f10.resultTypes.toList.any (Tryz.prog.loopsFrom ·)) = true := by kernel_rfl
theorem plainKeys : (Rows.qtreeSumsRow.plainKeys == Tryz.prog.plainKeys) = true := (congrArg (Rows.qtreeSumsRow.plainKeys == ·) pf.plainKeys).trans (by kernel_rfl)
theorem shortTexts : Rows.qtreeSumsRow.shortTexts.isNone = true := by kernel_rfl
theorem lifted : (Rows.qtreeSumsRow.lifted == Tryz.prog.liftsFinal) = true := (congrArg (Rows.qtreeSumsRow.lifted == ·) pf.lifts).trans (by kernel_rfl)
theorem make : (Tryz.prog.make == some Rows.qtreeSumsRow.make) = true := (congrArg (· == some Rows.qtreeSumsRow.make) pf.make).trans (by kernel_rfl)
theorem kinds : (Rows.qtreeSumsRow.kinds == (if Rows.qtreeSumsRow.domain.isEmpty then [] else Tryz.f10.params.toList.map fun t => match Tryz.prog.underlying t with | some (.int k) => some k | _ => none)) = true := by kernel_rfl
theorem pinned : (Rows.qtreeSumsRow.pinned == Rows.qtreeSumsRow.pinnedBy) = true := by kernel_rfl
theorem veiled : (Rows.qtreeSumsRow.veiled == (Tryz.f10.params.toList ++ Rows.qtreeSumsSpec.plain.varTypes Tryz.prog ++ Tryz.f10.resultTypes.toList).any (Tryz.prog.veiledRec ·)) = true := by kernel_rfl
theorem veiledFits : Rows.qtreeSumsRow.veiledFits Tryz.prog Tryz.f10.params.toList (Tryz.f10.params.toList ++ Rows.qtreeSumsSpec.plain.varTypes Tryz.prog ++ Tryz.f10.resultTypes.toList) = true := by kernel_rfl
theorem closed0 : joinedFacts Tryz.prog 10 Tryz.f10 Rows.qtreeSumsSpec Rows.qtreeSumsRow = true := by
  unfold joinedFacts
  exact (pf.band (pf.band (pf.band (pf.band (pf.band (pf.band (pf.band (pf.band (pf.band (pf.band (pf.band (pf.band (pf.band (pf.band (pf.band (pf.band (pf.band (pf.band (pf.band (pf.band (pf.band (pf.band (pf.band (pf.band (pf.band (pf.band (pf.band (pf.band (pf.band (pf.band (pf.band wf pf.laid) pf.maps) readable) tie) stops) pf.stops) knobs) pf.stopKnobs) inPlace) unfollowed) recurses) vnamed) maps) ifaces) mapsOut) loops) wideKeys) vars) results) ifacesOut) loopsOut) plainKeys) shortTexts) pf.stopsHeard) pf.mayEnter) lifted) make) kinds) pinned) veiled) veiledFits)
theorem closed : joinedFacts Tryz.pinned.checked.prog 10 Tryz.f10 Rows.qtreeSumsSpec Rows.qtreeSumsRow = true := closed0
end Go.Proofs.YtkfeeenaelcalaaGreat.qtreeSums.k

