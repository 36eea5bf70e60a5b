/-
  Facts of the program and of this law's row. Conditions: none.
-/
import Derived.Test.YtkfeeenaelcalaaGreatPF
namespace Go.Proofs.YtkfeeenaelcalaaGreat.shareSums.k
open Go
set_option maxRecDepth 100000

theorem named : Tryz.pinned.checked.prog.funcNamed (OpenClaim.func Rows.shareSumsRow) = some 3 := by kernel_rfl
theorem wf : Rows.shareSumsRow.wf (OpenSpec.ofChange Rows.shareSumsSpec) = true := by kernel_rfl
theorem readable : Tryz.f3.params.all (Tryz.prog.readableRec ·) = true := by kernel_rfl
theorem tie : namedTie Tryz.prog Rows.shareSumsRow.named Rows.shareSumsSpec.vars = true := by kernel_rfl
theorem stops : (Rows.shareSumsRow.stops == []) = true := by kernel_rfl
theorem knobs : (Rows.shareSumsRow.knobs == []) = true := by kernel_rfl
theorem inPlace : (Rows.shareSumsRow.inPlace == Tryz.prog.inPlace 3) = true := by kernel_rfl
theorem unfollowed : (Rows.shareSumsRow.unfollowed == Tryz.prog.unfollowed 3) = true := by kernel_rfl
theorem recurses : (Rows.shareSumsRow.recurses == Tryz.prog.recurses 3) = true := by kernel_rfl
theorem vnamed : (Rows.shareSumsRow.named == Tryz.prog.varsNamed 3) = true := by kernel_rfl
theorem maps : (Rows.shareSumsRow.maps == (Tryz.f3.params.toList ++ Rows.shareSumsSpec.plain.varTypes Tryz.prog).any (Tryz.prog.mapsRec ·)) = true := by kernel_rfl
theorem ifaces : (Rows.shareSumsRow.ifaces == (Tryz.f3.params.toList ++ Rows.shareSumsSpec.plain.varTypes Tryz.prog).any (Tryz.prog.ifacesRec ·)) = true := by kernel_rfl
theorem mapsOut : (Rows.shareSumsRow.mapsOut == Tryz.prog.mapsAmong Tryz.f3.resultTypes.toList) = true := by kernel_rfl
theorem loops : (Rows.shareSumsRow.loops == (Tryz.f3.params.toList ++ Rows.shareSumsSpec.plain.varTypes Tryz.prog).any (Tryz.prog.loopsFrom ·)) = true := by kernel_rfl
theorem wideKeys : (Rows.shareSumsRow.wideKeys == (Tryz.f3.params.toList ++ Rows.shareSumsSpec.plain.varTypes Tryz.prog ++ Tryz.f3.resultTypes.toList).any (Tryz.prog.wideKeysFrom ·)) = true := by kernel_rfl
theorem vars : Rows.shareSumsSpec.vars.all (Tryz.prog.varReadable ·) = true := by kernel_rfl
theorem results : Tryz.f3.resultTypes.all (fun t => Tryz.prog.readableRec t && decide (t < Tryz.prog.types.size)) = true := by kernel_rfl
theorem ifacesOut : (Rows.shareSumsRow.ifacesOut == Tryz.f3.resultTypes.toList.any (Tryz.prog.ifacesRec ·)) = true := by kernel_rfl
theorem loopsOut : (Rows.shareSumsRow.loopsOut == Tryz.f3.resultTypes.toList.any (Tryz.prog.loopsFrom ·)) = true := by kernel_rfl
theorem plainKeys : (Rows.shareSumsRow.plainKeys == Tryz.prog.plainKeys) = true := (congrArg (Rows.shareSumsRow.plainKeys == ·) pf.plainKeys).trans (by kernel_rfl)
theorem shortTexts : Rows.shareSumsRow.shortTexts.isNone = true := by kernel_rfl
theorem lifted : (Rows.shareSumsRow.lifted == Tryz.prog.liftsFinal) = true := (congrArg (Rows.shareSumsRow.lifted == ·) pf.lifts).trans (by kernel_rfl)
theorem make : (Tryz.prog.make == some Rows.shareSumsRow.make) = true := (congrArg (· == some Rows.shareSumsRow.make) pf.make).trans (by kernel_rfl)
theorem kinds : (Rows.shareSumsRow.kinds == (if Rows.shareSumsRow.domain.isEmpty then [] else Tryz.f3.params.toList.map fun t => match Tryz.prog.underlying t with | some (.int k) => some k | _ => none)) = true := by kernel_rfl
theorem pinned : (Rows.shareSumsRow.pinned == Rows.shareSumsRow.pinnedBy) = true := by kernel_rfl
theorem veiled : (Rows.shareSumsRow.veiled == (Tryz.f3.params.toList ++ Rows.shareSumsSpec.plain.varTypes Tryz.prog ++ Tryz.f3.resultTypes.toList).any (Tryz.prog.veiledRec ·)) = true := by kernel_rfl
theorem veiledFits : Rows.shareSumsRow.veiledFits Tryz.prog Tryz.f3.params.toList (Tryz.f3.params.toList ++ Rows.shareSumsSpec.plain.varTypes Tryz.prog ++ Tryz.f3.resultTypes.toList) = true := by kernel_rfl
theorem closed0 : joinedFacts Tryz.prog 3 Tryz.f3 Rows.shareSumsSpec Rows.shareSumsRow = true := by
  unfold joinedFacts
  exact (pf.band (pf.band (pf.band (pf.band (pf.band (pf.band (pf.band (pf.band (pf.band (pf.band (pf.band (pf.band (pf.band (pf.band (pf.band (pf.band (pf.band (pf.band (pf.band (pf.band (pf.band (pf.band (pf.band (pf.band (pf.band (pf.band (pf.band (pf.band (pf.band (pf.band (pf.band wf pf.laid) pf.maps) readable) tie) stops) pf.stops) knobs) pf.stopKnobs) inPlace) unfollowed) recurses) vnamed) maps) ifaces) mapsOut) loops) wideKeys) vars) results) ifacesOut) loopsOut) plainKeys) shortTexts) pf.stopsHeard) pf.mayEnter) lifted) make) kinds) pinned) veiled) veiledFits)
theorem closed : joinedFacts Tryz.pinned.checked.prog 3 Tryz.f3 Rows.shareSumsSpec Rows.shareSumsRow = true := closed0
end Go.Proofs.YtkfeeenaelcalaaGreat.shareSums.k

