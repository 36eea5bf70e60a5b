/-
  Facts of the program and of this law's row. Conditions: none.
-/
import Derived.Test.YtkfeeenaelcalaaGreatPF
namespace Go.Proofs.YtkfeeenaelcalaaGreat.qtreeAsks.k
open Go
set_option maxRecDepth 100000

theorem named : Tryz.pinned.checked.prog.funcNamed (OpenClaim.func Rows.qtreeAsksRow) = some 9 := by kernel_rfl
theorem wf : Rows.qtreeAsksRow.wf (OpenSpec.ofChange Rows.qtreeAsksSpec) = true := by kernel_rfl
theorem readable : Tryz.f9.params.all (Tryz.prog.readableRec ·) = true := by kernel_rfl
theorem tie : namedTie Tryz.prog Rows.qtreeAsksRow.named Rows.qtreeAsksSpec.vars = true := by kernel_rfl
theorem stops : (Rows.qtreeAsksRow.stops == []) = true := by kernel_rfl
theorem knobs : (Rows.qtreeAsksRow.knobs == []) = true := by kernel_rfl
theorem inPlace : (Rows.qtreeAsksRow.inPlace == Tryz.prog.inPlace 9) = true := by kernel_rfl
theorem unfollowed : (Rows.qtreeAsksRow.unfollowed == Tryz.prog.unfollowed 9) = true := by kernel_rfl
theorem recurses : (Rows.qtreeAsksRow.recurses == Tryz.prog.recurses 9) = true := by kernel_rfl
theorem vnamed : (Rows.qtreeAsksRow.named == Tryz.prog.varsNamed 9) = true := by kernel_rfl
theorem maps : (Rows.qtreeAsksRow.maps == (Tryz.f9.params.toList ++ Rows.qtreeAsksSpec.plain.varTypes Tryz.prog).any (Tryz.prog.mapsRec ·)) = true := by kernel_rfl
theorem ifaces : (Rows.qtreeAsksRow.ifaces == (Tryz.f9.params.toList ++ Rows.qtreeAsksSpec.plain.varTypes Tryz.prog).any (Tryz.prog.ifacesRec ·)) = true := by kernel_rfl
theorem mapsOut : (Rows.qtreeAsksRow.mapsOut == Tryz.prog.mapsAmong Tryz.f9.resultTypes.toList) = true := by kernel_rfl
theorem loops : (Rows.qtreeAsksRow.loops == (Tryz.f9.params.toList ++ Rows.qtreeAsksSpec.plain.varTypes Tryz.prog).any (Tryz.prog.loopsFrom ·)) = true := by kernel_rfl
theorem wideKeys : (Rows.qtreeAsksRow.wideKeys == (Tryz.f9.params.toList ++ Rows.qtreeAsksSpec.plain.varTypes Tryz.prog ++ Tryz.f9.resultTypes.toList).any (Tryz.prog.wideKeysFrom ·)) = true := by kernel_rfl
theorem vars : Rows.qtreeAsksSpec.vars.all (Tryz.prog.varReadable ·) = true := by kernel_rfl
theorem results : Tryz.f9.resultTypes.all (fun t => Tryz.prog.readableRec t && decide (t < Tryz.prog.types.size)) = true := by kernel_rfl
theorem ifacesOut : (Rows.qtreeAsksRow.ifacesOut == Tryz.f9.resultTypes.toList.any (Tryz.prog.ifacesRec ·)) = true := by kernel_rfl
theorem loopsOut : (Rows.qtreeAsksRow.loopsOut == Tryz.f9.resultTypes.toList.any (Tryz.prog.loopsFrom ·)) = true := by kernel_rfl
theorem plainKeys : (Rows.qtreeAsksRow.plainKeys == Tryz.prog.plainKeys) = true := (congrArg (Rows.qtreeAsksRow.plainKeys == ·) pf.plainKeys).trans (by kernel_rfl)
theorem shortTexts : Rows.qtreeAsksRow.shortTexts.isNone = true := by kernel_rfl
theorem lifted : (Rows.qtreeAsksRow.lifted == Tryz.prog.liftsFinal) = true := (congrArg (Rows.qtreeAsksRow.lifted == ·) pf.lifts).trans (by kernel_rfl)
theorem make : (Tryz.prog.make == some Rows.qtreeAsksRow.make) = true := (congrArg (· == some Rows.qtreeAsksRow.make) pf.make).trans (by kernel_rfl)
theorem kinds : (Rows.qtreeAsksRow.kinds == (if Rows.qtreeAsksRow.domain.isEmpty then [] else Tryz.f9.params.toList.map fun t => match Tryz.prog.underlying t with | some (.int k) => some k | _ => none)) = true := by kernel_rfl
theorem pinned : (Rows.qtreeAsksRow.pinned == Rows.qtreeAsksRow.pinnedBy) = true := by kernel_rfl
theorem veiled : (Rows.qtreeAsksRow.veiled == (Tryz.f9.params.toList ++ Rows.qtreeAsksSpec.plain.varTypes Tryz.prog ++ Tryz.f9.resultTypes.toList).any (Tryz.prog.veiledRec ·)) = true := by kernel_rfl
theorem veiledFits : Rows.qtreeAsksRow.veiledFits Tryz.prog Tryz.f9.params.toList (Tryz.f9.params.toList ++ Rows.qtreeAsksSpec.plain.varTypes Tryz.prog ++ Tryz.f9.resultTypes.toList) = true := by kernel_rfl
theorem closed0 : joinedFacts Tryz.prog 9 Tryz.f9 Rows.qtreeAsksSpec Rows.qtreeAsksRow = true := by
  unfold joinedFacts
  exact (pf.band (pf.band (pf.band (pf.band (pf.band (pf.band (pf.band (pf.band (pf.band (pf.band (pf.band (pf.band (pf.band (pf.band (pf.band (pf.band (pf.band (pf.band (pf.band (pf.band (pf.band (pf.band (pf.band (pf.band (pf.band (pf.band (pf.band (pf.band (pf.band (pf.band (pf.band wf pf.laid) pf.maps) readable) tie) stops) pf.stops) knobs) pf.stopKnobs) inPlace) unfollowed) recurses) vnamed) maps) ifaces) mapsOut) loops) wideKeys) vars) results) ifacesOut) loopsOut) plainKeys) shortTexts) pf.stopsHeard) pf.mayEnter) lifted) make) kinds) pinned) veiled) veiledFits)
theorem closed : joinedFacts Tryz.pinned.checked.prog 9 Tryz.f9 Rows.qtreeAsksSpec Rows.qtreeAsksRow = true := closed0
end Go.Proofs.YtkfeeenaelcalaaGreat.qtreeAsks.k

