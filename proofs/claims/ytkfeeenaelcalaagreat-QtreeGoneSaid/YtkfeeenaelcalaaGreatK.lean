/-
  Facts of the program and of this law's row. Conditions: none.
-/
import Derived.Test.YtkfeeenaelcalaaGreatPF
namespace Go.Proofs.YtkfeeenaelcalaaGreat.qtreeGone.k
open Go
set_option maxRecDepth 100000

theorem named : Tryz.pinned.checked.prog.funcNamed (OpenClaim.func Rows.qtreeGoneRow) = some 8 := by kernel_rfl
theorem wf : Rows.qtreeGoneRow.wf (OpenSpec.ofChange Rows.qtreeGoneSpec) = true := by kernel_rfl
theorem readable : Tryz.f8.params.all (Tryz.prog.readableRec ·) = true := by kernel_rfl
theorem tie : namedTie Tryz.prog Rows.qtreeGoneRow.named Rows.qtreeGoneSpec.vars = true := by kernel_rfl
theorem stops : (Rows.qtreeGoneRow.stops == []) = true := by kernel_rfl
theorem knobs : (Rows.qtreeGoneRow.knobs == []) = true := by kernel_rfl
theorem inPlace : (Rows.qtreeGoneRow.inPlace == Tryz.prog.inPlace 8) = true := by kernel_rfl
theorem unfollowed : (Rows.qtreeGoneRow.unfollowed == Tryz.prog.unfollowed 8) = true := by kernel_rfl
theorem recurses : (Rows.qtreeGoneRow.recurses == Tryz.prog.recurses 8) = true := by kernel_rfl
theorem vnamed : (Rows.qtreeGoneRow.named == Tryz.prog.varsNamed 8) = true := by kernel_rfl
theorem maps : (Rows.qtreeGoneRow.maps == (Tryz.f8.params.toList ++ Rows.qtreeGoneSpec.plain.varTypes Tryz.prog).any (Tryz.prog.mapsRec ·)) = true := by kernel_rfl
theorem ifaces : (Rows.qtreeGoneRow.ifaces == (Tryz.f8.params.toList ++ Rows.qtreeGoneSpec.plain.varTypes Tryz.prog).any (Tryz.prog.ifacesRec ·)) = true := by kernel_rfl
theorem mapsOut : (Rows.qtreeGoneRow.mapsOut == Tryz.prog.mapsAmong Tryz.f8.resultTypes.toList) = true := by kernel_rfl
theorem loops : (Rows.qtreeGoneRow.loops == (Tryz.f8.params.toList ++ Rows.qtreeGoneSpec.plain.varTypes Tryz.prog).any (Tryz.prog.loopsFrom ·)) = true := by kernel_rfl
theorem wideKeys : (Rows.qtreeGoneRow.wideKeys == (Tryz.f8.params.toList ++ Rows.qtreeGoneSpec.plain.varTypes Tryz.prog ++ Tryz.f8.resultTypes.toList).any (Tryz.prog.wideKeysFrom ·)) = true := by kernel_rfl
theorem vars : Rows.qtreeGoneSpec.vars.all (Tryz.prog.varReadable ·) = true := by kernel_rfl
theorem results : Tryz.f8.resultTypes.all (fun t => Tryz.prog.readableRec t && decide (t < Tryz.prog.types.size)) = true := by kernel_rfl
theorem ifacesOut : (Rows.qtreeGoneRow.ifacesOut == Tryz.f8.resultTypes.toList.any (Tryz.prog.ifacesRec ·)) = true := by kernel_rfl
theorem loopsOut : (Rows.qtreeGoneRow.loopsOut == Tryz.f8.resultTypes.toList.any (Tryz.prog.loopsFrom ·)) = true := by kernel_rfl
theorem plainKeys : (Rows.qtreeGoneRow.plainKeys == Tryz.prog.plainKeys) = true := (congrArg (Rows.qtreeGoneRow.plainKeys == ·) pf.plainKeys).trans (by kernel_rfl)
theorem shortTexts : Rows.qtreeGoneRow.shortTexts.isNone = true := by kernel_rfl
theorem lifted : (Rows.qtreeGoneRow.lifted == Tryz.prog.liftsFinal) = true := (congrArg (Rows.qtreeGoneRow.lifted == ·) pf.lifts).trans (by kernel_rfl)
theorem make : (Tryz.prog.make == some Rows.qtreeGoneRow.make) = true := (congrArg (· == some Rows.qtreeGoneRow.make) pf.make).trans (by kernel_rfl)
theorem kinds : (Rows.qtreeGoneRow.kinds == (if Rows.qtreeGoneRow.domain.isEmpty then [] else Tryz.f8.params.toList.map fun t => match Tryz.prog.underlying t with | some (.int k) => some k | _ => none)) = true := by kernel_rfl
theorem pinned : (Rows.qtreeGoneRow.pinned == Rows.qtreeGoneRow.pinnedBy) = true := by kernel_rfl
theorem veiled : (Rows.qtreeGoneRow.veiled == (Tryz.f8.params.toList ++ Rows.qtreeGoneSpec.plain.varTypes Tryz.prog ++ Tryz.f8.resultTypes.toList).any (Tryz.prog.veiledRec ·)) = true := by kernel_rfl
theorem veiledFits : Rows.qtreeGoneRow.veiledFits Tryz.prog Tryz.f8.params.toList (Tryz.f8.params.toList ++ Rows.qtreeGoneSpec.plain.varTypes Tryz.prog ++ Tryz.f8.resultTypes.toList) = true := by kernel_rfl
theorem closed0 : joinedFacts Tryz.prog 8 Tryz.f8 Rows.qtreeGoneSpec Rows.qtreeGoneRow = true := by
  unfold joinedFacts
  exact (pf.band (pf.band (pf.band (pf.band (pf.band (pf.band (pf.band (pf.band (pf.band (pf.band (pf.band (pf.band (pf.band (pf.band (pf.band (pf.band (pf.band (pf.band (pf.band (pf.band (pf.band (pf.band (pf.band (pf.band (pf.band (pf.band (pf.band (pf.band (pf.band (pf.band (pf.band wf pf.laid) pf.maps) readable) tie) stops) pf.stops) knobs) pf.stopKnobs) inPlace) unfollowed) recurses) vnamed) maps) ifaces) mapsOut) loops) wideKeys) vars) results) ifacesOut) loopsOut) plainKeys) shortTexts) pf.stopsHeard) pf.mayEnter) lifted) make) kinds) pinned) veiled) veiledFits)
theorem closed : joinedFacts Tryz.pinned.checked.prog 8 Tryz.f8 Rows.qtreeGoneSpec Rows.qtreeGoneRow = true := closed0
end Go.Proofs.YtkfeeenaelcalaaGreat.qtreeGone.k

