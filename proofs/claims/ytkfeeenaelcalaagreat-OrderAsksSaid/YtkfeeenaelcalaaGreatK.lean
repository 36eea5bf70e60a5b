/-
  Facts of the program and of this law's row. Conditions: none.
-/
import Derived.Test.YtkfeeenaelcalaaGreatPF
namespace Go.Proofs.YtkfeeenaelcalaaGreat.orderAsks.k
open Go
set_option maxRecDepth 100000

theorem named : Tryz.pinned.checked.prog.funcNamed (OpenClaim.func Rows.orderAsksRow) = some 14 := by kernel_rfl
theorem wf : Rows.orderAsksRow.wf (OpenSpec.ofChange Rows.orderAsksSpec) = true := by kernel_rfl
theorem readable : Tryz.f14.params.all (Tryz.prog.readableRec ·) = true := by kernel_rfl
theorem tie : namedTie Tryz.prog Rows.orderAsksRow.named Rows.orderAsksSpec.vars = true := by kernel_rfl
theorem stops : (Rows.orderAsksRow.stops == []) = true := by kernel_rfl
theorem knobs : (Rows.orderAsksRow.knobs == []) = true := by kernel_rfl
theorem inPlace : (Rows.orderAsksRow.inPlace == Tryz.prog.inPlace 14) = true := by kernel_rfl
theorem unfollowed : (Rows.orderAsksRow.unfollowed == Tryz.prog.unfollowed 14) = true := by kernel_rfl
theorem recurses : (Rows.orderAsksRow.recurses == Tryz.prog.recurses 14) = true := by kernel_rfl
theorem vnamed : (Rows.orderAsksRow.named == Tryz.prog.varsNamed 14) = true := by kernel_rfl
theorem maps : (Rows.orderAsksRow.maps == (Tryz.f14.params.toList ++ Rows.orderAsksSpec.plain.varTypes Tryz.prog).any (Tryz.prog.mapsRec ·)) = true := by kernel_rfl
theorem ifaces : (Rows.orderAsksRow.ifaces == (Tryz.f14.params.toList ++ Rows.orderAsksSpec.plain.varTypes Tryz.prog).any (Tryz.prog.ifacesRec ·)) = true := by kernel_rfl
theorem mapsOut : (Rows.orderAsksRow.mapsOut == Tryz.prog.mapsAmong Tryz.f14.resultTypes.toList) = true := by kernel_rfl
theorem loops : (Rows.orderAsksRow.loops == (Tryz.f14.params.toList ++ Rows.orderAsksSpec.plain.varTypes Tryz.prog).any (Tryz.prog.loopsFrom ·)) = true := by kernel_rfl
theorem wideKeys : (Rows.orderAsksRow.wideKeys == (Tryz.f14.params.toList ++ Rows.orderAsksSpec.plain.varTypes Tryz.prog ++ Tryz.f14.resultTypes.toList).any (Tryz.prog.wideKeysFrom ·)) = true := by kernel_rfl
theorem vars : Rows.orderAsksSpec.vars.all (Tryz.prog.varReadable ·) = true := by kernel_rfl
theorem results : Tryz.f14.resultTypes.all (fun t => Tryz.prog.readableRec t && decide (t < Tryz.prog.types.size)) = true := by kernel_rfl
theorem ifacesOut : (Rows.orderAsksRow.ifacesOut == Tryz.f14.resultTypes.toList.any (Tryz.prog.ifacesRec ·)) = true := by kernel_rfl
theorem loopsOut : (Rows.orderAsksRow.loopsOut == Tryz.f14.resultTypes.toList.any (Tryz.prog.loopsFrom ·)) = true := by kernel_rfl
theorem plainKeys : (Rows.orderAsksRow.plainKeys == Tryz.prog.plainKeys) = true := (congrArg (Rows.orderAsksRow.plainKeys == ·) pf.plainKeys).trans (by kernel_rfl)
theorem shortTexts : Rows.orderAsksRow.shortTexts.isNone = true := by kernel_rfl
theorem lifted : (Rows.orderAsksRow.lifted == Tryz.prog.liftsFinal) = true := (congrArg (Rows.orderAsksRow.lifted == ·) pf.lifts).trans (by kernel_rfl)
theorem make : (Tryz.prog.make == some Rows.orderAsksRow.make) = true := (congrArg (· == some Rows.orderAsksRow.make) pf.make).trans (by kernel_rfl)
theorem kinds : (Rows.orderAsksRow.kinds == (if Rows.orderAsksRow.domain.isEmpty then [] else Tryz.f14.params.toList.map fun t => match Tryz.prog.underlying t with | some (.int k) => some k | _ => none)) = true := by kernel_rfl
theorem pinned : (Rows.orderAsksRow.pinned == Rows.orderAsksRow.pinnedBy) = true := by kernel_rfl
theorem veiled : (Rows.orderAsksRow.veiled == (Tryz.f14.params.toList ++ Rows.orderAsksSpec.plain.varTypes Tryz.prog ++ Tryz.f14.resultTypes.toList).any (Tryz.prog.veiledRec ·)) = true := by kernel_rfl
theorem veiledFits : Rows.orderAsksRow.veiledFits Tryz.prog Tryz.f14.params.toList (Tryz.f14.params.toList ++ Rows.orderAsksSpec.plain.varTypes Tryz.prog ++ Tryz.f14.resultTypes.toList) = true := by kernel_rfl
theorem closed0 : joinedFacts Tryz.prog 14 Tryz.f14 Rows.orderAsksSpec Rows.orderAsksRow = true := by
  unfold joinedFacts
  exact (pf.band (pf.band (pf.band (pf.band (pf.band (pf.band (pf.band (pf.band (pf.band (pf.band (pf.band (pf.band (pf.band (pf.band (pf.band (pf.band (pf.band (pf.band (pf.band (pf.band (pf.band (pf.band (pf.band (pf.band (pf.band (pf.band (pf.band (pf.band (pf.band (pf.band (pf.band wf pf.laid) pf.maps) readable) tie) stops) pf.stops) knobs) pf.stopKnobs) inPlace) unfollowed) recurses) vnamed) maps) ifaces) mapsOut) loops) wideKeys) vars) results) ifacesOut) loopsOut) plainKeys) shortTexts) pf.stopsHeard) pf.mayEnter) lifted) make) kinds) pinned) veiled) veiledFits)
theorem closed : joinedFacts Tryz.pinned.checked.prog 14 Tryz.f14 Rows.orderAsksSpec Rows.orderAsksRow = true := closed0
end Go.Proofs.YtkfeeenaelcalaaGreat.orderAsks.k

