/-
  Facts of the program and of this law's row. Conditions: none.
-/
import Derived.Test.YtkfeeenaelcalaaGreatPF
namespace Go.Proofs.YtkfeeenaelcalaaGreat.shareAsks.k
open Go
set_option maxRecDepth 100000

theorem named : Tryz.pinned.checked.prog.funcNamed (OpenClaim.func Rows.shareAsksRow) = some 5 := by kernel_rfl
theorem wf : Rows.shareAsksRow.wf (OpenSpec.ofChange Rows.shareAsksSpec) = true := by kernel_rfl
theorem readable : Tryz.f5.params.all (Tryz.prog.readableRec ·) = true := by kernel_rfl
theorem tie : namedTie Tryz.prog Rows.shareAsksRow.named Rows.shareAsksSpec.vars = true := by kernel_rfl
theorem stops : (Rows.shareAsksRow.stops == []) = true := by kernel_rfl
theorem knobs : (Rows.shareAsksRow.knobs == []) = true := by kernel_rfl
theorem inPlace : (Rows.shareAsksRow.inPlace == Tryz.prog.inPlace 5) = true := by kernel_rfl
theorem unfollowed : (Rows.shareAsksRow.unfollowed == Tryz.prog.unfollowed 5) = true := by kernel_rfl
theorem recurses : (Rows.shareAsksRow.recurses == Tryz.prog.recurses 5) = true := by kernel_rfl
theorem vnamed : (Rows.shareAsksRow.named == Tryz.prog.varsNamed 5) = true := by kernel_rfl
theorem maps : (Rows.shareAsksRow.maps == (Tryz.f5.params.toList ++ Rows.shareAsksSpec.plain.varTypes Tryz.prog).any (Tryz.prog.mapsRec ·)) = true := by kernel_rfl
theorem ifaces : (Rows.shareAsksRow.ifaces == (Tryz.f5.params.toList ++ Rows.shareAsksSpec.plain.varTypes Tryz.prog).any (Tryz.prog.ifacesRec ·)) = true := by kernel_rfl
theorem mapsOut : (Rows.shareAsksRow.mapsOut == Tryz.prog.mapsAmong Tryz.f5.resultTypes.toList) = true := by kernel_rfl
theorem loops : (Rows.shareAsksRow.loops == (Tryz.f5.params.toList ++ Rows.shareAsksSpec.plain.varTypes Tryz.prog).any (Tryz.prog.loopsFrom ·)) = true := by kernel_rfl
theorem wideKeys : (Rows.shareAsksRow.wideKeys == (Tryz.f5.params.toList ++ Rows.shareAsksSpec.plain.varTypes Tryz.prog ++ Tryz.f5.resultTypes.toList).any (Tryz.prog.wideKeysFrom ·)) = true := by kernel_rfl
theorem vars : Rows.shareAsksSpec.vars.all (Tryz.prog.varReadable ·) = true := by kernel_rfl
theorem results : Tryz.f5.resultTypes.all (fun t => Tryz.prog.readableRec t && decide (t < Tryz.prog.types.size)) = true := by kernel_rfl
theorem ifacesOut : (Rows.shareAsksRow.ifacesOut == Tryz.f5.resultTypes.toList.any (Tryz.prog.ifacesRec ·)) = true := by kernel_rfl
theorem loopsOut : (Rows.shareAsksRow.loopsOut == Tryz.f5.resultTypes.toList.any (Tryz.prog.loopsFrom ·)) = true := by kernel_rfl
theorem plainKeys : (Rows.shareAsksRow.plainKeys == Tryz.prog.plainKeys) = true := (congrArg (Rows.shareAsksRow.plainKeys == ·) pf.plainKeys).trans (by kernel_rfl)
theorem shortTexts : Rows.shareAsksRow.shortTexts.isNone = true := by kernel_rfl
theorem lifted : (Rows.shareAsksRow.lifted == Tryz.prog.liftsFinal) = true := (congrArg (Rows.shareAsksRow.lifted == ·) pf.lifts).trans (by kernel_rfl)
theorem make : (Tryz.prog.make == some Rows.shareAsksRow.make) = true := (congrArg (· == some Rows.shareAsksRow.make) pf.make).trans (by kernel_rfl)
theorem kinds : (Rows.shareAsksRow.kinds == (if Rows.shareAsksRow.domain.isEmpty then [] else Tryz.f5.params.toList.map fun t => match Tryz.prog.underlying t with | some (.int k) => some k | _ => none)) = true := by kernel_rfl
theorem pinned : (Rows.shareAsksRow.pinned == Rows.shareAsksRow.pinnedBy) = true := by kernel_rfl
theorem veiled : (Rows.shareAsksRow.veiled == (Tryz.f5.params.toList ++ Rows.shareAsksSpec.plain.varTypes Tryz.prog ++ Tryz.f5.resultTypes.toList).any (Tryz.prog.veiledRec ·)) = true := by kernel_rfl
theorem veiledFits : Rows.shareAsksRow.veiledFits Tryz.prog Tryz.f5.params.toList (Tryz.f5.params.toList ++ Rows.shareAsksSpec.plain.varTypes Tryz.prog ++ Tryz.f5.resultTypes.toList) = true := by kernel_rfl
theorem closed0 : joinedFacts Tryz.prog 5 Tryz.f5 Rows.shareAsksSpec Rows.shareAsksRow = true := by
  unfold joinedFacts
  exact (pf.band (pf.band (pf.band (pf.band (pf.band (pf.band (pf.band (pf.band (pf.band (pf.band (pf.band (pf.band (pf.band (pf.band (pf.band (pf.band (pf.band (pf.band (pf.band (pf.band (pf.band (pf.band (pf.band (pf.band (pf.band (pf.band (pf.band (pf.band (pf.band (pf.band (pf.band wf pf.laid) pf.maps) readable) tie) stops) pf.stops) knobs) pf.stopKnobs) inPlace) unfollowed) recurses) vnamed) maps) ifaces) mapsOut) loops) wideKeys) vars) results) ifacesOut) loopsOut) plainKeys) shortTexts) pf.stopsHeard) pf.mayEnter) lifted) make) kinds) pinned) veiled) veiledFits)
theorem closed : joinedFacts Tryz.pinned.checked.prog 5 Tryz.f5 Rows.shareAsksSpec Rows.shareAsksRow = true := closed0
end Go.Proofs.YtkfeeenaelcalaaGreat.shareAsks.k

