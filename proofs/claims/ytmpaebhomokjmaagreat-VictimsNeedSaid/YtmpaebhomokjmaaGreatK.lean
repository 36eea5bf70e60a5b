/-
  Facts of the program and of this law's row. Conditions: none.
-/
import Derived.Test.YtmpaebhomokjmaaGreatPF
namespace Go.Proofs.YtmpaebhomokjmaaGreat.victimsNeed.k
open Go
set_option maxRecDepth 100000
theorem named : Tryz.pinned.checked.prog.funcNamed (OpenClaim.func Rows.victimsNeedRow) = some 5:=by kernel_rfl
theorem wf : Rows.victimsNeedRow.wf (OpenSpec.ofChange Rows.victimsNeedSpec) = true:=by kernel_rfl
theorem Gy : Tryz.f5.params.all (Tryz.prog.readableRec ·) = true:=by kernel_rfl
theorem tie : namedTie Tryz.prog Rows.victimsNeedRow.named Rows.victimsNeedSpec.vars = true:=by kernel_rfl
theorem stops : (Rows.victimsNeedRow.stops == []) = true:=by kernel_rfl
theorem knobs : (Rows.victimsNeedRow.knobs == []) = true:=by kernel_rfl
theorem inPlace : (Rows.victimsNeedRow.inPlace == Tryz.prog.inPlace 5) = true:=by kernel_rfl
theorem unfollowed : (Rows.victimsNeedRow.unfollowed == Tryz.prog.unfollowed 5) = true:=by kernel_rfl
theorem recurses : (Rows.victimsNeedRow.recurses == Tryz.prog.recurses 5) = true:=by kernel_rfl
theorem Jp : (Rows.victimsNeedRow.named == Tryz.prog.varsNamed 5) = true:=by kernel_rfl
theorem maps : (Rows.victimsNeedRow.maps == (Tryz.f5.params.toList ++ Rows.victimsNeedSpec.plain.varTypes Tryz.prog).any (Tryz.prog.mapsRec ·)) = true:=by kernel_rfl
theorem ifaces : (Rows.victimsNeedRow.ifaces == (Tryz.f5.params.toList ++ Rows.victimsNeedSpec.plain.varTypes Tryz.prog).any (Tryz.prog.ifacesRec ·)) = true:=by kernel_rfl
theorem mapsOut : (Rows.victimsNeedRow.mapsOut == Tryz.prog.mapsAmong Tryz.f5.resultTypes.toList) = true:=by kernel_rfl
theorem loops : (Rows.victimsNeedRow.loops == (Tryz.f5.params.toList ++ Rows.victimsNeedSpec.plain.varTypes Tryz.prog).any (Tryz.prog.loopsFrom ·)) = true:=by kernel_rfl
theorem wideKeys : (Rows.victimsNeedRow.wideKeys == (Tryz.f5.params.toList ++ Rows.victimsNeedSpec.plain.varTypes Tryz.prog ++ Tryz.f5.resultTypes.toList).any (Tryz.prog.wideKeysFrom ·)) = true:=by kernel_rfl
theorem vars : Rows.victimsNeedSpec.vars.all (Tryz.prog.varReadable ·) = true:=by kernel_rfl
theorem results : Tryz.f5.resultTypes.all (fun t => Tryz.prog.readableRec t && decide (t < Tryz.prog.types.size)) = true:=by kernel_rfl
theorem ifacesOut : (Rows.victimsNeedRow.ifacesOut == Tryz.f5.resultTypes.toList.any (Tryz.prog.ifacesRec ·)) = true:=by kernel_rfl
theorem loopsOut : (Rows.victimsNeedRow.loopsOut == Tryz.f5.resultTypes.toList.any (Tryz.prog.loopsFrom ·)) = true:=by kernel_rfl
theorem plainKeys : (Rows.victimsNeedRow.plainKeys == Tryz.prog.plainKeys) = true:=(congrArg (Rows.victimsNeedRow.plainKeys == ·) pf.plainKeys).trans (by kernel_rfl)
theorem shortTexts : Rows.victimsNeedRow.shortTexts.isNone = true:=by kernel_rfl
theorem lifted : (Rows.victimsNeedRow.lifted == Tryz.prog.liftsFinal) = true:=(congrArg (Rows.victimsNeedRow.lifted == ·) pf.lifts).trans (by kernel_rfl)
theorem make : (Tryz.prog.make == some Rows.victimsNeedRow.make) = true:=(congrArg (· == some Rows.victimsNeedRow.make) pf.make).trans (by kernel_rfl)
theorem kinds : (Rows.victimsNeedRow.kinds == (if Rows.victimsNeedRow.domain.isEmpty then [] else Tryz.f5.params.toList.map fun t => match Tryz.prog.underlying t with | some (.int k) => some k | _ => none)) = true:=by kernel_rfl
theorem pinned : (Rows.victimsNeedRow.pinned == Rows.victimsNeedRow.pinnedBy) = true:=by kernel_rfl
theorem veiled : (Rows.victimsNeedRow.veiled == (Tryz.f5.params.toList ++ Rows.victimsNeedSpec.plain.varTypes Tryz.prog ++ Tryz.f5.resultTypes.toList).any (Tryz.prog.veiledRec ·)) = true:=by kernel_rfl
theorem veiledFits : Rows.victimsNeedRow.veiledFits Tryz.prog Tryz.f5.params.toList (Tryz.f5.params.toList ++ Rows.victimsNeedSpec.plain.varTypes Tryz.prog ++ Tryz.f5.resultTypes.toList) = true:=by kernel_rfl
theorem closed0 : joinedFacts Tryz.prog 5 Tryz.f5 Rows.victimsNeedSpec Rows.victimsNeedRow = true:=by
 unfold joinedFacts
 exact (pf.band (pf.band (pf.band (pf.band (pf.band (pf.band (pf.band (pf.band (pf.band (pf.band (pf.band (pf.band (pf.band (pf.band (pf.band (pf.band (pf.band (pf.band (pf.band (pf.band (pf.band (pf.band (pf.band (pf.band (pf.band (pf.band (pf.band (pf.band (pf.band (pf.band (pf.band wf pf.laid) pf.maps) Gy) tie) stops) pf.stops) knobs) pf.stopKnobs) inPlace) unfollowed) recurses) Jp) maps) ifaces) mapsOut) loops) wideKeys) vars) results) ifacesOut) loopsOut) plainKeys) shortTexts) pf.stopsHeard) pf.mayEnter) lifted) make) kinds) pinned) veiled) veiledFits)
theorem closed : joinedFacts Tryz.pinned.checked.prog 5 Tryz.f5 Rows.victimsNeedSpec Rows.victimsNeedRow = true:=closed0
end Go.Proofs.YtmpaebhomokjmaaGreat.victimsNeed.k
