/-
  Facts of the program and of this law's row. Conditions: none.
-/
import Derived.Test.YtdnbceoohjpkeaaGreatPF
namespace Go.Proofs.YtdnbceoohjpkeaaGreat.assignHolds.k
open Go
set_option maxRecDepth 100000
theorem named : Tryz.pinned.checked.prog.funcNamed (OpenClaim.func Rows.assignHoldsRow) = some 3:=by kernel_rfl
theorem wf : Rows.assignHoldsRow.wf (OpenSpec.ofChange Rows.assignHoldsSpec) = true:=by kernel_rfl
theorem Ar : Tryz.f3.params.all (Tryz.prog.readableRec ·) = true:=by kernel_rfl
theorem tie : namedTie Tryz.prog Rows.assignHoldsRow.named Rows.assignHoldsSpec.vars = true:=by kernel_rfl
theorem stops : (Rows.assignHoldsRow.stops == []) = true:=by kernel_rfl
theorem knobs : (Rows.assignHoldsRow.knobs == []) = true:=by kernel_rfl
theorem inPlace : (Rows.assignHoldsRow.inPlace == Tryz.prog.inPlace 3) = true:=by kernel_rfl
theorem unfollowed : (Rows.assignHoldsRow.unfollowed == Tryz.prog.unfollowed 3) = true:=by kernel_rfl
theorem recurses : (Rows.assignHoldsRow.recurses == Tryz.prog.recurses 3) = true:=by kernel_rfl
theorem CB : (Rows.assignHoldsRow.named == Tryz.prog.varsNamed 3) = true:=by kernel_rfl
theorem maps : (Rows.assignHoldsRow.maps == (Tryz.f3.params.toList ++ Rows.assignHoldsSpec.plain.varTypes Tryz.prog).any (Tryz.prog.mapsRec ·)) = true:=by kernel_rfl
theorem ifaces : (Rows.assignHoldsRow.ifaces == (Tryz.f3.params.toList ++ Rows.assignHoldsSpec.plain.varTypes Tryz.prog).any (Tryz.prog.ifacesRec ·)) = true:=by kernel_rfl
theorem mapsOut : (Rows.assignHoldsRow.mapsOut == Tryz.prog.mapsAmong Tryz.f3.resultTypes.toList) = true:=by kernel_rfl
theorem loops : (Rows.assignHoldsRow.loops == (Tryz.f3.params.toList ++ Rows.assignHoldsSpec.plain.varTypes Tryz.prog).any (Tryz.prog.loopsFrom ·)) = true:=by kernel_rfl
theorem wideKeys : (Rows.assignHoldsRow.wideKeys == (Tryz.f3.params.toList ++ Rows.assignHoldsSpec.plain.varTypes Tryz.prog ++ Tryz.f3.resultTypes.toList).any (Tryz.prog.wideKeysFrom ·)) = true:=by kernel_rfl
theorem vars : Rows.assignHoldsSpec.vars.all (Tryz.prog.varReadable ·) = true:=by kernel_rfl
theorem results : Tryz.f3.resultTypes.all (fun t => Tryz.prog.readableRec t && decide (t < Tryz.prog.types.size)) = true:=by kernel_rfl
theorem ifacesOut : (Rows.assignHoldsRow.ifacesOut == Tryz.f3.resultTypes.toList.any (Tryz.prog.ifacesRec ·)) = true:=by kernel_rfl
theorem loopsOut : (Rows.assignHoldsRow.loopsOut == Tryz.f3.resultTypes.toList.any (Tryz.prog.loopsFrom ·)) = true:=by kernel_rfl
theorem plainKeys : (Rows.assignHoldsRow.plainKeys == Tryz.prog.plainKeys) = true:=(congrArg (Rows.assignHoldsRow.plainKeys == ·) pf.plainKeys).trans (by kernel_rfl)
theorem shortTexts : Rows.assignHoldsRow.shortTexts.isNone = true:=by kernel_rfl
theorem lifted : (Rows.assignHoldsRow.lifted == Tryz.prog.liftsFinal) = true:=(congrArg (Rows.assignHoldsRow.lifted == ·) pf.lifts).trans (by kernel_rfl)
theorem make : (Tryz.prog.make == some Rows.assignHoldsRow.make) = true:=(congrArg (· == some Rows.assignHoldsRow.make) pf.make).trans (by kernel_rfl)
theorem kinds : (Rows.assignHoldsRow.kinds == (if Rows.assignHoldsRow.domain.isEmpty then [] else Tryz.f3.params.toList.map fun t => match Tryz.prog.underlying t with | some (.int k) => some k | _ => none)) = true:=by kernel_rfl
theorem pinned : (Rows.assignHoldsRow.pinned == Rows.assignHoldsRow.pinnedBy) = true:=by kernel_rfl
theorem veiled : (Rows.assignHoldsRow.veiled == (Tryz.f3.params.toList ++ Rows.assignHoldsSpec.plain.varTypes Tryz.prog ++ Tryz.f3.resultTypes.toList).any (Tryz.prog.veiledRec ·)) = true:=by kernel_rfl
theorem veiledFits : Rows.assignHoldsRow.veiledFits Tryz.prog Tryz.f3.params.toList (Tryz.f3.params.toList ++ Rows.assignHoldsSpec.plain.varTypes Tryz.prog ++ Tryz.f3.resultTypes.toList) = true:=by kernel_rfl
theorem closed0 : joinedFacts Tryz.prog 3 Tryz.f3 Rows.assignHoldsSpec Rows.assignHoldsRow = true:=by
 unfold joinedFacts
 exact (pf.band (pf.band (pf.band (pf.band (pf.band (pf.band (pf.band (pf.band (pf.band (pf.band (pf.band (pf.band (pf.band (pf.band (pf.band (pf.band (pf.band (pf.band (pf.band (pf.band (pf.band (pf.band (pf.band (pf.band (pf.band (pf.band (pf.band (pf.band (pf.band (pf.band (pf.band wf pf.laid) pf.maps) Ar) tie) stops) pf.stops) knobs) pf.stopKnobs) inPlace) unfollowed) recurses) CB) maps) ifaces) mapsOut) loops) wideKeys) vars) results) ifacesOut) loopsOut) plainKeys) shortTexts) pf.stopsHeard) pf.mayEnter) lifted) make) kinds) pinned) veiled) veiledFits)
theorem closed : joinedFacts Tryz.pinned.checked.prog 3 Tryz.f3 Rows.assignHoldsSpec Rows.assignHoldsRow = true:=closed0
end Go.Proofs.YtdnbceoohjpkeaaGreat.assignHolds.k
