/-
  Facts of the program and of this law's row. Conditions: none.
-/
import Derived.Test.YtmpaebhomokjmaaGreatPF
namespace Go.Proofs.YtmpaebhomokjmaaGreat.victimsCount.k
open Go
set_option maxRecDepth 100000
theorem named : Tryz.pinned.checked.prog.funcNamed (OpenClaim.func Rows.victimsCountRow) = some 7:=by kernel_rfl
theorem wf : Rows.victimsCountRow.wf (OpenSpec.ofChange Rows.victimsCountSpec) = true:=by kernel_rfl
theorem AM : Tryz.f7.params.all (Tryz.prog.readableRec ·) = true:=by kernel_rfl
theorem tie : namedTie Tryz.prog Rows.victimsCountRow.named Rows.victimsCountSpec.vars = true:=by kernel_rfl
theorem stops : (Rows.victimsCountRow.stops == []) = true:=by kernel_rfl
theorem knobs : (Rows.victimsCountRow.knobs == []) = true:=by kernel_rfl
theorem inPlace : (Rows.victimsCountRow.inPlace == Tryz.prog.inPlace 7) = true:=by kernel_rfl
theorem unfollowed : (Rows.victimsCountRow.unfollowed == Tryz.prog.unfollowed 7) = true:=by kernel_rfl
theorem recurses : (Rows.victimsCountRow.recurses == Tryz.prog.recurses 7) = true:=by kernel_rfl
theorem Dj : (Rows.victimsCountRow.named == Tryz.prog.varsNamed 7) = true:=by kernel_rfl
theorem maps : (Rows.victimsCountRow.maps == (Tryz.f7.params.toList ++ Rows.victimsCountSpec.plain.varTypes Tryz.prog).any (Tryz.prog.mapsRec ·)) = true:=by kernel_rfl
theorem ifaces : (Rows.victimsCountRow.ifaces == (Tryz.f7.params.toList ++ Rows.victimsCountSpec.plain.varTypes Tryz.prog).any (Tryz.prog.ifacesRec ·)) = true:=by kernel_rfl
theorem mapsOut : (Rows.victimsCountRow.mapsOut == Tryz.prog.mapsAmong Tryz.f7.resultTypes.toList) = true:=by kernel_rfl
theorem loops : (Rows.victimsCountRow.loops == (Tryz.f7.params.toList ++ Rows.victimsCountSpec.plain.varTypes Tryz.prog).any (Tryz.prog.loopsFrom ·)) = true:=by kernel_rfl
theorem wideKeys : (Rows.victimsCountRow.wideKeys == (Tryz.f7.params.toList ++ Rows.victimsCountSpec.plain.varTypes Tryz.prog ++ Tryz.f7.resultTypes.toList).any (Tryz.prog.wideKeysFrom ·)) = true:=by kernel_rfl
theorem vars : Rows.victimsCountSpec.vars.all (Tryz.prog.varReadable ·) = true:=by kernel_rfl
theorem results : Tryz.f7.resultTypes.all (fun t => Tryz.prog.readableRec t && decide (t < Tryz.prog.types.size)) = true:=by kernel_rfl
theorem ifacesOut : (Rows.victimsCountRow.ifacesOut == Tryz.f7.resultTypes.toList.any (Tryz.prog.ifacesRec ·)) = true:=by kernel_rfl
theorem loopsOut : (Rows.victimsCountRow.loopsOut == Tryz.f7.resultTypes.toList.any (Tryz.prog.loopsFrom ·)) = true:=by kernel_rfl
theorem plainKeys : (Rows.victimsCountRow.plainKeys == Tryz.prog.plainKeys) = true:=(congrArg (Rows.victimsCountRow.plainKeys == ·) pf.plainKeys).trans (by kernel_rfl)
theorem shortTexts : Rows.victimsCountRow.shortTexts.isNone = true:=by kernel_rfl
theorem lifted : (Rows.victimsCountRow.lifted == Tryz.prog.liftsFinal) = true:=(congrArg (Rows.victimsCountRow.lifted == ·) pf.lifts).trans (by kernel_rfl)
theorem make : (Tryz.prog.make == some Rows.victimsCountRow.make) = true:=(congrArg (· == some Rows.victimsCountRow.make) pf.make).trans (by kernel_rfl)
theorem kinds : (Rows.victimsCountRow.kinds == (if Rows.victimsCountRow.domain.isEmpty then [] else Tryz.f7.params.toList.map fun t => match Tryz.prog.underlying t with | some (.int k) => some k | _ => none)) = true:=by kernel_rfl
theorem pinned : (Rows.victimsCountRow.pinned == Rows.victimsCountRow.pinnedBy) = true:=by kernel_rfl
theorem veiled : (Rows.victimsCountRow.veiled == (Tryz.f7.params.toList ++ Rows.victimsCountSpec.plain.varTypes Tryz.prog ++ Tryz.f7.resultTypes.toList).any (Tryz.prog.veiledRec ·)) = true:=by kernel_rfl
theorem veiledFits : Rows.victimsCountRow.veiledFits Tryz.prog Tryz.f7.params.toList (Tryz.f7.params.toList ++ Rows.victimsCountSpec.plain.varTypes Tryz.prog ++ Tryz.f7.resultTypes.toList) = true:=by kernel_rfl
theorem closed0 : joinedFacts Tryz.prog 7 Tryz.f7 Rows.victimsCountSpec Rows.victimsCountRow = true:=by
 unfold joinedFacts
 exact (pf.band (pf.band (pf.band (pf.band (pf.band (pf.band (pf.band (pf.band (pf.band (pf.band (pf.band (pf.band (pf.band (pf.band (pf.band (pf.band (pf.band (pf.band (pf.band (pf.band (pf.band (pf.band (pf.band (pf.band (pf.band (pf.band (pf.band (pf.band (pf.band (pf.band (pf.band wf pf.laid) pf.maps) AM) tie) stops) pf.stops) knobs) pf.stopKnobs) inPlace) unfollowed) recurses) Dj) maps) ifaces) mapsOut) loops) wideKeys) vars) results) ifacesOut) loopsOut) plainKeys) shortTexts) pf.stopsHeard) pf.mayEnter) lifted) make) kinds) pinned) veiled) veiledFits)
theorem closed : joinedFacts Tryz.pinned.checked.prog 7 Tryz.f7 Rows.victimsCountSpec Rows.victimsCountRow = true:=closed0
end Go.Proofs.YtmpaebhomokjmaaGreat.victimsCount.k
