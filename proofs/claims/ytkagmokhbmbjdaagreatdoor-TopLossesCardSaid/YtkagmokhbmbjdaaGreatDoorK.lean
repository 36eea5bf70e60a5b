/-
  Facts of the program and of this law's row. Conditions: none.
-/
import Derived.Test.YtkagmokhbmbjdaaGreatDoorPF
namespace Go.Proofs.YtkagmokhbmbjdaaGreatDoor.topLosses.k
open Go
set_option maxRecDepth 100000
theorem named : Tryz.pinned.checked.prog.funcNamed (OpenClaim.func Rows.topLossesRow) = some 5:=by kernel_rfl
theorem wf : Rows.topLossesRow.wf (OpenSpec.ofChange Rows.topLossesSpec) = true:=by kernel_rfl
theorem Hc : Tryz.f5.params.all (Tryz.prog.readableRec ·) = true:=by kernel_rfl
theorem tie : namedTie Tryz.prog Rows.topLossesRow.named Rows.topLossesSpec.vars = true:=by kernel_rfl
theorem stops : (Rows.topLossesRow.stops == []) = true:=by kernel_rfl
theorem knobs : (Rows.topLossesRow.knobs == []) = true:=by kernel_rfl
theorem inPlace : (Rows.topLossesRow.inPlace == Tryz.prog.inPlace 5) = true:=by kernel_rfl
theorem unfollowed : (Rows.topLossesRow.unfollowed == Tryz.prog.unfollowed 5) = true:=by kernel_rfl
theorem recurses : (Rows.topLossesRow.recurses == Tryz.prog.recurses 5) = true:=by kernel_rfl
theorem Je : (Rows.topLossesRow.named == Tryz.prog.varsNamed 5) = true:=by kernel_rfl
theorem maps : (Rows.topLossesRow.maps == (Tryz.f5.params.toList ++ Rows.topLossesSpec.plain.varTypes Tryz.prog).any (Tryz.prog.mapsRec ·)) = true:=by kernel_rfl
theorem ifaces : (Rows.topLossesRow.ifaces == (Tryz.f5.params.toList ++ Rows.topLossesSpec.plain.varTypes Tryz.prog).any (Tryz.prog.ifacesRec ·)) = true:=by kernel_rfl
theorem mapsOut : (Rows.topLossesRow.mapsOut == Tryz.prog.mapsAmong Tryz.f5.resultTypes.toList) = true:=by kernel_rfl
theorem loops : (Rows.topLossesRow.loops == (Tryz.f5.params.toList ++ Rows.topLossesSpec.plain.varTypes Tryz.prog).any (Tryz.prog.loopsFrom ·)) = true:=by kernel_rfl
theorem wideKeys : (Rows.topLossesRow.wideKeys == (Tryz.f5.params.toList ++ Rows.topLossesSpec.plain.varTypes Tryz.prog ++ Tryz.f5.resultTypes.toList).any (Tryz.prog.wideKeysFrom ·)) = true:=by kernel_rfl
theorem vars : Rows.topLossesSpec.vars.all (Tryz.prog.varReadable ·) = true:=by kernel_rfl
theorem results : Tryz.f5.resultTypes.all (fun t => Tryz.prog.readableRec t && decide (t < Tryz.prog.types.size)) = true:=by kernel_rfl
theorem ifacesOut : (Rows.topLossesRow.ifacesOut == Tryz.f5.resultTypes.toList.any (Tryz.prog.ifacesRec ·)) = true:=by kernel_rfl
theorem loopsOut : (Rows.topLossesRow.loopsOut == Tryz.f5.resultTypes.toList.any (Tryz.prog.loopsFrom ·)) = true:=by kernel_rfl
theorem plainKeys : (Rows.topLossesRow.plainKeys == Tryz.prog.plainKeys) = true:=(congrArg (Rows.topLossesRow.plainKeys == ·) pf.plainKeys).trans (by kernel_rfl)
theorem shortTexts : Rows.topLossesRow.shortTexts.isNone = true:=by kernel_rfl
theorem lifted : (Rows.topLossesRow.lifted == Tryz.prog.liftsFinal) = true:=(congrArg (Rows.topLossesRow.lifted == ·) pf.lifts).trans (by kernel_rfl)
theorem make : (Tryz.prog.make == some Rows.topLossesRow.make) = true:=(congrArg (· == some Rows.topLossesRow.make) pf.make).trans (by kernel_rfl)
theorem kinds : (Rows.topLossesRow.kinds == (if Rows.topLossesRow.domain.isEmpty then [] else Tryz.f5.params.toList.map fun t => match Tryz.prog.underlying t with | some (.int k) => some k | _ => none)) = true:=by kernel_rfl
theorem pinned : (Rows.topLossesRow.pinned == Rows.topLossesRow.pinnedBy) = true:=by kernel_rfl
theorem veiled : (Rows.topLossesRow.veiled == (Tryz.f5.params.toList ++ Rows.topLossesSpec.plain.varTypes Tryz.prog ++ Tryz.f5.resultTypes.toList).any (Tryz.prog.veiledRec ·)) = true:=by kernel_rfl
theorem veiledFits : Rows.topLossesRow.veiledFits Tryz.prog Tryz.f5.params.toList (Tryz.f5.params.toList ++ Rows.topLossesSpec.plain.varTypes Tryz.prog ++ Tryz.f5.resultTypes.toList) = true:=by kernel_rfl
theorem closed0 : joinedFacts Tryz.prog 5 Tryz.f5 Rows.topLossesSpec Rows.topLossesRow = true:=by
 unfold joinedFacts
 exact (pf.band (pf.band (pf.band (pf.band (pf.band (pf.band (pf.band (pf.band (pf.band (pf.band (pf.band (pf.band (pf.band (pf.band (pf.band (pf.band (pf.band (pf.band (pf.band (pf.band (pf.band (pf.band (pf.band (pf.band (pf.band (pf.band (pf.band (pf.band (pf.band (pf.band (pf.band wf pf.laid) pf.maps) Hc) tie) stops) pf.stops) knobs) pf.stopKnobs) inPlace) unfollowed) recurses) Je) maps) ifaces) mapsOut) loops) wideKeys) vars) results) ifacesOut) loopsOut) plainKeys) shortTexts) pf.stopsHeard) pf.mayEnter) lifted) make) kinds) pinned) veiled) veiledFits)
theorem closed : joinedFacts Tryz.pinned.checked.prog 5 Tryz.f5 Rows.topLossesSpec Rows.topLossesRow = true:=closed0
end Go.Proofs.YtkagmokhbmbjdaaGreatDoor.topLosses.k
