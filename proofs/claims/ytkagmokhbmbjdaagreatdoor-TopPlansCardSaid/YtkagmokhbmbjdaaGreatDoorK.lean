/-
  Facts of the program and of this law's row. Conditions: none.
-/
import Derived.Test.YtkagmokhbmbjdaaGreatDoorPF
namespace Go.Proofs.YtkagmokhbmbjdaaGreatDoor.topPlans.k
open Go
set_option maxRecDepth 100000
theorem named : Tryz.pinned.checked.prog.funcNamed (OpenClaim.func Rows.topPlansRow) = some 4:=by kernel_rfl
theorem wf : Rows.topPlansRow.wf (OpenSpec.ofChange Rows.topPlansSpec) = true:=by kernel_rfl
theorem Kc : Tryz.f4.params.all (Tryz.prog.readableRec ·) = true:=by kernel_rfl
theorem tie : namedTie Tryz.prog Rows.topPlansRow.named Rows.topPlansSpec.vars = true:=by kernel_rfl
theorem stops : (Rows.topPlansRow.stops == []) = true:=by kernel_rfl
theorem knobs : (Rows.topPlansRow.knobs == []) = true:=by kernel_rfl
theorem inPlace : (Rows.topPlansRow.inPlace == Tryz.prog.inPlace 4) = true:=by kernel_rfl
theorem unfollowed : (Rows.topPlansRow.unfollowed == Tryz.prog.unfollowed 4) = true:=by kernel_rfl
theorem recurses : (Rows.topPlansRow.recurses == Tryz.prog.recurses 4) = true:=by kernel_rfl
theorem Nf : (Rows.topPlansRow.named == Tryz.prog.varsNamed 4) = true:=by kernel_rfl
theorem maps : (Rows.topPlansRow.maps == (Tryz.f4.params.toList ++ Rows.topPlansSpec.plain.varTypes Tryz.prog).any (Tryz.prog.mapsRec ·)) = true:=by kernel_rfl
theorem ifaces : (Rows.topPlansRow.ifaces == (Tryz.f4.params.toList ++ Rows.topPlansSpec.plain.varTypes Tryz.prog).any (Tryz.prog.ifacesRec ·)) = true:=by kernel_rfl
theorem mapsOut : (Rows.topPlansRow.mapsOut == Tryz.prog.mapsAmong Tryz.f4.resultTypes.toList) = true:=by kernel_rfl
theorem loops : (Rows.topPlansRow.loops == (Tryz.f4.params.toList ++ Rows.topPlansSpec.plain.varTypes Tryz.prog).any (Tryz.prog.loopsFrom ·)) = true:=by kernel_rfl
theorem wideKeys : (Rows.topPlansRow.wideKeys == (Tryz.f4.params.toList ++ Rows.topPlansSpec.plain.varTypes Tryz.prog ++ Tryz.f4.resultTypes.toList).any (Tryz.prog.wideKeysFrom ·)) = true:=by kernel_rfl
theorem vars : Rows.topPlansSpec.vars.all (Tryz.prog.varReadable ·) = true:=by kernel_rfl
theorem results : Tryz.f4.resultTypes.all (fun t => Tryz.prog.readableRec t && decide (t < Tryz.prog.types.size)) = true:=by kernel_rfl
theorem ifacesOut : (Rows.topPlansRow.ifacesOut == Tryz.f4.resultTypes.toList.any (Tryz.prog.ifacesRec ·)) = true:=by kernel_rfl
theorem loopsOut : (Rows.topPlansRow.loopsOut == Tryz.f4.resultTypes.toList.any (Tryz.prog.loopsFrom ·)) = true:=by kernel_rfl
theorem plainKeys : (Rows.topPlansRow.plainKeys == Tryz.prog.plainKeys) = true:=(congrArg (Rows.topPlansRow.plainKeys == ·) pf.plainKeys).trans (by kernel_rfl)
theorem shortTexts : Rows.topPlansRow.shortTexts.isNone = true:=by kernel_rfl
theorem lifted : (Rows.topPlansRow.lifted == Tryz.prog.liftsFinal) = true:=(congrArg (Rows.topPlansRow.lifted == ·) pf.lifts).trans (by kernel_rfl)
theorem make : (Tryz.prog.make == some Rows.topPlansRow.make) = true:=(congrArg (· == some Rows.topPlansRow.make) pf.make).trans (by kernel_rfl)
theorem kinds : (Rows.topPlansRow.kinds == (if Rows.topPlansRow.domain.isEmpty then [] else Tryz.f4.params.toList.map fun t => match Tryz.prog.underlying t with | some (.int k) => some k | _ => none)) = true:=by kernel_rfl
theorem pinned : (Rows.topPlansRow.pinned == Rows.topPlansRow.pinnedBy) = true:=by kernel_rfl
theorem veiled : (Rows.topPlansRow.veiled == (Tryz.f4.params.toList ++ Rows.topPlansSpec.plain.varTypes Tryz.prog ++ Tryz.f4.resultTypes.toList).any (Tryz.prog.veiledRec ·)) = true:=by kernel_rfl
theorem veiledFits : Rows.topPlansRow.veiledFits Tryz.prog Tryz.f4.params.toList (Tryz.f4.params.toList ++ Rows.topPlansSpec.plain.varTypes Tryz.prog ++ Tryz.f4.resultTypes.toList) = true:=by kernel_rfl
theorem closed0 : joinedFacts Tryz.prog 4 Tryz.f4 Rows.topPlansSpec Rows.topPlansRow = true:=by
 unfold joinedFacts
 exact (pf.band (pf.band (pf.band (pf.band (pf.band (pf.band (pf.band (pf.band (pf.band (pf.band (pf.band (pf.band (pf.band (pf.band (pf.band (pf.band (pf.band (pf.band (pf.band (pf.band (pf.band (pf.band (pf.band (pf.band (pf.band (pf.band (pf.band (pf.band (pf.band (pf.band (pf.band wf pf.laid) pf.maps) Kc) tie) stops) pf.stops) knobs) pf.stopKnobs) inPlace) unfollowed) recurses) Nf) maps) ifaces) mapsOut) loops) wideKeys) vars) results) ifacesOut) loopsOut) plainKeys) shortTexts) pf.stopsHeard) pf.mayEnter) lifted) make) kinds) pinned) veiled) veiledFits)
theorem closed : joinedFacts Tryz.pinned.checked.prog 4 Tryz.f4 Rows.topPlansSpec Rows.topPlansRow = true:=closed0
end Go.Proofs.YtkagmokhbmbjdaaGreatDoor.topPlans.k
