/-
  Facts of the program and of this law's row. Conditions: none.
-/
import Derived.Test.YteodpoelbdakgaaGreatPF
namespace Go.Proofs.YteodpoelbdakgaaGreat.assignFits.k
open Go
set_option maxRecDepth 100000
theorem named : Tryz.pinned.checked.prog.funcNamed (OpenClaim.func Rows.assignFitsRow) = some 10:=by kernel_rfl
theorem wf : Rows.assignFitsRow.wf (OpenSpec.ofChange Rows.assignFitsSpec) = true:=by kernel_rfl
theorem D4 : Tryz.f10.params.all (Tryz.prog.readableRec ·) = true:=by kernel_rfl
theorem tie : namedTie Tryz.prog Rows.assignFitsRow.named Rows.assignFitsSpec.vars = true:=by kernel_rfl
theorem stops : (Rows.assignFitsRow.stops == []) = true:=by kernel_rfl
theorem knobs : (Rows.assignFitsRow.knobs == []) = true:=by kernel_rfl
theorem inPlace : (Rows.assignFitsRow.inPlace == Tryz.prog.inPlace 10) = true:=by kernel_rfl
theorem unfollowed : (Rows.assignFitsRow.unfollowed == Tryz.prog.unfollowed 10) = true:=by kernel_rfl
theorem recurses : (Rows.assignFitsRow.recurses == Tryz.prog.recurses 10) = true:=by kernel_rfl
theorem Gm : (Rows.assignFitsRow.named == Tryz.prog.varsNamed 10) = true:=by kernel_rfl
theorem maps : (Rows.assignFitsRow.maps == (Tryz.f10.params.toList ++ Rows.assignFitsSpec.plain.varTypes Tryz.prog).any (Tryz.prog.mapsRec ·)) = true:=by kernel_rfl
theorem ifaces : (Rows.assignFitsRow.ifaces == (Tryz.f10.params.toList ++ Rows.assignFitsSpec.plain.varTypes Tryz.prog).any (Tryz.prog.ifacesRec ·)) = true:=by kernel_rfl
theorem mapsOut : (Rows.assignFitsRow.mapsOut == Tryz.prog.mapsAmong Tryz.f10.resultTypes.toList) = true:=by kernel_rfl
theorem loops : (Rows.assignFitsRow.loops == (Tryz.f10.params.toList ++ Rows.assignFitsSpec.plain.varTypes Tryz.prog).any (Tryz.prog.loopsFrom ·)) = true:=by kernel_rfl
theorem wideKeys : (Rows.assignFitsRow.wideKeys == (Tryz.f10.params.toList ++ Rows.assignFitsSpec.plain.varTypes Tryz.prog ++ Tryz.f10.resultTypes.toList).any (Tryz.prog.wideKeysFrom ·)) = true:=by kernel_rfl
theorem vars : Rows.assignFitsSpec.vars.all (Tryz.prog.varReadable ·) = true:=by kernel_rfl
theorem results : Tryz.f10.resultTypes.all (fun t => Tryz.prog.readableRec t && decide (t < Tryz.prog.types.size)) = true:=by kernel_rfl
theorem ifacesOut : (Rows.assignFitsRow.ifacesOut == Tryz.f10.resultTypes.toList.any (Tryz.prog.ifacesRec ·)) = true:=by kernel_rfl
theorem loopsOut : (Rows.assignFitsRow.loopsOut == Tryz.f10.resultTypes.toList.any (Tryz.prog.loopsFrom ·)) = true:=by kernel_rfl
theorem plainKeys : (Rows.assignFitsRow.plainKeys == Tryz.prog.plainKeys) = true:=(congrArg (Rows.assignFitsRow.plainKeys == ·) pf.plainKeys).trans (by kernel_rfl)
theorem shortTexts : Rows.assignFitsRow.shortTexts.isNone = true:=by kernel_rfl
theorem lifted : (Rows.assignFitsRow.lifted == Tryz.prog.liftsFinal) = true:=(congrArg (Rows.assignFitsRow.lifted == ·) pf.lifts).trans (by kernel_rfl)
theorem make : (Tryz.prog.make == some Rows.assignFitsRow.make) = true:=(congrArg (· == some Rows.assignFitsRow.make) pf.make).trans (by kernel_rfl)
theorem kinds : (Rows.assignFitsRow.kinds == (if Rows.assignFitsRow.domain.isEmpty then [] else Tryz.f10.params.toList.map fun t => match Tryz.prog.underlying t with | some (.int k) => some k | _ => none)) = true:=by kernel_rfl
theorem pinned : (Rows.assignFitsRow.pinned == Rows.assignFitsRow.pinnedBy) = true:=by kernel_rfl
theorem veiled : (Rows.assignFitsRow.veiled == (Tryz.f10.params.toList ++ Rows.assignFitsSpec.plain.varTypes Tryz.prog ++ Tryz.f10.resultTypes.toList).any (Tryz.prog.veiledRec ·)) = true:=by kernel_rfl
theorem veiledFits : Rows.assignFitsRow.veiledFits Tryz.prog Tryz.f10.params.toList (Tryz.f10.params.toList ++ Rows.assignFitsSpec.plain.varTypes Tryz.prog ++ Tryz.f10.resultTypes.toList) = true:=by kernel_rfl
theorem closed0 : joinedFacts Tryz.prog 10 Tryz.f10 Rows.assignFitsSpec Rows.assignFitsRow = true:=by
 unfold joinedFacts
 exact (pf.band (pf.band (pf.band (pf.band (pf.band (pf.band (pf.band (pf.band (pf.band (pf.band (pf.band (pf.band (pf.band (pf.band (pf.band (pf.band (pf.band (pf.band (pf.band (pf.band (pf.band (pf.band (pf.band (pf.band (pf.band (pf.band (pf.band (pf.band (pf.band (pf.band (pf.band wf pf.laid) pf.maps) D4) tie) stops) pf.stops) knobs) pf.stopKnobs) inPlace) unfollowed) recurses) Gm) maps) ifaces) mapsOut) loops) wideKeys) vars) results) ifacesOut) loopsOut) plainKeys) shortTexts) pf.stopsHeard) pf.mayEnter) lifted) make) kinds) pinned) veiled) veiledFits)
theorem closed : joinedFacts Tryz.pinned.checked.prog 10 Tryz.f10 Rows.assignFitsSpec Rows.assignFitsRow = true:=closed0
end Go.Proofs.YteodpoelbdakgaaGreat.assignFits.k
