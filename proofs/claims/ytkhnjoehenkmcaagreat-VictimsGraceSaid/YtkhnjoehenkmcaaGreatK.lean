/-
  Facts of the program and of this law's row. Conditions: none.
-/
import Derived.Test.YtkhnjoehenkmcaaGreatPF
namespace Go.Proofs.YtkhnjoehenkmcaaGreat.victimsGrace.k
open Go
set_option maxRecDepth 100000
theorem named : Tryz.pinned.checked.prog.funcNamed (OpenClaim.func Rows.victimsGraceRow) = some 5:=by kernel_rfl
theorem wf : Rows.victimsGraceRow.wf (OpenSpec.ofChange Rows.victimsGraceSpec) = true:=by kernel_rfl
theorem D3 : Tryz.f5.params.all (Tryz.prog.readableRec ·) = true:=by kernel_rfl
theorem tie : namedTie Tryz.prog Rows.victimsGraceRow.named Rows.victimsGraceSpec.vars = true:=by kernel_rfl
theorem stops : (Rows.victimsGraceRow.stops == []) = true:=by kernel_rfl
theorem knobs : (Rows.victimsGraceRow.knobs == []) = true:=by kernel_rfl
theorem inPlace : (Rows.victimsGraceRow.inPlace == Tryz.prog.inPlace 5) = true:=by kernel_rfl
theorem unfollowed : (Rows.victimsGraceRow.unfollowed == Tryz.prog.unfollowed 5) = true:=by kernel_rfl
theorem recurses : (Rows.victimsGraceRow.recurses == Tryz.prog.recurses 5) = true:=by kernel_rfl
theorem F2 : (Rows.victimsGraceRow.named == Tryz.prog.varsNamed 5) = true:=by kernel_rfl
theorem maps : (Rows.victimsGraceRow.maps == (Tryz.f5.params.toList ++ Rows.victimsGraceSpec.plain.varTypes Tryz.prog).any (Tryz.prog.mapsRec ·)) = true:=by kernel_rfl
theorem ifaces : (Rows.victimsGraceRow.ifaces == (Tryz.f5.params.toList ++ Rows.victimsGraceSpec.plain.varTypes Tryz.prog).any (Tryz.prog.ifacesRec ·)) = true:=by kernel_rfl
theorem mapsOut : (Rows.victimsGraceRow.mapsOut == Tryz.prog.mapsAmong Tryz.f5.resultTypes.toList) = true:=by kernel_rfl
theorem loops : (Rows.victimsGraceRow.loops == (Tryz.f5.params.toList ++ Rows.victimsGraceSpec.plain.varTypes Tryz.prog).any (Tryz.prog.loopsFrom ·)) = true:=by kernel_rfl
theorem wideKeys : (Rows.victimsGraceRow.wideKeys == (Tryz.f5.params.toList ++ Rows.victimsGraceSpec.plain.varTypes Tryz.prog ++ Tryz.f5.resultTypes.toList).any (Tryz.prog.wideKeysFrom ·)) = true:=by kernel_rfl
theorem vars : Rows.victimsGraceSpec.vars.all (Tryz.prog.varReadable ·) = true:=by kernel_rfl
theorem results : Tryz.f5.resultTypes.all (fun t => Tryz.prog.readableRec t && decide (t < Tryz.prog.types.size)) = true:=by kernel_rfl
theorem ifacesOut : (Rows.victimsGraceRow.ifacesOut == Tryz.f5.resultTypes.toList.any (Tryz.prog.ifacesRec ·)) = true:=by kernel_rfl
theorem loopsOut : (Rows.victimsGraceRow.loopsOut == Tryz.f5.resultTypes.toList.any (Tryz.prog.loopsFrom ·)) = true:=by kernel_rfl
theorem plainKeys : (Rows.victimsGraceRow.plainKeys == Tryz.prog.plainKeys) = true:=(congrArg (Rows.victimsGraceRow.plainKeys == ·) pf.plainKeys).trans (by kernel_rfl)
theorem shortTexts : Rows.victimsGraceRow.shortTexts.isNone = true:=by kernel_rfl
theorem lifted : (Rows.victimsGraceRow.lifted == Tryz.prog.liftsFinal) = true:=(congrArg (Rows.victimsGraceRow.lifted == ·) pf.lifts).trans (by kernel_rfl)
theorem make : (Tryz.prog.make == some Rows.victimsGraceRow.make) = true:=(congrArg (· == some Rows.victimsGraceRow.make) pf.make).trans (by kernel_rfl)
theorem kinds : (Rows.victimsGraceRow.kinds == (if Rows.victimsGraceRow.domain.isEmpty then [] else Tryz.f5.params.toList.map fun t => match Tryz.prog.underlying t with | some (.int k) => some k | _ => none)) = true:=by kernel_rfl
theorem pinned : (Rows.victimsGraceRow.pinned == Rows.victimsGraceRow.pinnedBy) = true:=by kernel_rfl
theorem veiled : (Rows.victimsGraceRow.veiled == (Tryz.f5.params.toList ++ Rows.victimsGraceSpec.plain.varTypes Tryz.prog ++ Tryz.f5.resultTypes.toList).any (Tryz.prog.veiledRec ·)) = true:=by kernel_rfl
theorem veiledFits : Rows.victimsGraceRow.veiledFits Tryz.prog Tryz.f5.params.toList (Tryz.f5.params.toList ++ Rows.victimsGraceSpec.plain.varTypes Tryz.prog ++ Tryz.f5.resultTypes.toList) = true:=by kernel_rfl
theorem closed0 : joinedFacts Tryz.prog 5 Tryz.f5 Rows.victimsGraceSpec Rows.victimsGraceRow = true:=by
 unfold joinedFacts
 exact (pf.band (pf.band (pf.band (pf.band (pf.band (pf.band (pf.band (pf.band (pf.band (pf.band (pf.band (pf.band (pf.band (pf.band (pf.band (pf.band (pf.band (pf.band (pf.band (pf.band (pf.band (pf.band (pf.band (pf.band (pf.band (pf.band (pf.band (pf.band (pf.band (pf.band (pf.band wf pf.laid) pf.maps) D3) tie) stops) pf.stops) knobs) pf.stopKnobs) inPlace) unfollowed) recurses) F2) maps) ifaces) mapsOut) loops) wideKeys) vars) results) ifacesOut) loopsOut) plainKeys) shortTexts) pf.stopsHeard) pf.mayEnter) lifted) make) kinds) pinned) veiled) veiledFits)
theorem closed : joinedFacts Tryz.pinned.checked.prog 5 Tryz.f5 Rows.victimsGraceSpec Rows.victimsGraceRow = true:=closed0
end Go.Proofs.YtkhnjoehenkmcaaGreat.victimsGrace.k
