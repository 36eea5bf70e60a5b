/-
  Facts of the program and of this law's row. Conditions: none.
-/
import Derived.Test.YtofmfbgkkbionaaPF
namespace Go.Proofs.Ytofmfbgkkbionaa.shareNodes.k
open Go
set_option maxRecDepth 100000
theorem named : Try.pinned.checked.prog.funcNamed (OpenClaim.func Rows.shareNodesRow) = some 3:=by kernel_rfl
theorem wf : Rows.shareNodesRow.wf (OpenSpec.ofChange Rows.shareNodesSpec) = true:=by kernel_rfl
theorem p6 : Try.f3.params.all (Try.prog.readableRec ·) = true:=by kernel_rfl
theorem tie : namedTie Try.prog Rows.shareNodesRow.named Rows.shareNodesSpec.vars = true:=by kernel_rfl
theorem stops : (Rows.shareNodesRow.stops == []) = true:=by kernel_rfl
theorem knobs : (Rows.shareNodesRow.knobs == []) = true:=by kernel_rfl
theorem inPlace : (Rows.shareNodesRow.inPlace == Try.prog.inPlace 3) = true:=by kernel_rfl
theorem unfollowed : (Rows.shareNodesRow.unfollowed == Try.prog.unfollowed 3) = true:=by kernel_rfl
theorem recurses : (Rows.shareNodesRow.recurses == Try.prog.recurses 3) = true:=by kernel_rfl
theorem rl : (Rows.shareNodesRow.named == Try.prog.varsNamed 3) = true:=by kernel_rfl
theorem maps : (Rows.shareNodesRow.maps == (Try.f3.params.toList ++ Rows.shareNodesSpec.plain.varTypes Try.prog).any (Try.prog.mapsRec ·)) = true:=by kernel_rfl
theorem ifaces : (Rows.shareNodesRow.ifaces == (Try.f3.params.toList ++ Rows.shareNodesSpec.plain.varTypes Try.prog).any (Try.prog.ifacesRec ·)) = true:=by kernel_rfl
theorem mapsOut : (Rows.shareNodesRow.mapsOut == Try.prog.mapsAmong Try.f3.resultTypes.toList) = true:=by kernel_rfl
theorem loops : (Rows.shareNodesRow.loops == (Try.f3.params.toList ++ Rows.shareNodesSpec.plain.varTypes Try.prog).any (Try.prog.loopsFrom ·)) = true:=by kernel_rfl
theorem wideKeys : (Rows.shareNodesRow.wideKeys == (Try.f3.params.toList ++ Rows.shareNodesSpec.plain.varTypes Try.prog ++ Try.f3.resultTypes.toList).any (Try.prog.wideKeysFrom ·)) = true:=by kernel_rfl
theorem vars : Rows.shareNodesSpec.vars.all (Try.prog.varReadable ·) = true:=by kernel_rfl
theorem results : Try.f3.resultTypes.all (fun t => Try.prog.readableRec t && decide (t < Try.prog.types.size)) = true:=by kernel_rfl
theorem ifacesOut : (Rows.shareNodesRow.ifacesOut == Try.f3.resultTypes.toList.any (Try.prog.ifacesRec ·)) = true:=by kernel_rfl
theorem loopsOut : (Rows.shareNodesRow.loopsOut == Try.f3.resultTypes.toList.any (Try.prog.loopsFrom ·)) = true:=by kernel_rfl
theorem plainKeys : (Rows.shareNodesRow.plainKeys == Try.prog.plainKeys) = true:=(congrArg (Rows.shareNodesRow.plainKeys == ·) pf.plainKeys).trans (by kernel_rfl)
theorem shortTexts : Rows.shareNodesRow.shortTexts.isNone = true:=by kernel_rfl
theorem lifted : (Rows.shareNodesRow.lifted == Try.prog.liftsFinal) = true:=(congrArg (Rows.shareNodesRow.lifted == ·) pf.lifts).trans (by kernel_rfl)
theorem make : (Try.prog.make == some Rows.shareNodesRow.make) = true:=(congrArg (· == some Rows.shareNodesRow.make) pf.make).trans (by kernel_rfl)
theorem kinds : (Rows.shareNodesRow.kinds == (if Rows.shareNodesRow.domain.isEmpty then [] else Try.f3.params.toList.map fun t => match Try.prog.underlying t with | some (.int k) => some k | _ => none)) = true:=by kernel_rfl
theorem pinned : (Rows.shareNodesRow.pinned == Rows.shareNodesRow.pinnedBy) = true:=by kernel_rfl
theorem veiled : (Rows.shareNodesRow.veiled == (Try.f3.params.toList ++ Rows.shareNodesSpec.plain.varTypes Try.prog ++ Try.f3.resultTypes.toList).any (Try.prog.veiledRec ·)) = true:=by kernel_rfl
theorem veiledFits : Rows.shareNodesRow.veiledFits Try.prog Try.f3.params.toList (Try.f3.params.toList ++ Rows.shareNodesSpec.plain.varTypes Try.prog ++ Try.f3.resultTypes.toList) = true:=by kernel_rfl
theorem closed0 : joinedFacts Try.prog 3 Try.f3 Rows.shareNodesSpec Rows.shareNodesRow = true:=by
 unfold joinedFacts
 exact (pf.band (pf.band (pf.band (pf.band (pf.band (pf.band (pf.band (pf.band (pf.band (pf.band (pf.band (pf.band (pf.band (pf.band (pf.band (pf.band (pf.band (pf.band (pf.band (pf.band (pf.band (pf.band (pf.band (pf.band (pf.band (pf.band (pf.band (pf.band (pf.band (pf.band (pf.band wf pf.laid) pf.maps) p6) tie) stops) pf.stops) knobs) pf.stopKnobs) inPlace) unfollowed) recurses) rl) maps) ifaces) mapsOut) loops) wideKeys) vars) results) ifacesOut) loopsOut) plainKeys) shortTexts) pf.stopsHeard) pf.mayEnter) lifted) make) kinds) pinned) veiled) veiledFits)
theorem closed : joinedFacts Try.pinned.checked.prog 3 Try.f3 Rows.shareNodesSpec Rows.shareNodesRow = true:=closed0
end Go.Proofs.Ytofmfbgkkbionaa.shareNodes.k
