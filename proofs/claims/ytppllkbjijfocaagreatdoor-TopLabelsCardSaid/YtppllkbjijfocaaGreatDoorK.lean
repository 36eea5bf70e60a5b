/-
  Facts of the program and of this law's row. Conditions: none.
-/
import Derived.Test.YtppllkbjijfocaaGreatDoorPF
namespace Go.Proofs.YtppllkbjijfocaaGreatDoor.topLabels.k
open Go
set_option maxRecDepth 100000
theorem named:Tryz.pinned.checked.prog.funcNamed (OpenClaim.func Rows.topLabelsRow)=some 3:=by kernel_rfl
theorem wf:Rows.topLabelsRow.wf (OpenSpec.ofChange Rows.topLabelsSpec)=true:=by kernel_rfl
theorem E6:Tryz.f3.params.all (Tryz.prog.readableRec ·)=true:=by kernel_rfl
theorem tie:namedTie Tryz.prog Rows.topLabelsRow.named Rows.topLabelsSpec.vars=true:=by kernel_rfl
theorem stops:(Rows.topLabelsRow.stops == [])=true:=by kernel_rfl
theorem knobs:(Rows.topLabelsRow.knobs == [])=true:=by kernel_rfl
theorem inPlace:(Rows.topLabelsRow.inPlace == Tryz.prog.inPlace 3)=true:=by kernel_rfl
theorem unfollowed:(Rows.topLabelsRow.unfollowed == Tryz.prog.unfollowed 3)=true:=by kernel_rfl
theorem recurses:(Rows.topLabelsRow.recurses == Tryz.prog.recurses 3)=true:=by kernel_rfl
theorem Iv:(Rows.topLabelsRow.named == Tryz.prog.varsNamed 3)=true:=by kernel_rfl
theorem maps:(Rows.topLabelsRow.maps == (Tryz.f3.params.toList++Rows.topLabelsSpec.plain.varTypes Tryz.prog).any (Tryz.prog.mapsRec ·))=true:=by kernel_rfl
theorem ifaces:(Rows.topLabelsRow.ifaces == (Tryz.f3.params.toList++Rows.topLabelsSpec.plain.varTypes Tryz.prog).any (Tryz.prog.ifacesRec ·))=true:=by kernel_rfl
theorem mapsOut:(Rows.topLabelsRow.mapsOut == Tryz.prog.mapsAmong Tryz.f3.resultTypes.toList)=true:=by kernel_rfl
theorem loops:(Rows.topLabelsRow.loops == (Tryz.f3.params.toList++Rows.topLabelsSpec.plain.varTypes Tryz.prog).any (Tryz.prog.loopsFrom ·))=true:=by kernel_rfl
theorem wideKeys:(Rows.topLabelsRow.wideKeys == (Tryz.f3.params.toList++Rows.topLabelsSpec.plain.varTypes Tryz.prog++Tryz.f3.resultTypes.toList).any (Tryz.prog.wideKeysFrom ·))=true:=by kernel_rfl
theorem vars:Rows.topLabelsSpec.vars.all (Tryz.prog.varReadable ·)=true:=by kernel_rfl
theorem results:Tryz.f3.resultTypes.all (λt=>Tryz.prog.readableRec t&&decide (t<Tryz.prog.types.size))=true:=by kernel_rfl
theorem ifacesOut:(Rows.topLabelsRow.ifacesOut == Tryz.f3.resultTypes.toList.any (Tryz.prog.ifacesRec ·))=true:=by kernel_rfl
theorem loopsOut:(Rows.topLabelsRow.loopsOut == Tryz.f3.resultTypes.toList.any (Tryz.prog.loopsFrom ·))=true:=by kernel_rfl
theorem plainKeys:(Rows.topLabelsRow.plainKeys == Tryz.prog.plainKeys)=true:=(congrArg (Rows.topLabelsRow.plainKeys == ·) pf.plainKeys).trans (by kernel_rfl)
theorem shortTexts:Rows.topLabelsRow.shortTexts.isNone=true:=by kernel_rfl
theorem lifted:(Rows.topLabelsRow.lifted == Tryz.prog.liftsFinal)=true:=(congrArg (Rows.topLabelsRow.lifted == ·) pf.lifts).trans (by kernel_rfl)
theorem make:(Tryz.prog.make == some Rows.topLabelsRow.make)=true:=(congrArg (· == some Rows.topLabelsRow.make) pf.make).trans (by kernel_rfl)
theorem kinds:(Rows.topLabelsRow.kinds == (if Rows.topLabelsRow.domain.isEmpty then[]else Tryz.f3.params.toList.map λt=>match Tryz.prog.underlying t with | some (.int k)=>some k | _=>none))=true:=by kernel_rfl
theorem pinned:(Rows.topLabelsRow.pinned == Rows.topLabelsRow.pinnedBy)=true:=by kernel_rfl
theorem veiled:(Rows.topLabelsRow.veiled == (Tryz.f3.params.toList++Rows.topLabelsSpec.plain.varTypes Tryz.prog++Tryz.f3.resultTypes.toList).any (Tryz.prog.veiledRec ·))=true:=by kernel_rfl
theorem veiledFits:Rows.topLabelsRow.veiledFits Tryz.prog Tryz.f3.params.toList (Tryz.f3.params.toList++Rows.topLabelsSpec.plain.varTypes Tryz.prog++Tryz.f3.resultTypes.toList)=true:=by kernel_rfl
theorem Xq:joinedFacts Tryz.prog 3 Tryz.f3 Rows.topLabelsSpec Rows.topLabelsRow=true:=by unfold joinedFacts;exact(pf.LA (pf.LA (pf.LA (pf.LA (pf.LA (pf.LA (pf.LA (pf.LA (pf.LA (pf.LA (pf.LA (pf.LA (pf.LA (pf.LA (pf.LA (pf.LA (pf.LA (pf.LA (pf.LA (pf.LA (pf.LA (pf.LA (pf.LA (pf.LA (pf.LA (pf.LA (pf.LA (pf.LA (pf.LA (pf.LA (pf.LA wf pf.laid) pf.maps) E6) tie) stops) pf.stops) knobs) pf.stopKnobs) inPlace) unfollowed) recurses) Iv) maps) ifaces) mapsOut) loops) wideKeys) vars) results) ifacesOut) loopsOut) plainKeys) shortTexts) pf.stopsHeard) pf.mayEnter) lifted) make) kinds) pinned) veiled) veiledFits)
theorem closed:joinedFacts Tryz.pinned.checked.prog 3 Tryz.f3 Rows.topLabelsSpec Rows.topLabelsRow=true:=Xq
end Go.Proofs.YtppllkbjijfocaaGreatDoor.topLabels.k
