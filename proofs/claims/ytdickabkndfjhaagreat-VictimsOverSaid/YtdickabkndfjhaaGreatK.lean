/-
  Facts of the program and of this law's row. Conditions: none.
-/
import Derived.Test.YtdickabkndfjhaaGreatPF
namespace Go.Proofs.YtdickabkndfjhaaGreat.victimsOver.k
open Go
set_option maxRecDepth 100000
theorem named:Tryz.pinned.checked.prog.funcNamed (OpenClaim.func Rows.victimsOverRow)=some 4:=by kernel_rfl
theorem wf:Rows.victimsOverRow.wf (OpenSpec.ofChange Rows.victimsOverSpec)=true:=by kernel_rfl
theorem HV:Tryz.f4.params.all (Tryz.prog.readableRec ·)=true:=by kernel_rfl
theorem tie:namedTie Tryz.prog Rows.victimsOverRow.named Rows.victimsOverSpec.vars=true:=by kernel_rfl
theorem stops:(Rows.victimsOverRow.stops == [])=true:=by kernel_rfl
theorem knobs:(Rows.victimsOverRow.knobs == [])=true:=by kernel_rfl
theorem inPlace:(Rows.victimsOverRow.inPlace == Tryz.prog.inPlace 4)=true:=by kernel_rfl
theorem unfollowed:(Rows.victimsOverRow.unfollowed == Tryz.prog.unfollowed 4)=true:=by kernel_rfl
theorem recurses:(Rows.victimsOverRow.recurses == Tryz.prog.recurses 4)=true:=by kernel_rfl
theorem KN:(Rows.victimsOverRow.named == Tryz.prog.varsNamed 4)=true:=by kernel_rfl
theorem maps:(Rows.victimsOverRow.maps == (Tryz.f4.params.toList++Rows.victimsOverSpec.plain.varTypes Tryz.prog).any (Tryz.prog.mapsRec ·))=true:=by kernel_rfl
theorem ifaces:(Rows.victimsOverRow.ifaces == (Tryz.f4.params.toList++Rows.victimsOverSpec.plain.varTypes Tryz.prog).any (Tryz.prog.ifacesRec ·))=true:=by kernel_rfl
theorem mapsOut:(Rows.victimsOverRow.mapsOut == Tryz.prog.mapsAmong Tryz.f4.resultTypes.toList)=true:=by kernel_rfl
theorem loops:(Rows.victimsOverRow.loops == (Tryz.f4.params.toList++Rows.victimsOverSpec.plain.varTypes Tryz.prog).any (Tryz.prog.loopsFrom ·))=true:=by kernel_rfl
theorem wideKeys:(Rows.victimsOverRow.wideKeys == (Tryz.f4.params.toList++Rows.victimsOverSpec.plain.varTypes Tryz.prog++Tryz.f4.resultTypes.toList).any (Tryz.prog.wideKeysFrom ·))=true:=by kernel_rfl
theorem vars:Rows.victimsOverSpec.vars.all (Tryz.prog.varReadable ·)=true:=by kernel_rfl
theorem results:Tryz.f4.resultTypes.all (λt=>Tryz.prog.readableRec t&&decide (t<Tryz.prog.types.size))=true:=by kernel_rfl
theorem ifacesOut:(Rows.victimsOverRow.ifacesOut == Tryz.f4.resultTypes.toList.any (Tryz.prog.ifacesRec ·))=true:=by kernel_rfl
theorem loopsOut:(Rows.victimsOverRow.loopsOut == Tryz.f4.resultTypes.toList.any (Tryz.prog.loopsFrom ·))=true:=by kernel_rfl
theorem plainKeys:(Rows.victimsOverRow.plainKeys == Tryz.prog.plainKeys)=true:=(congrArg (Rows.victimsOverRow.plainKeys == ·) pf.plainKeys).trans (by kernel_rfl)
theorem shortTexts:Rows.victimsOverRow.shortTexts.isNone=true:=by kernel_rfl
theorem lifted:(Rows.victimsOverRow.lifted == Tryz.prog.liftsFinal)=true:=(congrArg (Rows.victimsOverRow.lifted == ·) pf.lifts).trans (by kernel_rfl)
theorem make:(Tryz.prog.make == some Rows.victimsOverRow.make)=true:=(congrArg (· == some Rows.victimsOverRow.make) pf.make).trans (by kernel_rfl)
theorem kinds:(Rows.victimsOverRow.kinds == (if Rows.victimsOverRow.domain.isEmpty then[]else Tryz.f4.params.toList.map λt=>match Tryz.prog.underlying t with | some (.int k)=>some k | _=>none))=true:=by kernel_rfl
theorem pinned:(Rows.victimsOverRow.pinned == Rows.victimsOverRow.pinnedBy)=true:=by kernel_rfl
theorem veiled:(Rows.victimsOverRow.veiled == (Tryz.f4.params.toList++Rows.victimsOverSpec.plain.varTypes Tryz.prog++Tryz.f4.resultTypes.toList).any (Tryz.prog.veiledRec ·))=true:=by kernel_rfl
theorem veiledFits:Rows.victimsOverRow.veiledFits Tryz.prog Tryz.f4.params.toList (Tryz.f4.params.toList++Rows.victimsOverSpec.plain.varTypes Tryz.prog++Tryz.f4.resultTypes.toList)=true:=by kernel_rfl
theorem aaE:joinedFacts Tryz.prog 4 Tryz.f4 Rows.victimsOverSpec Rows.victimsOverRow=true:=by unfold joinedFacts;exact(pf.Ou (pf.Ou (pf.Ou (pf.Ou (pf.Ou (pf.Ou (pf.Ou (pf.Ou (pf.Ou (pf.Ou (pf.Ou (pf.Ou (pf.Ou (pf.Ou (pf.Ou (pf.Ou (pf.Ou (pf.Ou (pf.Ou (pf.Ou (pf.Ou (pf.Ou (pf.Ou (pf.Ou (pf.Ou (pf.Ou (pf.Ou (pf.Ou (pf.Ou (pf.Ou (pf.Ou wf pf.laid) pf.maps) HV) tie) stops) pf.stops) knobs) pf.stopKnobs) inPlace) unfollowed) recurses) KN) maps) ifaces) mapsOut) loops) wideKeys) vars) results) ifacesOut) loopsOut) plainKeys) shortTexts) pf.stopsHeard) pf.mayEnter) lifted) make) kinds) pinned) veiled) veiledFits)
theorem closed:joinedFacts Tryz.pinned.checked.prog 4 Tryz.f4 Rows.victimsOverSpec Rows.victimsOverRow=true:=aaE
end Go.Proofs.YtdickabkndfjhaaGreat.victimsOver.k
