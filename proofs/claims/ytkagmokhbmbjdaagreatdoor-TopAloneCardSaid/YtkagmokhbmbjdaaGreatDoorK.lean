/-
  Facts of the program and of this law's row. Conditions: none.
-/
import Derived.Test.YtkagmokhbmbjdaaGreatDoorPF
namespace Go.Proofs.YtkagmokhbmbjdaaGreatDoor.topAlone.k
open Go
set_option maxRecDepth 100000
theorem named:Tryz.pinned.checked.prog.funcNamed (OpenClaim.func Rows.topAloneRow)=some 6:=by kernel_rfl
theorem wf:Rows.topAloneRow.wf (OpenSpec.ofChange Rows.topAloneSpec)=true:=by kernel_rfl
theorem DL:Tryz.f6.params.all (Tryz.prog.readableRec ·)=true:=by kernel_rfl
theorem tie:namedTie Tryz.prog Rows.topAloneRow.named Rows.topAloneSpec.vars=true:=by kernel_rfl
theorem stops:(Rows.topAloneRow.stops == [])=true:=by kernel_rfl
theorem knobs:(Rows.topAloneRow.knobs == [])=true:=by kernel_rfl
theorem inPlace:(Rows.topAloneRow.inPlace == Tryz.prog.inPlace 6)=true:=by kernel_rfl
theorem unfollowed:(Rows.topAloneRow.unfollowed == Tryz.prog.unfollowed 6)=true:=by kernel_rfl
theorem recurses:(Rows.topAloneRow.recurses == Tryz.prog.recurses 6)=true:=by kernel_rfl
theorem Hf:(Rows.topAloneRow.named == Tryz.prog.varsNamed 6)=true:=by kernel_rfl
theorem maps:(Rows.topAloneRow.maps == (Tryz.f6.params.toList++Rows.topAloneSpec.plain.varTypes Tryz.prog).any (Tryz.prog.mapsRec ·))=true:=by kernel_rfl
theorem ifaces:(Rows.topAloneRow.ifaces == (Tryz.f6.params.toList++Rows.topAloneSpec.plain.varTypes Tryz.prog).any (Tryz.prog.ifacesRec ·))=true:=by kernel_rfl
theorem mapsOut:(Rows.topAloneRow.mapsOut == Tryz.prog.mapsAmong Tryz.f6.resultTypes.toList)=true:=by kernel_rfl
theorem loops:(Rows.topAloneRow.loops == (Tryz.f6.params.toList++Rows.topAloneSpec.plain.varTypes Tryz.prog).any (Tryz.prog.loopsFrom ·))=true:=by kernel_rfl
theorem wideKeys:(Rows.topAloneRow.wideKeys == (Tryz.f6.params.toList++Rows.topAloneSpec.plain.varTypes Tryz.prog++Tryz.f6.resultTypes.toList).any (Tryz.prog.wideKeysFrom ·))=true:=by kernel_rfl
theorem vars:Rows.topAloneSpec.vars.all (Tryz.prog.varReadable ·)=true:=by kernel_rfl
theorem results:Tryz.f6.resultTypes.all (λt=>Tryz.prog.readableRec t&&decide (t<Tryz.prog.types.size))=true:=by kernel_rfl
theorem ifacesOut:(Rows.topAloneRow.ifacesOut == Tryz.f6.resultTypes.toList.any (Tryz.prog.ifacesRec ·))=true:=by kernel_rfl
theorem loopsOut:(Rows.topAloneRow.loopsOut == Tryz.f6.resultTypes.toList.any (Tryz.prog.loopsFrom ·))=true:=by kernel_rfl
theorem plainKeys:(Rows.topAloneRow.plainKeys == Tryz.prog.plainKeys)=true:=(congrArg (Rows.topAloneRow.plainKeys == ·) pf.plainKeys).trans (by kernel_rfl)
theorem shortTexts:Rows.topAloneRow.shortTexts.isNone=true:=by kernel_rfl
theorem lifted:(Rows.topAloneRow.lifted == Tryz.prog.liftsFinal)=true:=(congrArg (Rows.topAloneRow.lifted == ·) pf.lifts).trans (by kernel_rfl)
theorem make:(Tryz.prog.make == some Rows.topAloneRow.make)=true:=(congrArg (· == some Rows.topAloneRow.make) pf.make).trans (by kernel_rfl)
theorem kinds:(Rows.topAloneRow.kinds == (if Rows.topAloneRow.domain.isEmpty then[]else Tryz.f6.params.toList.map λt=>match Tryz.prog.underlying t with | some (.int k)=>some k | _=>none))=true:=by kernel_rfl
theorem pinned:(Rows.topAloneRow.pinned == Rows.topAloneRow.pinnedBy)=true:=by kernel_rfl
theorem veiled:(Rows.topAloneRow.veiled == (Tryz.f6.params.toList++Rows.topAloneSpec.plain.varTypes Tryz.prog++Tryz.f6.resultTypes.toList).any (Tryz.prog.veiledRec ·))=true:=by kernel_rfl
theorem veiledFits:Rows.topAloneRow.veiledFits Tryz.prog Tryz.f6.params.toList (Tryz.f6.params.toList++Rows.topAloneSpec.plain.varTypes Tryz.prog++Tryz.f6.resultTypes.toList)=true:=by kernel_rfl
theorem closed0:joinedFacts Tryz.prog 6 Tryz.f6 Rows.topAloneSpec Rows.topAloneRow=true:=by unfold joinedFacts;exact(pf.band (pf.band (pf.band (pf.band (pf.band (pf.band (pf.band (pf.band (pf.band (pf.band (pf.band (pf.band (pf.band (pf.band (pf.band (pf.band (pf.band (pf.band (pf.band (pf.band (pf.band (pf.band (pf.band (pf.band (pf.band (pf.band (pf.band (pf.band (pf.band (pf.band (pf.band wf pf.laid) pf.maps) DL) tie) stops) pf.stops) knobs) pf.stopKnobs) inPlace) unfollowed) recurses) Hf) maps) ifaces) mapsOut) loops) wideKeys) vars) results) ifacesOut) loopsOut) plainKeys) shortTexts) pf.stopsHeard) pf.mayEnter) lifted) make) kinds) pinned) veiled) veiledFits)
theorem closed:joinedFacts Tryz.pinned.checked.prog 6 Tryz.f6 Rows.topAloneSpec Rows.topAloneRow=true:=closed0
end Go.Proofs.YtkagmokhbmbjdaaGreatDoor.topAlone.k
