/-
  Facts of the program and of this law's row. Conditions: none.
-/
import Derived.Test.YtppllkbjijfocaaGreatDoorPF
namespace Go.Proofs.YtppllkbjijfocaaGreatDoor.topCounts.k
open Go
set_option maxRecDepth 100000
theorem named:Tryz.pinned.checked.prog.funcNamed (OpenClaim.func Rows.topCountsRow)=some 4:=by kernel_rfl
theorem wf:Rows.topCountsRow.wf (OpenSpec.ofChange Rows.topCountsSpec)=true:=by kernel_rfl
theorem FA:Tryz.f4.params.all (Tryz.prog.readableRec ·)=true:=by kernel_rfl
theorem tie:namedTie Tryz.prog Rows.topCountsRow.named Rows.topCountsSpec.vars=true:=by kernel_rfl
theorem stops:(Rows.topCountsRow.stops == [])=true:=by kernel_rfl
theorem knobs:(Rows.topCountsRow.knobs == [])=true:=by kernel_rfl
theorem inPlace:(Rows.topCountsRow.inPlace == Tryz.prog.inPlace 4)=true:=by kernel_rfl
theorem unfollowed:(Rows.topCountsRow.unfollowed == Tryz.prog.unfollowed 4)=true:=by kernel_rfl
theorem recurses:(Rows.topCountsRow.recurses == Tryz.prog.recurses 4)=true:=by kernel_rfl
theorem H1:(Rows.topCountsRow.named == Tryz.prog.varsNamed 4)=true:=by kernel_rfl
theorem maps:(Rows.topCountsRow.maps == (Tryz.f4.params.toList++Rows.topCountsSpec.plain.varTypes Tryz.prog).any (Tryz.prog.mapsRec ·))=true:=by kernel_rfl
theorem ifaces:(Rows.topCountsRow.ifaces == (Tryz.f4.params.toList++Rows.topCountsSpec.plain.varTypes Tryz.prog).any (Tryz.prog.ifacesRec ·))=true:=by kernel_rfl
theorem mapsOut:(Rows.topCountsRow.mapsOut == Tryz.prog.mapsAmong Tryz.f4.resultTypes.toList)=true:=by kernel_rfl
theorem loops:(Rows.topCountsRow.loops == (Tryz.f4.params.toList++Rows.topCountsSpec.plain.varTypes Tryz.prog).any (Tryz.prog.loopsFrom ·))=true:=by kernel_rfl
theorem wideKeys:(Rows.topCountsRow.wideKeys == (Tryz.f4.params.toList++Rows.topCountsSpec.plain.varTypes Tryz.prog++Tryz.f4.resultTypes.toList).any (Tryz.prog.wideKeysFrom ·))=true:=by kernel_rfl
theorem vars:Rows.topCountsSpec.vars.all (Tryz.prog.varReadable ·)=true:=by kernel_rfl
theorem results:Tryz.f4.resultTypes.all (λt=>Tryz.prog.readableRec t&&decide (t<Tryz.prog.types.size))=true:=by kernel_rfl
theorem ifacesOut:(Rows.topCountsRow.ifacesOut == Tryz.f4.resultTypes.toList.any (Tryz.prog.ifacesRec ·))=true:=by kernel_rfl
theorem loopsOut:(Rows.topCountsRow.loopsOut == Tryz.f4.resultTypes.toList.any (Tryz.prog.loopsFrom ·))=true:=by kernel_rfl
theorem plainKeys:(Rows.topCountsRow.plainKeys == Tryz.prog.plainKeys)=true:=(congrArg (Rows.topCountsRow.plainKeys == ·) pf.plainKeys).trans (by kernel_rfl)
theorem shortTexts:Rows.topCountsRow.shortTexts.isNone=true:=by kernel_rfl
theorem lifted:(Rows.topCountsRow.lifted == Tryz.prog.liftsFinal)=true:=(congrArg (Rows.topCountsRow.lifted == ·) pf.lifts).trans (by kernel_rfl)
theorem make:(Tryz.prog.make == some Rows.topCountsRow.make)=true:=(congrArg (· == some Rows.topCountsRow.make) pf.make).trans (by kernel_rfl)
theorem kinds:(Rows.topCountsRow.kinds == (if Rows.topCountsRow.domain.isEmpty then[]else Tryz.f4.params.toList.map λt=>match Tryz.prog.underlying t with | some (.int k)=>some k | _=>none))=true:=by kernel_rfl
theorem pinned:(Rows.topCountsRow.pinned == Rows.topCountsRow.pinnedBy)=true:=by kernel_rfl
theorem veiled:(Rows.topCountsRow.veiled == (Tryz.f4.params.toList++Rows.topCountsSpec.plain.varTypes Tryz.prog++Tryz.f4.resultTypes.toList).any (Tryz.prog.veiledRec ·))=true:=by kernel_rfl
theorem veiledFits:Rows.topCountsRow.veiledFits Tryz.prog Tryz.f4.params.toList (Tryz.f4.params.toList++Rows.topCountsSpec.plain.varTypes Tryz.prog++Tryz.f4.resultTypes.toList)=true:=by kernel_rfl
theorem Xw:joinedFacts Tryz.prog 4 Tryz.f4 Rows.topCountsSpec Rows.topCountsRow=true:=by unfold joinedFacts;exact(pf.LH (pf.LH (pf.LH (pf.LH (pf.LH (pf.LH (pf.LH (pf.LH (pf.LH (pf.LH (pf.LH (pf.LH (pf.LH (pf.LH (pf.LH (pf.LH (pf.LH (pf.LH (pf.LH (pf.LH (pf.LH (pf.LH (pf.LH (pf.LH (pf.LH (pf.LH (pf.LH (pf.LH (pf.LH (pf.LH (pf.LH wf pf.laid) pf.maps) FA) tie) stops) pf.stops) knobs) pf.stopKnobs) inPlace) unfollowed) recurses) H1) maps) ifaces) mapsOut) loops) wideKeys) vars) results) ifacesOut) loopsOut) plainKeys) shortTexts) pf.stopsHeard) pf.mayEnter) lifted) make) kinds) pinned) veiled) veiledFits)
theorem closed:joinedFacts Tryz.pinned.checked.prog 4 Tryz.f4 Rows.topCountsSpec Rows.topCountsRow=true:=Xw
end Go.Proofs.YtppllkbjijfocaaGreatDoor.topCounts.k
