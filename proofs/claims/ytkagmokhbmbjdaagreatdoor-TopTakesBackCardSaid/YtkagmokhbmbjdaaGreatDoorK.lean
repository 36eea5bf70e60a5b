/-
  Facts of the program and of this law's row. Conditions: none.
-/
import Derived.Test.YtkagmokhbmbjdaaGreatDoorPF
namespace Go.Proofs.YtkagmokhbmbjdaaGreatDoor.topTakesBack.k
open Go
set_option maxRecDepth 100000
theorem named:Tryz.pinned.checked.prog.funcNamed (OpenClaim.func Rows.topTakesBackRow)=some 3:=by kernel_rfl
theorem wf:Rows.topTakesBackRow.wf (OpenSpec.ofChange Rows.topTakesBackSpec)=true:=by kernel_rfl
theorem Hk:Tryz.f3.params.all (Tryz.prog.readableRec ·)=true:=by kernel_rfl
theorem tie:namedTie Tryz.prog Rows.topTakesBackRow.named Rows.topTakesBackSpec.vars=true:=by kernel_rfl
theorem stops:(Rows.topTakesBackRow.stops == [])=true:=by kernel_rfl
theorem knobs:(Rows.topTakesBackRow.knobs == [])=true:=by kernel_rfl
theorem inPlace:(Rows.topTakesBackRow.inPlace == Tryz.prog.inPlace 3)=true:=by kernel_rfl
theorem unfollowed:(Rows.topTakesBackRow.unfollowed == Tryz.prog.unfollowed 3)=true:=by kernel_rfl
theorem recurses:(Rows.topTakesBackRow.recurses == Tryz.prog.recurses 3)=true:=by kernel_rfl
theorem Ka:(Rows.topTakesBackRow.named == Tryz.prog.varsNamed 3)=true:=by kernel_rfl
theorem maps:(Rows.topTakesBackRow.maps == (Tryz.f3.params.toList++Rows.topTakesBackSpec.plain.varTypes Tryz.prog).any (Tryz.prog.mapsRec ·))=true:=by kernel_rfl
theorem ifaces:(Rows.topTakesBackRow.ifaces == (Tryz.f3.params.toList++Rows.topTakesBackSpec.plain.varTypes Tryz.prog).any (Tryz.prog.ifacesRec ·))=true:=by kernel_rfl
theorem mapsOut:(Rows.topTakesBackRow.mapsOut == Tryz.prog.mapsAmong Tryz.f3.resultTypes.toList)=true:=by kernel_rfl
theorem loops:(Rows.topTakesBackRow.loops == (Tryz.f3.params.toList++Rows.topTakesBackSpec.plain.varTypes Tryz.prog).any (Tryz.prog.loopsFrom ·))=true:=by kernel_rfl
theorem wideKeys:(Rows.topTakesBackRow.wideKeys == (Tryz.f3.params.toList++Rows.topTakesBackSpec.plain.varTypes Tryz.prog++Tryz.f3.resultTypes.toList).any (Tryz.prog.wideKeysFrom ·))=true:=by kernel_rfl
theorem vars:Rows.topTakesBackSpec.vars.all (Tryz.prog.varReadable ·)=true:=by kernel_rfl
theorem results:Tryz.f3.resultTypes.all (λt=>Tryz.prog.readableRec t&&decide (t<Tryz.prog.types.size))=true:=by kernel_rfl
theorem ifacesOut:(Rows.topTakesBackRow.ifacesOut == Tryz.f3.resultTypes.toList.any (Tryz.prog.ifacesRec ·))=true:=by kernel_rfl
theorem loopsOut:(Rows.topTakesBackRow.loopsOut == Tryz.f3.resultTypes.toList.any (Tryz.prog.loopsFrom ·))=true:=by kernel_rfl
theorem plainKeys:(Rows.topTakesBackRow.plainKeys == Tryz.prog.plainKeys)=true:=(congrArg (Rows.topTakesBackRow.plainKeys == ·) pf.plainKeys).trans (by kernel_rfl)
theorem shortTexts:Rows.topTakesBackRow.shortTexts.isNone=true:=by kernel_rfl
theorem lifted:(Rows.topTakesBackRow.lifted == Tryz.prog.liftsFinal)=true:=(congrArg (Rows.topTakesBackRow.lifted == ·) pf.lifts).trans (by kernel_rfl)
theorem make:(Tryz.prog.make == some Rows.topTakesBackRow.make)=true:=(congrArg (· == some Rows.topTakesBackRow.make) pf.make).trans (by kernel_rfl)
theorem kinds:(Rows.topTakesBackRow.kinds == (if Rows.topTakesBackRow.domain.isEmpty then[]else Tryz.f3.params.toList.map λt=>match Tryz.prog.underlying t with | some (.int k)=>some k | _=>none))=true:=by kernel_rfl
theorem pinned:(Rows.topTakesBackRow.pinned == Rows.topTakesBackRow.pinnedBy)=true:=by kernel_rfl
theorem veiled:(Rows.topTakesBackRow.veiled == (Tryz.f3.params.toList++Rows.topTakesBackSpec.plain.varTypes Tryz.prog++Tryz.f3.resultTypes.toList).any (Tryz.prog.veiledRec ·))=true:=by kernel_rfl
theorem veiledFits:Rows.topTakesBackRow.veiledFits Tryz.prog Tryz.f3.params.toList (Tryz.f3.params.toList++Rows.topTakesBackSpec.plain.varTypes Tryz.prog++Tryz.f3.resultTypes.toList)=true:=by kernel_rfl
theorem closed0:joinedFacts Tryz.prog 3 Tryz.f3 Rows.topTakesBackSpec Rows.topTakesBackRow=true:=by unfold joinedFacts;exact(pf.band (pf.band (pf.band (pf.band (pf.band (pf.band (pf.band (pf.band (pf.band (pf.band (pf.band (pf.band (pf.band (pf.band (pf.band (pf.band (pf.band (pf.band (pf.band (pf.band (pf.band (pf.band (pf.band (pf.band (pf.band (pf.band (pf.band (pf.band (pf.band (pf.band (pf.band wf pf.laid) pf.maps) Hk) tie) stops) pf.stops) knobs) pf.stopKnobs) inPlace) unfollowed) recurses) Ka) maps) ifaces) mapsOut) loops) wideKeys) vars) results) ifacesOut) loopsOut) plainKeys) shortTexts) pf.stopsHeard) pf.mayEnter) lifted) make) kinds) pinned) veiled) veiledFits)
theorem closed:joinedFacts Tryz.pinned.checked.prog 3 Tryz.f3 Rows.topTakesBackSpec Rows.topTakesBackRow=true:=closed0
end Go.Proofs.YtkagmokhbmbjdaaGreatDoor.topTakesBack.k
