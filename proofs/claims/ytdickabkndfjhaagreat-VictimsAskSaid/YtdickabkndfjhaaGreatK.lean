/-
  Facts of the program and of this law's row. Conditions: none.
-/
import Derived.Test.YtdickabkndfjhaaGreatPF
namespace Go.Proofs.YtdickabkndfjhaaGreat.victimsAsk.k
open Go
set_option maxRecDepth 100000
theorem named:Tryz.pinned.checked.prog.funcNamed (OpenClaim.func Rows.victimsAskRow)=some 3:=by kernel_rfl
theorem wf:Rows.victimsAskRow.wf (OpenSpec.ofChange Rows.victimsAskSpec)=true:=by kernel_rfl
theorem Ip:Tryz.f3.params.all (Tryz.prog.readableRec ·)=true:=by kernel_rfl
theorem tie:namedTie Tryz.prog Rows.victimsAskRow.named Rows.victimsAskSpec.vars=true:=by kernel_rfl
theorem stops:(Rows.victimsAskRow.stops == [])=true:=by kernel_rfl
theorem knobs:(Rows.victimsAskRow.knobs == [])=true:=by kernel_rfl
theorem inPlace:(Rows.victimsAskRow.inPlace == Tryz.prog.inPlace 3)=true:=by kernel_rfl
theorem unfollowed:(Rows.victimsAskRow.unfollowed == Tryz.prog.unfollowed 3)=true:=by kernel_rfl
theorem recurses:(Rows.victimsAskRow.recurses == Tryz.prog.recurses 3)=true:=by kernel_rfl
theorem KN:(Rows.victimsAskRow.named == Tryz.prog.varsNamed 3)=true:=by kernel_rfl
theorem maps:(Rows.victimsAskRow.maps == (Tryz.f3.params.toList++Rows.victimsAskSpec.plain.varTypes Tryz.prog).any (Tryz.prog.mapsRec ·))=true:=by kernel_rfl
theorem ifaces:(Rows.victimsAskRow.ifaces == (Tryz.f3.params.toList++Rows.victimsAskSpec.plain.varTypes Tryz.prog).any (Tryz.prog.ifacesRec ·))=true:=by kernel_rfl
theorem mapsOut:(Rows.victimsAskRow.mapsOut == Tryz.prog.mapsAmong Tryz.f3.resultTypes.toList)=true:=by kernel_rfl
theorem loops:(Rows.victimsAskRow.loops == (Tryz.f3.params.toList++Rows.victimsAskSpec.plain.varTypes Tryz.prog).any (Tryz.prog.loopsFrom ·))=true:=by kernel_rfl
theorem wideKeys:(Rows.victimsAskRow.wideKeys == (Tryz.f3.params.toList++Rows.victimsAskSpec.plain.varTypes Tryz.prog++Tryz.f3.resultTypes.toList).any (Tryz.prog.wideKeysFrom ·))=true:=by kernel_rfl
theorem vars:Rows.victimsAskSpec.vars.all (Tryz.prog.varReadable ·)=true:=by kernel_rfl
theorem results:Tryz.f3.resultTypes.all (λt=>Tryz.prog.readableRec t&&decide (t<Tryz.prog.types.size))=true:=by kernel_rfl
theorem ifacesOut:(Rows.victimsAskRow.ifacesOut == Tryz.f3.resultTypes.toList.any (Tryz.prog.ifacesRec ·))=true:=by kernel_rfl
theorem loopsOut:(Rows.victimsAskRow.loopsOut == Tryz.f3.resultTypes.toList.any (Tryz.prog.loopsFrom ·))=true:=by kernel_rfl
theorem plainKeys:(Rows.victimsAskRow.plainKeys == Tryz.prog.plainKeys)=true:=(congrArg (Rows.victimsAskRow.plainKeys == ·) pf.plainKeys).trans (by kernel_rfl)
theorem shortTexts:Rows.victimsAskRow.shortTexts.isNone=true:=by kernel_rfl
theorem lifted:(Rows.victimsAskRow.lifted == Tryz.prog.liftsFinal)=true:=(congrArg (Rows.victimsAskRow.lifted == ·) pf.lifts).trans (by kernel_rfl)
theorem make:(Tryz.prog.make == some Rows.victimsAskRow.make)=true:=(congrArg (· == some Rows.victimsAskRow.make) pf.make).trans (by kernel_rfl)
theorem kinds:(Rows.victimsAskRow.kinds == (if Rows.victimsAskRow.domain.isEmpty then[]else Tryz.f3.params.toList.map λt=>match Tryz.prog.underlying t with | some (.int k)=>some k | _=>none))=true:=by kernel_rfl
theorem pinned:(Rows.victimsAskRow.pinned == Rows.victimsAskRow.pinnedBy)=true:=by kernel_rfl
theorem veiled:(Rows.victimsAskRow.veiled == (Tryz.f3.params.toList++Rows.victimsAskSpec.plain.varTypes Tryz.prog++Tryz.f3.resultTypes.toList).any (Tryz.prog.veiledRec ·))=true:=by kernel_rfl
theorem veiledFits:Rows.victimsAskRow.veiledFits Tryz.prog Tryz.f3.params.toList (Tryz.f3.params.toList++Rows.victimsAskSpec.plain.varTypes Tryz.prog++Tryz.f3.resultTypes.toList)=true:=by kernel_rfl
theorem aaT:joinedFacts Tryz.prog 3 Tryz.f3 Rows.victimsAskSpec Rows.victimsAskRow=true:=by unfold joinedFacts;exact(pf.Oy (pf.Oy (pf.Oy (pf.Oy (pf.Oy (pf.Oy (pf.Oy (pf.Oy (pf.Oy (pf.Oy (pf.Oy (pf.Oy (pf.Oy (pf.Oy (pf.Oy (pf.Oy (pf.Oy (pf.Oy (pf.Oy (pf.Oy (pf.Oy (pf.Oy (pf.Oy (pf.Oy (pf.Oy (pf.Oy (pf.Oy (pf.Oy (pf.Oy (pf.Oy (pf.Oy wf pf.laid) pf.maps) Ip) tie) stops) pf.stops) knobs) pf.stopKnobs) inPlace) unfollowed) recurses) KN) maps) ifaces) mapsOut) loops) wideKeys) vars) results) ifacesOut) loopsOut) plainKeys) shortTexts) pf.stopsHeard) pf.mayEnter) lifted) make) kinds) pinned) veiled) veiledFits)
theorem closed:joinedFacts Tryz.pinned.checked.prog 3 Tryz.f3 Rows.victimsAskSpec Rows.victimsAskRow=true:=aaT
end Go.Proofs.YtdickabkndfjhaaGreat.victimsAsk.k
