/-
  Facts of the program and of this law's row. Conditions: none.
-/
import Derived.Test.YtkhnjoehenkmcaaGreatPF
namespace Go.Proofs.YtkhnjoehenkmcaaGreat.victimsKill.k
open Go
set_option maxRecDepth 100000
theorem named : Tryz.pinned.checked.prog.funcNamed (OpenClaim.func Rows.victimsKillRow) = some 6:=by kernel_rfl
theorem wf : Rows.victimsKillRow.wf (OpenSpec.ofChange Rows.victimsKillSpec) = true:=by kernel_rfl
theorem FC : Tryz.f6.params.all (Tryz.prog.readableRec ·) = true:=by kernel_rfl
theorem tie : namedTie Tryz.prog Rows.victimsKillRow.named Rows.victimsKillSpec.vars = true:=by kernel_rfl
theorem stops : (Rows.victimsKillRow.stops == []) = true:=by kernel_rfl
theorem knobs : (Rows.victimsKillRow.knobs == []) = true:=by kernel_rfl
theorem inPlace : (Rows.victimsKillRow.inPlace == Tryz.prog.inPlace 6) = true:=by kernel_rfl
theorem unfollowed : (Rows.victimsKillRow.unfollowed == Tryz.prog.unfollowed 6) = true:=by kernel_rfl
theorem recurses : (Rows.victimsKillRow.recurses == Tryz.prog.recurses 6) = true:=by kernel_rfl
theorem GV : (Rows.victimsKillRow.named == Tryz.prog.varsNamed 6) = true:=by kernel_rfl
theorem maps : (Rows.victimsKillRow.maps == (Tryz.f6.params.toList ++ Rows.victimsKillSpec.plain.varTypes Tryz.prog).any (Tryz.prog.mapsRec ·)) = true:=by kernel_rfl
theorem ifaces : (Rows.victimsKillRow.ifaces == (Tryz.f6.params.toList ++ Rows.victimsKillSpec.plain.varTypes Tryz.prog).any (Tryz.prog.ifacesRec ·)) = true:=by kernel_rfl
theorem mapsOut : (Rows.victimsKillRow.mapsOut == Tryz.prog.mapsAmong Tryz.f6.resultTypes.toList) = true:=by kernel_rfl
theorem loops : (Rows.victimsKillRow.loops == (Tryz.f6.params.toList ++ Rows.victimsKillSpec.plain.varTypes Tryz.prog).any (Tryz.prog.loopsFrom ·)) = true:=by kernel_rfl
theorem wideKeys : (Rows.victimsKillRow.wideKeys == (Tryz.f6.params.toList ++ Rows.victimsKillSpec.plain.varTypes Tryz.prog ++ Tryz.f6.resultTypes.toList).any (Tryz.prog.wideKeysFrom ·)) = true:=by kernel_rfl
theorem vars : Rows.victimsKillSpec.vars.all (Tryz.prog.varReadable ·) = true:=by kernel_rfl
theorem results : Tryz.f6.resultTypes.all (fun t => Tryz.prog.readableRec t && decide (t < Tryz.prog.types.size)) = true:=by kernel_rfl
theorem ifacesOut : (Rows.victimsKillRow.ifacesOut == Tryz.f6.resultTypes.toList.any (Tryz.prog.ifacesRec ·)) = true:=by kernel_rfl
theorem loopsOut : (Rows.victimsKillRow.loopsOut == Tryz.f6.resultTypes.toList.any (Tryz.prog.loopsFrom ·)) = true:=by kernel_rfl
theorem plainKeys : (Rows.victimsKillRow.plainKeys == Tryz.prog.plainKeys) = true:=(congrArg (Rows.victimsKillRow.plainKeys == ·) pf.plainKeys).trans (by kernel_rfl)
theorem shortTexts : Rows.victimsKillRow.shortTexts.isNone = true:=by kernel_rfl
theorem lifted : (Rows.victimsKillRow.lifted == Tryz.prog.liftsFinal) = true:=(congrArg (Rows.victimsKillRow.lifted == ·) pf.lifts).trans (by kernel_rfl)
theorem make : (Tryz.prog.make == some Rows.victimsKillRow.make) = true:=(congrArg (· == some Rows.victimsKillRow.make) pf.make).trans (by kernel_rfl)
theorem kinds : (Rows.victimsKillRow.kinds == (if Rows.victimsKillRow.domain.isEmpty then [] else Tryz.f6.params.toList.map fun t => match Tryz.prog.underlying t with | some (.int k) => some k | _ => none)) = true:=by kernel_rfl
theorem pinned : (Rows.victimsKillRow.pinned == Rows.victimsKillRow.pinnedBy) = true:=by kernel_rfl
theorem veiled : (Rows.victimsKillRow.veiled == (Tryz.f6.params.toList ++ Rows.victimsKillSpec.plain.varTypes Tryz.prog ++ Tryz.f6.resultTypes.toList).any (Tryz.prog.veiledRec ·)) = true:=by kernel_rfl
theorem veiledFits : Rows.victimsKillRow.veiledFits Tryz.prog Tryz.f6.params.toList (Tryz.f6.params.toList ++ Rows.victimsKillSpec.plain.varTypes Tryz.prog ++ Tryz.f6.resultTypes.toList) = true:=by kernel_rfl
theorem closed0 : joinedFacts Tryz.prog 6 Tryz.f6 Rows.victimsKillSpec Rows.victimsKillRow = true:=by
 unfold joinedFacts
 exact (pf.band (pf.band (pf.band (pf.band (pf.band (pf.band (pf.band (pf.band (pf.band (pf.band (pf.band (pf.band (pf.band (pf.band (pf.band (pf.band (pf.band (pf.band (pf.band (pf.band (pf.band (pf.band (pf.band (pf.band (pf.band (pf.band (pf.band (pf.band (pf.band (pf.band (pf.band wf pf.laid) pf.maps) FC) tie) stops) pf.stops) knobs) pf.stopKnobs) inPlace) unfollowed) recurses) GV) maps) ifaces) mapsOut) loops) wideKeys) vars) results) ifacesOut) loopsOut) plainKeys) shortTexts) pf.stopsHeard) pf.mayEnter) lifted) make) kinds) pinned) veiled) veiledFits)
theorem closed : joinedFacts Tryz.pinned.checked.prog 6 Tryz.f6 Rows.victimsKillSpec Rows.victimsKillRow = true:=closed0
end Go.Proofs.YtkhnjoehenkmcaaGreat.victimsKill.k
