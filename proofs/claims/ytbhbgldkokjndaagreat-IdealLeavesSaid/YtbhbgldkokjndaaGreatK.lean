/-
  Facts of the program and of this law's row. Conditions: none.
-/
import Derived.Test.YtbhbgldkokjndaaGreatPF
namespace Go.Proofs.YtbhbgldkokjndaaGreat.idealLeaves.k
open Go
set_option maxRecDepth 100000
theorem named : Tryz.pinned.checked.prog.funcNamed (OpenClaim.func Rows.idealLeavesRow) = some 3:=by kernel_rfl
theorem wf : Rows.idealLeavesRow.wf (OpenSpec.ofChange Rows.idealLeavesSpec) = true:=by kernel_rfl
theorem xx : Tryz.f3.params.all (Tryz.prog.readableRec ·) = true:=by kernel_rfl
theorem tie : namedTie Tryz.prog Rows.idealLeavesRow.named Rows.idealLeavesSpec.vars = true:=by kernel_rfl
theorem stops : (Rows.idealLeavesRow.stops == []) = true:=by kernel_rfl
theorem knobs : (Rows.idealLeavesRow.knobs == []) = true:=by kernel_rfl
theorem inPlace : (Rows.idealLeavesRow.inPlace == Tryz.prog.inPlace 3) = true:=by kernel_rfl
theorem unfollowed : (Rows.idealLeavesRow.unfollowed == Tryz.prog.unfollowed 3) = true:=by kernel_rfl
theorem recurses : (Rows.idealLeavesRow.recurses == Tryz.prog.recurses 3) = true:=by kernel_rfl
theorem zW : (Rows.idealLeavesRow.named == Tryz.prog.varsNamed 3) = true:=by kernel_rfl
theorem maps : (Rows.idealLeavesRow.maps == (Tryz.f3.params.toList ++ Rows.idealLeavesSpec.plain.varTypes Tryz.prog).any (Tryz.prog.mapsRec ·)) = true:=by kernel_rfl
theorem ifaces : (Rows.idealLeavesRow.ifaces == (Tryz.f3.params.toList ++ Rows.idealLeavesSpec.plain.varTypes Tryz.prog).any (Tryz.prog.ifacesRec ·)) = true:=by kernel_rfl
theorem mapsOut : (Rows.idealLeavesRow.mapsOut == Tryz.prog.mapsAmong Tryz.f3.resultTypes.toList) = true:=by kernel_rfl
theorem loops : (Rows.idealLeavesRow.loops == (Tryz.f3.params.toList ++ Rows.idealLeavesSpec.plain.varTypes Tryz.prog).any (Tryz.prog.loopsFrom ·)) = true:=by kernel_rfl
theorem wideKeys : (Rows.idealLeavesRow.wideKeys == (Tryz.f3.params.toList ++ Rows.idealLeavesSpec.plain.varTypes Tryz.prog ++ Tryz.f3.resultTypes.toList).any (Tryz.prog.wideKeysFrom ·)) = true:=by kernel_rfl
theorem vars : Rows.idealLeavesSpec.vars.all (Tryz.prog.varReadable ·) = true:=by kernel_rfl
theorem results : Tryz.f3.resultTypes.all (fun t => Tryz.prog.readableRec t && decide (t < Tryz.prog.types.size)) = true:=by kernel_rfl
theorem ifacesOut : (Rows.idealLeavesRow.ifacesOut == Tryz.f3.resultTypes.toList.any (Tryz.prog.ifacesRec ·)) = true:=by kernel_rfl
theorem loopsOut : (Rows.idealLeavesRow.loopsOut == Tryz.f3.resultTypes.toList.any (Tryz.prog.loopsFrom ·)) = true:=by kernel_rfl
theorem plainKeys : (Rows.idealLeavesRow.plainKeys == Tryz.prog.plainKeys) = true:=(congrArg (Rows.idealLeavesRow.plainKeys == ·) pf.plainKeys).trans (by kernel_rfl)
theorem shortTexts : Rows.idealLeavesRow.shortTexts.isNone = true:=by kernel_rfl
theorem lifted : (Rows.idealLeavesRow.lifted == Tryz.prog.liftsFinal) = true:=(congrArg (Rows.idealLeavesRow.lifted == ·) pf.lifts).trans (by kernel_rfl)
theorem make : (Tryz.prog.make == some Rows.idealLeavesRow.make) = true:=(congrArg (· == some Rows.idealLeavesRow.make) pf.make).trans (by kernel_rfl)
theorem kinds : (Rows.idealLeavesRow.kinds == (if Rows.idealLeavesRow.domain.isEmpty then [] else Tryz.f3.params.toList.map fun t => match Tryz.prog.underlying t with | some (.int k) => some k | _ => none)) = true:=by kernel_rfl
theorem pinned : (Rows.idealLeavesRow.pinned == Rows.idealLeavesRow.pinnedBy) = true:=by kernel_rfl
theorem veiled : (Rows.idealLeavesRow.veiled == (Tryz.f3.params.toList ++ Rows.idealLeavesSpec.plain.varTypes Tryz.prog ++ Tryz.f3.resultTypes.toList).any (Tryz.prog.veiledRec ·)) = true:=by kernel_rfl
theorem veiledFits : Rows.idealLeavesRow.veiledFits Tryz.prog Tryz.f3.params.toList (Tryz.f3.params.toList ++ Rows.idealLeavesSpec.plain.varTypes Tryz.prog ++ Tryz.f3.resultTypes.toList) = true:=by kernel_rfl
theorem closed0 : joinedFacts Tryz.prog 3 Tryz.f3 Rows.idealLeavesSpec Rows.idealLeavesRow = true:=by
 unfold joinedFacts
 exact (pf.band (pf.band (pf.band (pf.band (pf.band (pf.band (pf.band (pf.band (pf.band (pf.band (pf.band (pf.band (pf.band (pf.band (pf.band (pf.band (pf.band (pf.band (pf.band (pf.band (pf.band (pf.band (pf.band (pf.band (pf.band (pf.band (pf.band (pf.band (pf.band (pf.band (pf.band wf pf.laid) pf.maps) xx) tie) stops) pf.stops) knobs) pf.stopKnobs) inPlace) unfollowed) recurses) zW) maps) ifaces) mapsOut) loops) wideKeys) vars) results) ifacesOut) loopsOut) plainKeys) shortTexts) pf.stopsHeard) pf.mayEnter) lifted) make) kinds) pinned) veiled) veiledFits)
theorem closed : joinedFacts Tryz.pinned.checked.prog 3 Tryz.f3 Rows.idealLeavesSpec Rows.idealLeavesRow = true:=closed0
end Go.Proofs.YtbhbgldkokjndaaGreat.idealLeaves.k
