/-
  Facts of the program and of this law's row. Conditions: none.
-/
import Derived.Test.YtmpaebhomokjmaaGreatPF
namespace Go.Proofs.YtmpaebhomokjmaaGreat.victimsFree.k
open Go
set_option maxRecDepth 100000
theorem named : Tryz.pinned.checked.prog.funcNamed (OpenClaim.func Rows.victimsFreeRow) = some 9:=by kernel_rfl
theorem wf : Rows.victimsFreeRow.wf (OpenSpec.ofChange Rows.victimsFreeSpec) = true:=by kernel_rfl
theorem zR : Tryz.f9.params.all (Tryz.prog.readableRec ·) = true:=by kernel_rfl
theorem tie : namedTie Tryz.prog Rows.victimsFreeRow.named Rows.victimsFreeSpec.vars = true:=by kernel_rfl
theorem stops : (Rows.victimsFreeRow.stops == []) = true:=by kernel_rfl
theorem knobs : (Rows.victimsFreeRow.knobs == []) = true:=by kernel_rfl
theorem inPlace : (Rows.victimsFreeRow.inPlace == Tryz.prog.inPlace 9) = true:=by kernel_rfl
theorem unfollowed : (Rows.victimsFreeRow.unfollowed == Tryz.prog.unfollowed 9) = true:=by kernel_rfl
theorem recurses : (Rows.victimsFreeRow.recurses == Tryz.prog.recurses 9) = true:=by kernel_rfl
theorem BN : (Rows.victimsFreeRow.named == Tryz.prog.varsNamed 9) = true:=by kernel_rfl
theorem maps : (Rows.victimsFreeRow.maps == (Tryz.f9.params.toList ++ Rows.victimsFreeSpec.plain.varTypes Tryz.prog).any (Tryz.prog.mapsRec ·)) = true:=by kernel_rfl
theorem ifaces : (Rows.victimsFreeRow.ifaces == (Tryz.f9.params.toList ++ Rows.victimsFreeSpec.plain.varTypes Tryz.prog).any (Tryz.prog.ifacesRec ·)) = true:=by kernel_rfl
theorem mapsOut : (Rows.victimsFreeRow.mapsOut == Tryz.prog.mapsAmong Tryz.f9.resultTypes.toList) = true:=by kernel_rfl
theorem loops : (Rows.victimsFreeRow.loops == (Tryz.f9.params.toList ++ Rows.victimsFreeSpec.plain.varTypes Tryz.prog).any (Tryz.prog.loopsFrom ·)) = true:=by kernel_rfl
theorem wideKeys : (Rows.victimsFreeRow.wideKeys == (Tryz.f9.params.toList ++ Rows.victimsFreeSpec.plain.varTypes Tryz.prog ++ Tryz.f9.resultTypes.toList).any (Tryz.prog.wideKeysFrom ·)) = true:=by kernel_rfl
theorem vars : Rows.victimsFreeSpec.vars.all (Tryz.prog.varReadable ·) = true:=by kernel_rfl
theorem results : Tryz.f9.resultTypes.all (fun t => Tryz.prog.readableRec t && decide (t < Tryz.prog.types.size)) = true:=by kernel_rfl
theorem ifacesOut : (Rows.victimsFreeRow.ifacesOut == Tryz.f9.resultTypes.toList.any (Tryz.prog.ifacesRec ·)) = true:=by kernel_rfl
theorem loopsOut : (Rows.victimsFreeRow.loopsOut == Tryz.f9.resultTypes.toList.any (Tryz.prog.loopsFrom ·)) = true:=by kernel_rfl
theorem plainKeys : (Rows.victimsFreeRow.plainKeys == Tryz.prog.plainKeys) = true:=(congrArg (Rows.victimsFreeRow.plainKeys == ·) pf.plainKeys).trans (by kernel_rfl)
theorem shortTexts : Rows.victimsFreeRow.shortTexts.isNone = true:=by kernel_rfl
theorem lifted : (Rows.victimsFreeRow.lifted == Tryz.prog.liftsFinal) = true:=(congrArg (Rows.victimsFreeRow.lifted == ·) pf.lifts).trans (by kernel_rfl)
theorem make : (Tryz.prog.make == some Rows.victimsFreeRow.make) = true:=(congrArg (· == some Rows.victimsFreeRow.make) pf.make).trans (by kernel_rfl)
theorem kinds : (Rows.victimsFreeRow.kinds == (if Rows.victimsFreeRow.domain.isEmpty then [] else Tryz.f9.params.toList.map fun t => match Tryz.prog.underlying t with | some (.int k) => some k | _ => none)) = true:=by kernel_rfl
theorem pinned : (Rows.victimsFreeRow.pinned == Rows.victimsFreeRow.pinnedBy) = true:=by kernel_rfl
theorem veiled : (Rows.victimsFreeRow.veiled == (Tryz.f9.params.toList ++ Rows.victimsFreeSpec.plain.varTypes Tryz.prog ++ Tryz.f9.resultTypes.toList).any (Tryz.prog.veiledRec ·)) = true:=by kernel_rfl
theorem veiledFits : Rows.victimsFreeRow.veiledFits Tryz.prog Tryz.f9.params.toList (Tryz.f9.params.toList ++ Rows.victimsFreeSpec.plain.varTypes Tryz.prog ++ Tryz.f9.resultTypes.toList) = true:=by kernel_rfl
theorem closed0 : joinedFacts Tryz.prog 9 Tryz.f9 Rows.victimsFreeSpec Rows.victimsFreeRow = true:=by
 unfold joinedFacts
 exact (pf.band (pf.band (pf.band (pf.band (pf.band (pf.band (pf.band (pf.band (pf.band (pf.band (pf.band (pf.band (pf.band (pf.band (pf.band (pf.band (pf.band (pf.band (pf.band (pf.band (pf.band (pf.band (pf.band (pf.band (pf.band (pf.band (pf.band (pf.band (pf.band (pf.band (pf.band wf pf.laid) pf.maps) zR) tie) stops) pf.stops) knobs) pf.stopKnobs) inPlace) unfollowed) recurses) BN) maps) ifaces) mapsOut) loops) wideKeys) vars) results) ifacesOut) loopsOut) plainKeys) shortTexts) pf.stopsHeard) pf.mayEnter) lifted) make) kinds) pinned) veiled) veiledFits)
theorem closed : joinedFacts Tryz.pinned.checked.prog 9 Tryz.f9 Rows.victimsFreeSpec Rows.victimsFreeRow = true:=closed0
end Go.Proofs.YtmpaebhomokjmaaGreat.victimsFree.k
