/-
  Facts of the program and of this law's row. Conditions: none.
-/
import Derived.Test.YteodpoelbdakgaaGreatPF
namespace Go.Proofs.YteodpoelbdakgaaGreat.assignOnes.k
open Go
set_option maxRecDepth 100000
theorem named : Tryz.pinned.checked.prog.funcNamed (OpenClaim.func Rows.assignOnesRow) = some 13 := by kernel_rfl
theorem wf : Rows.assignOnesRow.wf (OpenSpec.ofChange Rows.assignOnesSpec) = true := by kernel_rfl
theorem Di : Tryz.f13.params.all (Tryz.prog.readableRec ·) = true := by kernel_rfl
theorem tie : namedTie Tryz.prog Rows.assignOnesRow.named Rows.assignOnesSpec.vars = true := by kernel_rfl
theorem stops : (Rows.assignOnesRow.stops == []) = true := by kernel_rfl
theorem knobs : (Rows.assignOnesRow.knobs == []) = true := by kernel_rfl
theorem inPlace : (Rows.assignOnesRow.inPlace == Tryz.prog.inPlace 13) = true := by kernel_rfl
theorem unfollowed : (Rows.assignOnesRow.unfollowed == Tryz.prog.unfollowed 13) = true := by kernel_rfl
theorem recurses : (Rows.assignOnesRow.recurses == Tryz.prog.recurses 13) = true := by kernel_rfl
theorem FD : (Rows.assignOnesRow.named == Tryz.prog.varsNamed 13) = true := by kernel_rfl
theorem maps : (Rows.assignOnesRow.maps == (Tryz.f13.params.toList ++ Rows.assignOnesSpec.plain.varTypes Tryz.prog).any (Tryz.prog.mapsRec ·)) = true := by kernel_rfl
theorem ifaces : (Rows.assignOnesRow.ifaces == (Tryz.f13.params.toList ++ Rows.assignOnesSpec.plain.varTypes Tryz.prog).any (Tryz.prog.ifacesRec ·)) = true := by kernel_rfl
theorem mapsOut : (Rows.assignOnesRow.mapsOut == Tryz.prog.mapsAmong Tryz.f13.resultTypes.toList) = true := by kernel_rfl
theorem loops : (Rows.assignOnesRow.loops == (Tryz.f13.params.toList ++ Rows.assignOnesSpec.plain.varTypes Tryz.prog).any (Tryz.prog.loopsFrom ·)) = true := by kernel_rfl
theorem wideKeys : (Rows.assignOnesRow.wideKeys == (Tryz.f13.params.toList ++ Rows.assignOnesSpec.plain.varTypes Tryz.prog ++ Tryz.f13.resultTypes.toList).any (Tryz.prog.wideKeysFrom ·)) = true := by kernel_rfl
theorem vars : Rows.assignOnesSpec.vars.all (Tryz.prog.varReadable ·) = true := by kernel_rfl
theorem results : Tryz.f13.resultTypes.all (fun t => Tryz.prog.readableRec t && decide (t < Tryz.prog.types.size)) = true := by kernel_rfl
theorem ifacesOut : (Rows.assignOnesRow.ifacesOut == Tryz.f13.resultTypes.toList.any (Tryz.prog.ifacesRec ·)) = true := by kernel_rfl
theorem loopsOut : (Rows.assignOnesRow.loopsOut == Tryz.f13.resultTypes.toList.any (Tryz.prog.loopsFrom ·)) = true := by kernel_rfl
theorem plainKeys : (Rows.assignOnesRow.plainKeys == Tryz.prog.plainKeys) = true := (congrArg (Rows.assignOnesRow.plainKeys == ·) pf.plainKeys).trans (by kernel_rfl)
theorem shortTexts : Rows.assignOnesRow.shortTexts.isNone = true := by kernel_rfl
theorem lifted : (Rows.assignOnesRow.lifted == Tryz.prog.liftsFinal) = true := (congrArg (Rows.assignOnesRow.lifted == ·) pf.lifts).trans (by kernel_rfl)
theorem make : (Tryz.prog.make == some Rows.assignOnesRow.make) = true := (congrArg (· == some Rows.assignOnesRow.make) pf.make).trans (by kernel_rfl)
theorem kinds : (Rows.assignOnesRow.kinds == (if Rows.assignOnesRow.domain.isEmpty then [] else Tryz.f13.params.toList.map fun t => match Tryz.prog.underlying t with | some (.int k) => some k | _ => none)) = true := by kernel_rfl
theorem pinned : (Rows.assignOnesRow.pinned == Rows.assignOnesRow.pinnedBy) = true := by kernel_rfl
theorem veiled : (Rows.assignOnesRow.veiled == (Tryz.f13.params.toList ++ Rows.assignOnesSpec.plain.varTypes Tryz.prog ++ Tryz.f13.resultTypes.toList).any (Tryz.prog.veiledRec ·)) = true := by kernel_rfl
theorem veiledFits : Rows.assignOnesRow.veiledFits Tryz.prog Tryz.f13.params.toList (Tryz.f13.params.toList ++ Rows.assignOnesSpec.plain.varTypes Tryz.prog ++ Tryz.f13.resultTypes.toList) = true := by kernel_rfl
theorem closed0 : joinedFacts Tryz.prog 13 Tryz.f13 Rows.assignOnesSpec Rows.assignOnesRow = true := by
 unfold joinedFacts
 exact (pf.band (pf.band (pf.band (pf.band (pf.band (pf.band (pf.band (pf.band (pf.band (pf.band (pf.band (pf.band (pf.band (pf.band (pf.band (pf.band (pf.band (pf.band (pf.band (pf.band (pf.band (pf.band (pf.band (pf.band (pf.band (pf.band (pf.band (pf.band (pf.band (pf.band (pf.band wf pf.laid) pf.maps) Di) tie) stops) pf.stops) knobs) pf.stopKnobs) inPlace) unfollowed) recurses) FD) maps) ifaces) mapsOut) loops) wideKeys) vars) results) ifacesOut) loopsOut) plainKeys) shortTexts) pf.stopsHeard) pf.mayEnter) lifted) make) kinds) pinned) veiled) veiledFits)
theorem closed : joinedFacts Tryz.pinned.checked.prog 13 Tryz.f13 Rows.assignOnesSpec Rows.assignOnesRow = true := closed0
end Go.Proofs.YteodpoelbdakgaaGreat.assignOnes.k
