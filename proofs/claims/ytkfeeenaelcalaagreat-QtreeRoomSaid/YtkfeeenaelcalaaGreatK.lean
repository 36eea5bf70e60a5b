/-
  Facts of the program and of this law's row. Conditions: none.
-/
import Derived.Test.YtkfeeenaelcalaaGreatPF
namespace Go.Proofs.YtkfeeenaelcalaaGreat.qtreeRoom.k
open Go
set_option maxRecDepth 100000

theorem named : Tryz.pinned.checked.prog.funcNamed (OpenClaim.func Rows.qtreeRoomRow) = some 6 := by kernel_rfl
theorem wf : Rows.qtreeRoomRow.wf (OpenSpec.ofChange Rows.qtreeRoomSpec) = true := by kernel_rfl
theorem readable : Tryz.f6.params.all (Tryz.prog.readableRec ·) = true := by kernel_rfl
theorem tie : namedTie Tryz.prog Rows.qtreeRoomRow.named Rows.qtreeRoomSpec.vars = true := by kernel_rfl
theorem stops : (Rows.qtreeRoomRow.stops == []) = true := by kernel_rfl
theorem knobs : (Rows.qtreeRoomRow.knobs == []) = true := by kernel_rfl
theorem inPlace : (Rows.qtreeRoomRow.inPlace == Tryz.prog.inPlace 6) = true := by kernel_rfl
theorem unfollowed : (Rows.qtreeRoomRow.unfollowed == Tryz.prog.unfollowed 6) = true := by kernel_rfl
theorem recurses : (Rows.qtreeRoomRow.recurses == Tryz.prog.recurses 6) = true := by kernel_rfl
theorem vnamed : (Rows.qtreeRoomRow.named == Tryz.prog.varsNamed 6) = true := by kernel_rfl
theorem maps : (Rows.qtreeRoomRow.maps == (Tryz.f6.params.toList ++ Rows.qtreeRoomSpec.plain.varTypes Tryz.prog).any (Tryz.prog.mapsRec ·)) = true := by kernel_rfl
theorem ifaces : (Rows.qtreeRoomRow.ifaces == (Tryz.f6.params.toList ++ Rows.qtreeRoomSpec.plain.varTypes Tryz.prog).any (Tryz.prog.ifacesRec ·)) = true := by kernel_rfl
theorem mapsOut : (Rows.qtreeRoomRow.mapsOut == Tryz.prog.mapsAmong Tryz.f6.resultTypes.toList) = true := by kernel_rfl
theorem loops : (Rows.qtreeRoomRow.loops == (Tryz.f6.params.toList ++ Rows.qtreeRoomSpec.plain.varTypes Tryz.prog).any (Tryz.prog.loopsFrom ·)) = true := by kernel_rfl
theorem wideKeys : (Rows.qtreeRoomRow.wideKeys == (Tryz.f6.params.toList ++ Rows.qtreeRoomSpec.plain.varTypes Tryz.prog ++ Tryz.f6.resultTypes.toList).any (Tryz.prog.wideKeysFrom ·)) = true := by kernel_rfl
theorem vars : Rows.qtreeRoomSpec.vars.all (Tryz.prog.varReadable ·) = true := by kernel_rfl
theorem results : Tryz.f6.resultTypes.all (fun t => Tryz.prog.readableRec t && decide (t < Tryz.prog.types.size)) = true := by kernel_rfl
theorem ifacesOut : (Rows.qtreeRoomRow.ifacesOut == Tryz.f6.resultTypes.toList.any (Tryz.prog.ifacesRec ·)) = true := by kernel_rfl
theorem loopsOut : (Rows.qtreeRoomRow.loopsOut == Tryz.f6.resultTypes.toList.any (Tryz.prog.loopsFrom ·)) = true := by kernel_rfl
theorem plainKeys : (Rows.qtreeRoomRow.plainKeys == Tryz.prog.plainKeys) = true := (congrArg (Rows.qtreeRoomRow.plainKeys == ·) pf.plainKeys).trans (by kernel_rfl)
theorem shortTexts : Rows.qtreeRoomRow.shortTexts.isNone = true := by kernel_rfl
theorem lifted : (Rows.qtreeRoomRow.lifted == Tryz.prog.liftsFinal) = true := (congrArg (Rows.qtreeRoomRow.lifted == ·) pf.lifts).trans (by kernel_rfl)
theorem make : (Tryz.prog.make == some Rows.qtreeRoomRow.make) = true := (congrArg (· == some Rows.qtreeRoomRow.make) pf.make).trans (by kernel_rfl)
theorem kinds : (Rows.qtreeRoomRow.kinds == (if Rows.qtreeRoomRow.domain.isEmpty then [] else Tryz.f6.params.toList.map fun t => match Tryz.prog.underlying t with | some (.int k) => some k | _ => none)) = true := by kernel_rfl
theorem pinned : (Rows.qtreeRoomRow.pinned == Rows.qtreeRoomRow.pinnedBy) = true := by kernel_rfl
theorem veiled : (Rows.qtreeRoomRow.veiled == (Tryz.f6.params.toList ++ Rows.qtreeRoomSpec.plain.varTypes Tryz.prog ++ Tryz.f6.resultTypes.toList).any (Tryz.prog.veiledRec ·)) = true := by kernel_rfl
theorem veiledFits : Rows.qtreeRoomRow.veiledFits Tryz.prog Tryz.f6.params.toList (Tryz.f6.params.toList ++ Rows.qtreeRoomSpec.plain.varTypes Tryz.prog ++ Tryz.f6.resultTypes.toList) = true := by kernel_rfl
theorem closed0 : joinedFacts Tryz.prog 6 Tryz.f6 Rows.qtreeRoomSpec Rows.qtreeRoomRow = true := by
  unfold joinedFacts
  exact (pf.band (pf.band (pf.band (pf.band (pf.band (pf.band (pf.band (pf.band (pf.band (pf.band (pf.band (pf.band (pf.band (pf.band (pf.band (pf.band (pf.band (pf.band (pf.band (pf.band (pf.band (pf.band (pf.band (pf.band (pf.band (pf.band (pf.band (pf.band (pf.band (pf.band (pf.band wf pf.laid) pf.maps) readable) tie) stops) pf.stops) knobs) pf.stopKnobs) inPlace) unfollowed) recurses) vnamed) maps) ifaces) mapsOut) loops) wideKeys) vars) results) ifacesOut) loopsOut) plainKeys) shortTexts) pf.stopsHeard) pf.mayEnter) lifted) make) kinds) pinned) veiled) veiledFits)
theorem closed : joinedFacts Tryz.pinned.checked.prog 6 Tryz.f6 Rows.qtreeRoomSpec Rows.qtreeRoomRow = true := closed0
end Go.Proofs.YtkfeeenaelcalaaGreat.qtreeRoom.k

