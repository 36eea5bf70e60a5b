/-
  Facts of the program that hold whatever function is entered. Conditions: none.
-/
import Derived.Test.YtofmfbgkkbionaaRows
import Derived.Test.YtofmfbgkkbionaaChecked
import Derived.WalkKit
import Derived.ProofKit
import Derived.OpenShut
import Derived.JoinedCond
namespace Go.Proofs.Ytofmfbgkkbionaa.pf
open Go
set_option maxRecDepth 100000
theorem laid : laidOutB Try.prog = true:=by kernel_rfl
theorem maps : mapsRowed Try.prog = true:=by kernel_rfl
theorem stops : (Try.prog.stops == []) = true:=by kernel_rfl
theorem stopKnobs : (Try.prog.stopKnobs == []) = true:=by kernel_rfl
theorem plainKeys : Try.prog.plainKeys = Rows.shareNodesRow.plainKeys:=by kernel_rfl
theorem stopsHeard : Try.prog.stopsHeard = true:=by kernel_rfl
theorem mayEnter : Try.prog.mayEnter = true:=by kernel_rfl
theorem lifts : Try.prog.liftsFinal = Rows.shareNodesRow.lifted:=by kernel_rfl
theorem make : Try.prog.make = some Rows.shareNodesRow.make:=by kernel_rfl
theorem band {x y : Bool} (hx : x = true) (hy : y = true) : (x && y) = true:=by rw [hx,hy]; rfl
end Go.Proofs.Ytofmfbgkkbionaa.pf
