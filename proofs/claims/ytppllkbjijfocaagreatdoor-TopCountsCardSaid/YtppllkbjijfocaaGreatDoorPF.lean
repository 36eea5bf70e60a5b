/-
  Facts of the program that hold whatever function is entered. Conditions: none.
-/
import Derived.Test.YtppllkbjijfocaaGreatDoorRows
import Derived.Test.YtppllkbjijfocaaGreatDoorChecked
import Derived.WalkKit
import Derived.ProofKit
import Derived.OpenShut
import Derived.JoinedCond
namespace Go.Proofs.YtppllkbjijfocaaGreatDoor.pf
open Go
set_option maxRecDepth 100000
theorem laid:laidOutB Tryz.prog=true:=by kernel_rfl
theorem maps:mapsRowed Tryz.prog=true:=by kernel_rfl
theorem stops:(Tryz.prog.stops == [])=true:=by kernel_rfl
theorem stopKnobs:(Tryz.prog.stopKnobs == [])=true:=by kernel_rfl
theorem plainKeys:Tryz.prog.plainKeys=Rows.topCountsRow.plainKeys:=by kernel_rfl
theorem stopsHeard:Tryz.prog.stopsHeard=true:=by kernel_rfl
theorem mayEnter:Tryz.prog.mayEnter=true:=by kernel_rfl
theorem lifts:Tryz.prog.liftsFinal=Rows.topCountsRow.lifted:=by kernel_rfl
theorem make:Tryz.prog.make=some Rows.topCountsRow.make:=by kernel_rfl
theorem LH{x y:Bool}(hx:x=true)(hy:y=true):(x&&y)=true:=by rw[hx,hy];rfl
end Go.Proofs.YtppllkbjijfocaaGreatDoor.pf
