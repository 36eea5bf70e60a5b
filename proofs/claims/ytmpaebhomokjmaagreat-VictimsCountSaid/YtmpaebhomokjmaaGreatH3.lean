/-
  The law over plain data: true at all inputs. Conditions: none.
-/
import Derived.Test.YtmpaebhomokjmaaGreatH2
namespace Go.Fx.D
open Go Go.Fx
set_option linter.unusedVariables false
set_option linter.unusedSimpArgs false
set_option maxRecDepth 1000000
theorem fu15 : FU 15:=by
 refine ⟨fun w least h => (aq _ _ _).ok _ ?_,fun w least h => (aq _ _ _).ok _ ?_,fun asks la lb cs => (aF _ _).ok _ (by kernel_rfl),fun asks la lb => (ao _ _ _).ok _ (by kernel_rfl),fun asks la lb => (ao _ _ _).ok _ (by kernel_rfl),fun asks la lb => (ao _ _ _).ok _ (by kernel_rfl),
  fun la lb x y => (aa (n:=32) (fun t => ar _ _ t) _).ok _ (by kernel_rfl),fun w la lb x y => (aa (n:=32) (fun t => ar _ _ t) _).ok _ (by kernel_rfl),fun w la lb => by kernel_rfl⟩
 ·unfold ap; rw [h]; kernel_rfl
 ·unfold ap; rw [h]; kernel_rfl
theorem fu16 : FU 16:=by
 refine ⟨fun w least h => (aq _ _ _).ok _ ?_,fun w least h => (aq _ _ _).ok _ ?_,fun asks la lb cs => (aF _ _).ok _ (by kernel_rfl),fun asks la lb => (ao _ _ _).ok _ (by kernel_rfl),fun asks la lb => (ao _ _ _).ok _ (by kernel_rfl),fun asks la lb => (ao _ _ _).ok _ (by kernel_rfl),
  fun la lb x y => (aa (n:=32) (fun t => ar _ _ t) _).ok _ (by kernel_rfl),fun w la lb x y => (aa (n:=32) (fun t => ar _ _ t) _).ok _ (by kernel_rfl),fun w la lb => by kernel_rfl⟩
 ·unfold ap; rw [h]; kernel_rfl
 ·unfold ap; rw [h]; kernel_rfl
theorem fu17 : FU 17:=by
 refine ⟨fun w least h => (aq _ _ _).ok _ ?_,fun w least h => (aq _ _ _).ok _ ?_,fun asks la lb cs => (aF _ _).ok _ (by kernel_rfl),fun asks la lb => (ao _ _ _).ok _ (by kernel_rfl),fun asks la lb => (ao _ _ _).ok _ (by kernel_rfl),fun asks la lb => (ao _ _ _).ok _ (by kernel_rfl),
  fun la lb x y => (aa (n:=32) (fun t => ar _ _ t) _).ok _ (by kernel_rfl),fun w la lb x y => (aa (n:=32) (fun t => ar _ _ t) _).ok _ (by kernel_rfl),fun w la lb => by kernel_rfl⟩
 ·unfold ap; rw [h]; kernel_rfl
 ·unfold ap; rw [h]; kernel_rfl
theorem fu18 : FU 18:=by
 refine ⟨fun w least h => (aq _ _ _).ok _ ?_,fun w least h => (aq _ _ _).ok _ ?_,fun asks la lb cs => (aF _ _).ok _ (by kernel_rfl),fun asks la lb => (ao _ _ _).ok _ (by kernel_rfl),fun asks la lb => (ao _ _ _).ok _ (by kernel_rfl),fun asks la lb => (ao _ _ _).ok _ (by kernel_rfl),
  fun la lb x y => (aa (n:=32) (fun t => ar _ _ t) _).ok _ (by kernel_rfl),fun w la lb x y => (aa (n:=32) (fun t => ar _ _ t) _).ok _ (by kernel_rfl),fun w la lb => by kernel_rfl⟩
 ·unfold ap; rw [h]; kernel_rfl
 ·unfold ap; rw [h]; kernel_rfl
theorem fu19 : FU 19:=by
 refine ⟨fun w least h => (aq _ _ _).ok _ ?_,fun w least h => (aq _ _ _).ok _ ?_,fun asks la lb cs => (aF _ _).ok _ (by kernel_rfl),fun asks la lb => (ao _ _ _).ok _ (by kernel_rfl),fun asks la lb => (ao _ _ _).ok _ (by kernel_rfl),fun asks la lb => (ao _ _ _).ok _ (by kernel_rfl),
  fun la lb x y => (aa (n:=32) (fun t => ar _ _ t) _).ok _ (by kernel_rfl),fun w la lb x y => (aa (n:=32) (fun t => ar _ _ t) _).ok _ (by kernel_rfl),fun w la lb => by kernel_rfl⟩
 ·unfold ap; rw [h]; kernel_rfl
 ·unfold ap; rw [h]; kernel_rfl
theorem fuAll (u : Nat) (h1 : 4 ≤ u) (h2 : u ≤ 19) : FU u:=by
 match u,h1,h2 with
 | 4,_,_ => exact fu4
 | 5,_,_ => exact fu5
 | 6,_,_ => exact fu6
 | 7,_,_ => exact fu7
 | 8,_,_ => exact fu8
 | 9,_,_ => exact fu9
 | 10,_,_ => exact fu10
 | 11,_,_ => exact fu11
 | 12,_,_ => exact fu12
 | 13,_,_ => exact fu13
 | 14,_,_ => exact fu14
 | 15,_,_ => exact fu15
 | 16,_,_ => exact fu16
 | 17,_,_ => exact fu17
 | 18,_,_ => exact fu18
 | 19,_,_ => exact fu19
 | n + 20,_,h => omega
end Go.Fx.D
