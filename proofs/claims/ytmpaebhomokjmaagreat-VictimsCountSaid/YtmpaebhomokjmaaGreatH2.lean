/-
  The law over plain data: true at all inputs. Conditions: none.
-/
import Derived.Test.YtmpaebhomokjmaaGreatH1
namespace Go.Fx.D
open Go Go.Fx
set_option linter.unusedVariables false
set_option linter.unusedSimpArgs false
set_option maxRecDepth 1000000
def pkOk (u : Nat) (w la lb : Int) : Bool:=(List.range u).all fun j => j == 0 ||
 ((itr 64 (gn ((j : Int),kT (stT u (askW w) la lb (csT u)) j (-(j : Int)) (lmT u))) (kT (stT u (askW w) la lb (csT u)) j (-(j : Int)) (lmT u),[])) == some (lst u j) &&
  zH (itr 64 (bG ((u : Int) - 4) (lst u j)) 0))
structure FU (u : Nat) : Prop where
 two0 : ∀ w least : Int,decide (w > 0) = false → cw u w least = some (stT u [] (w64 (10000 - least)) least (csT u))
 two1 : ∀ w least : Int,decide (w > 0) = true → cw u w least = some (stT u (askW w) (w64 (10000 - least)) least (csT u))
 tot : ∀ asks la lb cs,ej (stT u asks la lb cs) 0 = some ⟨u,u⟩
 uA : ∀ asks la lb,aU (stT u asks la lb (csT u)) qA 0 = some ⟨(u : Int) - 1,(u : Int) - 1⟩
 uB : ∀ asks la lb,aU (stT u asks la lb (csT u)) qB 0 = some ⟨1,1⟩
 uR : ∀ asks la lb,aU (stT u asks la lb (csT u)) rt 0 = some ⟨u,u⟩
 lk0 : ∀ la lb x y,loop (eB (stT u [] la lb (csT u)) 0) (kT (stT u [] la lb (csT u)) x y [],0) = some (kT (stT u [] la lb (csT u)) x y (lmT u))
 lk1 : ∀ w la lb x y,loop (eB (stT u (askW w) la lb (csT u)) 0) (kT (stT u (askW w) la lb (csT u)) x y [],0) = some (kT (stT u (askW w) la lb (csT u)) x y (lmT u))
 pk : ∀ w la lb,pkOk u w la lb = true
theorem FU.picks {u : Nat} (h : FU u) (w la lb : Int) {j : Nat} (h1 : 1 ≤ j) (h2 : j < u) :
  loop (dP ((j : Int),kT (stT u (askW w) la lb (csT u)) j (-(j : Int)) (lmT u))) (kT (stT u (askW w) la lb (csT u)) j (-(j : Int)) (lmT u),[]) = some (lst u j) ∧ loop (a9 ((u : Int) - 4) (lst u j)) 0 = some (.inr ()):=by
 have hp:=h.pk w la lb
 unfold pkOk at hp
 rw [List.all_eq_true] at hp
 have hj:=hp j (List.mem_range.2 h2)
 have hj0 : (j == 0) = false:=by rw [beq_eq_false_iff_ne]; omega
 rw [hj0,Bool.false_or,Bool.and_eq_true] at hj
 exact ⟨(aa (fun t => mL _ t) _).ok _ (eq_of_beq hj.1),(aa (fun t => kx _ _ t) _).ok _ (zI hj.2)⟩
theorem fu4 : FU 4:=by
 refine ⟨fun w least h => (aq _ _ _).ok _ ?_,fun w least h => (aq _ _ _).ok _ ?_,fun asks la lb cs => (aF _ _).ok _ (by kernel_rfl),fun asks la lb => (ao _ _ _).ok _ (by kernel_rfl),fun asks la lb => (ao _ _ _).ok _ (by kernel_rfl),fun asks la lb => (ao _ _ _).ok _ (by kernel_rfl),
  fun la lb x y => (aa (n:=32) (fun t => ar _ _ t) _).ok _ (by kernel_rfl),fun w la lb x y => (aa (n:=32) (fun t => ar _ _ t) _).ok _ (by kernel_rfl),fun w la lb => by kernel_rfl⟩
 ·unfold ap; rw [h]; kernel_rfl
 ·unfold ap; rw [h]; kernel_rfl
theorem fu5 : FU 5:=by
 refine ⟨fun w least h => (aq _ _ _).ok _ ?_,fun w least h => (aq _ _ _).ok _ ?_,fun asks la lb cs => (aF _ _).ok _ (by kernel_rfl),fun asks la lb => (ao _ _ _).ok _ (by kernel_rfl),fun asks la lb => (ao _ _ _).ok _ (by kernel_rfl),fun asks la lb => (ao _ _ _).ok _ (by kernel_rfl),
  fun la lb x y => (aa (n:=32) (fun t => ar _ _ t) _).ok _ (by kernel_rfl),fun w la lb x y => (aa (n:=32) (fun t => ar _ _ t) _).ok _ (by kernel_rfl),fun w la lb => by kernel_rfl⟩
 ·unfold ap; rw [h]; kernel_rfl
 ·unfold ap; rw [h]; kernel_rfl
theorem fu6 : FU 6:=by
 refine ⟨fun w least h => (aq _ _ _).ok _ ?_,fun w least h => (aq _ _ _).ok _ ?_,fun asks la lb cs => (aF _ _).ok _ (by kernel_rfl),fun asks la lb => (ao _ _ _).ok _ (by kernel_rfl),fun asks la lb => (ao _ _ _).ok _ (by kernel_rfl),fun asks la lb => (ao _ _ _).ok _ (by kernel_rfl),
  fun la lb x y => (aa (n:=32) (fun t => ar _ _ t) _).ok _ (by kernel_rfl),fun w la lb x y => (aa (n:=32) (fun t => ar _ _ t) _).ok _ (by kernel_rfl),fun w la lb => by kernel_rfl⟩
 ·unfold ap; rw [h]; kernel_rfl
 ·unfold ap; rw [h]; kernel_rfl
theorem fu7 : FU 7:=by
 refine ⟨fun w least h => (aq _ _ _).ok _ ?_,fun w least h => (aq _ _ _).ok _ ?_,fun asks la lb cs => (aF _ _).ok _ (by kernel_rfl),fun asks la lb => (ao _ _ _).ok _ (by kernel_rfl),fun asks la lb => (ao _ _ _).ok _ (by kernel_rfl),fun asks la lb => (ao _ _ _).ok _ (by kernel_rfl),
  fun la lb x y => (aa (n:=32) (fun t => ar _ _ t) _).ok _ (by kernel_rfl),fun w la lb x y => (aa (n:=32) (fun t => ar _ _ t) _).ok _ (by kernel_rfl),fun w la lb => by kernel_rfl⟩
 ·unfold ap; rw [h]; kernel_rfl
 ·unfold ap; rw [h]; kernel_rfl
theorem fu8 : FU 8:=by
 refine ⟨fun w least h => (aq _ _ _).ok _ ?_,fun w least h => (aq _ _ _).ok _ ?_,fun asks la lb cs => (aF _ _).ok _ (by kernel_rfl),fun asks la lb => (ao _ _ _).ok _ (by kernel_rfl),fun asks la lb => (ao _ _ _).ok _ (by kernel_rfl),fun asks la lb => (ao _ _ _).ok _ (by kernel_rfl),
  fun la lb x y => (aa (n:=32) (fun t => ar _ _ t) _).ok _ (by kernel_rfl),fun w la lb x y => (aa (n:=32) (fun t => ar _ _ t) _).ok _ (by kernel_rfl),fun w la lb => by kernel_rfl⟩
 ·unfold ap; rw [h]; kernel_rfl
 ·unfold ap; rw [h]; kernel_rfl
theorem fu9 : FU 9:=by
 refine ⟨fun w least h => (aq _ _ _).ok _ ?_,fun w least h => (aq _ _ _).ok _ ?_,fun asks la lb cs => (aF _ _).ok _ (by kernel_rfl),fun asks la lb => (ao _ _ _).ok _ (by kernel_rfl),fun asks la lb => (ao _ _ _).ok _ (by kernel_rfl),fun asks la lb => (ao _ _ _).ok _ (by kernel_rfl),
  fun la lb x y => (aa (n:=32) (fun t => ar _ _ t) _).ok _ (by kernel_rfl),fun w la lb x y => (aa (n:=32) (fun t => ar _ _ t) _).ok _ (by kernel_rfl),fun w la lb => by kernel_rfl⟩
 ·unfold ap; rw [h]; kernel_rfl
 ·unfold ap; rw [h]; kernel_rfl
theorem fu10 : FU 10:=by
 refine ⟨fun w least h => (aq _ _ _).ok _ ?_,fun w least h => (aq _ _ _).ok _ ?_,fun asks la lb cs => (aF _ _).ok _ (by kernel_rfl),fun asks la lb => (ao _ _ _).ok _ (by kernel_rfl),fun asks la lb => (ao _ _ _).ok _ (by kernel_rfl),fun asks la lb => (ao _ _ _).ok _ (by kernel_rfl),
  fun la lb x y => (aa (n:=32) (fun t => ar _ _ t) _).ok _ (by kernel_rfl),fun w la lb x y => (aa (n:=32) (fun t => ar _ _ t) _).ok _ (by kernel_rfl),fun w la lb => by kernel_rfl⟩
 ·unfold ap; rw [h]; kernel_rfl
 ·unfold ap; rw [h]; kernel_rfl
theorem fu11 : FU 11:=by
 refine ⟨fun w least h => (aq _ _ _).ok _ ?_,fun w least h => (aq _ _ _).ok _ ?_,fun asks la lb cs => (aF _ _).ok _ (by kernel_rfl),fun asks la lb => (ao _ _ _).ok _ (by kernel_rfl),fun asks la lb => (ao _ _ _).ok _ (by kernel_rfl),fun asks la lb => (ao _ _ _).ok _ (by kernel_rfl),
  fun la lb x y => (aa (n:=32) (fun t => ar _ _ t) _).ok _ (by kernel_rfl),fun w la lb x y => (aa (n:=32) (fun t => ar _ _ t) _).ok _ (by kernel_rfl),fun w la lb => by kernel_rfl⟩
 ·unfold ap; rw [h]; kernel_rfl
 ·unfold ap; rw [h]; kernel_rfl
theorem fu12 : FU 12:=by
 refine ⟨fun w least h => (aq _ _ _).ok _ ?_,fun w least h => (aq _ _ _).ok _ ?_,fun asks la lb cs => (aF _ _).ok _ (by kernel_rfl),fun asks la lb => (ao _ _ _).ok _ (by kernel_rfl),fun asks la lb => (ao _ _ _).ok _ (by kernel_rfl),fun asks la lb => (ao _ _ _).ok _ (by kernel_rfl),
  fun la lb x y => (aa (n:=32) (fun t => ar _ _ t) _).ok _ (by kernel_rfl),fun w la lb x y => (aa (n:=32) (fun t => ar _ _ t) _).ok _ (by kernel_rfl),fun w la lb => by kernel_rfl⟩
 ·unfold ap; rw [h]; kernel_rfl
 ·unfold ap; rw [h]; kernel_rfl
theorem fu13 : FU 13:=by
 refine ⟨fun w least h => (aq _ _ _).ok _ ?_,fun w least h => (aq _ _ _).ok _ ?_,fun asks la lb cs => (aF _ _).ok _ (by kernel_rfl),fun asks la lb => (ao _ _ _).ok _ (by kernel_rfl),fun asks la lb => (ao _ _ _).ok _ (by kernel_rfl),fun asks la lb => (ao _ _ _).ok _ (by kernel_rfl),
  fun la lb x y => (aa (n:=32) (fun t => ar _ _ t) _).ok _ (by kernel_rfl),fun w la lb x y => (aa (n:=32) (fun t => ar _ _ t) _).ok _ (by kernel_rfl),fun w la lb => by kernel_rfl⟩
 ·unfold ap; rw [h]; kernel_rfl
 ·unfold ap; rw [h]; kernel_rfl
theorem fu14 : FU 14:=by
 refine ⟨fun w least h => (aq _ _ _).ok _ ?_,fun w least h => (aq _ _ _).ok _ ?_,fun asks la lb cs => (aF _ _).ok _ (by kernel_rfl),fun asks la lb => (ao _ _ _).ok _ (by kernel_rfl),fun asks la lb => (ao _ _ _).ok _ (by kernel_rfl),fun asks la lb => (ao _ _ _).ok _ (by kernel_rfl),
  fun la lb x y => (aa (n:=32) (fun t => ar _ _ t) _).ok _ (by kernel_rfl),fun w la lb x y => (aa (n:=32) (fun t => ar _ _ t) _).ok _ (by kernel_rfl),fun w la lb => by kernel_rfl⟩
 ·unfold ap; rw [h]; kernel_rfl
 ·unfold ap; rw [h]; kernel_rfl
end Go.Fx.D
