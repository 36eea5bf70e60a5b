/-
  The reference manager: what holds of its state after every script. Conditions: none.
-/
import Derived.Test.YteodpoelbdakgaaGreatS17
namespace Go.Fx.D
open Go Go.Fx
set_option linter.unusedVariables false
set_option linter.unusedSimpArgs false
def newS : State := ⟨⟨[([] : List UInt8)], [⟨root, [⟨10000, 10000⟩], 10000⟩]⟩, [], [], [], [], [], 0, 0, 0⟩
theorem oO : Inv 0 newS := by
 have hq : QOk newS.Conf 0 ⟨root, [⟨10000, 10000⟩], 10000⟩ := by
  refine ⟨⟨by decide, by decide, .inl rfl⟩, fun p h => absurd h (by omega), fun h => absurd h (by omega), by dsimp only; omega, rfl, fun x hx => ?_⟩
  have : x = ⟨10000, 10000⟩ := by simpa using hx
  subst this
  exact ⟨by dsimp only; omega, by dsimp only; omega, by dsimp only; omega⟩
 have cf : ConfOk newS.Conf := by
  refine ⟨by decide, rfl, by decide, by decide, ⟨_, rfl, rfl, fun x hx => by simpa using hx⟩, fun i hi => ?_, fun q hq' => ?_⟩
  ·have hi : i = 0 := by have : i < 1 := hi; omega
   subst hi
   exact hq
  ·have hq' : q = ⟨root, [⟨10000, 10000⟩], 10000⟩ := by simpa [newS] using hq'
   subst hq'
   intro hk
   exact absurd (by decide) hk
 have no : ∀ {α : Type} {P : α → Prop}, ∀ x ∈ ([] : List α), P x := fun x hx => (List.not_mem_nil hx).elim
 exact ⟨cf, (by decide), List.Pairwise.nil, no, (by decide), List.Pairwise.nil, no, (by decide), List.Pairwise.nil, no, List.Pairwise.nil, no, (by decide), List.Pairwise.nil, no, (by decide), (by decide), (by decide), (by decide)⟩
theorem wG : eI = some newS := rfl
end Go.Fx.D
