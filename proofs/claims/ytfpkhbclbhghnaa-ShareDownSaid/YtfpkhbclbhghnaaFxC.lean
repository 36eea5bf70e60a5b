/-
  The framework: slices.SortFunc, slices.Sort. Conditions: none.
-/
import Derived.Test.YtfpkhbclbhghnaaFxB
/-
  The typed framework, part 32: what a function with bounded rounds gives the function itself gives.
-/
namespace Go.Fx
open Go
set_option linter.unusedVariables false

/-- the one gives what the other gives, where it gives something -/
structure Lo {α : Type} (a b : Option α) : Prop where
  ok : ∀ r, a = some r → b = some r
theorem lo_refl {α : Type} (a : Option α) : Lo a a := ⟨fun _ h => h⟩
theorem lo_none {α : Type} {b : Option α} : Lo none b := ⟨fun _ h => by cases h⟩
theorem lo_bind {α β : Type} {a a' : Option α} {f f' : α → Option β} (h : Lo a a') (k : ∀ x, Lo (f x) (f' x)) : Lo (a.bind f) (a'.bind f') := by
  constructor
  intro r hr
  cases a with
  | none => cases hr
  | some x => rw [h.ok x rfl]; exact (k x).ok r hr
theorem lo_bind2 {α γ β : Type} {a a' : Option (α ⊕ γ)} {f f' : α ⊕ γ → Option β} (h : Lo a a') (k : ∀ x, Lo (f (.inl x)) (f' (.inl x))) (k' : ∀ x, Lo (f (.inr x)) (f' (.inr x))) : Lo (a.bind f) (a'.bind f') :=
  lo_bind h fun x => match x with
    | .inl x => k x
    | .inr x => k' x
theorem lo_cond {α : Type} {c : Bool} {a b a' b' : Option α} (h : Lo a a') (k : Lo b b') : Lo (cond c a b) (cond c a' b') := by
  cases c
  · exact k
  · exact h
/-- so many rounds at most -/
def itr {τ σ : Type} (n : Nat) (s : τ → Option (τ ⊕ σ)) (t : τ) : Option σ := iter s n t
theorem lo_iter {τ σ : Type} {n : Nat} {s s' : τ → Option (τ ⊕ σ)} (h : ∀ t, Lo (s t) (s' t)) (t : τ) : Lo (itr n s t) (loop s' t) := by
  constructor
  intro r hr
  unfold itr at hr
  refine iter_loop (n := n) ?_
  induction n generalizing t with
  | zero => cases hr
  | succ n ih =>
    simp only [iter] at hr ⊢
    split at hr
    · cases hr
    · rename_i t' ht
      rw [(h t).ok _ ht]
      exact ih t' hr
    · rename_i q hq
      rw [(h t).ok _ hq]
      exact hr
end Go.Fx

