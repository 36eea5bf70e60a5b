/-
  The framework, fourth part: bounded rounds, deletion from slices, a loop that makes no round. Conditions: none.
-/
import Derived.Test.YtofmfbgkkbionaaFxC
import Derived.RangeFuncLeaves
import Derived.RangeFuncRecord
namespace Go.Fx
open Go
set_option linter.unusedVariables false
structure Lo {α : Type} (a b : Option α) : Prop where
 ok : ∀ r,a = some r → b = some r
theorem au {α : Type} (a : Option α) : Lo a a:=⟨fun _ h => h⟩
theorem ar {α : Type} {b : Option α} : Lo none b:=⟨fun _ h => by cases h⟩
theorem ao {α β : Type} {a a' : Option α} {f f' : α → Option β} (h : Lo a a') (k : ∀ x,Lo (f x) (f' x)) : Lo (a.bind f) (a'.bind f'):=by
 constructor
 intro r hr
 cases a with
 | none => cases hr
 | some x => rw [h.ok x rfl]; exact (k x).ok r hr
theorem ak {α γ β : Type} {a a' : Option (α ⊕ γ)} {f f' : α ⊕ γ → Option β} (h : Lo a a') (k : ∀ x,Lo (f (.inl x)) (f' (.inl x))) (k' : ∀ x,Lo (f (.inr x)) (f' (.inr x))) : Lo (a.bind f) (a'.bind f') :=
 ao h fun x => match x with
  | .inl x => k x
  | .inr x => k' x
theorem aj {α γ δ β : Type} {a a' : Option (α ⊕ (γ ⊕ δ))} {f f' : α ⊕ (γ ⊕ δ) → Option β} (h : Lo a a') (k : ∀ x,Lo (f (.inl x)) (f' (.inl x))) (k1 : ∀ x,Lo (f (.inr (.inl x))) (f' (.inr (.inl x)))) (k2 : ∀ x,Lo (f (.inr (.inr x))) (f' (.inr (.inr x)))) : Lo (a.bind f) (a'.bind f') :=
 ao h fun x => match x with
  | .inl x => k x
  | .inr (.inl x) => k1 x
  | .inr (.inr x) => k2 x
theorem am {α γ δ ε β : Type} {a a' : Option (α ⊕ (γ ⊕ (δ ⊕ ε)))} {f f' : α ⊕ (γ ⊕ (δ ⊕ ε)) → Option β} (h : Lo a a') (k : ∀ x,Lo (f (.inl x)) (f' (.inl x))) (k1 : ∀ x,Lo (f (.inr (.inl x))) (f' (.inr (.inl x)))) (k2 : ∀ x,Lo (f (.inr (.inr (.inl x)))) (f' (.inr (.inr (.inl x))))) (k3 : ∀ x,Lo (f (.inr (.inr (.inr x)))) (f' (.inr (.inr (.inr x))))) : Lo (a.bind f) (a'.bind f') :=
 ao h fun x => match x with
  | .inl x => k x
  | .inr (.inl x) => k1 x
  | .inr (.inr (.inl x)) => k2 x
  | .inr (.inr (.inr x)) => k3 x
theorem ap {α : Type} {c : Bool} {a b a' b' : Option α} (h : Lo a a') (k : Lo b b') : Lo (cond c a b) (cond c a' b'):=by
 cases c
 ·exact k
 ·exact h
def itr {τ σ : Type} (n : Nat) (s : τ → Option (τ ⊕ σ)) (t : τ) : Option σ:=iter s n t
theorem aq {τ σ : Type} {n : Nat} {s s' : τ → Option (τ ⊕ σ)} (h : ∀ t,Lo (s t) (s' t)) (t : τ) : Lo (itr n s t) (loop s' t):=by
 constructor
 intro r hr
 unfold itr at hr
 refine fd (n:=n) ?_
 induction n generalizing t with
 | zero => cases hr
 | succ n ih =>
  simp only [iter] at hr ⊢
  split at hr
  ·cases hr
  ·rename_i t' ht
   rw [(h t).ok _ ht]
   exact ih t' hr
  ·rename_i q hq
   rw [(h t).ok _ hq]
   exact hr
set_option linter.unusedSimpArgs false
structure EmC where
 ops0 : Array Oper
 ops1 : Array Oper
 ops8 : Array Oper
 t : Nat
structure EmB where
 t : Nat
 f : Nat
 x : Nat
section
variable {F : Fam} (T : TypeId → Option (TI F)) (Γ : Ctx F) (nv : Nat)
end
section
variable {P : Program} {ops : Array Oper}
end
section
variable {F : Fam} {P : Program} {T : TypeId → Option (TI F)} {Γ : Ctx F} {nv n : Nat} {R : Type} {own : Ow} {W0 : World} {a : Act} {w : World} {g : G}
section
variable {ops : List Oper}
end
end
section
variable {F : Fam} {P : Program} {T : TypeId → Option (TI F)} {Γ : Ctx F} {nv : Nat}
end
set_option linter.unusedVariables false
end Go.Fx
