/-
  The law over plain data: true at all inputs. Conditions: none.
-/
import Derived.Test.YtofmfbgkkbionaaFxC
namespace Go.Fx
open Go
set_option linter.unusedVariables false
def Gv {α : Type} (m : Option α) (P : α → Prop) : Prop:=∃ a,m = some a ∧ P a
section
variable {α β τ σ ρ : Type}
theorem qo {P : α → Prop} {m : Option α} {a : α} (h : m = some a) (k : P a) : Gv m P:=⟨a,h,k⟩
theorem iX {b : Nat} {l m : List α} (h : l.length + m.length ≤ 100000000) (hb : b ≤ 1000) : app b l m = some (l ++ m):=by
 unfold app
 rw [if_pos]
 have e : (l ++ m).length = l.length + m.length:=rI
 have : (l ++ m).length * b ≤ 100000000 * 1000:=Nat.mul_le_mul (by omega) hb
 unfold maxLen
 omega
theorem rC (mk : σ → Int → τ) (n : Nat) (Inv : Nat → σ → Prop) {step : τ → Option (τ ⊕ ρ)} {Q : ρ → Prop} (hn : n < 1000000000)
  (h1 : ∀ k,k < n → ∀ s,Inv k s → Gv (step (mk s (k : Int))) fun r => (∃ s',r = .inl (mk s' (w64 ((k : Int) + 1))) ∧ Inv (k + 1) s') ∨ ∃ x,r = .inr x ∧ Q x)
  (h2 : ∀ s,Inv n s → Gv (step (mk s (n : Int))) fun r => ∃ x,r = .inr x ∧ Q x) {s : σ} (h0 : Inv 0 s) : Gv (loop step (mk s 0)) Q:=by
 have key : ∀ (m k : Nat),m + k = n → ∀ s,Inv k s → Gv (loop step (mk s (k : Int))) Q:=by
  intro m
  induction m with
  | zero =>
   intro k hk s hs
   have hk : k = n:=by omega
   subst hk
   obtain ⟨r,e,x,rfl,hx⟩:=h2 s hs
   rw [fy,e]
   exact ⟨x,rfl,hx⟩
  | succ m ih =>
   intro k hk s hs
   obtain ⟨r,e,hr⟩:=h1 k (by omega) s hs
   rw [fy,e]
   rcases hr with ⟨s',rfl,hs'⟩ | ⟨x,rfl,hx⟩
   ·have : w64 ((k : Int) + 1) = ((k + 1 : Nat) : Int):=by
     simp only [w64,IntKind.wrap,IntKind.bits,IntKind.signed]
     simp
     omega
    rw [this]
    exact ih (k + 1) (by omega) s' hs'
   ·exact ⟨x,rfl,hx⟩
 exact key n 0 rfl s h0
theorem kL (mk : σ → Int → τ) (l : List α) (f : σ → α → σ) (Inv : Nat → σ → Prop) (fin : σ → ρ) {step : τ → Option (τ ⊕ ρ)} (hn : l.length < 1000000000)
  (h1 : ∀ k (hk : k < l.length) s,Inv k s → step (mk s (k : Int)) = some (.inl (mk (f s l[k]) (w64 ((k : Int) + 1)))) ∧ Inv (k + 1) (f s l[k]))
  (h2 : ∀ s,Inv l.length s → step (mk s (l.length : Int)) = some (.inr (fin s))) {s : σ} (h0 : Inv 0 s) : loop step (mk s 0) = some (fin (l.foldl f s)) ∧ Inv l.length (l.foldl f s):=by
 have h:=rC (Q:=fun x => x = fin (l.foldl f s) ∧ Inv l.length (l.foldl f s)) mk l.length (fun k s' => s' = (l.take k).foldl f s ∧ Inv k s') (step:=step) hn ?_ ?_ (s:=s) ⟨by simp,h0⟩
 ·obtain ⟨x,e,rfl,hx⟩:=h
  exact ⟨e,hx⟩
 ·rintro k hk s' ⟨rfl,hs⟩
  obtain ⟨e,hi⟩:=h1 k hk _ hs
  refine qo e (.inl ⟨_,rfl,?_,hi⟩)
  rw [List.take_succ_eq_append_getElem hk,List.foldl_append]
  rfl
 ·rintro s' ⟨rfl,hs⟩
  have e:=h2 _ hs
  rw [List.take_length] at hs e
  rw [List.take_length]
  exact qo e ⟨_,rfl,rfl,hs⟩
theorem ls {α β : Type} (f : α → Bool) (g : α → β) (l : List α) (z : List β) : l.foldl (fun s x => if f x = true then s ++ [g x] else s) z = z ++ (l.filter f).map g:=by
 induction l generalizing z with
 | nil => simp
 | cons x l ih =>
  rw [List.foldl_cons,ih,List.filter_cons]
  split <;> simp
theorem m8 {β : Type} (mk : List β → Int → τ) (l : List α) (p : α → Bool) (g : α → β) {step : τ → Option (τ ⊕ List β)} (hn : l.length < 1000000000)
  (h1 : ∀ k (hk : k < l.length) s,s.length ≤ k → step (mk s (k : Int)) = some (.inl (mk (if p l[k] = true then s ++ [g l[k]] else s) (w64 ((k : Int) + 1)))))
  (h2 : ∀ s,step (mk s (l.length : Int)) = some (.inr s)) : loop step (mk [] 0) = some ((l.filter p).map g):=by
 have h:=(kL mk l (fun s x => if p x = true then s ++ [g x] else s) (fun k s => s.length ≤ k) (fun s => s) hn (step:=step) ?_ (fun s _ => h2 s) (s:=[]) (Nat.le_refl 0)).1
 ·rw [h,ls,List.nil_append]
 ·intro k hk s hs
  refine ⟨h1 k hk s hs,?_⟩
  split
  ·simp; omega
  ·omega
theorem ri {x : Int} (h1 : -9223372036854775808 ≤ x) (h2 : x < 9223372036854775808) : w64 x = x:=by
 simp only [w64,IntKind.wrap,IntKind.bits,IntKind.signed]
 simp
 omega
theorem gI {l : List α} {k : Nat} (h : k < l.length) : idx l (k : Int) = some l[k]:=by
 unfold idx
 rw [if_pos (by omega),Int.toNat_natCast,rG h]
theorem ja {k n : Nat} (h : k < n) : decide ((k : Int) < (n : Int)) = true:=decide_eq_true (by omega)
theorem n9 {n : Nat} : decide ((n : Int) < (n : Int)) = false:=decide_eq_false (by omega)
end
end Go.Fx
