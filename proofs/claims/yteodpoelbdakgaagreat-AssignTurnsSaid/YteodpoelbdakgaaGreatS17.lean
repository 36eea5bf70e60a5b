/-
  The reference manager: what holds of its state after every script. Conditions: none.
-/
import Derived.Test.YteodpoelbdakgaaGreatS16
namespace Go.Fx.D
open Go Go.Fx
set_option linter.unusedVariables false
set_option linter.unusedSimpArgs false
theorem zZ {a n : Int} (hn : 0 < n) : -n < Int.tmod a n ∧ Int.tmod a n < n := ⟨Int.lt_tmod_of_pos a hn, Int.tmod_lt_of_pos a hn⟩
theorem vV (a : Int) {n : Int} (h0 : 0 < n) (h1 : n ≤ 1000000000000) : Gv (iX a n) fun k => 0 ≤ k ∧ k < n := by
 have ht := zZ (a := a) h0
 unfold iX
 rw [Ab (by omega), Ba]
 refine aT (P := fun k => 0 ≤ k ∧ k < n) ?_ fun k hk => af hk
 refine aw (fun h => af ?_) fun h => af ?_
 ·simp only [decide_eq_true_eq] at h
  rw [aB (by omega) (by omega)]
  omega
 ·simp only [decide_eq_false_iff_not] at h
  omega
structure QB (L : Nat) (q : Queue) : Prop where
 path : q.Path.length ≤ 20
 user : 0 ≤ q.User ∧ q.User ≤ 1000000
 caps : q.Caps.length = L
 cap : ∀ x ∈ q.Caps, (0 ≤ x.Least ∧ x.Least ≤ 1000000) ∧ 0 ≤ x.Most ∧ x.Most ≤ 1000000
structure CB (L Q : Nat) (c : Conf) : Prop where
 lab : c.Labels.length = L
 labs : ∀ x ∈ c.Labels, x.length ≤ 20
 qs : c.Queues.length = Q
 q : ∀ q ∈ c.Queues, QB L q
theorem CB.small {L Q : Nat} {c : Conf} (h : CB L Q c) (hL : L ≤ 10) (hQ : Q ≤ 10) : CSmall c := by
 have h1 := h.lab
 have h2 := h.qs
 exact ⟨by omega, by omega, fun x hx => by have := (h.q x hx).path; omega, fun x hx => by have := (h.q x hx).caps; omega⟩
end Go.Fx.D
