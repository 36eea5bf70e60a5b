/-
  The reference manager: what holds of its state after every script. Conditions: none.
-/
import Derived.Test.YteodpoelbdakgaaGreatS2
namespace Go.Fx.D
open Go Go.Fx
set_option linter.unusedVariables false
set_option linter.unusedSimpArgs false
def CapOk (x : Cap) : Prop := 0 ≤ x.Least ∧ x.Least ≤ x.Most ∧ x.Most ≤ 10000
structure QOk (c : Conf) (i : Nat) (q : Queue) : Prop where
 path : PathOk q.Path
 less : ∀ p, 0 < i → c.Queues[i - 1]? = some p → strLe q.Path p.Path = false
 up : 0 < i → (pFind c (aJ q.Path)).isSome = true
 user : 1 ≤ q.User ∧ q.User ≤ 1000000
 caps : q.Caps.length = c.Labels.length
 cap : ∀ x ∈ q.Caps, CapOk x
def Az (c : Conf) (k : Nat) (p : Str) : Int := ((pFind c p).bind fun q => q.Caps[k]?).elim 0 (·.Least)
structure ConfOk (c : Conf) : Prop where
 lab : 1 ≤ c.Labels.length ∧ c.Labels.length ≤ 3
 lab0 : c.Labels[0]? = some []
 labs : ∀ x ∈ c.Labels, x.length ≤ 12
 qs : 1 ≤ c.Queues.length ∧ c.Queues.length ≤ 16
 root : ∃ q, c.Queues[0]? = some q ∧ q.Path = root ∧ ∀ x ∈ q.Caps, x = ⟨10000, 10000⟩
 q : ∀ i (hi : i < c.Queues.length), QOk c i c.Queues[i]
 sums : ∀ q ∈ c.Queues, pKids c q.Path ≠ [] → ∀ k, k < c.Labels.length → ((pKids c q.Path).map (Az c k)).sum = 10000
theorem ConfOk.small {c : Conf} (h : ConfOk c) : CSmall c := by
 have h1 := h.qs
 have h2 := h.lab
 refine ⟨by omega, by omega, fun x hx => ?_, fun x hx => ?_⟩
 ·obtain ⟨i, hi, rfl⟩ := List.getElem_of_mem hx
  have := (h.q i hi).path.len
  omega
 ·obtain ⟨i, hi, rfl⟩ := List.getElem_of_mem hx
  have := (h.q i hi).caps
  omega
theorem f_ {c : Conf} {p : Str} {q : Queue} (h : pFind c p = some q) : q ∈ c.Queues ∧ q.Path = p := by
 unfold pFind at h
 exact ⟨List.mem_of_find?_eq_some h, by have := List.find?_some h; simpa using this⟩
theorem tQ {c : Conf} {q : Queue} (h : q ∈ c.Queues) : ∃ q', pFind c q.Path = some q' ∧ q' ∈ c.Queues ∧ q'.Path = q.Path := by
 cases hf : pFind c q.Path with
 | none =>
  unfold pFind at hf
  have := List.find?_eq_none.1 hf q h
  simp at this
 | some q' => exact ⟨q', rfl, f_ hf⟩
theorem gv {c : Conf} {p x : Str} (h : x ∈ pKids c p) : p ≠ [] ∧ ∃ q ∈ c.Queues, q.Path = x ∧ aJ x = p := by
 unfold pKids at h
 split at h
 ·cases h
 ·rename_i hp
  refine ⟨hp, ?_⟩
  obtain ⟨q, hq, rfl⟩ := List.mem_map.1 h
  have := List.mem_filter.1 hq
  exact ⟨q, this.1, rfl, by simpa using this.2⟩
theorem kV (c : Conf) (p : Str) : (pKids c p).length ≤ c.Queues.length := by
 unfold pKids
 split
 ·simp
 ·rw [List.length_map]; exact List.length_filter_le _ _
end Go.Fx.D
