/-
  Laws over plain data: true at all inputs. Conditions: none.
-/
import Derived.Test.YtofblnjjdldflaaE
namespace Go.Fx.D
open Go Go.Fx
set_option linter.unusedVariables false
set_option linter.unusedSimpArgs false
set_option maxRecDepth 100000

def CB (c0 k m : Nat) : List Cont := (List.range m).map fun j => mkC ((c0 + j + 1 : Nat) : Int) k (j == 0)
theorem CB_succ (c0 k m : Nat) : CB c0 k (m + 1) = CB c0 k m ++ [mkC ((c0 + m + 1 : Nat) : Int) k (m == 0)] := by
  unfold CB
  rw [List.range_succ, List.map_append]
  rfl
theorem CB_len (c0 k m : Nat) : (CB c0 k m).length = m := by simp [CB]
theorem CB_mem {c0 k m : Nat} {c : Cont} (h : c ∈ CB c0 k m) : ∃ j, j < m ∧ c = mkC ((c0 + j + 1 : Nat) : Int) k (j == 0) := by
  obtain ⟨j, hj, rfl⟩ := List.mem_map.1 h
  exact ⟨j, List.mem_range.1 hj, rfl⟩
theorem CB_app (c0 k m : Nat) (i : Nat) : ((CB c0 k m).filter fun c => c.App == (i : Int)).length = if i = k then m else 0 := by
  induction m with
  | zero => simp [CB]
  | succ m ih =>
    rw [CB_succ, List.filter_append, List.length_append, ih]
    by_cases e : i = k
    · subst e
      rw [if_pos rfl, if_pos rfl, List.filter_cons_of_pos (by simp [mkC])]
      rfl
    · have hf : ((mkC ((c0 + m + 1 : Nat) : Int) k (m == 0)).App == (i : Int)) = false := beq_eq_false_iff_ne.2 (by show (k : Int) ≠ (i : Int); omega)
      rw [if_neg e, if_neg e, List.filter_cons_of_neg (by rw [hf]; simp)]
      rfl
theorem CB_mas (c0 k m : Nat) (i : Nat) : ((CB c0 k m).filter fun c => c.App == (i : Int) && c.Master).length = if i = k ∧ m ≠ 0 then 1 else 0 := by
  induction m with
  | zero => simp [CB]
  | succ m ih =>
    rw [CB_succ, List.filter_append, List.length_append, ih]
    by_cases e : i = k
    · subst e
      have ha : ((mkC ((c0 + m + 1 : Nat) : Int) i (m == 0)).App == (i : Int)) = true := by simp [mkC]
      cases m with
      | zero =>
        rw [if_neg (by simp), if_pos ⟨rfl, by simp⟩, List.filter_cons_of_pos (by rw [ha]; rfl)]
        rfl
      | succ m =>
        have hm : (mkC ((c0 + (m + 1) + 1 : Nat) : Int) i (m + 1 == 0)).Master = false := by simp [mkC]
        rw [if_pos ⟨rfl, by simp⟩, if_pos ⟨rfl, by simp⟩, List.filter_cons_of_neg (by rw [hm]; simp)]
        rfl
    · have hf : ((mkC ((c0 + m + 1 : Nat) : Int) k (m == 0)).App == (i : Int)) = false := beq_eq_false_iff_ne.2 (by show (k : Int) ≠ (i : Int); omega)
      rw [if_neg (fun q => e q.1), if_neg (fun q => e q.1), List.filter_cons_of_neg (by rw [hf]; simp)]
      rfl

/-- what is known behind each round -/
structure Ac2 (k : Nat) (U : Nat → Int) (A : List App) (C : List Cont) : Prop where
  ac : Ac k U A C
  ids : ∀ c ∈ C, c.Id ≤ (C.length : Int)
  len : C.length ≤ 20 * k
  alen : A.length ≤ k

theorem step0 {k : Nat} {U U' : Nat → Int} {A : List App} {C : List Cont} (h : Ac2 k U A C) (hk : k < 4) (he : ∀ i, i < k → U' i = U i) (h0 : U' k = 0) : Ac2 (k + 1) U' A C := by
  obtain ⟨h, hids, hlen, halen⟩ := h
  refine ⟨⟨?_, ?_, h.asc, h.la, ?_, h.casc, h.lc, ?_, ?_⟩, hids, by omega, by omega⟩
  · intro x hx
    obtain ⟨i, h1, h2, h3⟩ := h.apps x hx
    exact ⟨i, by omega, by rw [he i h1]; exact h2, h3⟩
  · intro i hi hu
    by_cases e : i = k
    · subst e; exact absurd h0 hu
    · exact h.has i (by omega) (by rw [← he i (by omega)]; exact hu)
  · intro c hc
    obtain ⟨i, id_, m, h1, h2, h3⟩ := h.conts c hc
    exact ⟨i, id_, m, by omega, by rw [he i h1]; exact h2, h3⟩
  · intro i hi
    by_cases e : i = k
    · subst e
      have : (C.filter fun c => c.App == (i : Int)) = [] := by
        rw [List.filter_eq_nil_iff]
        intro c hc
        obtain ⟨j, id_, m, h1, h2, rfl⟩ := h.conts c hc
        show ¬ (((j : Int) == (i : Int)) = true)
        rw [beq_iff_eq]; omega
      rw [this, h0]; rfl
    · rw [he i (by omega)]; exact h.cnt i (by omega)
  · intro i hi
    by_cases e : i = k
    · subst e
      have : (C.filter fun c => c.App == (i : Int) && c.Master) = [] := by
        rw [List.filter_eq_nil_iff]
        intro c hc
        obtain ⟨j, id_, m, h1, h2, rfl⟩ := h.conts c hc
        have : ((mkC id_ j m).App == (i : Int)) = false := beq_eq_false_iff_ne.2 (by show (j : Int) ≠ (i : Int); omega)
        rw [this]; simp
      rw [this, if_pos h0]; rfl
    · rw [he i (by omega)]; exact h.mas i (by omega)

theorem step1 {k : Nat} {U U' : Nat → Int} {A : List App} {C : List Cont} (h : Ac2 k U A C) (hk : k < 4) (he : ∀ i, i < k → U' i = U i) {u : Nat} (hu : U' k = (u : Int)) (u0 : u ≠ 0) (u1 : u ≤ 20) :
    Ac2 (k + 1) U' (A ++ [mkB k]) (C ++ CB C.length k u) := by
  obtain ⟨h, hids, hlen, halen⟩ := h
  have hkn : U' k ≠ 0 := by omega
  refine ⟨⟨?_, ?_, ?_, by simp; omega, ?_, ?_, by rw [List.length_append, CB_len]; omega, ?_, ?_⟩, ?_, by rw [List.length_append, CB_len]; omega, by simp; omega⟩
  · intro x hx
    rcases List.mem_append.1 hx with hx | hx
    · obtain ⟨i, h1, h2, h3⟩ := h.apps x hx
      exact ⟨i, by omega, by rw [he i h1]; exact h2, h3⟩
    · exact ⟨k, by omega, hkn, List.mem_singleton.1 hx⟩
  · intro i hi hq
    by_cases e : i = k
    · subst e; simp
    · exact List.mem_append_left _ (h.has i (by omega) (by rw [← he i (by omega)]; exact hq))
  · refine List.pairwise_append.2 ⟨h.asc, by simp, ?_⟩
    intro x hx y hy
    obtain ⟨i, h1, h2, rfl⟩ := h.apps x hx
    rw [List.mem_singleton.1 hy]
    show (i : Int) < (k : Int)
    omega
  · intro c hc
    rcases List.mem_append.1 hc with hc | hc
    · obtain ⟨i, id_, m, h1, h2, h3⟩ := h.conts c hc
      exact ⟨i, id_, m, by omega, by rw [he i h1]; exact h2, h3⟩
    · obtain ⟨j, hj, rfl⟩ := CB_mem hc
      exact ⟨k, _, _, by omega, hkn, rfl⟩
  · refine List.pairwise_append.2 ⟨h.casc, ?_, ?_⟩
    · unfold CB
      rw [List.pairwise_map]
      refine List.Pairwise.imp ?_ List.pairwise_lt_range
      intro a b hab
      show ((C.length + a + 1 : Nat) : Int) < ((C.length + b + 1 : Nat) : Int)
      omega
    · intro x hx y hy
      obtain ⟨j, hj, rfl⟩ := CB_mem hy
      have := hids x hx
      show x.Id < ((C.length + j + 1 : Nat) : Int)
      omega
  · intro i hi
    rw [List.filter_append, List.length_append, CB_app]
    by_cases e : i = k
    · subst e
      have : (C.filter fun c => c.App == (i : Int)) = [] := by
        rw [List.filter_eq_nil_iff]
        intro c hc
        obtain ⟨j, id_, m, h1, h2, rfl⟩ := h.conts c hc
        show ¬ (((j : Int) == (i : Int)) = true)
        rw [beq_iff_eq]; omega
      rw [this, if_pos rfl, hu]; simp
    · rw [if_neg e, he i (by omega), ← h.cnt i (by omega)]; simp
  · intro i hi
    rw [List.filter_append, List.length_append, CB_mas]
    by_cases e : i = k
    · subst e
      have : (C.filter fun c => c.App == (i : Int) && c.Master) = [] := by
        rw [List.filter_eq_nil_iff]
        intro c hc
        obtain ⟨j, id_, m, h1, h2, rfl⟩ := h.conts c hc
        have : ((mkC id_ j m).App == (i : Int)) = false := beq_eq_false_iff_ne.2 (by show (j : Int) ≠ (i : Int); omega)
        rw [this]; simp
      rw [this, if_pos ⟨rfl, u0⟩, if_neg hkn]; simp
    · rw [if_neg (fun q => e q.1), he i (by omega), ← h.mas i (by omega)]; simp
  · intro c hc
    rw [List.length_append, CB_len]
    rcases List.mem_append.1 hc with hc | hc
    · have := hids c hc; omega
    · obtain ⟨j, hj, rfl⟩ := CB_mem hc
      show ((C.length + j + 1 : Nat) : Int) ≤ _
      omega
end Go.Fx.D
