/-
  The framework: slices.SortFunc, slices.Sort. Conditions: none.
-/
import Derived.Test.YtkbpndpddlhgbaaFxB
import Derived.Shelf.Sort.Plain
/-
  The typed framework, part 31: slices.Sort of numbers.
-/
namespace Go.Fx
open Go Go.Shelf
set_option linter.unusedVariables false
set_option linter.unusedSimpArgs false

section
variable {F : Fam} {P : Program}

section
variable {α : Type} [Inhabited α] {enc : α → Value} {w : World} {b off m : Nat} {dk : Array α} {os : Array Obj}

theorem sr_size : w.heap.size ≤ (Sort.grow (Sort.putRow enc (Sort.ahead w m) b off dk) os).heap.size := by
  simp [Sort.grow, Sort.putRow, Sort.mapBlock, Sort.ahead]
theorem sr_other {b' : Nat} (hne : b' ≠ b) (hlt : b' < w.heap.size) : (Sort.grow (Sort.putRow enc (Sort.ahead w m) b off dk) os).heap[b']? = w.heap[b']? := by
  simp only [Sort.grow, Sort.putRow, Sort.mapBlock, Sort.ahead]
  rw [Array.getElem?_append_left (by simpa using hlt), Array.getElem?_modify, if_neg (fun e => hne e.symm)]
theorem sr_self {c : Array Value} {e : TypeId} {fr : Nat × Nat} (h : w.heap[b]? = some (.cells c e fr)) : (Sort.grow (Sort.putRow enc (Sort.ahead w m) b off dk) os).heap[b]? = some (.cells (Sort.putCells enc off dk c) e fr) := by
  have hlt : b < w.heap.size := (Array.getElem?_eq_some_iff.1 h).1
  simp only [Sort.grow, Sort.putRow, Sort.mapBlock, Sort.ahead]
  rw [Array.getElem?_append_left (by simpa using hlt), Array.getElem?_modify, if_pos rfl, h]
  rfl
end

/-- slices.Sort of numbers, some of them -/
def sortI (l : List Int) : Option (List Int) := if l ≠ [] ∧ l.length < 4611686018427387904 then some (l.mergeSort fun x y => decide (x ≤ y)) else none

theorem sortI_ok {ρ : Ren} (L : Proofs.Lays.n189 P ρ) (hent : CanEnter P (ρ.f 189)) :
    FnOk (F := F) P (ρ.f 189) ⟨[.row (.int .i64) false], [], fun a => sortI a.1⟩ := by
  refine ⟨hent, ?_⟩
  intro a r hr imm w vs pls bxs hheld hpl himm
  obtain ⟨l, u⟩ := a
  obtain ⟨v, vs', p1, p2, b1, b2, rfl, rfl, rfl, ⟨pl, rfl, rfl, hrow, hv⟩, rfl, rfl, rfl⟩ := hheld
  dsimp only at hr
  unfold sortI at hr
  split at hr
  rotate_left
  · cases hr
  rename_i hc
  obtain ⟨hne, hlen⟩ := hc
  have hr' : r = (l.mergeSort fun x y => decide (x ≤ y) : List Int) := (Option.some.inj hr).symm
  clear hr
  subst hr'
  have hv : OwnV pl v := hv
  cases pl with
  | none => exact absurd hrow hne
  | some q =>
  obtain ⟨b, cap, n'⟩ := q
  obtain ⟨rfl, hle, hmx, cur, e, hb, hcl, hcr⟩ := hrow
  cases hv
  have hblk : b < w.heap.size := (Array.getElem?_eq_some_iff.1 hb).1
  have hcl' : cur.length = cap := by rw [hcl]; simp [szT]
  have flatAt : ∀ (s : List Int) (j : Nat) (d : ND F), (cells F (.int .i64) s)[j]? = some d → ∃ x, s[j]? = some x ∧ d = .i .i64 x := by
    intro s j d hd
    have : cells F (.int .i64) s = s.map fun x => (.i .i64 x : ND F) := by
      clear hd
      unfold cells
      induction s with
      | nil => rfl
      | cons x s ih => simp [encT] at *; exact ih
    rw [this, List.getElem?_map] at hd
    obtain ⟨x, h1, h2⟩ := Option.map_eq_some_iff.1 hd
    exact ⟨x, h1, h2.symm⟩
  have hH : Sort.Holds (Value.int .i64) w b 0 (List.toArray l : Array Int) := by
    intro j hj
    have hj' : j < List.length l := by simpa using hj
    have hle' : List.length l ≤ cap := hle
    have hjc : j < cur.length := by rw [hcl']; omega
    have hjl : j < (cells F (.int .i64) l).length := by rw [cells_len]; simpa [szT] using hj'
    have q3 := hcr j _ _ (List.getElem?_eq_getElem hjl) (List.getElem?_eq_getElem hjc)
    obtain ⟨x, h1, h2⟩ := flatAt l j _ (List.getElem?_eq_getElem hjl)
    rw [h2] at q3
    have q4 : cur[j] = .int .i64 x := by
      generalize cur[j] = z at q3
      cases q3
      rfl
    refine ⟨?_, ?_⟩
    · simp only [World.cell?, hb, Nat.zero_add]
      have : (List.toArray l : Array Int)[j]! = x := by
        rw [getElem!_def]
        simp [h1]
      rw [this, ← q4]
      simp [hjc]
    · simp [World.frozen?, hb]
  refine (Proofs.Any.slices_Sort_int L b 0 cap l w hH hblk hlen).mono ?_
  rintro e' w' ⟨rfl, m, os, rfl⟩
  have hsl : (l.mergeSort fun x y => decide (x ≤ y) : List Int).length = List.length l := List.length_mergeSort _
  generalize (l.mergeSort fun x y => decide (x ≤ y) : List Int) = s at *
  refine ⟨[], imm, [], rfl, rfl, rfl, rfl, ?_, sr_size, ?_, fun _ h => h, fun _ h => .inl h, fun b' hb' => Nat.lt_of_lt_of_le (himm b' hb') sr_size, ⟨some (b, cap, List.length l), rfl, rfl, ?_, rfl⟩, ⟨?_, ?_, ?_⟩, ?_⟩
  · simp [Sort.grow, Sort.putRow, Sort.mapBlock, Sort.ahead]
  · intro b' hlt hno
    exact sr_other (fun e => hno (by simp [plBlks_append, plBlks, e])) hlt
  · refine ⟨hsl.symm, by rw [hsl]; exact hle, hmx, (Sort.putCells (Value.int .i64) 0 (List.toArray s : Array Int) ⟨cur⟩).toList, e, sr_self hb, ?_, ?_⟩
    · simp [Sort.putCells, hcl]
    · intro j d x hd hx
      obtain ⟨y, h1, rfl⟩ := flatAt s j d hd
      have hjs : j < s.length := (List.getElem?_eq_some_iff.1 h1).1
      simp only [Sort.putCells, Array.toList_mapIdx, List.getElem?_mapIdx] at hx
      cases hcj : cur[j]? with
      | none => simp [hcj] at hx
      | some z =>
        simp only [hcj, Option.map_some, Option.some.injEq, Nat.zero_le, true_and, Nat.zero_add, Nat.sub_zero] at hx
        rw [if_pos (by simpa using hjs)] at hx
        have : (List.toArray s : Array Int)[j]! = y := by
          rw [getElem!_def]
          simp [h1]
        rw [this] at hx
        subst hx
        exact .i _ _
  · simp [plBlks_append, plBlks]
  · intro b' hb'
    exact hpl.imm b' (by simpa [plBlks_append, plBlks] using hb')
  · intro b' hb'
    exact Nat.lt_of_lt_of_le (hpl.lt b' (by simpa [plBlks_append, plBlks] using hb')) sr_size
  · intro b' hb'
    exact .inl (by simpa [plBlks_append, plBlks] using hb')
end
end Go.Fx

