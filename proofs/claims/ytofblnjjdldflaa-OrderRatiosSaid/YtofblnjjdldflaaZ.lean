/-
  Laws over plain data: true at all inputs. Conditions: none.
-/
import Derived.Test.YtofblnjjdldflaaY
namespace Go.Fx.D
open Go Go.Fx
set_option linter.unusedVariables false
set_option linter.unusedSimpArgs false
set_option maxRecDepth 100000

section
variable {n : Nat} {U G : Nat → Int} {A : List App} {C : List Cont}
theorem numQ (g : ∀ i, i < n → 0 ≤ G i ∧ G i ≤ 10000) : ∀ q ∈ QL n G, numOk q := by
  intro q hq
  rcases List.mem_cons.1 hq with rfl | hq
  · exact num_R
  · obtain ⟨i, hi, rfl⟩ := List.mem_map.1 hq
    have := g i (List.mem_range.1 hi)
    refine ⟨(by decide : (1 : Int) ≤ 1), (by decide : (1 : Int) ≤ 1000000), by simp, fun x hx => ?_⟩
    rw [List.mem_singleton] at hx
    subst hx
    exact ⟨this.1, this.2, (by decide : (10000 : Int) ≤ 10000)⟩
theorem checkQ2 (g : ∀ i, i < 2 → 0 ≤ G i ∧ G i ≤ 10000) (hs : G 0 + G 1 = 10000) : dispatchref6_Check ⟨[[]], QL 2 G⟩ = some 0 := by
  have g0 := g 0 (by omega)
  have g1 := g 1 (by omega)
  refine check_ok (by kernel_rfl) rfl (by kernel_rfl) (fun q hq => ?_) (by simp [QL]) (by kernel_rfl) (sums_ok fun k hk => ?_)
  · exact numQ g q hq
  · have ew : w64 (w64 (0 + G 0) + G 1) = 10000 := by
      rw [w64_id (x := 0 + G 0) (by omega) (by omega), w64_id (x := 0 + G 0 + G 1) (by omega) (by omega)]; omega
    match k, hk with
    | 0, hk => exact sums_step (q := qR) (kids := (List.range 2).map P) hk (by simp [QL]) rfl (by kernel_rfl) rfl (.inr ⟨w64 (w64 (0 + G 0) + G 1), by kernel_rfl, ew⟩)
    | 1, hk => exact sums_step (q := ⟨P 0, [⟨G 0, 10000⟩], 1⟩) (kids := []) hk (by simp [QL]) rfl (by kernel_rfl) rfl (.inl rfl)
    | 2, hk => exact sums_step (q := ⟨P 1, [⟨G 1, 10000⟩], 1⟩) (kids := []) hk (by simp [QL]) rfl (by kernel_rfl) rfl (.inl rfl)
    | k + 3, hk => exact absurd (show k + 3 < 3 from hk) (by omega)
theorem checkQ3 (g : ∀ i, i < 3 → 0 ≤ G i ∧ G i ≤ 10000) (hs : G 0 + G 1 + G 2 = 10000) : dispatchref6_Check ⟨[[]], QL 3 G⟩ = some 0 := by
  have g0 := g 0 (by omega)
  have g1 := g 1 (by omega)
  have g2 := g 2 (by omega)
  refine check_ok (by kernel_rfl) rfl (by kernel_rfl) (fun q hq => ?_) (by simp [QL]) (by kernel_rfl) (sums_ok fun k hk => ?_)
  · exact numQ g q hq
  · have ew : w64 (w64 (w64 (0 + G 0) + G 1) + G 2) = 10000 := by
      rw [w64_id (x := 0 + G 0) (by omega) (by omega), w64_id (x := 0 + G 0 + G 1) (by omega) (by omega), w64_id (x := 0 + G 0 + G 1 + G 2) (by omega) (by omega)]; omega
    match k, hk with
    | 0, hk => exact sums_step (q := qR) (kids := (List.range 3).map P) hk (by simp [QL]) rfl (by kernel_rfl) rfl (.inr ⟨w64 (w64 (w64 (0 + G 0) + G 1) + G 2), by kernel_rfl, ew⟩)
    | 1, hk => exact sums_step (q := ⟨P 0, [⟨G 0, 10000⟩], 1⟩) (kids := []) hk (by simp [QL]) rfl (by kernel_rfl) rfl (.inl rfl)
    | 2, hk => exact sums_step (q := ⟨P 1, [⟨G 1, 10000⟩], 1⟩) (kids := []) hk (by simp [QL]) rfl (by kernel_rfl) rfl (.inl rfl)
    | 3, hk => exact sums_step (q := ⟨P 2, [⟨G 2, 10000⟩], 1⟩) (kids := []) hk (by simp [QL]) rfl (by kernel_rfl) rfl (.inl rfl)
    | k + 4, hk => exact absurd (show k + 4 < 4 from hk) (by omega)
theorem checkQ4 (g : ∀ i, i < 4 → 0 ≤ G i ∧ G i ≤ 10000) (hs : G 0 + G 1 + G 2 + G 3 = 10000) : dispatchref6_Check ⟨[[]], QL 4 G⟩ = some 0 := by
  have g0 := g 0 (by omega)
  have g1 := g 1 (by omega)
  have g2 := g 2 (by omega)
  have g3 := g 3 (by omega)
  refine check_ok (by kernel_rfl) rfl (by kernel_rfl) (fun q hq => ?_) (by simp [QL]) (by kernel_rfl) (sums_ok fun k hk => ?_)
  · exact numQ g q hq
  · have ew : w64 (w64 (w64 (w64 (0 + G 0) + G 1) + G 2) + G 3) = 10000 := by
      rw [w64_id (x := 0 + G 0) (by omega) (by omega), w64_id (x := 0 + G 0 + G 1) (by omega) (by omega), w64_id (x := 0 + G 0 + G 1 + G 2) (by omega) (by omega), w64_id (x := 0 + G 0 + G 1 + G 2 + G 3) (by omega) (by omega)]; omega
    match k, hk with
    | 0, hk => exact sums_step (q := qR) (kids := (List.range 4).map P) hk (by simp [QL]) rfl (by kernel_rfl) rfl (.inr ⟨w64 (w64 (w64 (w64 (0 + G 0) + G 1) + G 2) + G 3), by kernel_rfl, ew⟩)
    | 1, hk => exact sums_step (q := ⟨P 0, [⟨G 0, 10000⟩], 1⟩) (kids := []) hk (by simp [QL]) rfl (by kernel_rfl) rfl (.inl rfl)
    | 2, hk => exact sums_step (q := ⟨P 1, [⟨G 1, 10000⟩], 1⟩) (kids := []) hk (by simp [QL]) rfl (by kernel_rfl) rfl (.inl rfl)
    | 3, hk => exact sums_step (q := ⟨P 2, [⟨G 2, 10000⟩], 1⟩) (kids := []) hk (by simp [QL]) rfl (by kernel_rfl) rfl (.inl rfl)
    | 4, hk => exact sums_step (q := ⟨P 3, [⟨G 3, 10000⟩], 1⟩) (kids := []) hk (by simp [QL]) rfl (by kernel_rfl) rfl (.inl rfl)
    | k + 5, hk => exact absurd (show k + 5 < 5 from hk) (by omega)
end
end Go.Fx.D
