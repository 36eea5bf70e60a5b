/-
  Laws over plain data: true at all inputs. Conditions: none.
-/
import Derived.Test.YtljanmldkldggaaZ
namespace Go.Fx.D
open Go Go.Fx
set_option linter.unusedVariables false
set_option linter.unusedSimpArgs false

theorem ld_cores {n a j : Int} (hn : 0 < n) (ha : 0 < a) (hj : 0 < j) : ld ⟨0, n⟩ ⟨j, a⟩ = (n, a) := by
  unfold ld
  dsimp only
  have e1 : nm 0 j = 1 := by unfold nm; rw [if_pos rfl]
  have e2 : nm n a = a := by unfold nm; rw [if_neg (by omega)]
  have c : cmp 0 1 n a = -1 := by
    unfold cmp
    rw [if_neg (by omega), if_neg (by omega), if_pos (by rw [Int.zero_mul, Int.mul_one]; omega)]
  rw [e1, e2, c]
  rfl
theorem ld_mem {n a j : Int} (hn : 0 < n) (ha : 0 < a) : ld ⟨n, 0⟩ ⟨a, j⟩ = (n, a) := by
  unfold ld
  dsimp only
  have e1 : nm 0 j = 1 := by unfold nm; rw [if_pos rfl]
  have e2 : nm n a = a := by unfold nm; rw [if_neg (by omega)]
  have c : cmp n a 0 1 = 1 := by
    unfold cmp
    rw [if_neg (by omega), if_neg (by omega), if_neg (by rw [Int.zero_mul, Int.mul_one]; omega), if_neg (by rw [Int.zero_mul, Int.mul_one]; omega)]
  rw [e1, e2, c]
  rfl
theorem ld_zero (p : Vec) : ld ⟨0, 0⟩ p = (0, 1) := by
  unfold ld nm
  simp only [if_true]
  rw [cmp_self]
  rfl

theorem wide_cmp {m K b1 b2 : Int} (hm : 2 ≤ m) (hk : 1 ≤ K) (hb : (b1 = m - 2 ∧ b2 = m) ∨ (b1 = 0 ∧ b2 = 1)) :
    cmp (m - 1) m b1 b2 = 1 ∧ cmp b1 b2 (m - 1) m = -1 ∧ cmp (m - 1) m ((m - 1) * K) (m * K) = 0 ∧ cmp b1 b2 ((m - 1) * K) (m * K) = -1 := by
  have hmK : 0 < m * K := Int.mul_pos (by omega) (by omega)
  have lt : b1 * m < (m - 1) * b2 := by
    rcases hb with ⟨rfl, rfl⟩ | ⟨rfl, rfl⟩
    · exact Int.mul_lt_mul_of_pos_right (by omega) (by omega)
    · rw [Int.zero_mul, Int.mul_one]; omega
  have b2p : 0 < b2 := by omega
  have c2 : cmp b1 b2 (m - 1) m = -1 := by
    unfold cmp
    rw [if_neg (by omega), if_neg (by omega), if_pos lt]
  have c1 : cmp (m - 1) m b1 b2 = 1 := by rw [cmp_anti, c2]; rfl
  refine ⟨c1, c2, ?_, ?_⟩
  · unfold cmp
    have e : (m - 1) * (m * K) = (m - 1) * K * m := by rw [Int.mul_assoc, Int.mul_comm m K]
    rw [if_neg (by omega), if_neg (by omega), if_neg (by omega), if_pos e]
  · unfold cmp
    have e : b1 * (m * K) < (m - 1) * K * b2 := by
      rw [← Int.mul_assoc, Int.mul_assoc (m - 1) K b2, Int.mul_comm K b2, ← Int.mul_assoc]
      exact Int.mul_lt_mul_of_pos_right lt (by omega)
    rw [if_neg (by omega), if_neg (by omega), if_pos e]

theorem plainRvecWide (n k : Int) (cores : Bool) (w0 : WfT fam (.int .i64) n) (w1 : WfT fam (.int .i64) k) (w2 : WfT fam .bool cores) : dispatchlaw1_RvecWide n k cores = some true := by
  unfold dispatchlaw1_RvecWide
  rw [known_eq]
  have n1 : 0 ≤ n % 35184372088832 := Int.emod_nonneg _ (by omega)
  have n2 : n % 35184372088832 < 35184372088832 := Int.emod_lt_of_pos _ (by omega)
  have k1 : 0 ≤ k % 30 := Int.emod_nonneg _ (by omega)
  have k2 : k % 30 < 30 := Int.emod_lt_of_pos _ (by omega)
  simp only [Option.bind_some, Bool.not_true, cond_false]
  rw [within_eq (by omega) (by omega), within_eq (by omega) (by omega)]
  simp only [Option.bind_some]
  generalize n % 35184372088832 = N at *
  generalize k % 30 = J at *
  have e1 : w64 (2 + N) = 2 + N := w64_id (by omega) (by omega)
  have e2 : w64 (2 + N - 1) = 2 + N - 1 := w64_id (by omega) (by omega)
  have e3 : w64 (2 + N - 2) = 2 + N - 2 := w64_id (by omega) (by omega)
  have e4 : w64 (1 + J) = 1 + J := w64_id (by omega) (by omega)
  rw [e1, e2, e3, e4]
  obtain ⟨m, hm⟩ : ∃ m, m = 2 + N := ⟨_, rfl⟩
  obtain ⟨K, hK⟩ : ∃ K, K = 1 + J := ⟨_, rfl⟩
  rw [← hm, ← hK]
  have m2 : 2 ≤ m := by omega
  have m3 : m ≤ 35184372088833 := by omega
  have K1 : 1 ≤ K := by omega
  have K2 : K ≤ 30 := by omega
  clear hm hK e1 e2 e3 e4 n1 n2 k1 k2
  have q1 : m * K ≤ m * 30 := Int.mul_le_mul_of_nonneg_left K2 (by omega)
  have q2 : m * 1 ≤ m * K := Int.mul_le_mul_of_nonneg_left K1 (by omega)
  have q3 : (m - 1) * K ≤ (m - 1) * 30 := Int.mul_le_mul_of_nonneg_left K2 (by omega)
  have q4 : (m - 1) * 1 ≤ (m - 1) * K := Int.mul_le_mul_of_nonneg_left K1 (by omega)
  have f1 : w64 (m * K) = m * K := w64_id (by omega) (by omega)
  have f2 : w64 ((m - 1) * K) = (m - 1) * K := w64_id (by omega) (by omega)
  have f3 : w64 (1 * K) = K := by rw [Int.one_mul]; exact w64_id (by omega) (by omega)
  have f4 : w64 (0 * K) = 0 := by rw [Int.zero_mul]; exact w64_id (by omega) (by omega)
  cases cores
  · simp only [cond_false, cond_true, Option.bind_some, dispatchlaw1_times, order_eq, f1, f2, f3, f4]
    have o1 : Ok ⟨m - 1, 0⟩ := by unfold Ok; dsimp only; omega
    have o2 : Ok ⟨m, 1⟩ := by unfold Ok; dsimp only; omega
    have o3 : Ok ⟨m - 2, 0⟩ := by unfold Ok; dsimp only; omega
    have o4 : Ok ⟨(m - 1) * K, 0⟩ := by unfold Ok; dsimp only; omega
    have o5 : Ok ⟨m * K, K⟩ := by unfold Ok; dsimp only; omega
    have l1 : ld ⟨m - 1, 0⟩ ⟨m, 1⟩ = (m - 1, m) := ld_mem (by omega) (by omega)
    have l2 : ld ⟨(m - 1) * K, 0⟩ ⟨m * K, K⟩ = ((m - 1) * K, m * K) := ld_mem (by omega) (by omega)
    have l3 : ∃ b1 b2, ld ⟨m - 2, 0⟩ ⟨m, 1⟩ = (b1, b2) ∧ ((b1 = m - 2 ∧ b2 = m) ∨ (b1 = 0 ∧ b2 = 1)) := by
      by_cases h : m = 2
      · subst h; exact ⟨0, 1, ld_zero _, Or.inr ⟨rfl, rfl⟩⟩
      · exact ⟨m - 2, m, ld_mem (by omega) (by omega), Or.inl ⟨rfl, rfl⟩⟩
    obtain ⟨b1, b2, l3, hb⟩ := l3
    obtain ⟨c1, c2, c3, c4⟩ := wide_cmp m2 K1 hb
    simp only [o1, o2, o3, o4, o5, and_self, if_true, l1, l2, l3, c1, c2, c3, c4]
    rfl
  · simp only [cond_false, cond_true, Option.bind_some, dispatchlaw1_times, order_eq, f1, f2, f3, f4]
    have o1 : Ok ⟨0, m - 1⟩ := by unfold Ok; dsimp only; omega
    have o2 : Ok ⟨1, m⟩ := by unfold Ok; dsimp only; omega
    have o3 : Ok ⟨0, m - 2⟩ := by unfold Ok; dsimp only; omega
    have o4 : Ok ⟨0, (m - 1) * K⟩ := by unfold Ok; dsimp only; omega
    have o5 : Ok ⟨K, m * K⟩ := by unfold Ok; dsimp only; omega
    have l1 : ld ⟨0, m - 1⟩ ⟨1, m⟩ = (m - 1, m) := ld_cores (by omega) (by omega) (by omega)
    have l2 : ld ⟨0, (m - 1) * K⟩ ⟨K, m * K⟩ = ((m - 1) * K, m * K) := ld_cores (by omega) (by omega) (by omega)
    have l3 : ∃ b1 b2, ld ⟨0, m - 2⟩ ⟨1, m⟩ = (b1, b2) ∧ ((b1 = m - 2 ∧ b2 = m) ∨ (b1 = 0 ∧ b2 = 1)) := by
      by_cases h : m = 2
      · subst h; exact ⟨0, 1, ld_zero _, Or.inr ⟨rfl, rfl⟩⟩
      · exact ⟨m - 2, m, ld_cores (by omega) (by omega) (by omega), Or.inl ⟨rfl, rfl⟩⟩
    obtain ⟨b1, b2, l3, hb⟩ := l3
    obtain ⟨c1, c2, c3, c4⟩ := wide_cmp m2 K1 hb
    simp only [o1, o2, o3, o4, o5, and_self, if_true, l1, l2, l3, c1, c2, c3, c4]
    rfl
end Go.Fx.D
