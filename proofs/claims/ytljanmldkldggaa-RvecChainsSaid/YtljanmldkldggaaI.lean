/-
  Laws over plain data: true at all inputs. Conditions: none.
-/
import Derived.Test.YtljanmldkldggaaY
namespace Go.Fx.D
open Go Go.Fx
set_option linter.unusedVariables false
set_option linter.unusedSimpArgs false

/-- rounds from k on: the places from k on are written -/
theorem chains_loop (l : List Vec) (how : Int) (hl : 6 ≤ l.length) : ∃ v : List Vec, loop (dispatchlaw1_RvecChains_l1 l how) ([(⟨0, 0⟩ : Vec), (⟨0, 0⟩ : Vec), (⟨0, 0⟩ : Vec), (⟨0, 0⟩ : Vec), (⟨0, 0⟩ : Vec), (⟨0, 0⟩ : Vec)], 0) = some v ∧ v.length = 6 ∧ ∀ x ∈ v, Ok x := by
  have z0 : Ok ⟨0, 0⟩ := by decide
  have key : ∀ (n : Nat) (k : Nat), n + k = 6 → ∀ v : List Vec, v.length = 6 → (∀ x ∈ v, Ok x) → ∃ u : List Vec, loop (dispatchlaw1_RvecChains_l1 l how) (v, (k : Int)) = some u ∧ u.length = 6 ∧ ∀ x ∈ u, Ok x := by
    intro n
    induction n with
    | zero =>
      intro k hk v hv ho
      have hk : k = 6 := by omega
      subst hk
      refine ⟨v, ?_, hv, ho⟩
      rw [loop_eq]
      rfl
    | succ n ih =>
      intro k hk v hv ho
      have hk6 : k < 6 := by omega
      have hkl : k < l.length := by omega
      obtain ⟨y, e1, o1⟩ := vec_ok l[k] how
      have e2 : idx l (k : Int) = some l[k] := by
        unfold idx
        rw [if_pos (by omega), Int.toNat_natCast, List.getElem?_eq_getElem hkl]
      have e3 : inb (k : Int) 6 = some k := by
        unfold inb
        rw [Int.toNat_natCast, if_pos ⟨by omega, hk6⟩]
      have e4 : v[k]? = some v[k] := List.getElem?_eq_getElem (by omega)
      have e5 : w64 ((k : Int) + 1) = ((k + 1 : Nat) : Int) := by rw [w64_id (by omega) (by omega)]; omega
      rw [loop_eq]
      have : dispatchlaw1_RvecChains_l1 l how (v, (k : Int)) = some (.inl (v.set k y, ((k + 1 : Nat) : Int))) := by
        unfold dispatchlaw1_RvecChains_l1
        have hd : decide ((k : Int) < 6) = true := by rw [decide_eq_true_eq]; omega
        simp only [hd, cond_true, e2, e1, e3, e4, e5, Option.bind_some]
      rw [this]
      refine ih (k + 1) (by omega) (v.set k y) (by simpa using hv) ?_
      intro x hx
      rcases List.mem_or_eq_of_mem_set hx with h | h
      · exact ho x h
      · rw [h]; exact o1
  exact key 6 0 rfl _ rfl (by intro x hx; simp at hx; subst hx; exact z0)

/-- loads stand in an order -/
theorem cmp_neg {n a m b : Int} (h1 : 0 ≤ a) (h2 : 0 ≤ b) : cmp n a m b < 0 ↔ (b = 0 ∧ a ≠ 0) ∨ (a ≠ 0 ∧ b ≠ 0 ∧ n * b < m * a) := by
  unfold cmp
  repeat' split
  all_goals omega
theorem cmp_zero {n a m b : Int} (h1 : 0 ≤ a) (h2 : 0 ≤ b) : cmp n a m b = 0 ↔ (a = 0 ∧ b = 0) ∨ (a ≠ 0 ∧ b ≠ 0 ∧ n * b = m * a) := by
  unfold cmp
  repeat' split
  all_goals omega

theorem cmp_le {n a m b : Int} (h1 : 0 ≤ a) (h2 : 0 ≤ b) : cmp n a m b ≤ 0 ↔ b = 0 ∨ (a ≠ 0 ∧ b ≠ 0 ∧ n * b ≤ m * a) := by
  unfold cmp
  repeat' split
  all_goals omega

theorem mul_chain {n a m b k c : Int} (ha : 0 < a) (hb : 0 < b) (hc : 0 < c) (h1 : n * b ≤ m * a) (h2 : m * c ≤ k * b) : n * c ≤ k * a ∧ (n * b < m * a ∨ m * c < k * b → n * c < k * a) ∧ (n * b = m * a → m * c = k * b → n * c = k * a) := by
  have e1 : n * c * b = n * b * c := by rw [Int.mul_assoc, Int.mul_comm c b, ← Int.mul_assoc]
  have e2 : m * a * c = m * c * a := by rw [Int.mul_assoc, Int.mul_comm a c, ← Int.mul_assoc]
  have e3 : k * b * a = k * a * b := by rw [Int.mul_assoc, Int.mul_comm b a, ← Int.mul_assoc]
  have l1 : n * b * c ≤ m * a * c := Int.mul_le_mul_of_nonneg_right h1 (by omega)
  have l2 : m * c * a ≤ k * b * a := Int.mul_le_mul_of_nonneg_right h2 (by omega)
  refine ⟨?_, ?_, ?_⟩
  · apply Int.le_of_mul_le_mul_right _ hb
    omega
  · rintro (h | h)
    · have l3 : n * b * c < m * a * c := Int.mul_lt_mul_of_pos_right h hc
      apply Int.lt_of_mul_lt_mul_right _ (Int.le_of_lt hb)
      omega
    · have l3 : m * c * a < k * b * a := Int.mul_lt_mul_of_pos_right h ha
      apply Int.lt_of_mul_lt_mul_right _ (Int.le_of_lt hb)
      omega
  · intro h h'
    have : n * c * b = k * a * b := by rw [e1, h, e2, h', e3]
    exact Int.eq_of_mul_eq_mul_right (by omega) this

theorem cmp_chain {n a m b k c : Int} (h1 : 0 ≤ a) (h2 : 0 ≤ b) (h3 : 0 ≤ c) (x : cmp n a m b ≤ 0) (y : cmp m b k c ≤ 0) : cmp n a k c ≤ 0 ∧ (cmp n a k c < 0 ↔ cmp n a m b < 0 ∨ cmp m b k c < 0) := by
  rw [cmp_le h1 h2] at x
  rw [cmp_le h2 h3] at y
  rw [cmp_le h1 h3, cmp_neg h1 h3, cmp_neg h1 h2, cmp_neg h2 h3]
  by_cases hc : c = 0
  · subst hc
    refine ⟨.inl rfl, ?_⟩
    constructor
    · rintro (⟨_, h⟩ | ⟨_, h, _⟩)
      · by_cases hb : b = 0
        · exact .inl (.inl ⟨hb, h⟩)
        · exact .inr (.inl ⟨rfl, hb⟩)
      · exact absurd rfl h
    · rintro ((⟨_, h⟩ | ⟨h, _, _⟩) | (⟨_, h⟩ | ⟨_, h, _⟩))
      · exact .inl ⟨rfl, h⟩
      · exact .inl ⟨rfl, h⟩
      · rcases x with x | ⟨x, _⟩
        · exact absurd x h
        · exact .inl ⟨rfl, x⟩
      · exact absurd rfl h
  · rcases y with y | ⟨y1, _, y2⟩
    · exact absurd y hc
    · rcases x with x | ⟨x1, _, x2⟩
      · exact absurd x y1
      · obtain ⟨k1, k2, k3⟩ := mul_chain (by omega : 0 < a) (by omega : 0 < b) (by omega : 0 < c) x2 y2
        refine ⟨.inr ⟨x1, hc, k1⟩, ?_⟩
        constructor
        · rintro (⟨h, _⟩ | ⟨_, _, h⟩)
          · exact absurd h hc
          · by_cases e1 : n * b < m * a
            · exact .inl (.inr ⟨x1, y1, e1⟩)
            · by_cases e2 : m * c < k * b
              · exact .inr (.inr ⟨y1, hc, e2⟩)
              · have := k3 (by omega) (by omega)
                omega
        · rintro ((⟨h, _⟩ | ⟨_, _, h⟩) | (⟨h, _⟩ | ⟨_, _, h⟩))
          · exact absurd h y1
          · exact .inr ⟨x1, hc, k2 (.inl h)⟩
          · exact absurd h hc
          · exact .inr ⟨x1, hc, k2 (.inr h)⟩

theorem plainRvecChains (l : List Vec) (how : Int) (w0 : WfT fam (.slice (.st 0)) l) (w1 : WfT fam (.int .i64) how) : dispatchlaw1_RvecChains l how = some true := by
  unfold dispatchlaw1_RvecChains
  rw [known_eq]
  by_cases hl : (l.length : Int) < 6
  · simp only [Option.bind_some, Bool.not_true, cond_false, decide_eq_true hl, cond_true]
  · obtain ⟨v, e, hv, ho⟩ := chains_loop l how (by omega)
    match v, hv, ho, e with
    | [v0, v1, v2, v3, v4, v5], _, ho, e =>
      have o0 := ho v0 (by simp)
      have o1 := ho v1 (by simp)
      have o2 := ho v2 (by simp)
      have o3 := ho v3 (by simp)
      have o4 := ho v4 (by simp)
      have o5 := ho v5 (by simp)
      simp only [Option.bind_some, Bool.not_true, cond_false, decide_eq_false hl, e, List.getElem?_cons_zero, List.getElem?_cons_succ, order_eq, o0, o1, o2, o3, o4, o5, and_self, if_true]
      have b1 := (ld_bd o0 o1).2.1
      have b2 := (ld_bd o2 o3).2.1
      have b3 := (ld_bd o4 o5).2.1
      generalize ld v0 v1 = A at *
      generalize ld v2 v3 = B at *
      generalize ld v4 v5 = C at *
      have up := @cmp_chain A.1 A.2 B.1 B.2 C.1 C.2 b1 b2 b3
      have dn := @cmp_chain C.1 C.2 B.1 B.2 A.1 A.2 b3 b2 b1
      rw [cmp_anti B.1 B.2 C.1 C.2, cmp_anti A.1 A.2 B.1 B.2, cmp_anti A.1 A.2 C.1 C.2] at dn
      generalize cmp A.1 A.2 B.1 B.2 = x at *
      generalize cmp B.1 B.2 C.1 C.2 = y at *
      generalize cmp A.1 A.2 C.1 C.2 = z at *
      have up' : x ≤ 0 → y ≤ 0 → z ≤ 0 ∧ (z < 0 ↔ x < 0 ∨ y < 0) := up
      have dn' : 0 ≤ x → 0 ≤ y → 0 ≤ z ∧ (0 < z ↔ 0 < x ∨ 0 < y) := fun h1 h2 => by
        obtain ⟨k1, k2⟩ := dn (by omega) (by omega)
        exact ⟨by omega, by omega⟩
      clear up dn e hl
      have sg : ∀ t : Int, (t < 0 ∧ decide (t ≤ 0) = true ∧ decide (t < 0) = true ∧ decide (t ≥ 0) = false ∧ decide (t > 0) = false) ∨ (t = 0 ∧ decide (t ≤ 0) = true ∧ decide (t < 0) = false ∧ decide (t ≥ 0) = true ∧ decide (t > 0) = false) ∨ (0 < t ∧ decide (t ≤ 0) = false ∧ decide (t < 0) = false ∧ decide (t ≥ 0) = true ∧ decide (t > 0) = true) := by
        intro t
        simp only [decide_eq_true_eq, decide_eq_false_iff_not]
        omega
      rcases sg x with ⟨a0, a1, a2, a3, a4⟩ | ⟨a0, a1, a2, a3, a4⟩ | ⟨a0, a1, a2, a3, a4⟩ <;> rcases sg y with ⟨c0, c1, c2, c3, c4⟩ | ⟨c0, c1, c2, c3, c4⟩ | ⟨c0, c1, c2, c3, c4⟩ <;> rcases sg z with ⟨d0, d1, d2, d3, d4⟩ | ⟨d0, d1, d2, d3, d4⟩ | ⟨d0, d1, d2, d3, d4⟩ <;> first | (simp only [a1, a2, a3, a4, c1, c2, c3, c4, d1, d2, d3, d4, cond_true, cond_false, Option.bind_some]; first | rfl | done) | (exfalso; omega)
end Go.Fx.D
