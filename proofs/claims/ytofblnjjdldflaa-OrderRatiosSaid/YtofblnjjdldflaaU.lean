/-
  Laws over plain data: true at all inputs. Conditions: none.
-/
import Derived.Test.YtofblnjjdldflaaT
namespace Go.Fx.D
open Go Go.Fx
set_option linter.unusedVariables false
set_option linter.unusedSimpArgs false
set_option maxRecDepth 100000

theorem loop_next {τ σ : Type} {step : τ → Option (τ ⊕ σ)} {t t' : τ} (h : step t = some (.inl t')) : loop step t = loop step t' := by
  rw [loop_eq, h]
theorem or2 (x y : Int) : cmp_Or_int_ [x, y] = some (if x ≠ 0 then x else y) := by
  unfold cmp_Or_int_
  have s0 : x ≠ 0 → cmp_Or_int__l1 [x, y] 0 = some (.inr (.inl x)) := by
    intro h
    have : (x != 0) = true := by simp [h]
    show (bif x != 0 then some (Sum.inr (Sum.inl x)) else some (Sum.inl (w64 (0 + 1)))) = _
    rw [this]; rfl
  have s1 : y ≠ 0 → cmp_Or_int__l1 [x, y] 1 = some (.inr (.inl y)) := by
    intro h
    have : (y != 0) = true := by simp [h]
    show (bif y != 0 then some (Sum.inr (Sum.inl y)) else some (Sum.inl (w64 (1 + 1)))) = _
    rw [this]; rfl
  by_cases h : x = 0
  · subst h
    have t0 : cmp_Or_int__l1 [0, y] 0 = some (.inl 1) := rfl
    rw [loop_next t0, if_neg (by simp)]
    by_cases k : y = 0
    · subst k
      have t1 : cmp_Or_int__l1 [0, 0] 1 = some (.inl 2) := rfl
      have t2 : cmp_Or_int__l1 [0, 0] 2 = some (.inr (.inr ())) := rfl
      rw [loop_next t1, loop_out t2]; rfl
    · rw [loop_out (s1 k)]; rfl
  · rw [loop_out (s0 h), if_pos h]; rfl

/-- what stands below -/
def oF (u h : Int) : Int := if u = 0 then 1 else h
def LtR (u h u' h' : Int) : Prop := oF u h ≠ 0 ∧ (oF u' h' = 0 ∨ u * oF u' h' < u' * oF u h)
def EqR (u h u' h' : Int) : Prop := (oF u h = 0 ∧ oF u' h' = 0) ∨ (oF u h ≠ 0 ∧ oF u' h' ≠ 0 ∧ u * oF u' h' = u' * oF u h)
instance (u h u' h' : Int) : Decidable (LtR u h u' h') := by unfold LtR; infer_instance
instance (u h u' h' : Int) : Decidable (EqR u h u' h') := by unfold EqR; infer_instance

theorem mul_small {x y : Int} (x0 : 0 ≤ x) (x1 : x ≤ 1000) (y0 : 0 ≤ y) (y1 : y ≤ 1000) : bits_Mul64 x y = some (0, x * y) ∧ 0 ≤ x * y ∧ x * y ≤ 1000000 := by
  obtain ⟨m, rfl⟩ : ∃ m : Nat, x = (m : Int) := ⟨x.toNat, by omega⟩
  obtain ⟨n, rfl⟩ : ∃ n : Nat, y = (n : Int) := ⟨y.toNat, by omega⟩
  have h : m * n ≤ 1000 * 1000 := Nat.mul_le_mul (by omega) (by omega)
  have e := mul64_eq m n (by omega) (by omega)
  have e1 : m * n / 18446744073709551616 = 0 := Nat.div_eq_of_lt (by omega)
  have e2 : m * n % 18446744073709551616 = m * n := Nat.mod_eq_of_lt (by omega)
  rw [e, e1, e2]
  refine ⟨by simp, ?_, ?_⟩
  · exact Int.mul_nonneg (by omega) (by omega)
  · have : ((m * n : Nat) : Int) ≤ ((1000 * 1000 : Nat) : Int) := by exact_mod_cast h
    rw [Int.natCast_mul] at this
    omega

theorem ratio_cmp {n o n' o' : Int} (a0 : 0 ≤ n) (a1 : n ≤ 1000) (b0 : 0 ≤ o) (b1 : o ≤ 1000) (c0 : 0 ≤ n') (c1 : n' ≤ 1000) (d0 : 0 ≤ o') (d1 : o' ≤ 1000) :
    rvec_ratio_compare ⟨n, o⟩ ⟨n', o'⟩ = some (if o = 0 ∧ o' = 0 then 0 else if o = 0 then 1 else if o' = 0 then -1 else if n * o' < n' * o then -1 else if n * o' = n' * o then 0 else 1) := by
  obtain ⟨e1, _, _⟩ := mul_small a0 a1 d0 d1
  obtain ⟨e2, _, _⟩ := mul_small c0 c1 b0 b1
  unfold rvec_ratio_compare
  by_cases h1 : o = 0
  · by_cases h2 : o' = 0
    · simp [h1, h2]
    · have q2 : (o' == 0) = false := beq_eq_false_iff_ne.2 h2
      simp [h1, h2, q2]
  · by_cases h2 : o' = 0
    · have q1 : (o == 0) = false := beq_eq_false_iff_ne.2 h1
      simp [h1, h2, q1]
    · have q1 : (o == 0) = false := by simp [h1]
      have q2 : (o' == 0) = false := by simp [h2]
      simp only [q1, q2, cond_false, Option.bind_some, e1, e2]
      rw [if_neg (by simp [h1]), if_neg h1, if_neg h2]
      rcases Int.lt_trichotomy (n * o') (n' * o) with h | h | h
      · simp [h]
      · simp [h]
      · have h3 : ¬ n * o' < n' * o := by omega
        have h4 : ¬ n * o' = n' * o := by omega
        have h5 : (n * o' == n' * o) = false := beq_eq_false_iff_ne.2 h4
        simp [h3, h4, h5]

theorem load_eq {u h : Int} (u0 : 0 ≤ u) (u1 : u ≤ 1000) (h0 : 0 ≤ h) (h1 : h ≤ 1000) : rvec_load ⟨u, u⟩ ⟨h, h⟩ = some ⟨u, oF u h⟩ := by
  have o0 : 0 ≤ oF u h := by unfold oF; split <;> omega
  have o1 : oF u h ≤ 1000 := by unfold oF; split <;> omega
  have e : ∀ get, (get = (fun a' : TupT fam [.st 3] => rvec_vec_mem a'.1) ∨ get = (fun a' : TupT fam [.st 3] => rvec_vec_cores a'.1)) → rvec_of ⟨u, u⟩ ⟨h, h⟩ get = some ⟨u, oF u h⟩ := by
    intro get hg
    have g1 : get (⟨u, u⟩, ()) = some u := by rcases hg with rfl | rfl <;> rfl
    have g2 : get (⟨h, h⟩, ()) = some h := by rcases hg with rfl | rfl <;> rfl
    unfold rvec_of
    rw [g1, g2]
    simp only [Option.bind_some]
    by_cases hu : u = 0
    · subst hu; simp [oF]
    · have : (u == 0) = false := by simp [hu]
      rw [this]
      simp only [cond_false]
      rw [u64id u0 (by omega), u64id h0 (by omega)]
      simp [oF, hu]
  unfold rvec_load
  rw [e _ (.inl rfl), e _ (.inr rfl)]
  simp only [Option.bind_some]
  rw [ratio_cmp u0 u1 o0 o1 u0 u1 o0 o1]
  simp only [Option.bind_some]
  have cs : ∀ (b : Bool) (x : Option Ratio), cond b x x = x := by intro b x; cases b <;> rfl
  exact cs _ _

theorem order_eq {u h u' h' : Int} (u0 : 0 ≤ u) (u1 : u ≤ 1000) (h0 : 0 ≤ h) (h1 : h ≤ 1000) (u0' : 0 ≤ u') (u1' : u' ≤ 1000) (h0' : 0 ≤ h') (h1' : h' ≤ 1000) :
    ∃ r, rvec_Order ⟨u, u⟩ ⟨h, h⟩ ⟨u', u'⟩ ⟨h', h'⟩ = some r ∧ (r < 0 ↔ LtR u h u' h') ∧ (r = 0 ↔ EqR u h u' h') := by
  have o0 : 0 ≤ oF u h := by unfold oF; split <;> omega
  have o1 : oF u h ≤ 1000 := by unfold oF; split <;> omega
  have p0 : 0 ≤ oF u' h' := by unfold oF; split <;> omega
  have p1 : oF u' h' ≤ 1000 := by unfold oF; split <;> omega
  have g : ∀ x : Int, 0 ≤ x → x ≤ 1000 → rvec_vec_good ⟨x, x⟩ = some true := by
    intro x hx hx'
    rw [good_eq, decide_eq_true (by unfold Ok; dsimp only; omega)]
  unfold rvec_Order
  rw [g u u0 u1, g h h0 h1, g u' u0' u1', g h' h0' h1', load_eq u0 u1 h0 h1, load_eq u0' u1' h0' h1']
  simp only [Option.bind_some, Bool.not_true, cond_false]
  rw [ratio_cmp u0 u1 o0 o1 u0' u1' p0 p1]
  refine ⟨_, rfl, ?_⟩
  unfold LtR EqR
  generalize oF u h = o at *
  generalize oF u' h' = o' at *
  by_cases z1 : o = 0
  · by_cases z2 : o' = 0
    · simp [z1, z2]
    · simp [z1, z2]
  · by_cases z2 : o' = 0
    · simp [z1, z2]
    · rcases Int.lt_trichotomy (u * o') (u' * o) with k | k | k
      · have k2 : ¬ u * o' = u' * o := by omega
        simp [z1, z2, k, k2]
      · simp [z1, z2, k]
      · have k1 : ¬ u * o' < u' * o := by omega
        have k2 : ¬ u * o' = u' * o := by omega
        simp [z1, z2, k1, k2]

theorem str_cmp (x y : List UInt8) : ∃ r, cmp_Compare_string_ x y = some r ∧ (r < 0 ↔ Op.bytesLess x y = true) := by
  unfold cmp_Compare_string_ cmp_isNaN_string_
  simp only [beq_self_eq_true, Bool.not_true, Option.bind_some, cond_false]
  cases h : Op.bytesLess x y with
  | true => exact ⟨-1, rfl, by simp⟩
  | false =>
    cases strLe x y with
    | true => exact ⟨0, rfl, by simp⟩
    | false => exact ⟨1, rfl, by simp⟩

def LtL (x y : Load) : Prop := LtR x.used.Mem x.least.Mem y.used.Mem y.least.Mem ∨ (EqR x.used.Mem x.least.Mem y.used.Mem y.least.Mem ∧ Op.bytesLess x.path y.path = true)
def PmL (x : Load) : Prop := 0 ≤ x.used.Mem ∧ x.used.Mem ≤ 1000 ∧ x.used.Cores = x.used.Mem ∧ 0 ≤ x.least.Mem ∧ x.least.Mem ≤ 1000 ∧ x.least.Cores = x.least.Mem

theorem cmp_load (x y : Load) (hx : PmL x) (hy : PmL y) : ∃ r, order_load_compare x y = some r ∧ (r < 0 ↔ LtL x y) := by
  obtain ⟨px, ⟨u, c⟩, ⟨h, d⟩⟩ := x
  obtain ⟨py, ⟨u', c'⟩, ⟨h', d'⟩⟩ := y
  obtain ⟨x1, x2, x3, x4, x5, x6⟩ := hx
  obtain ⟨y1, y2, y3, y4, y5, y6⟩ := hy
  dsimp only at *
  subst x3; subst x6; subst y3; subst y6
  obtain ⟨r, e1, e2, e3⟩ := order_eq x1 x2 x4 x5 y1 y2 y4 y5
  obtain ⟨s, f1, f2⟩ := str_cmp px py
  unfold order_load_compare
  dsimp only
  rw [e1, f1]
  simp only [Option.bind_some]
  rw [or2]
  refine ⟨_, rfl, ?_⟩
  unfold LtL
  dsimp only
  by_cases hr : r = 0
  · rw [if_neg (by simp [hr]), f2]
    have n1 : ¬ LtR c d c' d' := by rw [← e2]; omega
    have n2 : EqR c d c' d' := e3.1 hr
    simp [n1, n2]
  · rw [if_pos hr, e2]
    have n2 : ¬ EqR c d c' d' := fun k => hr (e3.2 k)
    simp [n2]

/-! ratios stand in one row -/
theorem cross {a b c oa ob oc : Int} (ha : 0 < oa) (hb : 0 < ob) (hc : 0 < oc) (h1 : a * ob ≤ b * oa) (h2 : b * oc ≤ c * ob) : a * oc ≤ c * oa ∧ (a * ob < b * oa ∨ b * oc < c * ob → a * oc < c * oa) := by
  have m1 : a * ob * oc ≤ b * oa * oc := Int.mul_le_mul_of_nonneg_right h1 (by omega)
  have m2 : b * oc * oa ≤ c * ob * oa := Int.mul_le_mul_of_nonneg_right h2 (by omega)
  have e1 : a * ob * oc = a * oc * ob := by rw [Int.mul_right_comm]
  have e2 : b * oa * oc = b * oc * oa := by rw [Int.mul_right_comm]
  have e3 : c * ob * oa = c * oa * ob := by rw [Int.mul_right_comm]
  constructor
  · exact Int.le_of_mul_le_mul_right (a := ob) (by omega) hb
  · intro h
    refine Int.lt_of_mul_lt_mul_right (a := ob) ?_ (by omega)
    rcases h with h | h
    · have := Int.mul_lt_mul_of_pos_right h hc
      omega
    · have := Int.mul_lt_mul_of_pos_right h ha
      omega
theorem oF_nn {u h : Int} (hh : 0 ≤ h) : 0 ≤ oF u h := by unfold oF; split <;> omega

theorem ltR_trans {u h u' h' u'' h'' : Int} (q : 0 ≤ h) (q' : 0 ≤ h') (q'' : 0 ≤ h'') : (LtR u h u' h' ∨ EqR u h u' h') → (LtR u' h' u'' h'' ∨ EqR u' h' u'' h'') → (LtR u h u'' h'' ∨ EqR u h u'' h'') ∧ (LtR u h u' h' ∨ LtR u' h' u'' h'' → LtR u h u'' h'') := by
  have p := oF_nn (u := u) q
  have p' := oF_nn (u := u') q'
  have p'' := oF_nn (u := u'') q''
  unfold LtR EqR
  generalize oF u h = o at *
  generalize oF u' h' = o' at *
  generalize oF u'' h'' = o'' at *
  intro h1 h2
  by_cases z : o = 0
  · have z' : o' = 0 := by
      rcases h1 with h1 | h1 | h1
      · exact absurd z h1.1
      · exact h1.2
      · exact absurd z h1.1
    have z'' : o'' = 0 := by
      rcases h2 with h2 | h2 | h2
      · exact absurd z' h2.1
      · exact h2.2
      · exact absurd z' h2.1
    refine ⟨.inr (.inl ⟨z, z''⟩), fun k => ?_⟩
    rcases k with k | k
    · exact absurd z k.1
    · exact absurd z' k.1
  · by_cases z'' : o'' = 0
    · exact ⟨.inl ⟨z, .inl z''⟩, fun _ => ⟨z, .inl z''⟩⟩
    · have z' : o' ≠ 0 := by
        intro z'
        rcases h2 with h2 | h2
        · exact h2.1 z'
        · rcases h2 with h2 | h2
          · exact z'' h2.2
          · exact h2.1 z'
      have k1 : u * o' ≤ u' * o := by
        rcases h1 with h1 | h1
        · have := h1.2.resolve_left z'; omega
        · rcases h1 with h1 | h1
          · exact absurd h1.1 z
          · omega
      have k2 : u' * o'' ≤ u'' * o' := by
        rcases h2 with h2 | h2
        · have := h2.2.resolve_left z''; omega
        · rcases h2 with h2 | h2
          · exact absurd h2.1 z'
          · omega
      obtain ⟨c1, c2⟩ := cross (by omega : 0 < o) (by omega : 0 < o') (by omega : 0 < o'') k1 k2
      refine ⟨?_, fun k => ⟨z, .inr (c2 ?_)⟩⟩
      · rcases Int.lt_or_eq_of_le c1 with c | c
        · exact .inl ⟨z, .inr c⟩
        · exact .inr (.inr ⟨z, z'', c⟩)
      · rcases k with k | k
        · exact .inl (k.2.resolve_left z')
        · exact .inr (k.2.resolve_left z'')
end Go.Fx.D
