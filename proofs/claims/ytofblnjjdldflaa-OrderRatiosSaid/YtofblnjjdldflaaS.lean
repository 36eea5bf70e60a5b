/-
  Laws over plain data: true at all inputs. Conditions: none.
-/
import Derived.Test.YtofblnjjdldflaaP
import Derived.Lib.Mul64
import Derived.Laws.Bits64b
import Derived.WalkKit
namespace Go.Fx.D
open Go Go.Fx
set_option linter.unusedVariables false
set_option linter.unusedSimpArgs false
set_option maxRecDepth 100000

/-- a vector within the bounds -/
def Ok (v : Vec) : Prop := 0 ≤ v.Mem ∧ v.Mem ≤ 1125899906842624 ∧ 0 ≤ v.Cores ∧ v.Cores ≤ 1125899906842624
instance (v : Vec) : Decidable (Ok v) := by unfold Ok; infer_instance

theorem good_eq (v : Vec) : rvec_vec_good v = some (decide (Ok v)) := by
  unfold rvec_vec_good Ok
  by_cases h1 : 0 ≤ v.Mem <;> by_cases h2 : v.Mem ≤ 1125899906842624 <;> by_cases h3 : 0 ≤ v.Cores <;> by_cases h4 : v.Cores ≤ 1125899906842624 <;> simp [h1, h2, h3, h4]

theorem over_eq (v : Vec) : rvec_over v = some (if Ok v then (v, 0) else (⟨0, 0⟩, 11)) := by
  unfold rvec_over
  rw [good_eq]
  by_cases h : Ok v <;> simp [h]



theorem u64w (x : Int) : IntKind.u64.wrap x = x % 18446744073709551616 := by rw [IntKind.wrap_u64]
theorem u64id {x : Int} (h : 0 ≤ x) (h2 : x < 18446744073709551616) : IntKind.u64.wrap x = x := by rw [u64w]; omega
theorem shr32 (x : Int) : shrK .u64 x 32 = x / 4294967296 := by
  show x.fdiv (2 ^ min (32 : Int).toNat IntKind.u64.bits) = _
  rw [show (2 ^ min (32 : Int).toNat IntKind.u64.bits : Int) = 4294967296 from by decide, Int.fdiv_eq_ediv_of_nonneg _ (by decide)]
theorem andN (a b : Nat) (ha : a < 18446744073709551616) (hb : b < 18446744073709551616) : andK .u64 (a : Int) (b : Int) = ((a &&& b : Nat) : Int) := by
  show IntKind.u64.wrap ((BitVec.ofInt 64 (a : Int) &&& BitVec.ofInt 64 (b : Int)).toNat) = _
  have e : ((BitVec.ofInt 64 (a : Int) &&& BitVec.ofInt 64 (b : Int)).toNat) = a &&& b := by
    rw [BitVec.toNat_and, BitVec.toNat_ofInt, BitVec.toNat_ofInt]
    congr 1 <;> omega
  rw [e]
  have : a &&& b ≤ a := Nat.and_le_left
  exact u64id (by omega) (by omega)
theorem orN (a b : Nat) (ha : a < 18446744073709551616) (hb : b < 18446744073709551616) : orK .u64 (a : Int) (b : Int) = ((a ||| b : Nat) : Int) := by
  show IntKind.u64.wrap ((BitVec.ofInt 64 (a : Int) ||| BitVec.ofInt 64 (b : Int)).toNat) = _
  have e : ((BitVec.ofInt 64 (a : Int) ||| BitVec.ofInt 64 (b : Int)).toNat) = a ||| b := by
    rw [BitVec.toNat_or, BitVec.toNat_ofInt, BitVec.toNat_ofInt]
    congr 1 <;> omega
  rw [e]
  have : a ||| b < 2 ^ 64 := Nat.or_lt_two_pow (by omega) (by omega)
  exact u64id (by omega) (by omega)
theorem and32 (a : Nat) (ha : a < 18446744073709551616) : andK .u64 (a : Int) 4294967295 = ((a % 4294967296 : Nat) : Int) := by
  have := andN a 4294967295 ha (by omega)
  rw [show ((4294967295 : Nat) : Int) = 4294967295 from rfl] at this
  rw [this, show (4294967295 : Nat) = 2 ^ 32 - 1 from rfl, Nat.and_two_pow_sub_one_eq_mod]

theorem mul64_eq (x y : Nat) (hx : x < 18446744073709551616) (hy : y < 18446744073709551616) :
    bits_Mul64 (x : Int) (y : Int) = some (((x * y / 18446744073709551616 : Nat) : Int), ((x * y % 18446744073709551616 : Nat) : Int)) := by
  obtain ⟨h1, h2, h3, h4⟩ := Lib.mul64_hi x y hx hy
  have a1 := Lib.half_mul_le (a := x / 4294967296) (b := y / 4294967296) (by omega) (by omega)
  have a2 := Lib.half_mul_le (a := x / 4294967296) (b := y % 4294967296) (by omega) (by omega)
  have a3 := Lib.half_mul_le (a := x % 4294967296) (b := y / 4294967296) (by omega) (by omega)
  have a4 := Lib.half_mul_le (a := x % 4294967296) (b := y % 4294967296) (by omega) (by omega)
  have w : ∀ a : Nat, a < 18446744073709551616 → IntKind.u64.wrap (a : Int) = (a : Int) := fun a ha => u64id (by omega) (by omega)
  have d : ∀ a : Nat, (a : Int) / 4294967296 = ((a / 4294967296 : Nat) : Int) := fun a => by omega
  have m : ∀ a b : Nat, (a : Int) * (b : Int) = ((a * b : Nat) : Int) := fun a b => (Int.natCast_mul a b).symm
  have p : ∀ a b : Nat, (a : Int) + (b : Int) = ((a + b : Nat) : Int) := fun a b => (Int.natCast_add a b).symm
  unfold bits_Mul64
  simp only [shr32, d]
  rw [and32 y hy, and32 x hx]
  simp only [m, p]
  rw [w _ (Nat.lt_of_le_of_lt a1 (by omega)), w _ (Nat.lt_of_le_of_lt a2 (by omega)), w _ (Nat.lt_of_le_of_lt a3 (by omega)), w _ (Nat.lt_of_le_of_lt a4 (by omega))]
  simp only [d, p]
  rw [w _ h2]
  simp only [d, p]
  rw [and32 _ h2]
  simp only [p]
  rw [w _ h3]
  simp only [d]
  have hq : x * y / 18446744073709551616 < 18446744073709551616 := by
    have : x * y < 18446744073709551616 * 18446744073709551616 := Nat.mul_lt_mul_of_lt_of_lt hx hy
    omega
  have hs : x / 4294967296 * (y / 4294967296) + (x / 4294967296 * (y % 4294967296) + x % 4294967296 * (y % 4294967296) / 4294967296) / 4294967296 < 18446744073709551616 := by omega
  rw [w _ hs]
  simp only [p]
  rw [h4, w _ hq, u64w]
  simp

set_option maxRecDepth 20000

theorem lz_eq : bits_LeadingZeros64 10000 = some 50 := by kernel_rfl
theorem shl50 (x : Int) : shlK .u64 x 50 = x * 1125899906842624 % 18446744073709551616 := by
  show IntKind.u64.wrap (x * 2 ^ min (50 : Int).toNat IntKind.u64.bits) = _
  rw [show (2 ^ min (50 : Int).toNat IntKind.u64.bits : Int) = 1125899906842624 from by decide, u64w]
theorem shr14 (x : Int) : shrK .u64 x 14 = x / 16384 := by
  show x.fdiv (2 ^ min (14 : Int).toNat IntKind.u64.bits) = _
  rw [show (2 ^ min (14 : Int).toNat IntKind.u64.bits : Int) = 16384 from by decide, Int.fdiv_eq_ediv_of_nonneg _ (by decide)]

theorem or_add (h l : Nat) (hh : h < 16384) (hl : l < 1125899906842624) : orK .u64 (((h * 1125899906842624 : Nat) : Int)) (l : Int) = ((h * 1125899906842624 + l : Nat) : Int) := by
  rw [orN _ _ (by omega) (by omega)]
  have := Nat.shiftLeft_add_eq_or_of_lt (i := 50) (b := l) (by simpa using hl) h
  rw [Nat.shiftLeft_eq] at this
  rw [show (2 ^ 50 : Nat) = 1125899906842624 from rfl] at this
  rw [this]

theorem loop_out {τ σ : Type} {step : τ → Option (τ ⊕ σ)} {t : τ} {r : σ} (h : step t = some (.inr r)) : loop step t = some r := by
  rw [loop_eq, h]

theorem l1_eq (A q r : Nat) (hq : q < 4294967296) : loop (bits_Div64_l1 2621440000 0 (A : Int)) ((q : Int), (r : Int)) = some (q : Int) := by
  have d1 : decide ((q : Int) ≥ 4294967296) = false := by rw [decide_eq_false_iff_not]; omega
  have d2 : IntKind.u64.wrap ((q : Int) * 0) = 0 := by rw [Int.mul_zero, u64w]; rfl
  have d3 : ∀ x : Int, decide ((0 : Int) > IntKind.u64.wrap x) = false := fun x => by
    rw [decide_eq_false_iff_not, u64w]; omega
  apply loop_out
  unfold bits_Div64_l1
  dsimp only
  rw [d1, d2, d3]
  rfl
theorem l2_eq (u0 : Int) (q r : Nat) (hq : q < 4294967296) : loop (bits_Div64_l2 2621440000 0 u0) ((r : Int), (q : Int)) = some (q : Int) := by
  have d1 : decide ((q : Int) ≥ 4294967296) = false := by rw [decide_eq_false_iff_not]; omega
  have d2 : IntKind.u64.wrap ((q : Int) * 0) = 0 := by rw [Int.mul_zero, u64w]; rfl
  have d3 : ∀ x : Int, decide ((0 : Int) > IntKind.u64.wrap x) = false := fun x => by
    rw [decide_eq_false_iff_not, u64w]; omega
  apply loop_out
  unfold bits_Div64_l2
  dsimp only
  rw [d1, d2, d3]
  rfl

theorem q1_eq (U : Nat) (hU : U < 11258999068426240000) : IntKind.u64.wrap (Int.tdiv (U : Int) 2621440000) = ((U / 2621440000 : Nat) : Int) := by
  rw [Int.tdiv_eq_ediv_of_nonneg (by omega), u64id (by omega) (by omega)]; omega
theorem m1_eq (U : Nat) (hU : U < 11258999068426240000) : IntKind.u64.wrap ((((U / 2621440000 : Nat) : Int)) * 2621440000) = ((U / 2621440000 * 2621440000 : Nat) : Int) := by
  rw [u64id (by omega) (by omega)]; omega
theorem r1_eq (U : Nat) (hU : U < 11258999068426240000) : IntKind.u64.wrap ((U : Int) - ((U / 2621440000 * 2621440000 : Nat) : Int)) = ((U % 2621440000 : Nat) : Int) := by
  rw [u64id (by omega) (by omega)]; omega
theorem u21_eq (U A : Nat) (hU : U < 11258999068426240000) (hA : A < 4294967296) : IntKind.u64.wrap (IntKind.u64.wrap (IntKind.u64.wrap ((U : Int) * 4294967296) + (A : Int)) - IntKind.u64.wrap ((((U / 2621440000 : Nat) : Int)) * 11258999068426240000)) = ((U % 2621440000 * 4294967296 + A : Nat) : Int) := by
  rw [u64w, u64w, u64w, u64w]; omega
theorem quo_eq (hi lo U A B : Nat) (h : hi < 10000) (hl : lo < 18446744073709551616) (hU : hi * 1125899906842624 + lo / 16384 = U) (hA : lo % 16384 * 262144 = A) (hB : U % 2621440000 * 4294967296 + A = B) :
    IntKind.u64.wrap (IntKind.u64.wrap ((((U / 2621440000 : Nat) : Int)) * 4294967296) + ((B / 2621440000 : Nat) : Int)) = (((hi * 18446744073709551616 + lo) / 10000 : Nat) : Int) := by
  have e : (hi * 18446744073709551616 + lo) / 10000 = U / 2621440000 * 4294967296 + B / 2621440000 := by omega
  rw [e, u64w, u64w]; omega

theorem div64_long (hi lo : Nat) (h : hi < 10000) (h0 : hi ≠ 0) (hl : lo < 18446744073709551616) : ∃ r, bits_Div64 (hi : Int) (lo : Int) 10000 = some ((((hi * 18446744073709551616 + lo) / 10000 : Nat) : Int), r) := by
  have n0 : nz 10000 = some () := rfl
  have c1 : ((10000 : Int) == 0) = false := rfl
  have c2 : decide ((10000 : Int) ≤ (hi : Int)) = false := by rw [decide_eq_false_iff_not]; omega
  have c3 : ((hi : Int) == 0) = false := by rw [beq_eq_false_iff_ne]; omega
  have s50 : IntKind.u64.wrap 50 = 50 := by decide
  have s14 : IntKind.u64.wrap (64 - 50) = 14 := by decide
  have nn50 : nn 50 = some () := rfl
  have nn14 : nn 14 = some () := rfl
  have y0 : shlK .u64 10000 50 = 11258999068426240000 := by decide
  have y1 : shrK .u64 11258999068426240000 32 = 2621440000 := by decide
  have y2 : andK .u64 11258999068426240000 4294967295 = 0 := by decide
  have nz1 : nz 2621440000 = some () := rfl
  obtain ⟨U, hU, u32⟩ : ∃ U : Nat, hi * 1125899906842624 + lo / 16384 = U ∧ orK .u64 (shlK .u64 (hi : Int) 50) (shrK .u64 (lo : Int) 14) = (U : Int) := by
    refine ⟨_, rfl, ?_⟩
    rw [shl50, shr14, show ((hi : Int) * 1125899906842624 % 18446744073709551616) = ((hi * 1125899906842624 : Nat) : Int) by omega, show ((lo : Int) / 16384) = ((lo / 16384 : Nat) : Int) by omega]
    exact or_add hi _ (by omega) (by omega)
  obtain ⟨A, hA, u1⟩ : ∃ A : Nat, lo % 16384 * 262144 = A ∧ shrK .u64 (shlK .u64 (lo : Int) 50) 32 = (A : Int) := by
    refine ⟨_, rfl, ?_⟩
    rw [shl50, shr32]; omega
  have hUlt : U < 11258999068426240000 := by omega
  have hAlt : A < 4294967296 := by omega
  obtain ⟨B, hB⟩ : ∃ B : Nat, U % 2621440000 * 4294967296 + A = B := ⟨_, rfl⟩
  have hBlt : B < 11258999068426240000 := by omega
  have u21 := u21_eq U A hUlt hAlt
  rw [hB] at u21
  have hq := quo_eq hi lo U A B h hl hU hA hB
  have l1 := l1_eq A (U / 2621440000) (U % 2621440000) (by omega)
  have l2 := l2_eq (andK .u64 (shlK .u64 (lo : Int) 50) 4294967295) (B / 2621440000) (B % 2621440000) (by omega)
  rw [← hq]
  unfold bits_Div64
  simp only [c1, c2, c3, cond_false, n0, Option.bind_some, lz_eq, s50, s14, nn50, nn14, y0, y1, y2, u32, u1, nz1, q1_eq U hUlt, m1_eq U hUlt, r1_eq U hUlt, l1, u21, q1_eq B hBlt, m1_eq B hBlt, r1_eq B hBlt, l2]
  exact ⟨_, rfl⟩

theorem div64_eq (hi lo : Nat) (h : hi < 10000) (hl : lo < 18446744073709551616) : ∃ r, bits_Div64 (hi : Int) (lo : Int) 10000 = some ((((hi * 18446744073709551616 + lo) / 10000 : Nat) : Int), r) := by
  by_cases hz : hi = 0
  · subst hz
    have n0 : nz 10000 = some () := rfl
    have c1 : ((10000 : Int) == 0) = false := rfl
    have c2 : decide ((10000 : Int) ≤ ((0 : Nat) : Int)) = false := rfl
    have c3 : (((0 : Nat) : Int) == 0) = true := rfl
    have e : IntKind.u64.wrap (Int.tdiv (lo : Int) 10000) = (((0 * 18446744073709551616 + lo) / 10000 : Nat) : Int) := by
      rw [Int.tdiv_eq_ediv_of_nonneg (by omega), u64id (by omega) (by omega)]; omega
    refine ⟨Int.tmod (lo : Int) 10000, ?_⟩
    rw [← e]
    unfold bits_Div64
    simp only [c1, c2, c3, cond_false, cond_true, n0, Option.bind_some]
  · exact div64_long hi lo h hz hl

theorem part_eq {n bp : Int} (h0 : 0 ≤ n) (h1 : n ≤ 1125899906842624) (b0 : 0 ≤ bp) (b1 : bp ≤ 1000000) : rvec_part n bp = some (n * bp / 10000) := by
  obtain ⟨n, rfl⟩ := Int.eq_ofNat_of_zero_le h0
  obtain ⟨bp, rfl⟩ := Int.eq_ofNat_of_zero_le b0
  unfold rvec_part
  rw [u64id (by omega) (by omega), u64id (by omega) (by omega), mul64_eq n bp (by omega) (by omega)]
  simp only [Option.bind_some]
  have hm : n * bp ≤ 1125899906842624 * 1000000 := Nat.mul_le_mul (by omega) (by omega)
  obtain ⟨r, hr⟩ := div64_eq (n * bp / 18446744073709551616) (n * bp % 18446744073709551616) (by omega) (by omega)
  rw [hr]
  simp only [Option.bind_some, Option.some.injEq]
  rw [show n * bp / 18446744073709551616 * 18446744073709551616 + n * bp % 18446744073709551616 = n * bp by omega, w64_id (by omega) (by omega)]
  rw [← Int.natCast_mul]
  omega


theorem mul_le2 {n bp N B : Int} (h0 : 0 ≤ n) (h1 : n ≤ N) (b0 : 0 ≤ bp) (b1 : bp ≤ B) : 0 ≤ n * bp ∧ n * bp ≤ N * B :=
  ⟨Int.mul_nonneg h0 b0, Int.mul_le_mul h1 b1 b0 (by omega)⟩

theorem scale_eq (a : Vec) (bp : Int) : rvec_Scale a bp = some (if Ok a ∧ 0 ≤ bp ∧ bp ≤ 1000000 then (if Ok ⟨a.Mem * bp / 10000, a.Cores * bp / 10000⟩ then (⟨a.Mem * bp / 10000, a.Cores * bp / 10000⟩, 0) else (⟨0, 0⟩, 11)) else (⟨0, 0⟩, 1)) := by
  unfold rvec_Scale
  rw [good_eq]
  by_cases h : Ok a
  · by_cases b0 : 0 ≤ bp
    · by_cases b1 : bp ≤ 1000000
      · have p1 := part_eq (n := a.Mem) h.1 h.2.1 b0 b1
        have p2 := part_eq (n := a.Cores) h.2.2.1 h.2.2.2 b0 b1
        have d1 : decide (bp < 0) = false := by rw [decide_eq_false_iff_not]; omega
        have d2 : decide (bp > 1000000) = false := by rw [decide_eq_false_iff_not]; omega
        rw [if_pos ⟨h, b0, b1⟩]
        simp only [h, decide_true, Option.bind_some, Bool.not_true, cond_false, d1, d2, p1, p2, over_eq]
      · have d1 : decide (bp < 0) = false := by rw [decide_eq_false_iff_not]; omega
        have d2 : decide (bp > 1000000) = true := by rw [decide_eq_true_eq]; omega
        rw [if_neg (fun q => b1 q.2.2)]
        simp only [h, decide_true, Option.bind_some, Bool.not_true, cond_false, cond_true, d1, d2]
    · have d1 : decide (bp < 0) = true := by rw [decide_eq_true_eq]; omega
      rw [if_neg (fun q => b0 q.2.1)]
      simp only [h, decide_true, Option.bind_some, Bool.not_true, cond_false, cond_true, d1]
  · rw [if_neg (fun q => h q.1)]
    simp only [h, decide_false, Option.bind_some, Bool.not_false, cond_true]

theorem scale_le {x : Vec} (o : Ok x) {k : Int} (k0 : 0 ≤ k) (k1 : k ≤ 10000) : rvec_Scale x k = some (⟨x.Mem * k / 10000, x.Cores * k / 10000⟩, 0) ∧ x.Mem * k / 10000 ≤ x.Mem ∧ x.Cores * k / 10000 ≤ x.Cores ∧ 0 ≤ x.Mem * k / 10000 ∧ 0 ≤ x.Cores * k / 10000 := by
  have m1 : 0 ≤ x.Mem * k ∧ x.Mem * k ≤ x.Mem * 10000 := ⟨Int.mul_nonneg o.1 k0, Int.mul_le_mul_of_nonneg_left k1 o.1⟩
  have m2 : 0 ≤ x.Cores * k ∧ x.Cores * k ≤ x.Cores * 10000 := ⟨Int.mul_nonneg o.2.2.1 k0, Int.mul_le_mul_of_nonneg_left k1 o.2.2.1⟩
  rw [scale_eq, if_pos ⟨o, k0, by omega⟩]
  generalize x.Mem * k = K1 at m1 ⊢
  generalize x.Cores * k = K2 at m2 ⊢
  rw [if_pos (by unfold Ok at *; dsimp only; omega)]
  exact ⟨rfl, by omega, by omega, by omega, by omega⟩
end Go.Fx.D
