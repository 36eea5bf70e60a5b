/-
  Laws over plain data: true at all inputs. Conditions: none.
-/
import Derived.Test.YtljanmldkldggaaM
namespace Go.Fx.D
open Go Go.Fx
set_option linter.unusedVariables false
set_option linter.unusedSimpArgs false
set_option maxRecDepth 20000

theorem lz_eq : bits_LeadingZeros64 10000 = some 50 := by kernel_rfl
theorem shl50 (x : Int) : shlK .u64 x 50 = x * 1125899906842624 % 18446744073709551616 := by
  show IntKind.u64.wrap (x * 2 ^ min (50 : Int).toNat IntKind.u64.bits) = _
  rw [show (2 ^ min (50 : Int).toNat IntKind.u64.bits : Int) = 1125899906842624 from by decide, u64w]
theorem shr14 (x : Int) : shrK .u64 x 14 = x / 16384 := by
  show x.fdiv (2 ^ min (14 : Int).toNat IntKind.u64.bits) = _
  rw [show (2 ^ min (14 : Int).toNat IntKind.u64.bits : Int) = 16384 from by decide, Int.fdiv_eq_ediv_of_nonneg _ (by decide)]

theorem or_add (h l : Nat) (hh : h < 16384) (hl : l < 1125899906842624) : orK .u64 (((h * 1125899906842624 : Nat) : Int)) (l : Int) = ((h * 1125899906842624 + l : Nat) : Int) := by
  rw [orN _ _ (by omega) (by omega)]
  have := Nat.shiftLeft_add_eq_or_of_lt (i := 50) (b := l) (by simpa using hl) h
  rw [Nat.shiftLeft_eq] at this
  rw [show (2 ^ 50 : Nat) = 1125899906842624 from rfl] at this
  rw [this]

theorem loop_out {τ σ : Type} {step : τ → Option (τ ⊕ σ)} {t : τ} {r : σ} (h : step t = some (.inr r)) : loop step t = some r := by
  rw [loop_eq, h]

theorem l1_eq (A q r : Nat) (hq : q < 4294967296) : loop (bits_Div64_l1 2621440000 0 (A : Int)) ((q : Int), (r : Int)) = some (q : Int) := by
  have d1 : decide ((q : Int) ≥ 4294967296) = false := by rw [decide_eq_false_iff_not]; omega
  have d2 : IntKind.u64.wrap ((q : Int) * 0) = 0 := by rw [Int.mul_zero, u64w]; rfl
  have d3 : ∀ x : Int, decide ((0 : Int) > IntKind.u64.wrap x) = false := fun x => by
    rw [decide_eq_false_iff_not, u64w]; omega
  apply loop_out
  unfold bits_Div64_l1
  dsimp only
  rw [d1, d2, d3]
  rfl
theorem l2_eq (u0 : Int) (q r : Nat) (hq : q < 4294967296) : loop (bits_Div64_l2 2621440000 0 u0) ((r : Int), (q : Int)) = some (q : Int) := by
  have d1 : decide ((q : Int) ≥ 4294967296) = false := by rw [decide_eq_false_iff_not]; omega
  have d2 : IntKind.u64.wrap ((q : Int) * 0) = 0 := by rw [Int.mul_zero, u64w]; rfl
  have d3 : ∀ x : Int, decide ((0 : Int) > IntKind.u64.wrap x) = false := fun x => by
    rw [decide_eq_false_iff_not, u64w]; omega
  apply loop_out
  unfold bits_Div64_l2
  dsimp only
  rw [d1, d2, d3]
  rfl

theorem q1_eq (U : Nat) (hU : U < 11258999068426240000) : IntKind.u64.wrap (Int.tdiv (U : Int) 2621440000) = ((U / 2621440000 : Nat) : Int) := by
  rw [Int.tdiv_eq_ediv_of_nonneg (by omega), u64id (by omega) (by omega)]; omega
theorem m1_eq (U : Nat) (hU : U < 11258999068426240000) : IntKind.u64.wrap ((((U / 2621440000 : Nat) : Int)) * 2621440000) = ((U / 2621440000 * 2621440000 : Nat) : Int) := by
  rw [u64id (by omega) (by omega)]; omega
theorem r1_eq (U : Nat) (hU : U < 11258999068426240000) : IntKind.u64.wrap ((U : Int) - ((U / 2621440000 * 2621440000 : Nat) : Int)) = ((U % 2621440000 : Nat) : Int) := by
  rw [u64id (by omega) (by omega)]; omega
theorem u21_eq (U A : Nat) (hU : U < 11258999068426240000) (hA : A < 4294967296) : IntKind.u64.wrap (IntKind.u64.wrap (IntKind.u64.wrap ((U : Int) * 4294967296) + (A : Int)) - IntKind.u64.wrap ((((U / 2621440000 : Nat) : Int)) * 11258999068426240000)) = ((U % 2621440000 * 4294967296 + A : Nat) : Int) := by
  rw [u64w, u64w, u64w, u64w]; omega
theorem quo_eq (hi lo U A B : Nat) (h : hi < 10000) (hl : lo < 18446744073709551616) (hU : hi * 1125899906842624 + lo / 16384 = U) (hA : lo % 16384 * 262144 = A) (hB : U % 2621440000 * 4294967296 + A = B) :
    IntKind.u64.wrap (IntKind.u64.wrap ((((U / 2621440000 : Nat) : Int)) * 4294967296) + ((B / 2621440000 : Nat) : Int)) = (((hi * 18446744073709551616 + lo) / 10000 : Nat) : Int) := by
  have e : (hi * 18446744073709551616 + lo) / 10000 = U / 2621440000 * 4294967296 + B / 2621440000 := by omega
  rw [e, u64w, u64w]; omega

theorem div64_long (hi lo : Nat) (h : hi < 10000) (h0 : hi ≠ 0) (hl : lo < 18446744073709551616) : ∃ r, bits_Div64 (hi : Int) (lo : Int) 10000 = some ((((hi * 18446744073709551616 + lo) / 10000 : Nat) : Int), r) := by
  have n0 : nz 10000 = some () := rfl
  have c1 : ((10000 : Int) == 0) = false := rfl
  have c2 : decide ((10000 : Int) ≤ (hi : Int)) = false := by rw [decide_eq_false_iff_not]; omega
  have c3 : ((hi : Int) == 0) = false := by rw [beq_eq_false_iff_ne]; omega
  have s50 : IntKind.u64.wrap 50 = 50 := by decide
  have s14 : IntKind.u64.wrap (64 - 50) = 14 := by decide
  have nn50 : nn 50 = some () := rfl
  have nn14 : nn 14 = some () := rfl
  have y0 : shlK .u64 10000 50 = 11258999068426240000 := by decide
  have y1 : shrK .u64 11258999068426240000 32 = 2621440000 := by decide
  have y2 : andK .u64 11258999068426240000 4294967295 = 0 := by decide
  have nz1 : nz 2621440000 = some () := rfl
  obtain ⟨U, hU, u32⟩ : ∃ U : Nat, hi * 1125899906842624 + lo / 16384 = U ∧ orK .u64 (shlK .u64 (hi : Int) 50) (shrK .u64 (lo : Int) 14) = (U : Int) := by
    refine ⟨_, rfl, ?_⟩
    rw [shl50, shr14, show ((hi : Int) * 1125899906842624 % 18446744073709551616) = ((hi * 1125899906842624 : Nat) : Int) by omega, show ((lo : Int) / 16384) = ((lo / 16384 : Nat) : Int) by omega]
    exact or_add hi _ (by omega) (by omega)
  obtain ⟨A, hA, u1⟩ : ∃ A : Nat, lo % 16384 * 262144 = A ∧ shrK .u64 (shlK .u64 (lo : Int) 50) 32 = (A : Int) := by
    refine ⟨_, rfl, ?_⟩
    rw [shl50, shr32]; omega
  have hUlt : U < 11258999068426240000 := by omega
  have hAlt : A < 4294967296 := by omega
  obtain ⟨B, hB⟩ : ∃ B : Nat, U % 2621440000 * 4294967296 + A = B := ⟨_, rfl⟩
  have hBlt : B < 11258999068426240000 := by omega
  have u21 := u21_eq U A hUlt hAlt
  rw [hB] at u21
  have hq := quo_eq hi lo U A B h hl hU hA hB
  have l1 := l1_eq A (U / 2621440000) (U % 2621440000) (by omega)
  have l2 := l2_eq (andK .u64 (shlK .u64 (lo : Int) 50) 4294967295) (B / 2621440000) (B % 2621440000) (by omega)
  rw [← hq]
  unfold bits_Div64
  simp only [c1, c2, c3, cond_false, n0, Option.bind_some, lz_eq, s50, s14, nn50, nn14, y0, y1, y2, u32, u1, nz1, q1_eq U hUlt, m1_eq U hUlt, r1_eq U hUlt, l1, u21, q1_eq B hBlt, m1_eq B hBlt, r1_eq B hBlt, l2]
  exact ⟨_, rfl⟩

theorem div64_eq (hi lo : Nat) (h : hi < 10000) (hl : lo < 18446744073709551616) : ∃ r, bits_Div64 (hi : Int) (lo : Int) 10000 = some ((((hi * 18446744073709551616 + lo) / 10000 : Nat) : Int), r) := by
  by_cases hz : hi = 0
  · subst hz
    have n0 : nz 10000 = some () := rfl
    have c1 : ((10000 : Int) == 0) = false := rfl
    have c2 : decide ((10000 : Int) ≤ ((0 : Nat) : Int)) = false := rfl
    have c3 : (((0 : Nat) : Int) == 0) = true := rfl
    have e : IntKind.u64.wrap (Int.tdiv (lo : Int) 10000) = (((0 * 18446744073709551616 + lo) / 10000 : Nat) : Int) := by
      rw [Int.tdiv_eq_ediv_of_nonneg (by omega), u64id (by omega) (by omega)]; omega
    refine ⟨Int.tmod (lo : Int) 10000, ?_⟩
    rw [← e]
    unfold bits_Div64
    simp only [c1, c2, c3, cond_false, cond_true, n0, Option.bind_some]
  · exact div64_long hi lo h hz hl

theorem part_eq {n bp : Int} (h0 : 0 ≤ n) (h1 : n ≤ 1125899906842624) (b0 : 0 ≤ bp) (b1 : bp ≤ 1000000) : rvec_part n bp = some (n * bp / 10000) := by
  obtain ⟨n, rfl⟩ := Int.eq_ofNat_of_zero_le h0
  obtain ⟨bp, rfl⟩ := Int.eq_ofNat_of_zero_le b0
  unfold rvec_part
  rw [u64id (by omega) (by omega), u64id (by omega) (by omega), mul64_eq n bp (by omega) (by omega)]
  simp only [Option.bind_some]
  have hm : n * bp ≤ 1125899906842624 * 1000000 := Nat.mul_le_mul (by omega) (by omega)
  obtain ⟨r, hr⟩ := div64_eq (n * bp / 18446744073709551616) (n * bp % 18446744073709551616) (by omega) (by omega)
  rw [hr]
  simp only [Option.bind_some, Option.some.injEq]
  rw [show n * bp / 18446744073709551616 * 18446744073709551616 + n * bp % 18446744073709551616 = n * bp by omega, w64_id (by omega) (by omega)]
  rw [← Int.natCast_mul]
  omega
end Go.Fx.D
