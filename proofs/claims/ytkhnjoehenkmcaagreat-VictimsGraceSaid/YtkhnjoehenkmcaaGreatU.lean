/-
  The law over plain data: true at all inputs. Conditions: none.
-/
import Derived.Test.YtkhnjoehenkmcaaGreatV
import Derived.Test.YtkhnjoehenkmcaaGreatFxC
namespace Go.Fx.D
open Go Go.Fx
set_option linter.unusedVariables false
set_option linter.unusedSimpArgs false
set_option maxRecDepth 1000000
def isT : Option Bool → Bool
 | some true => true
 | _ => false
theorem FS {o : Option Bool} (h : isT o = true) : o = some true:=by
 match o,h with
 | some true,_ => rfl
theorem F0 {x : Int} (h1 : -9223372036854775808 ≤ x) (h2 : x < 9223372036854775808) : w64 x = x:=by
 simp only [w64,IntKind.wrap,IntKind.bits,IntKind.signed]
 simp
 omega
theorem yR {a n : Int} (h0 : 0 < n) (h1 : n ≤ 4611686018427387904) : aE a n = some (a % n):=by
 unfold aE
 have hn : nz n = some ():=by unfold nz; rw [if_pos (by omega)]
 rw [hn]
 have hm : Int.tmod a n = if 0 ≤ a ∨ n ∣ a then a % n else a % n - n:=by
  rw [Int.tmod_eq_emod]
  split <;> simp [Int.natAbs_of_nonneg (Int.le_of_lt h0)]
 have e0:=Int.emod_nonneg a (show n ≠ 0 by omega)
 have e1:=Int.emod_lt_of_pos a h0
 simp only [Gd,Bool.cond_eq_ite,decide_eq_true_eq]
 rw [hm]
 by_cases hc : 0 ≤ a ∨ n ∣ a
 ·rw [if_pos hc,if_neg (by omega)]; rfl
 ·rw [if_neg hc,if_pos (by omega),F0 (by omega) (by omega)]
  simp only [Gd,Option.some.injEq]
  omega
theorem xo {a n : Int} (h0 : 0 < n) (h1 : n ≤ 4611686018427387904) : aE a n = aE (a % n) n:=by
 rw [yR h0 h1,yR h0 h1,Int.emod_emod]
theorem FT : ((List.range 7).all fun w => [false,true].all fun g => isT (ax (0 : Nat) (w : Nat) g)) = true:=by kernel_rfl
theorem Ga : ((List.range 7).all fun w => [false,true].all fun g => isT (ax (1 : Nat) (w : Nat) g)) = true:=by kernel_rfl
theorem FP : ((List.range 7).all fun w => [false,true].all fun g => isT (ax (2 : Nat) (w : Nat) g)) = true:=by kernel_rfl
theorem FX : ((List.range 7).all fun w => [false,true].all fun g => isT (ax (3 : Nat) (w : Nat) g)) = true:=by kernel_rfl
theorem F9 : ((List.range 7).all fun w => [false,true].all fun g => isT (ax (4 : Nat) (w : Nat) g)) = true:=by kernel_rfl
theorem FY : ((List.range 7).all fun w => [false,true].all fun g => isT (ax (5 : Nat) (w : Nat) g)) = true:=by kernel_rfl
theorem FN : ((List.range 7).all fun w => [false,true].all fun g => isT (ax (6 : Nat) (w : Nat) g)) = true:=by kernel_rfl
theorem FZ : ((List.range 7).all fun w => [false,true].all fun g => isT (ax (7 : Nat) (w : Nat) g)) = true:=by kernel_rfl
theorem DH (u : Nat) (h : u < 8) : ((List.range 7).all fun w => [false,true].all fun g => isT (ax (u : Nat) (w : Nat) g)) = true:=by
 match u,h with
 | 0,_ => exact FT
 | 1,_ => exact Ga
 | 2,_ => exact FP
 | 3,_ => exact FX
 | 4,_ => exact F9
 | 5,_ => exact FY
 | 6,_ => exact FN
 | 7,_ => exact FZ
 | n + 8,h => omega
theorem vT (units : Int) (wait : Int) (gone : Bool) (w0 : WfT fam (.int .i64) units) (w1 : WfT fam (.int .i64) wait) (w2 : WfT fam .bool gone) : aH units wait gone = some true:=by
 have e : aH units wait gone = aH (units % 8) (wait % 7) gone:=by
  unfold aH
  rw [xo (a:=units) (n:=8) (by omega) (by omega),xo (a:=wait) (n:=7) (by omega) (by omega)]
 rw [e]
 have u0 : 0 ≤ units % 8 ∧ units % 8 < 8:=by omega
 have v0 : 0 ≤ wait % 7 ∧ wait % 7 < 7:=by omega
 generalize units % 8 = U at *
 generalize wait % 7 = A at *
 have h:=DH U.toNat (by omega)
 simp only [List.all_eq_true,List.mem_range] at h
 have:=h A.toNat (by omega) gone (by cases gone <;> simp)
 rw [Int.toNat_of_nonneg u0.1,Int.toNat_of_nonneg v0.1] at this
 exact (mi _ _ _).ok true (FS this)
end Go.Fx.D
