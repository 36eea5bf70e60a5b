/-
  The law over plain data: true at all inputs. Conditions: none.
-/
import Derived.Test.YtdnbceoohjpkeaaGreatV
import Derived.Test.YtdnbceoohjpkeaaGreatFxC
namespace Go.Fx.D
open Go Go.Fx
set_option linter.unusedVariables false
set_option linter.unusedSimpArgs false
set_option maxRecDepth 1000000
def isT : Option Bool → Bool
 | some true => true
 | _ => false
theorem CP {o : Option Bool} (h : isT o = true) : o = some true:=by
 match o,h with
 | some true,_ => rfl
theorem CL {x : Int} (h1 : -9223372036854775808 ≤ x) (h2 : x < 9223372036854775808) : w64 x = x:=by
 simp only [w64,IntKind.wrap,IntKind.bits,IntKind.signed]
 simp
 omega
theorem vJ {a n : Int} (h0 : 0 < n) (h1 : n ≤ 4611686018427387904) : aA a n = some (a % n):=by
 unfold aA
 have hn : nz n = some ():=by unfold nz; rw [if_pos (by omega)]
 rw [hn]
 have hm : Int.tmod a n = if 0 ≤ a ∨ n ∣ a then a % n else a % n - n:=by
  rw [Int.tmod_eq_emod]
  split <;> simp [Int.natAbs_of_nonneg (Int.le_of_lt h0)]
 have e0:=Int.emod_nonneg a (show n ≠ 0 by omega)
 have e1:=Int.emod_lt_of_pos a h0
 simp only [CV,Bool.cond_eq_ite,decide_eq_true_eq]
 rw [hm]
 by_cases hc : 0 ≤ a ∨ n ∣ a
 ·rw [if_pos hc,if_neg (by omega)]; rfl
 ·rw [if_neg hc,if_pos (by omega),CL (by omega) (by omega)]
  simp only [CV,Option.some.injEq]
  omega
theorem qe {a n : Int} (h0 : 0 < n) (h1 : n ≤ 4611686018427387904) : aA a n = aA (a % n) n:=by
 rw [vJ h0 h1,vJ h0 h1,Int.emod_emod]
theorem Cz : ((List.range 4).all fun v => isT (au (0 : Nat) (v : Nat))) = true:=by kernel_rfl
theorem Cw : ((List.range 4).all fun v => isT (au (1 : Nat) (v : Nat))) = true:=by kernel_rfl
theorem Cv : ((List.range 4).all fun v => isT (au (2 : Nat) (v : Nat))) = true:=by kernel_rfl
theorem CR : ((List.range 4).all fun v => isT (au (3 : Nat) (v : Nat))) = true:=by kernel_rfl
theorem Cp : ((List.range 4).all fun v => isT (au (4 : Nat) (v : Nat))) = true:=by kernel_rfl
theorem CC : ((List.range 4).all fun v => isT (au (5 : Nat) (v : Nat))) = true:=by kernel_rfl
theorem CK : ((List.range 4).all fun v => isT (au (6 : Nat) (v : Nat))) = true:=by kernel_rfl
theorem CT : ((List.range 4).all fun v => isT (au (7 : Nat) (v : Nat))) = true:=by kernel_rfl
theorem Ct : ((List.range 4).all fun v => isT (au (8 : Nat) (v : Nat))) = true:=by kernel_rfl
theorem CA : ((List.range 4).all fun v => isT (au (9 : Nat) (v : Nat))) = true:=by kernel_rfl
theorem A0 (u : Nat) (h : u < 10) : ((List.range 4).all fun v => isT (au (u : Nat) (v : Nat))) = true:=by
 match u,h with
 | 0,_ => exact Cz
 | 1,_ => exact Cw
 | 2,_ => exact Cv
 | 3,_ => exact CR
 | 4,_ => exact Cp
 | 5,_ => exact CC
 | 6,_ => exact CK
 | 7,_ => exact CT
 | 8,_ => exact Ct
 | 9,_ => exact CA
 | n + 10,h => omega
theorem CU (waits : Int) : aG waits = aG (waits % 4):=by
 funext t
 unfold aG
 rw [qe (a:=waits) (n:=4) (by omega) (by omega)]
theorem sM (units : Int) (waits : Int) : az units waits = some true:=by
 have e : az units waits = az (units % 10) (waits % 4):=by
  unfold az
  rw [qe (a:=units) (n:=10) (by omega) (by omega),qe (a:=waits) (n:=4) (by omega) (by omega),CU waits]
 rw [e]
 have u0 : 0 ≤ units % 10 ∧ units % 10 < 10:=by omega
 have v0 : 0 ≤ waits % 4 ∧ waits % 4 < 4:=by omega
 generalize units % 10 = U at *
 generalize waits % 4 = A at *
 have h:=A0 U.toNat (by omega)
 simp only [List.all_eq_true,List.mem_range] at h
 have:=h A.toNat (by omega)
 rw [Int.toNat_of_nonneg u0.1,Int.toNat_of_nonneg v0.1] at this
 exact (kf _ _).ok true (CP this)
end Go.Fx.D
