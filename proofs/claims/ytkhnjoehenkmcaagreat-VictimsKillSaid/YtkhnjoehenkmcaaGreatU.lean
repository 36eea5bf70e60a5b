/-
  The law over plain data: true at all inputs. Conditions: none.
-/
import Derived.Test.YtkhnjoehenkmcaaGreatV
import Derived.Test.YtkhnjoehenkmcaaGreatFxC
namespace Go.Fx.D
open Go Go.Fx
set_option linter.unusedVariables false
set_option linter.unusedSimpArgs false
set_option maxRecDepth 1000000
def isT : Option Bool → Bool
 | some true => true
 | _ => false
theorem rf {o : Option Bool} (h : isT o = true) : o = some true:=by
 match o,h with
 | some true,_ => rfl
theorem G0 {x : Int} (h1 : -9223372036854775808 ≤ x) (h2 : x < 9223372036854775808) : w64 x = x:=by
 simp only [w64,IntKind.wrap,IntKind.bits,IntKind.signed]
 simp
 omega
theorem bF {a n : Int} (h0 : 0 < n) (h1 : n ≤ 4611686018427387904) : au a n = some (a % n):=by
 unfold au
 have hn : nz n = some ():=by unfold nz; rw [if_pos (by omega)]
 rw [hn]
 have hm : Int.tmod a n = if 0 ≤ a ∨ n ∣ a then a % n else a % n - n:=by
  rw [Int.tmod_eq_emod]
  split <;> simp [Int.natAbs_of_nonneg (Int.le_of_lt h0)]
 have e0:=Int.emod_nonneg a (show n ≠ 0 by omega)
 have e1:=Int.emod_lt_of_pos a h0
 simp only [G1,Bool.cond_eq_ite,decide_eq_true_eq]
 rw [hm]
 by_cases hc : 0 ≤ a ∨ n ∣ a
 ·rw [if_pos hc,if_neg (by omega)]; rfl
 ·rw [if_neg hc,if_pos (by omega),G0 (by omega) (by omega)]
  simp only [G1,Option.some.injEq]
  omega
theorem jU {a n : Int} (h0 : 0 < n) (h1 : n ≤ 4611686018427387904) : au a n = au (a % n) n:=by
 rw [bF h0 h1,bF h0 h1,Int.emod_emod]
theorem kill0 : ((List.range 2).all fun w => isT (aC (0 : Nat) (w : Nat))) = true:=by kernel_rfl
theorem kill1 : ((List.range 3).all fun w => isT (aC (1 : Nat) (w : Nat))) = true:=by kernel_rfl
theorem kill2 : ((List.range 4).all fun w => isT (aC (2 : Nat) (w : Nat))) = true:=by kernel_rfl
theorem kill3 : ((List.range 5).all fun w => isT (aC (3 : Nat) (w : Nat))) = true:=by kernel_rfl
theorem kill4 : ((List.range 6).all fun w => isT (aC (4 : Nat) (w : Nat))) = true:=by kernel_rfl
theorem kill5 : ((List.range 7).all fun w => isT (aC (5 : Nat) (w : Nat))) = true:=by kernel_rfl
theorem kill6 : ((List.range 8).all fun w => isT (aC (6 : Nat) (w : Nat))) = true:=by kernel_rfl
theorem GR (units wants : Int) (h : units % 7 = 0) : ao units wants = some true:=by
 have e : ao units wants = ao 0 (wants % 2):=by
  unfold ao
  rw [show au units 7 = some 0 by rw [bF (by omega) (by omega),h],show au 0 7 = some 0 from by rw [bF (by omega) (by omega)]; rfl]
  simp only [G1]
  rw [show (w64 ((w64 (Int.tdiv (w64 (2 * (w64 (3 + 0)))) 2)) - 1)) = 2 from by rfl,jU (a:=wants) (n:=2) (by omega) (by omega)]
 rw [e]
 have v0 : 0 ≤ wants % 2 ∧ wants % 2 < 2:=by omega
 generalize wants % 2 = A at *
 have h:=kill0
 simp only [List.all_eq_true,List.mem_range] at h
 have:=h A.toNat (by omega)
 rw [Int.toNat_of_nonneg v0.1] at this
 exact (aK _ _).ok true (rf this)
theorem GD (units wants : Int) (h : units % 7 = 1) : ao units wants = some true:=by
 have e : ao units wants = ao 1 (wants % 3):=by
  unfold ao
  rw [show au units 7 = some 1 by rw [bF (by omega) (by omega),h],show au 1 7 = some 1 from by rw [bF (by omega) (by omega)]; rfl]
  simp only [G1]
  rw [show (w64 ((w64 (Int.tdiv (w64 (2 * (w64 (3 + 1)))) 2)) - 1)) = 3 from by rfl,jU (a:=wants) (n:=3) (by omega) (by omega)]
 rw [e]
 have v0 : 0 ≤ wants % 3 ∧ wants % 3 < 3:=by omega
 generalize wants % 3 = A at *
 have h:=kill1
 simp only [List.all_eq_true,List.mem_range] at h
 have:=h A.toNat (by omega)
 rw [Int.toNat_of_nonneg v0.1] at this
 exact (aK _ _).ok true (rf this)
theorem GS (units wants : Int) (h : units % 7 = 2) : ao units wants = some true:=by
 have e : ao units wants = ao 2 (wants % 4):=by
  unfold ao
  rw [show au units 7 = some 2 by rw [bF (by omega) (by omega),h],show au 2 7 = some 2 from by rw [bF (by omega) (by omega)]; rfl]
  simp only [G1]
  rw [show (w64 ((w64 (Int.tdiv (w64 (2 * (w64 (3 + 2)))) 2)) - 1)) = 4 from by rfl,jU (a:=wants) (n:=4) (by omega) (by omega)]
 rw [e]
 have v0 : 0 ≤ wants % 4 ∧ wants % 4 < 4:=by omega
 generalize wants % 4 = A at *
 have h:=kill2
 simp only [List.all_eq_true,List.mem_range] at h
 have:=h A.toNat (by omega)
 rw [Int.toNat_of_nonneg v0.1] at this
 exact (aK _ _).ok true (rf this)
theorem GI (units wants : Int) (h : units % 7 = 3) : ao units wants = some true:=by
 have e : ao units wants = ao 3 (wants % 5):=by
  unfold ao
  rw [show au units 7 = some 3 by rw [bF (by omega) (by omega),h],show au 3 7 = some 3 from by rw [bF (by omega) (by omega)]; rfl]
  simp only [G1]
  rw [show (w64 ((w64 (Int.tdiv (w64 (2 * (w64 (3 + 3)))) 2)) - 1)) = 5 from by rfl,jU (a:=wants) (n:=5) (by omega) (by omega)]
 rw [e]
 have v0 : 0 ≤ wants % 5 ∧ wants % 5 < 5:=by omega
 generalize wants % 5 = A at *
 have h:=kill3
 simp only [List.all_eq_true,List.mem_range] at h
 have:=h A.toNat (by omega)
 rw [Int.toNat_of_nonneg v0.1] at this
 exact (aK _ _).ok true (rf this)
theorem GL (units wants : Int) (h : units % 7 = 4) : ao units wants = some true:=by
 have e : ao units wants = ao 4 (wants % 6):=by
  unfold ao
  rw [show au units 7 = some 4 by rw [bF (by omega) (by omega),h],show au 4 7 = some 4 from by rw [bF (by omega) (by omega)]; rfl]
  simp only [G1]
  rw [show (w64 ((w64 (Int.tdiv (w64 (2 * (w64 (3 + 4)))) 2)) - 1)) = 6 from by rfl,jU (a:=wants) (n:=6) (by omega) (by omega)]
 rw [e]
 have v0 : 0 ≤ wants % 6 ∧ wants % 6 < 6:=by omega
 generalize wants % 6 = A at *
 have h:=kill4
 simp only [List.all_eq_true,List.mem_range] at h
 have:=h A.toNat (by omega)
 rw [Int.toNat_of_nonneg v0.1] at this
 exact (aK _ _).ok true (rf this)
theorem GQ (units wants : Int) (h : units % 7 = 5) : ao units wants = some true:=by
 have e : ao units wants = ao 5 (wants % 7):=by
  unfold ao
  rw [show au units 7 = some 5 by rw [bF (by omega) (by omega),h],show au 5 7 = some 5 from by rw [bF (by omega) (by omega)]; rfl]
  simp only [G1]
  rw [show (w64 ((w64 (Int.tdiv (w64 (2 * (w64 (3 + 5)))) 2)) - 1)) = 7 from by rfl,jU (a:=wants) (n:=7) (by omega) (by omega)]
 rw [e]
 have v0 : 0 ≤ wants % 7 ∧ wants % 7 < 7:=by omega
 generalize wants % 7 = A at *
 have h:=kill5
 simp only [List.all_eq_true,List.mem_range] at h
 have:=h A.toNat (by omega)
 rw [Int.toNat_of_nonneg v0.1] at this
 exact (aK _ _).ok true (rf this)
theorem GW (units wants : Int) (h : units % 7 = 6) : ao units wants = some true:=by
 have e : ao units wants = ao 6 (wants % 8):=by
  unfold ao
  rw [show au units 7 = some 6 by rw [bF (by omega) (by omega),h],show au 6 7 = some 6 from by rw [bF (by omega) (by omega)]; rfl]
  simp only [G1]
  rw [show (w64 ((w64 (Int.tdiv (w64 (2 * (w64 (3 + 6)))) 2)) - 1)) = 8 from by rfl,jU (a:=wants) (n:=8) (by omega) (by omega)]
 rw [e]
 have v0 : 0 ≤ wants % 8 ∧ wants % 8 < 8:=by omega
 generalize wants % 8 = A at *
 have h:=kill6
 simp only [List.all_eq_true,List.mem_range] at h
 have:=h A.toNat (by omega)
 rw [Int.toNat_of_nonneg v0.1] at this
 exact (aK _ _).ok true (rf this)
theorem xu (units : Int) (wants : Int) (w0 : WfT fam (.int .i64) units) (w1 : WfT fam (.int .i64) wants) : ao units wants = some true:=by
 have u0 : 0 ≤ units % 7 ∧ units % 7 < 7:=by omega
 rcases (by omega : units % 7 = 0 ∨ units % 7 = 1 ∨ units % 7 = 2 ∨ units % 7 = 3 ∨ units % 7 = 4 ∨ units % 7 = 5 ∨ units % 7 = 6) with h | h | h | h | h | h | h
 ·exact GR units wants h
 ·exact GD units wants h
 ·exact GS units wants h
 ·exact GI units wants h
 ·exact GL units wants h
 ·exact GQ units wants h
 ·exact GW units wants h
end Go.Fx.D
