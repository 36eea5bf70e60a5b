/-
  The law over plain data: true at all inputs. Conditions: none.
-/
import Derived.Test.YtmpaebhomokjmaaGreatV
import Derived.Test.YtmpaebhomokjmaaGreatFxC
namespace Go.Fx.D
open Go Go.Fx
set_option linter.unusedVariables false
set_option linter.unusedSimpArgs false
set_option maxRecDepth 1000000
def isT : Option Bool → Bool
 | some true => true
 | _ => false
theorem BO {o : Option Bool} (h : isT o = true) : o = some true:=by
 match o,h with
 | some true,_ => rfl
theorem BJ {x : Int} (h1 : -9223372036854775808 ≤ x) (h2 : x < 9223372036854775808) : w64 x = x:=by
 simp only [w64,IntKind.wrap,IntKind.bits,IntKind.signed]
 simp
 omega
theorem u2 {a n : Int} (h0 : 0 < n) (h1 : n ≤ 4611686018427387904) : aG a n = some (a % n):=by
 unfold aG
 have hn : nz n = some ():=by unfold nz; rw [if_pos (by omega)]
 rw [hn]
 have hm : Int.tmod a n = if 0 ≤ a ∨ n ∣ a then a % n else a % n - n:=by
  rw [Int.tmod_eq_emod]
  split <;> simp [Int.natAbs_of_nonneg (Int.le_of_lt h0)]
 have e0:=Int.emod_nonneg a (show n ≠ 0 by omega)
 have e1:=Int.emod_lt_of_pos a h0
 simp only [B8,Bool.cond_eq_ite,decide_eq_true_eq]
 rw [hm]
 by_cases hc : 0 ≤ a ∨ n ∣ a
 ·rw [if_pos hc,if_neg (by omega)]; rfl
 ·rw [if_neg hc,if_pos (by omega),BJ (by omega) (by omega)]
  simp only [B8,Option.some.injEq]
  omega
theorem ql {a n : Int} (h0 : 0 < n) (h1 : n ≤ 4611686018427387904) : aG a n = aG (a % n) n:=by
 rw [u2 h0 h1,u2 h0 h1,Int.emod_emod]
theorem free0 : ((List.range 10).all fun v => (List.range 10).all fun x => isT (au (0 : Nat) (v : Nat) (x : Nat))) = true:=by kernel_rfl
theorem free1 : ((List.range 10).all fun v => (List.range 10).all fun x => isT (au (1 : Nat) (v : Nat) (x : Nat))) = true:=by kernel_rfl
theorem free2 : ((List.range 10).all fun v => (List.range 10).all fun x => isT (au (2 : Nat) (v : Nat) (x : Nat))) = true:=by kernel_rfl
theorem free3 : ((List.range 10).all fun v => (List.range 10).all fun x => isT (au (3 : Nat) (v : Nat) (x : Nat))) = true:=by kernel_rfl
theorem free4 : ((List.range 10).all fun v => (List.range 10).all fun x => isT (au (4 : Nat) (v : Nat) (x : Nat))) = true:=by kernel_rfl
theorem free5 : ((List.range 10).all fun v => (List.range 10).all fun x => isT (au (5 : Nat) (v : Nat) (x : Nat))) = true:=by kernel_rfl
theorem free6 : ((List.range 10).all fun v => (List.range 10).all fun x => isT (au (6 : Nat) (v : Nat) (x : Nat))) = true:=by kernel_rfl
theorem free7 : ((List.range 10).all fun v => (List.range 10).all fun x => isT (au (7 : Nat) (v : Nat) (x : Nat))) = true:=by kernel_rfl
theorem free8 : ((List.range 10).all fun v => (List.range 10).all fun x => isT (au (8 : Nat) (v : Nat) (x : Nat))) = true:=by kernel_rfl
theorem free9 : ((List.range 10).all fun v => (List.range 10).all fun x => isT (au (9 : Nat) (v : Nat) (x : Nat))) = true:=by kernel_rfl
theorem AY (u : Nat) (h : u < 10) : ((List.range 10).all fun v => (List.range 10).all fun x => isT (au (u : Nat) (v : Nat) (x : Nat))) = true:=by
 match u,h with
 | 0,_ => exact free0
 | 1,_ => exact free1
 | 2,_ => exact free2
 | 3,_ => exact free3
 | 4,_ => exact free4
 | 5,_ => exact free5
 | 6,_ => exact free6
 | 7,_ => exact free7
 | 8,_ => exact free8
 | 9,_ => exact free9
 | n + 10,h => omega
theorem ta (units : Int) (wants : Int) (free : Int) (w0 : WfT fam (.int .i64) units) (w1 : WfT fam (.int .i64) wants) (w2 : WfT fam (.int .i64) free) : aC units wants free = some true:=by
 have e : aC units wants free = aC (units % 10) (wants % 10) (free % 10):=by
  unfold aC
  rw [ql (a:=units) (n:=10) (by omega) (by omega),ql (a:=wants) (n:=10) (by omega) (by omega),ql (a:=free) (n:=10) (by omega) (by omega)]
 rw [e]
 have u0 : 0 ≤ units % 10 ∧ units % 10 < 10:=by omega
 have v0 : 0 ≤ wants % 10 ∧ wants % 10 < 10:=by omega
 have x0 : 0 ≤ free % 10 ∧ free % 10 < 10:=by omega
 generalize units % 10 = U at *
 generalize wants % 10 = A at *
 generalize free % 10 = B at *
 have h:=AY U.toNat (by omega)
 simp only [List.all_eq_true,List.mem_range] at h
 have:=h A.toNat (by omega) B.toNat (by omega)
 rw [Int.toNat_of_nonneg u0.1,Int.toNat_of_nonneg v0.1,Int.toNat_of_nonneg x0.1] at this
 exact (li _ _ _).ok true (BO this)
end Go.Fx.D
