/-
  The law over plain data: true at all inputs. Conditions: none.
-/
import Derived.Test.YtkagmokhbmbjdaaGreatDoorU0
import Derived.Test.YtkagmokhbmbjdaaGreatDoorU1
import Derived.Test.YtkagmokhbmbjdaaGreatDoorU2
import Derived.Test.YtkagmokhbmbjdaaGreatDoorU3
import Derived.Test.YtkagmokhbmbjdaaGreatDoorU4
import Derived.Test.YtkagmokhbmbjdaaGreatDoorFxC
namespace Go.Fx.D
open Go Go.Fx
set_option linter.unusedVariables false
set_option linter.unusedSimpArgs false
set_option maxRecDepth 1000000
theorem M5 (need units long : Int) (h : units % 10 = 0) : ap need units long = some true:=by
 have e : ap need units long = ap (need % 1) 0 (long % 8):=by
  unfold ap
  rw [show av units 10 = some 0 by rw [aO (by omega) (by omega),h],show av 0 10 = some 0 from by rw [aO (by omega) (by omega)]; rfl]
  simp only [Nn]
  rw [show (w64 ((w64 (3 + 0)) - 2)) = 1 from by rfl,aN (a:=need) (n:=1) (by omega) (by omega),aN (a:=long) (n:=8) (by omega) (by omega)]
 rw [e]
 have v0 : 0 ≤ need % 1 ∧ need % 1 < 1:=by omega
 have v1 : 0 ≤ long % 8 ∧ long % 8 < 8:=by omega
 generalize need % 1 = A at *
 generalize long % 8 = L at *
 have h:=plan0 A.toNat (by omega)
 simp only [List.all_eq_true,List.mem_range] at h
 have:=h L.toNat (by omega)
 rw [Int.toNat_of_nonneg v0.1,Int.toNat_of_nonneg v1.1] at this
 exact (aG _ _ _).ok true (lp this)
theorem M9 (need units long : Int) (h : units % 10 = 1) : ap need units long = some true:=by
 have e : ap need units long = ap (need % 2) 1 (long % 8):=by
  unfold ap
  rw [show av units 10 = some 1 by rw [aO (by omega) (by omega),h],show av 1 10 = some 1 from by rw [aO (by omega) (by omega)]; rfl]
  simp only [Nn]
  rw [show (w64 ((w64 (3 + 1)) - 2)) = 2 from by rfl,aN (a:=need) (n:=2) (by omega) (by omega),aN (a:=long) (n:=8) (by omega) (by omega)]
 rw [e]
 have v0 : 0 ≤ need % 2 ∧ need % 2 < 2:=by omega
 have v1 : 0 ≤ long % 8 ∧ long % 8 < 8:=by omega
 generalize need % 2 = A at *
 generalize long % 8 = L at *
 have h:=plan1 A.toNat (by omega)
 simp only [List.all_eq_true,List.mem_range] at h
 have:=h L.toNat (by omega)
 rw [Int.toNat_of_nonneg v0.1,Int.toNat_of_nonneg v1.1] at this
 exact (aG _ _ _).ok true (lp this)
theorem MW (need units long : Int) (h : units % 10 = 2) : ap need units long = some true:=by
 have e : ap need units long = ap (need % 3) 2 (long % 8):=by
  unfold ap
  rw [show av units 10 = some 2 by rw [aO (by omega) (by omega),h],show av 2 10 = some 2 from by rw [aO (by omega) (by omega)]; rfl]
  simp only [Nn]
  rw [show (w64 ((w64 (3 + 2)) - 2)) = 3 from by rfl,aN (a:=need) (n:=3) (by omega) (by omega),aN (a:=long) (n:=8) (by omega) (by omega)]
 rw [e]
 have v0 : 0 ≤ need % 3 ∧ need % 3 < 3:=by omega
 have v1 : 0 ≤ long % 8 ∧ long % 8 < 8:=by omega
 generalize need % 3 = A at *
 generalize long % 8 = L at *
 have h:=plan2 A.toNat (by omega)
 simp only [List.all_eq_true,List.mem_range] at h
 have:=h L.toNat (by omega)
 rw [Int.toNat_of_nonneg v0.1,Int.toNat_of_nonneg v1.1] at this
 exact (aG _ _ _).ok true (lp this)
theorem Nb (need units long : Int) (h : units % 10 = 3) : ap need units long = some true:=by
 have e : ap need units long = ap (need % 4) 3 (long % 8):=by
  unfold ap
  rw [show av units 10 = some 3 by rw [aO (by omega) (by omega),h],show av 3 10 = some 3 from by rw [aO (by omega) (by omega)]; rfl]
  simp only [Nn]
  rw [show (w64 ((w64 (3 + 3)) - 2)) = 4 from by rfl,aN (a:=need) (n:=4) (by omega) (by omega),aN (a:=long) (n:=8) (by omega) (by omega)]
 rw [e]
 have v0 : 0 ≤ need % 4 ∧ need % 4 < 4:=by omega
 have v1 : 0 ≤ long % 8 ∧ long % 8 < 8:=by omega
 generalize need % 4 = A at *
 generalize long % 8 = L at *
 have h:=plan3 A.toNat (by omega)
 simp only [List.all_eq_true,List.mem_range] at h
 have:=h L.toNat (by omega)
 rw [Int.toNat_of_nonneg v0.1,Int.toNat_of_nonneg v1.1] at this
 exact (aG _ _ _).ok true (lp this)
theorem Na (need units long : Int) (h : units % 10 = 4) : ap need units long = some true:=by
 have e : ap need units long = ap (need % 5) 4 (long % 8):=by
  unfold ap
  rw [show av units 10 = some 4 by rw [aO (by omega) (by omega),h],show av 4 10 = some 4 from by rw [aO (by omega) (by omega)]; rfl]
  simp only [Nn]
  rw [show (w64 ((w64 (3 + 4)) - 2)) = 5 from by rfl,aN (a:=need) (n:=5) (by omega) (by omega),aN (a:=long) (n:=8) (by omega) (by omega)]
 rw [e]
 have v0 : 0 ≤ need % 5 ∧ need % 5 < 5:=by omega
 have v1 : 0 ≤ long % 8 ∧ long % 8 < 8:=by omega
 generalize need % 5 = A at *
 generalize long % 8 = L at *
 have h:=plan4 A.toNat (by omega)
 simp only [List.all_eq_true,List.mem_range] at h
 have:=h L.toNat (by omega)
 rw [Int.toNat_of_nonneg v0.1,Int.toNat_of_nonneg v1.1] at this
 exact (aG _ _ _).ok true (lp this)
theorem M4 (need units long : Int) (h : units % 10 = 5) : ap need units long = some true:=by
 have e : ap need units long = ap (need % 6) 5 (long % 8):=by
  unfold ap
  rw [show av units 10 = some 5 by rw [aO (by omega) (by omega),h],show av 5 10 = some 5 from by rw [aO (by omega) (by omega)]; rfl]
  simp only [Nn]
  rw [show (w64 ((w64 (3 + 5)) - 2)) = 6 from by rfl,aN (a:=need) (n:=6) (by omega) (by omega),aN (a:=long) (n:=8) (by omega) (by omega)]
 rw [e]
 have v0 : 0 ≤ need % 6 ∧ need % 6 < 6:=by omega
 have v1 : 0 ≤ long % 8 ∧ long % 8 < 8:=by omega
 generalize need % 6 = A at *
 generalize long % 8 = L at *
 have h:=plan5 A.toNat (by omega)
 simp only [List.all_eq_true,List.mem_range] at h
 have:=h L.toNat (by omega)
 rw [Int.toNat_of_nonneg v0.1,Int.toNat_of_nonneg v1.1] at this
 exact (aG _ _ _).ok true (lp this)
theorem MZ (need units long : Int) (h : units % 10 = 6) : ap need units long = some true:=by
 have e : ap need units long = ap (need % 7) 6 (long % 8):=by
  unfold ap
  rw [show av units 10 = some 6 by rw [aO (by omega) (by omega),h],show av 6 10 = some 6 from by rw [aO (by omega) (by omega)]; rfl]
  simp only [Nn]
  rw [show (w64 ((w64 (3 + 6)) - 2)) = 7 from by rfl,aN (a:=need) (n:=7) (by omega) (by omega),aN (a:=long) (n:=8) (by omega) (by omega)]
 rw [e]
 have v0 : 0 ≤ need % 7 ∧ need % 7 < 7:=by omega
 have v1 : 0 ≤ long % 8 ∧ long % 8 < 8:=by omega
 generalize need % 7 = A at *
 generalize long % 8 = L at *
 have h:=plan6 A.toNat (by omega)
 simp only [List.all_eq_true,List.mem_range] at h
 have:=h L.toNat (by omega)
 rw [Int.toNat_of_nonneg v0.1,Int.toNat_of_nonneg v1.1] at this
 exact (aG _ _ _).ok true (lp this)
theorem M_ (need units long : Int) (h : units % 10 = 7) : ap need units long = some true:=by
 have e : ap need units long = ap (need % 8) 7 (long % 8):=by
  unfold ap
  rw [show av units 10 = some 7 by rw [aO (by omega) (by omega),h],show av 7 10 = some 7 from by rw [aO (by omega) (by omega)]; rfl]
  simp only [Nn]
  rw [show (w64 ((w64 (3 + 7)) - 2)) = 8 from by rfl,aN (a:=need) (n:=8) (by omega) (by omega),aN (a:=long) (n:=8) (by omega) (by omega)]
 rw [e]
 have v0 : 0 ≤ need % 8 ∧ need % 8 < 8:=by omega
 have v1 : 0 ≤ long % 8 ∧ long % 8 < 8:=by omega
 generalize need % 8 = A at *
 generalize long % 8 = L at *
 have h:=plan7 A.toNat (by omega)
 simp only [List.all_eq_true,List.mem_range] at h
 have:=h L.toNat (by omega)
 rw [Int.toNat_of_nonneg v0.1,Int.toNat_of_nonneg v1.1] at this
 exact (aG _ _ _).ok true (lp this)
theorem MR (need units long : Int) (h : units % 10 = 8) : ap need units long = some true:=by
 have e : ap need units long = ap (need % 9) 8 (long % 8):=by
  unfold ap
  rw [show av units 10 = some 8 by rw [aO (by omega) (by omega),h],show av 8 10 = some 8 from by rw [aO (by omega) (by omega)]; rfl]
  simp only [Nn]
  rw [show (w64 ((w64 (3 + 8)) - 2)) = 9 from by rfl,aN (a:=need) (n:=9) (by omega) (by omega),aN (a:=long) (n:=8) (by omega) (by omega)]
 rw [e]
 have v0 : 0 ≤ need % 9 ∧ need % 9 < 9:=by omega
 have v1 : 0 ≤ long % 8 ∧ long % 8 < 8:=by omega
 generalize need % 9 = A at *
 generalize long % 8 = L at *
 have h:=plan8 A.toNat (by omega)
 simp only [List.all_eq_true,List.mem_range] at h
 have:=h L.toNat (by omega)
 rw [Int.toNat_of_nonneg v0.1,Int.toNat_of_nonneg v1.1] at this
 exact (aG _ _ _).ok true (lp this)
theorem M7 (need units long : Int) (h : units % 10 = 9) : ap need units long = some true:=by
 have e : ap need units long = ap (need % 10) 9 (long % 8):=by
  unfold ap
  rw [show av units 10 = some 9 by rw [aO (by omega) (by omega),h],show av 9 10 = some 9 from by rw [aO (by omega) (by omega)]; rfl]
  simp only [Nn]
  rw [show (w64 ((w64 (3 + 9)) - 2)) = 10 from by rfl,aN (a:=need) (n:=10) (by omega) (by omega),aN (a:=long) (n:=8) (by omega) (by omega)]
 rw [e]
 have v0 : 0 ≤ need % 10 ∧ need % 10 < 10:=by omega
 have v1 : 0 ≤ long % 8 ∧ long % 8 < 8:=by omega
 generalize need % 10 = A at *
 generalize long % 8 = L at *
 have h:=plan9 A.toNat (by omega)
 simp only [List.all_eq_true,List.mem_range] at h
 have:=h L.toNat (by omega)
 rw [Int.toNat_of_nonneg v0.1,Int.toNat_of_nonneg v1.1] at this
 exact (aG _ _ _).ok true (lp this)
theorem Eo (need : Int) (units : Int) (long : Int) (w0 : WfT fam (.int .i64) need) (w1 : WfT fam (.int .i64) units) (w2 : WfT fam (.int .i64) long) : ap need units long = some true:=by
 have u0 : 0 ≤ units % 10 ∧ units % 10 < 10:=by omega
 rcases (by omega : units % 10 = 0 ∨ units % 10 = 1 ∨ units % 10 = 2 ∨ units % 10 = 3 ∨ units % 10 = 4 ∨ units % 10 = 5 ∨ units % 10 = 6 ∨ units % 10 = 7 ∨ units % 10 = 8 ∨ units % 10 = 9) with h | h | h | h | h | h | h | h | h | h
 ·exact M5 need units long h
 ·exact M9 need units long h
 ·exact MW need units long h
 ·exact Nb need units long h
 ·exact Na need units long h
 ·exact M4 need units long h
 ·exact MZ need units long h
 ·exact M_ need units long h
 ·exact MR need units long h
 ·exact M7 need units long h
end Go.Fx.D
