/-
  The law over plain data: true at all inputs. Conditions: none.
-/
import Derived.Test.YtkagmokhbmbjdaaGreatDoorU0
import Derived.Test.YtkagmokhbmbjdaaGreatDoorU1
import Derived.Test.YtkagmokhbmbjdaaGreatDoorU2
import Derived.Test.YtkagmokhbmbjdaaGreatDoorU3
import Derived.Test.YtkagmokhbmbjdaaGreatDoorU4
import Derived.Test.YtkagmokhbmbjdaaGreatDoorFxC
namespace Go.Fx.D
open Go Go.Fx
set_option linter.unusedVariables false
set_option linter.unusedSimpArgs false
set_option maxRecDepth 1000000
theorem lo3 (a b l : Nat) (ha : a < 5) (hb : b < 5) (hl : l < 2) : ((List.range 5).all fun c => isT (ad [((a : Nat) : Int),((b : Nat) : Int),((c : Nat) : Int)] ((l : Nat) : Int))) = true:=by
 match a,ha with
 | 0,_ => exact lo3x0 b l hb hl
 | 1,_ => exact lo3x1 b l hb hl
 | 2,_ => exact lo3x2 b l hb hl
 | 3,_ => exact lo3x3 b l hb hl
 | 4,_ => exact lo3x4 b l hb hl
 | n + 5,h => omega
theorem lo2 (a l : Nat) (ha : a < 5) (hl : l < 2) : ((List.range 5).all fun c => isT (ad [((a : Nat) : Int),((c : Nat) : Int)] ((l : Nat) : Int))) = true:=by
 match a,l,ha,hl with
 | 0,0,_,_ => exact HV
 | 0,1,_,_ => exact If
 | 1,0,_,_ => exact HT
 | 1,1,_,_ => exact Ie
 | 2,0,_,_ => exact H5
 | 2,1,_,_ => exact HP
 | 3,0,_,_ => exact HN
 | 3,1,_,_ => exact Hu
 | 4,0,_,_ => exact HY
 | 4,1,_,_ => exact IN
 | n + 5,_,h,_ => omega
 | _,n + 2,_,h => omega
theorem lo1 (l : Nat) (hl : l < 2) : ((List.range 5).all fun c => isT (ad [((c : Nat) : Int)] ((l : Nat) : Int))) = true:=by
 match l,hl with
 | 0,_ => exact lo1x0
 | 1,_ => exact lo1x1
 | n + 2,h => omega
theorem xU (l : List Int) : (l.map fun x => x % 5).length = l.length:=List.length_map _
theorem m_idx (l : List Int) (i : Int) : idx (l.map fun x => x % 5) i = (idx l i).map fun x => x % 5:=by
 unfold idx
 split
 ·rw [List.getElem?_map]
 ·rfl
theorem l3_eq (l : List Int) : bF (l.map fun x => x % 5) = bF l:=by
 funext t
 unfold bF
 rw [xU,m_idx]
 cases idx l t.2 with
 | none => rfl
 | some x =>
  simp only [Option.map_some,Jg]
  rw [← yn (a:=x) (n:=5) (by omega) (by omega)]
theorem l2_eq (l : List Int) : bC (l.map fun x => x % 5) = bC l:=by
 funext t; unfold bC; rw [xU]
theorem l5_eq (l : List Int) : aV (l.map fun x => x % 5) = aV l:=by
 funext t; unfold aV; rw [xU]
theorem l7_eq (l : List Int) : aX (l.map fun x => x % 5) = aX l:=by
 funext x7 x8 s t; unfold aX; rw [xU]
theorem small (l : List Int) (lost : Int) : aI l lost = aI (l.map fun x => x % 5) (lost % 2):=by
 unfold aI
 rw [xU,l2_eq,l3_eq,l5_eq,l7_eq,← yn (a:=lost) (n:=2) (by omega) (by omega)]
theorem Bw {f : Nat → Option Bool} {n : Nat} (h : ((List.range n).all fun c => isT (f c)) = true) {c : Nat} (hc : c < n) : f c = some true:=by
 simp only [List.all_eq_true,List.mem_range] at h
 exact Jf (h c hc)
theorem Fg {x : Int} {n : Nat} (h0 : 0 ≤ x) (h1 : x < (n : Int)) : ∃ k : Nat,x = (k : Int) ∧ k < n:=⟨x.toNat,(Int.toNat_of_nonneg h0).symm,by omega⟩
theorem zu (counts : List Int) (lost : Int) (w0 : WfT fam (.slice (.int .i64)) counts) (w1 : WfT fam (.int .i64) lost) : aI counts lost = some true:=by
 obtain ⟨l,hl,hl2⟩:=Fg (x:=lost % 2) (n:=2) (by omega) (by omega)
 have p : ∀ x : Int,∃ k : Nat,x % 5 = (k : Int) ∧ k < 5:=fun x => Fg (n:=5) (by omega) (by omega)
 match counts,w0 with
 | [],_ =>
  unfold aI
  rw [CZ]
  rfl
 | [x],_ =>
  obtain ⟨a,ha,ha2⟩:=p x
  rw [small,List.map_cons,List.map_nil,ha,hl]
  exact (d8 _ _).ok true (Bw (lo1 l hl2) ha2)
 | [x,y],_ =>
  obtain ⟨a,ha,ha2⟩:=p x
  obtain ⟨b,hb,hb2⟩:=p y
  rw [small,List.map_cons,List.map_cons,List.map_nil,ha,hb,hl]
  exact (d8 _ _).ok true (Bw (lo2 a l ha2 hl2) hb2)
 | [x,y,z],_ =>
  obtain ⟨a,ha,ha2⟩:=p x
  obtain ⟨b,hb,hb2⟩:=p y
  obtain ⟨c,hc,hc2⟩:=p z
  rw [small,List.map_cons,List.map_cons,List.map_cons,List.map_nil,ha,hb,hc,hl]
  exact (d8 _ _).ok true (Bw (lo3 a b l ha2 hb2 hl2) hc2)
 | x :: y :: z :: u :: r,_ =>
  have h0 : (((x :: y :: z :: u :: r).length : Int) == 0) = false:=by simp only [List.length_cons,beq_eq_false_iff_ne]; omega
  have h3 : decide (((x :: y :: z :: u :: r).length : Int) > 3) = true:=by simp only [List.length_cons,decide_eq_true_eq]; omega
  unfold aI
  rw [CZ]
  simp only [Jg,Bool.not_true,cond_false,h0,h3,cond_true]
end Go.Fx.D
