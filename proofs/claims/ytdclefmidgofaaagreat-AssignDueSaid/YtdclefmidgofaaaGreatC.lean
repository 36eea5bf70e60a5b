/-
  Each of these functions does what its function over plain data says, where that gives an answer (printed by a program). Conditions: none.
-/
import Derived.Test.YtdclefmidgofaaaGreatFxC
import Derived.Ground.SlsfProg
import Derived.Shelf.Lay
import Derived.Test.YtdclefmidgofaaaGreatD
import Derived.Test.YtdclefmidgofaaaGreatFxB
import Derived.Test.YtdclefmidgofaaaGreatChecked
import Derived.WalkKit
namespace Go.Fx.D
open Go Go.Fx Go.Proofs Go.Shelf Go.RowKit Go.Lib Go.Sort
set_option linter.unusedVariables false
set_option maxRecDepth 100000

theorem rowOk3 : RowOk Tryz.prog 3 row3 := ⟨by kernel_rfl, ⟨Tryz.t3, (Tryz.t3.zero).getD .nilFunc, by kernel_rfl, by kernel_rfl, by kernel_rfl⟩, by kernel_rfl, by kernel_rfl⟩
theorem rowOk4 : RowOk Tryz.prog 4 row4 := ⟨by kernel_rfl, ⟨Tryz.t4, (Tryz.t4.zero).getD .nilFunc, by kernel_rfl, by kernel_rfl, by kernel_rfl⟩, by kernel_rfl, by kernel_rfl⟩
theorem rowOk5 : RowOk Tryz.prog 5 row5 := ⟨by kernel_rfl, ⟨Tryz.t5, (Tryz.t5.zero).getD .nilFunc, by kernel_rfl, by kernel_rfl, by kernel_rfl⟩, by kernel_rfl, by kernel_rfl⟩
theorem rowOk9 : RowOk Tryz.prog 9 row9 := ⟨by kernel_rfl, ⟨Tryz.t9, (Tryz.t9.zero).getD .nilFunc, by kernel_rfl, by kernel_rfl, by kernel_rfl⟩, by kernel_rfl, by kernel_rfl⟩
theorem rowOk24 : RowOk Tryz.prog 24 row24 := ⟨by kernel_rfl, ⟨Tryz.t24, (Tryz.t24.zero).getD .nilFunc, by kernel_rfl, by kernel_rfl, by kernel_rfl⟩, by kernel_rfl, by kernel_rfl⟩
theorem rowOk25 : RowOk Tryz.prog 25 row25 := ⟨by kernel_rfl, ⟨Tryz.t25, (Tryz.t25.zero).getD .nilFunc, by kernel_rfl, by kernel_rfl, by kernel_rfl⟩, by kernel_rfl, by kernel_rfl⟩
theorem rowOk27 : RowOk Tryz.prog 27 row27 := ⟨by kernel_rfl, ⟨Tryz.t27, (Tryz.t27.zero).getD .nilFunc, by kernel_rfl, by kernel_rfl, by kernel_rfl⟩, by kernel_rfl, by kernel_rfl⟩
theorem rowOk28 : RowOk Tryz.prog 28 row28 := ⟨by kernel_rfl, ⟨Tryz.t28, (Tryz.t28.zero).getD .nilFunc, by kernel_rfl, by kernel_rfl, by kernel_rfl⟩, by kernel_rfl, by kernel_rfl⟩
theorem rowOk29 : RowOk Tryz.prog 29 row29 := ⟨by kernel_rfl, ⟨Tryz.t29, (Tryz.t29.zero).getD .nilFunc, by kernel_rfl, by kernel_rfl, by kernel_rfl⟩, by kernel_rfl, by kernel_rfl⟩
theorem rowOk30 : RowOk Tryz.prog 30 row30 := ⟨by kernel_rfl, ⟨Tryz.t30, (Tryz.t30.zero).getD .nilFunc, by kernel_rfl, by kernel_rfl, by kernel_rfl⟩, by kernel_rfl, by kernel_rfl⟩
theorem rowOk31 : RowOk Tryz.prog 31 row31 := ⟨by kernel_rfl, ⟨Tryz.t31, (Tryz.t31.zero).getD .nilFunc, by kernel_rfl, by kernel_rfl, by kernel_rfl⟩, by kernel_rfl, by kernel_rfl⟩
theorem rowOk32 : RowOk Tryz.prog 32 row32 := ⟨by kernel_rfl, ⟨Tryz.t32, (Tryz.t32.zero).getD .nilFunc, by kernel_rfl, by kernel_rfl, by kernel_rfl⟩, by kernel_rfl, by kernel_rfl⟩
theorem rowOk34 : RowOk Tryz.prog 34 row34 := ⟨by kernel_rfl, ⟨Tryz.t34, (Tryz.t34.zero).getD .nilFunc, by kernel_rfl, by kernel_rfl, by kernel_rfl⟩, by kernel_rfl, by kernel_rfl⟩
theorem rowOk36 : RowOk Tryz.prog 36 row36 := ⟨by kernel_rfl, ⟨Tryz.t36, (Tryz.t36.zero).getD .nilFunc, by kernel_rfl, by kernel_rfl, by kernel_rfl⟩, by kernel_rfl, by kernel_rfl⟩
theorem rowOk38 : RowOk Tryz.prog 38 row38 := ⟨by kernel_rfl, ⟨Tryz.t38, (Tryz.t38.zero).getD .nilFunc, by kernel_rfl, by kernel_rfl, by kernel_rfl⟩, by kernel_rfl, by kernel_rfl⟩
theorem rowOk40 : RowOk Tryz.prog 40 row40 := ⟨by kernel_rfl, ⟨Tryz.t40, (Tryz.t40.zero).getD .nilFunc, by kernel_rfl, by kernel_rfl, by kernel_rfl⟩, by kernel_rfl, by kernel_rfl⟩
theorem rowOk47 : RowOk Tryz.prog 47 row47 := ⟨by kernel_rfl, ⟨Tryz.t47, (Tryz.t47.zero).getD .nilFunc, by kernel_rfl, by kernel_rfl, by kernel_rfl⟩, by kernel_rfl, by kernel_rfl⟩
theorem rowOk49 : RowOk Tryz.prog 49 row49 := ⟨by kernel_rfl, ⟨Tryz.t49, (Tryz.t49.zero).getD .nilFunc, by kernel_rfl, by kernel_rfl, by kernel_rfl⟩, by kernel_rfl, by kernel_rfl⟩
theorem rowOk50 : RowOk Tryz.prog 50 row50 := ⟨by kernel_rfl, ⟨Tryz.t50, (Tryz.t50.zero).getD .nilFunc, by kernel_rfl, by kernel_rfl, by kernel_rfl⟩, by kernel_rfl, by kernel_rfl⟩
theorem rowOk52 : RowOk Tryz.prog 52 row52 := ⟨by kernel_rfl, ⟨Tryz.t52, (Tryz.t52.zero).getD .nilFunc, by kernel_rfl, by kernel_rfl, by kernel_rfl⟩, by kernel_rfl, by kernel_rfl⟩
theorem rowOk54 : RowOk Tryz.prog 54 row54 := ⟨by kernel_rfl, ⟨Tryz.t54, (Tryz.t54.zero).getD .nilFunc, by kernel_rfl, by kernel_rfl, by kernel_rfl⟩, by kernel_rfl, by kernel_rfl⟩
theorem rowOk56 : RowOk Tryz.prog 56 row56 := ⟨by kernel_rfl, ⟨Tryz.t56, (Tryz.t56.zero).getD .nilFunc, by kernel_rfl, by kernel_rfl, by kernel_rfl⟩, by kernel_rfl, by kernel_rfl⟩
theorem rowOk60 : RowOk Tryz.prog 60 row60 := ⟨by kernel_rfl, ⟨Tryz.t60, (Tryz.t60.zero).getD .nilFunc, by kernel_rfl, by kernel_rfl, by kernel_rfl⟩, by kernel_rfl, by kernel_rfl⟩
theorem rowOk61 : RowOk Tryz.prog 61 row61 := ⟨by kernel_rfl, ⟨Tryz.t61, (Tryz.t61.zero).getD .nilFunc, by kernel_rfl, by kernel_rfl, by kernel_rfl⟩, by kernel_rfl, by kernel_rfl⟩
theorem rowOk63 : RowOk Tryz.prog 63 row63 := ⟨by kernel_rfl, ⟨Tryz.t63, (Tryz.t63.zero).getD .nilFunc, by kernel_rfl, by kernel_rfl, by kernel_rfl⟩, by kernel_rfl, by kernel_rfl⟩
theorem rowOk73 : RowOk Tryz.prog 73 row73 := ⟨by kernel_rfl, ⟨Tryz.t73, (Tryz.t73.zero).getD .nilFunc, by kernel_rfl, by kernel_rfl, by kernel_rfl⟩, by kernel_rfl, by kernel_rfl⟩
theorem rowOk75 : RowOk Tryz.prog 75 row75 := ⟨by kernel_rfl, ⟨Tryz.t75, (Tryz.t75.zero).getD .nilFunc, by kernel_rfl, by kernel_rfl, by kernel_rfl⟩, by kernel_rfl, by kernel_rfl⟩
theorem rowOk121 : RowOk Tryz.prog 121 row121 := ⟨by kernel_rfl, ⟨Tryz.t121, (Tryz.t121.zero).getD .nilFunc, by kernel_rfl, by kernel_rfl, by kernel_rfl⟩, by kernel_rfl, by kernel_rfl⟩
theorem rowOk129 : RowOk Tryz.prog 129 row129 := ⟨by kernel_rfl, ⟨Tryz.t129, (Tryz.t129.zero).getD .nilFunc, by kernel_rfl, by kernel_rfl, by kernel_rfl⟩, by kernel_rfl, by kernel_rfl⟩
theorem rowOk130 : RowOk Tryz.prog 130 row130 := ⟨by kernel_rfl, ⟨Tryz.t130, (Tryz.t130.zero).getD .nilFunc, by kernel_rfl, by kernel_rfl, by kernel_rfl⟩, by kernel_rfl, by kernel_rfl⟩
theorem rowOk137 : RowOk Tryz.prog 137 row137 := ⟨by kernel_rfl, ⟨Tryz.t137, (Tryz.t137.zero).getD .nilFunc, by kernel_rfl, by kernel_rfl, by kernel_rfl⟩, by kernel_rfl, by kernel_rfl⟩
theorem rowOk151 : RowOk Tryz.prog 151 row151 := ⟨by kernel_rfl, ⟨Tryz.t151, (Tryz.t151.zero).getD .nilFunc, by kernel_rfl, by kernel_rfl, by kernel_rfl⟩, by kernel_rfl, by kernel_rfl⟩
theorem rowOk154 : RowOk Tryz.prog 154 row154 := ⟨by kernel_rfl, ⟨Tryz.t154, (Tryz.t154.zero).getD .nilFunc, by kernel_rfl, by kernel_rfl, by kernel_rfl⟩, by kernel_rfl, by kernel_rfl⟩
theorem rowOk159 : RowOk Tryz.prog 159 row159 := ⟨by kernel_rfl, ⟨Tryz.t159, (Tryz.t159.zero).getD .nilFunc, by kernel_rfl, by kernel_rfl, by kernel_rfl⟩, by kernel_rfl, by kernel_rfl⟩
theorem rowOk179 : RowOk Tryz.prog 179 row179 := ⟨by kernel_rfl, ⟨Tryz.t179, (Tryz.t179.zero).getD .nilFunc, by kernel_rfl, by kernel_rfl, by kernel_rfl⟩, by kernel_rfl, by kernel_rfl⟩
theorem rowOk183 : RowOk Tryz.prog 183 row183 := ⟨by kernel_rfl, ⟨Tryz.t183, (Tryz.t183.zero).getD .nilFunc, by kernel_rfl, by kernel_rfl, by kernel_rfl⟩, by kernel_rfl, by kernel_rfl⟩
theorem rowOk185 : RowOk Tryz.prog 185 row185 := ⟨by kernel_rfl, ⟨Tryz.t185, (Tryz.t185.zero).getD .nilFunc, by kernel_rfl, by kernel_rfl, by kernel_rfl⟩, by kernel_rfl, by kernel_rfl⟩
theorem rowOk194 : RowOk Tryz.prog 194 row194 := ⟨by kernel_rfl, ⟨Tryz.t194, (Tryz.t194.zero).getD .nilFunc, by kernel_rfl, by kernel_rfl, by kernel_rfl⟩, by kernel_rfl, by kernel_rfl⟩
theorem rowOk220 : RowOk Tryz.prog 220 row220 := ⟨by kernel_rfl, ⟨Tryz.t220, (Tryz.t220.zero).getD .nilFunc, by kernel_rfl, by kernel_rfl, by kernel_rfl⟩, by kernel_rfl, by kernel_rfl⟩
theorem rowOk222 : RowOk Tryz.prog 222 row222 := ⟨by kernel_rfl, ⟨Tryz.t222, (Tryz.t222.zero).getD .nilFunc, by kernel_rfl, by kernel_rfl, by kernel_rfl⟩, by kernel_rfl, by kernel_rfl⟩
theorem tok : TblOk Tryz.prog (look tbl) := tblOk (all_cons rowOk3 (all_cons rowOk4 (all_cons rowOk5 (all_cons rowOk9 (all_cons rowOk24 (all_cons rowOk25 (all_cons rowOk27 (all_cons rowOk28 (all_cons rowOk29 (all_cons rowOk30 (all_cons rowOk31 (all_cons rowOk32 (all_cons rowOk34 (all_cons rowOk36 (all_cons rowOk38 (all_cons rowOk40 (all_cons rowOk47 (all_cons rowOk49 (all_cons rowOk50 (all_cons rowOk52 (all_cons rowOk54 (all_cons rowOk56 (all_cons rowOk60 (all_cons rowOk61 (all_cons rowOk63 (all_cons rowOk73 (all_cons rowOk75 (all_cons rowOk121 (all_cons rowOk129 (all_cons rowOk130 (all_cons rowOk137 (all_cons rowOk151 (all_cons rowOk154 (all_cons rowOk159 (all_cons rowOk179 (all_cons rowOk183 (all_cons rowOk185 (all_cons rowOk194 (all_cons rowOk220 (all_cons rowOk222 all_nil))))))))))))))))))))))))))))))))))))))))
theorem mix : Tryz.prog.follows .mixedOrders = true := Checked.mixed Tryz.checked

theorem ok70_ne : FnOk Tryz.prog 70 sp70_ne := fnOk (nv := 1) (h := h70) tok mix ctx_nil Tryz.func70 (by kernel_rfl) (by kernel_rfl) (by kernel_rfl) (by kernel_rfl) (by kernel_rfl)
set_option maxHeartbeats 2000000 in
theorem walk70 (p : Option Addr) (cap : Nat) (w : World) : Calls Tryz.prog 70 #[.slice p 0 cap] w fun e w' => ∃ p', e = .returned (.slice p' 0 0) ∧ RowKit.Below w.heap.size w w' ∧ w.drawn ≤ w'.drawn := by
  have q := q_nil (P := Tryz.prog) (t := 24) rowOk24.und
  cases p with
  | none =>
    go_enter Tryz.func70, Tryz.ntmps70
    go_wp2
    go_ret
    exact ⟨_, rfl, .refl _ _, Nat.le_refl _⟩
  | some p =>
    go_enter Tryz.func70, Tryz.ntmps70
    go_wp2
    go_ret
    exact ⟨_, rfl, (RowKit.Below.refl _ w).alloc (Nat.le_refl _) _, Nat.le_refl _⟩
theorem ok70 : FnOk Tryz.prog 70 sp70 := clone_ok ok70_ne walk70
theorem ok71_ne : FnOk Tryz.prog 71 sp71_ne := fnOk (nv := 1) (h := h71) tok mix ctx_nil Tryz.func71 (by kernel_rfl) (by kernel_rfl) (by kernel_rfl) (by kernel_rfl) (by kernel_rfl)
set_option maxHeartbeats 2000000 in
theorem walk71 (p : Option Addr) (cap : Nat) (w : World) : Calls Tryz.prog 71 #[.slice p 0 cap] w fun e w' => ∃ p', e = .returned (.slice p' 0 0) ∧ RowKit.Below w.heap.size w w' ∧ w.drawn ≤ w'.drawn := by
  have q := q_nil (P := Tryz.prog) (t := 25) rowOk25.und
  cases p with
  | none =>
    go_enter Tryz.func71, Tryz.ntmps71
    go_wp2
    go_ret
    exact ⟨_, rfl, .refl _ _, Nat.le_refl _⟩
  | some p =>
    go_enter Tryz.func71, Tryz.ntmps71
    go_wp2
    go_ret
    exact ⟨_, rfl, (RowKit.Below.refl _ w).alloc (Nat.le_refl _) _, Nat.le_refl _⟩
theorem ok71 : FnOk Tryz.prog 71 sp71 := clone_ok ok71_ne walk71
theorem ok72_ne : FnOk Tryz.prog 72 sp72_ne := fnOk (nv := 1) (h := h72) tok mix ctx_nil Tryz.func72 (by kernel_rfl) (by kernel_rfl) (by kernel_rfl) (by kernel_rfl) (by kernel_rfl)
set_option maxHeartbeats 2000000 in
theorem walk72 (p : Option Addr) (cap : Nat) (w : World) : Calls Tryz.prog 72 #[.slice p 0 cap] w fun e w' => ∃ p', e = .returned (.slice p' 0 0) ∧ RowKit.Below w.heap.size w w' ∧ w.drawn ≤ w'.drawn := by
  have q := q_nil (P := Tryz.prog) (t := 61) rowOk61.und
  cases p with
  | none =>
    go_enter Tryz.func72, Tryz.ntmps72
    go_wp2
    go_ret
    exact ⟨_, rfl, .refl _ _, Nat.le_refl _⟩
  | some p =>
    go_enter Tryz.func72, Tryz.ntmps72
    go_wp2
    go_ret
    exact ⟨_, rfl, (RowKit.Below.refl _ w).alloc (Nat.le_refl _) _, Nat.le_refl _⟩
theorem ok72 : FnOk Tryz.prog 72 sp72 := clone_ok ok72_ne walk72
theorem ok73_ne : FnOk Tryz.prog 73 sp73_ne := fnOk (nv := 1) (h := h73) tok mix ctx_nil Tryz.func73 (by kernel_rfl) (by kernel_rfl) (by kernel_rfl) (by kernel_rfl) (by kernel_rfl)
set_option maxHeartbeats 2000000 in
theorem walk73 (p : Option Addr) (cap : Nat) (w : World) : Calls Tryz.prog 73 #[.slice p 0 cap] w fun e w' => ∃ p', e = .returned (.slice p' 0 0) ∧ RowKit.Below w.heap.size w w' ∧ w.drawn ≤ w'.drawn := by
  have q := q_nil (P := Tryz.prog) (t := 28) rowOk28.und
  cases p with
  | none =>
    go_enter Tryz.func73, Tryz.ntmps73
    go_wp2
    go_ret
    exact ⟨_, rfl, .refl _ _, Nat.le_refl _⟩
  | some p =>
    go_enter Tryz.func73, Tryz.ntmps73
    go_wp2
    go_ret
    exact ⟨_, rfl, (RowKit.Below.refl _ w).alloc (Nat.le_refl _) _, Nat.le_refl _⟩
theorem ok73 : FnOk Tryz.prog 73 sp73 := clone_ok ok73_ne walk73
theorem ok74_ne : FnOk Tryz.prog 74 sp74_ne := fnOk (nv := 1) (h := h74) tok mix ctx_nil Tryz.func74 (by kernel_rfl) (by kernel_rfl) (by kernel_rfl) (by kernel_rfl) (by kernel_rfl)
set_option maxHeartbeats 2000000 in
theorem walk74 (p : Option Addr) (cap : Nat) (w : World) : Calls Tryz.prog 74 #[.slice p 0 cap] w fun e w' => ∃ p', e = .returned (.slice p' 0 0) ∧ RowKit.Below w.heap.size w w' ∧ w.drawn ≤ w'.drawn := by
  have q := q_nil (P := Tryz.prog) (t := 30) rowOk30.und
  cases p with
  | none =>
    go_enter Tryz.func74, Tryz.ntmps74
    go_wp2
    go_ret
    exact ⟨_, rfl, .refl _ _, Nat.le_refl _⟩
  | some p =>
    go_enter Tryz.func74, Tryz.ntmps74
    go_wp2
    go_ret
    exact ⟨_, rfl, (RowKit.Below.refl _ w).alloc (Nat.le_refl _) _, Nat.le_refl _⟩
theorem ok74 : FnOk Tryz.prog 74 sp74 := clone_ok ok74_ne walk74
theorem ok75_ne : FnOk Tryz.prog 75 sp75_ne := fnOk (nv := 1) (h := h75) tok mix ctx_nil Tryz.func75 (by kernel_rfl) (by kernel_rfl) (by kernel_rfl) (by kernel_rfl) (by kernel_rfl)
set_option maxHeartbeats 2000000 in
theorem walk75 (p : Option Addr) (cap : Nat) (w : World) : Calls Tryz.prog 75 #[.slice p 0 cap] w fun e w' => ∃ p', e = .returned (.slice p' 0 0) ∧ RowKit.Below w.heap.size w w' ∧ w.drawn ≤ w'.drawn := by
  have q := q_nil (P := Tryz.prog) (t := 31) rowOk31.und
  cases p with
  | none =>
    go_enter Tryz.func75, Tryz.ntmps75
    go_wp2
    go_ret
    exact ⟨_, rfl, .refl _ _, Nat.le_refl _⟩
  | some p =>
    go_enter Tryz.func75, Tryz.ntmps75
    go_wp2
    go_ret
    exact ⟨_, rfl, (RowKit.Below.refl _ w).alloc (Nat.le_refl _) _, Nat.le_refl _⟩
theorem ok75 : FnOk Tryz.prog 75 sp75 := clone_ok ok75_ne walk75
theorem ok76_ne : FnOk Tryz.prog 76 sp76_ne := fnOk (nv := 1) (h := h76) tok mix ctx_nil Tryz.func76 (by kernel_rfl) (by kernel_rfl) (by kernel_rfl) (by kernel_rfl) (by kernel_rfl)
set_option maxHeartbeats 2000000 in
theorem walk76 (p : Option Addr) (cap : Nat) (w : World) : Calls Tryz.prog 76 #[.slice p 0 cap] w fun e w' => ∃ p', e = .returned (.slice p' 0 0) ∧ RowKit.Below w.heap.size w w' ∧ w.drawn ≤ w'.drawn := by
  have q := q_nil (P := Tryz.prog) (t := 32) rowOk32.und
  cases p with
  | none =>
    go_enter Tryz.func76, Tryz.ntmps76
    go_wp2
    go_ret
    exact ⟨_, rfl, .refl _ _, Nat.le_refl _⟩
  | some p =>
    go_enter Tryz.func76, Tryz.ntmps76
    go_wp2
    go_ret
    exact ⟨_, rfl, (RowKit.Below.refl _ w).alloc (Nat.le_refl _) _, Nat.le_refl _⟩
theorem ok76 : FnOk Tryz.prog 76 sp76 := clone_ok ok76_ne walk76
theorem ok77_ne : FnOk Tryz.prog 77 sp77_ne := fnOk (nv := 1) (h := h77) tok mix ctx_nil Tryz.func77 (by kernel_rfl) (by kernel_rfl) (by kernel_rfl) (by kernel_rfl) (by kernel_rfl)
set_option maxHeartbeats 2000000 in
theorem walk77 (p : Option Addr) (cap : Nat) (w : World) : Calls Tryz.prog 77 #[.slice p 0 cap] w fun e w' => ∃ p', e = .returned (.slice p' 0 0) ∧ RowKit.Below w.heap.size w w' ∧ w.drawn ≤ w'.drawn := by
  have q := q_nil (P := Tryz.prog) (t := 29) rowOk29.und
  cases p with
  | none =>
    go_enter Tryz.func77, Tryz.ntmps77
    go_wp2
    go_ret
    exact ⟨_, rfl, .refl _ _, Nat.le_refl _⟩
  | some p =>
    go_enter Tryz.func77, Tryz.ntmps77
    go_wp2
    go_ret
    exact ⟨_, rfl, (RowKit.Below.refl _ w).alloc (Nat.le_refl _) _, Nat.le_refl _⟩
theorem ok77 : FnOk Tryz.prog 77 sp77 := clone_ok ok77_ne walk77
theorem ok98_ne : FnOk Tryz.prog 98 sp98_ne := fnOk (nv := 1) (h := h98) tok mix ctx_nil Tryz.func98 (by kernel_rfl) (by kernel_rfl) (by kernel_rfl) (by kernel_rfl) (by kernel_rfl)
set_option maxHeartbeats 2000000 in
theorem walk98 (p : Option Addr) (cap : Nat) (w : World) : Calls Tryz.prog 98 #[.slice p 0 cap] w fun e w' => ∃ p', e = .returned (.slice p' 0 0) ∧ RowKit.Below w.heap.size w w' ∧ w.drawn ≤ w'.drawn := by
  have q := q_nil (P := Tryz.prog) (t := 50) rowOk50.und
  cases p with
  | none =>
    go_enter Tryz.func98, Tryz.ntmps98
    go_wp2
    go_ret
    exact ⟨_, rfl, .refl _ _, Nat.le_refl _⟩
  | some p =>
    go_enter Tryz.func98, Tryz.ntmps98
    go_wp2
    go_ret
    exact ⟨_, rfl, (RowKit.Below.refl _ w).alloc (Nat.le_refl _) _, Nat.le_refl _⟩
theorem ok98 : FnOk Tryz.prog 98 sp98 := clone_ok ok98_ne walk98
theorem ok102 : FnOk Tryz.prog 102 sp102 := fnOk (nv := 4) (h := h102) tok mix ctx_nil Tryz.func102 (by kernel_rfl) (by kernel_rfl) (by kernel_rfl) (by kernel_rfl) (by kernel_rfl)
theorem ok78 : FnOk Tryz.prog 78 sp78 := fnOk (nv := 3) (h := h78) tok mix (ctx_cons ok98 (ctx_cons ok102 ctx_nil)) Tryz.func78 (by kernel_rfl) (by kernel_rfl) (by kernel_rfl) (by kernel_rfl) (by kernel_rfl)
theorem ok42 : FnOk Tryz.prog 42 sp42 := fnOk (nv := 62) (h := h42) tok mix (ctx_cons ok70 (ctx_cons ok71 (ctx_cons ok72 (ctx_cons ok73 (ctx_cons ok74 (ctx_cons ok75 (ctx_cons ok76 (ctx_cons ok77 (ctx_cons ok78 ctx_nil))))))))) Tryz.func42 (by kernel_rfl) (by kernel_rfl) (by kernel_rfl) (by kernel_rfl) (by kernel_rfl)
theorem ok43 : FnOk Tryz.prog 43 sp43 := fnOk (nv := 9) (h := h43) tok mix ctx_nil Tryz.func43 (by kernel_rfl) (by kernel_rfl) (by kernel_rfl) (by kernel_rfl) (by kernel_rfl)
theorem ok44 : FnOk Tryz.prog 44 sp44 := fnOk (nv := 3) (h := h44) tok mix ctx_nil Tryz.func44 (by kernel_rfl) (by kernel_rfl) (by kernel_rfl) (by kernel_rfl) (by kernel_rfl)
theorem ok79 : FnOk Tryz.prog 79 sp79 := fnOk (nv := 9) (h := h79) tok mix ctx_nil Tryz.func79 (by kernel_rfl) (by kernel_rfl) (by kernel_rfl) (by kernel_rfl) (by kernel_rfl)
theorem ok80 : FnOk Tryz.prog 80 sp80 := fnOk (nv := 3) (h := h80) tok mix ctx_nil Tryz.func80 (by kernel_rfl) (by kernel_rfl) (by kernel_rfl) (by kernel_rfl) (by kernel_rfl)
theorem ok45 : FnOk Tryz.prog 45 sp45 := fnOk (nv := 4) (h := h45) tok mix (ctx_cons ok79 (ctx_cons ok80 ctx_nil)) Tryz.func45 (by kernel_rfl) (by kernel_rfl) (by kernel_rfl) (by kernel_rfl) (by kernel_rfl)
theorem ok119 : FnOk Tryz.prog 119 sp119 := fnOk (nv := 4) (h := h119) tok mix ctx_nil Tryz.func119 (by kernel_rfl) (by kernel_rfl) (by kernel_rfl) (by kernel_rfl) (by kernel_rfl)
theorem ok145 : FnOk Tryz.prog 145 sp145 := fnOk (nv := 9) (h := h145) tok mix ctx_nil Tryz.func145 (by kernel_rfl) (by kernel_rfl) (by kernel_rfl) (by kernel_rfl) (by kernel_rfl)
theorem ok134 : FnOk Tryz.prog 134 sp134 := fnOk (nv := 8) (h := h134) tok mix (ctx_cons ok145 ctx_nil) Tryz.func134 (by kernel_rfl) (by kernel_rfl) (by kernel_rfl) (by kernel_rfl) (by kernel_rfl)
theorem ok135 : FnOk Tryz.prog 135 sp135 := fnOk (nv := 3) (h := h135) tok mix ctx_nil Tryz.func135 (by kernel_rfl) (by kernel_rfl) (by kernel_rfl) (by kernel_rfl) (by kernel_rfl)
theorem ok193 : FnOk Tryz.prog 193 sp193 := fnOk (nv := 4) (h := h193) tok mix ctx_nil Tryz.func193 (by kernel_rfl) (by kernel_rfl) (by kernel_rfl) (by kernel_rfl) (by kernel_rfl)
theorem ok172 : FnOk Tryz.prog 172 sp172 := fnOk (nv := 2) (h := h172) tok mix (ctx_cons ok193 ctx_nil) Tryz.func172 (by kernel_rfl) (by kernel_rfl) (by kernel_rfl) (by kernel_rfl) (by kernel_rfl)
theorem ok157 : FnOk Tryz.prog 157 sp157 := fnOk (nv := 2) (h := h157) tok mix (ctx_cons ok172 ctx_nil) Tryz.func157 (by kernel_rfl) (by kernel_rfl) (by kernel_rfl) (by kernel_rfl) (by kernel_rfl)
theorem ok136 : FnOk Tryz.prog 136 sp136 := fnOk (nv := 10) (h := h136) tok mix ctx_nil Tryz.func136 (by kernel_rfl) (by kernel_rfl) (by kernel_rfl) (by kernel_rfl) (by kernel_rfl)
theorem ok103 : FnOk Tryz.prog 103 sp103 := fnOk (nv := 8) (h := h103) tok mix (ctx_cons ok119 (ctx_cons ok134 (ctx_cons ok135 (ctx_cons ok136 ctx_nil)))) Tryz.func103 (by kernel_rfl) (by kernel_rfl) (by kernel_rfl) (by kernel_rfl) (by kernel_rfl)
theorem ok81 : FnOk Tryz.prog 81 sp81 := fnOk (nv := 4) (h := h81) tok mix (ctx_cons ok103 ctx_nil) Tryz.func81 (by kernel_rfl) (by kernel_rfl) (by kernel_rfl) (by kernel_rfl) (by kernel_rfl)
theorem ok104 : FnOk Tryz.prog 104 sp104 := fnOk (nv := 8) (h := h104) tok mix (ctx_cons ok43 ctx_nil) Tryz.func104 (by kernel_rfl) (by kernel_rfl) (by kernel_rfl) (by kernel_rfl) (by kernel_rfl)
theorem ok105 : FnOk Tryz.prog 105 sp105 := fnOk (nv := 4) (h := h105) tok mix ctx_nil Tryz.func105 (by kernel_rfl) (by kernel_rfl) (by kernel_rfl) (by kernel_rfl) (by kernel_rfl)
theorem ok52 : FnOk Tryz.prog 52 sp52 := fnOk (nv := 9) (h := h52) tok mix ctx_nil Tryz.func52 (by kernel_rfl) (by kernel_rfl) (by kernel_rfl) (by kernel_rfl) (by kernel_rfl)
theorem ok106 : FnOk Tryz.prog 106 sp106 := fnOk (nv := 8) (h := h106) tok mix (ctx_cons ok52 ctx_nil) Tryz.func106 (by kernel_rfl) (by kernel_rfl) (by kernel_rfl) (by kernel_rfl) (by kernel_rfl)
theorem ok107 : FnOk Tryz.prog 107 sp107 := fnOk (nv := 3) (h := h107) tok mix ctx_nil Tryz.func107 (by kernel_rfl) (by kernel_rfl) (by kernel_rfl) (by kernel_rfl) (by kernel_rfl)
theorem ok82 : FnOk Tryz.prog 82 sp82 := fnOk (nv := 7) (h := h82) tok mix (ctx_cons ok104 ctx_nil) Tryz.func82 (by kernel_rfl) (by kernel_rfl) (by kernel_rfl) (by kernel_rfl) (by kernel_rfl)
theorem ok46 : FnOk Tryz.prog 46 sp46 := fnOk (nv := 6) (h := h46) tok mix (ctx_cons ok81 (ctx_cons ok82 ctx_nil)) Tryz.func46 (by kernel_rfl) (by kernel_rfl) (by kernel_rfl) (by kernel_rfl) (by kernel_rfl)
set_option maxHeartbeats 4000000 in
set_option maxRecDepth 1000000 in
theorem dn47 : DelNone Tryz.prog 47 := by
  constructor
  · intro b n cap i w hn hj
    go_enter Tryz.func47, Tryz.ntmps47
    go_wp2
    all_goals (go_ret; exact ⟨rfl, rfl⟩)
  · intro p w
    cases p
    · go_enter Tryz.func47, Tryz.ntmps47
      go_wp2
      all_goals (go_ret; exact ⟨rfl, rfl⟩)
    · go_enter Tryz.func47, Tryz.ntmps47
      go_wp2
      all_goals (go_ret; exact ⟨rfl, rfl⟩)
set_option maxHeartbeats 4000000 in
set_option maxRecDepth 1000000 in
theorem dw47 : DelWalk Tryz.prog 47 30 40 9 := by
  intro b n cap i j w hn hm hlt hj i0 hi0 hz1 A hA news s1 hsrc s2 s3 W1 W2 hW hcl
  have hic : i ≤ cap := by omega
  have hjc : j ≤ cap := by omega
  have tS : Tryz.prog.underlying 30 = some (.slice 40) := by kernel_rfl
  have mixed : Tryz.prog.follows .mixedOrders = true := Checked.mixed Tryz.checked
  go_enter Tryz.func47, Tryz.ntmps47
  go_wp2_with fail
  go_region_law_o (refine step_append_room rfl (.tmp 22) (.tmp 25) 30 rfl 40 i0 9 tS hi0 hz1 b 0 i cap (by simp [Act.eval, Act.put]) A (n - j) (cap - j) news (by simp [Act.eval, Act.put]) s1.out hsrc.out s2.out (by omega) s3.out ?_; rw [← hW.out])
  go_wp2
  go_ret
  exact ⟨rfl, rfl⟩
theorem ok47 : FnOk Tryz.prog 47 sp47 := del_ok tok (te := row40) (by kernel_rfl) (by kernel_rfl) (sz := 9) (by kernel_rfl) (Nat.blt_eq.mp (by kernel_rfl)) (by kernel_rfl : Tryz.prog.underlying 30 = some (.slice 40)) ⟨Tryz.f47, by kernel_rfl, by kernel_rfl, by kernel_rfl⟩ dn47 dw47
theorem ok48 : FnOk Tryz.prog 48 sp48 := fnOk (nv := 9) (h := h48) tok mix ctx_nil Tryz.func48 (by kernel_rfl) (by kernel_rfl) (by kernel_rfl) (by kernel_rfl) (by kernel_rfl)
theorem ok49 : FnOk Tryz.prog 49 sp49 := fnOk (nv := 8) (h := h49) tok mix ctx_nil Tryz.func49 (by kernel_rfl) (by kernel_rfl) (by kernel_rfl) (by kernel_rfl) (by kernel_rfl)
theorem ok22 : FnOk Tryz.prog 22 sp22 := fnOk (nv := 17) (h := h22) tok mix (ctx_cons ok42 (ctx_cons ok43 (ctx_cons ok44 (ctx_cons ok45 (ctx_cons ok46 (ctx_cons ok47 (ctx_cons ok48 (ctx_cons ok49 ctx_nil)))))))) Tryz.func22 (by kernel_rfl) (by kernel_rfl) (by kernel_rfl) (by kernel_rfl) (by kernel_rfl)
theorem ok83 : FnOk Tryz.prog 83 sp83 := fnOk (nv := 9) (h := h83) tok mix ctx_nil Tryz.func83 (by kernel_rfl) (by kernel_rfl) (by kernel_rfl) (by kernel_rfl) (by kernel_rfl)
theorem ok84 : FnOk Tryz.prog 84 sp84 := fnOk (nv := 4) (h := h84) tok mix ctx_nil Tryz.func84 (by kernel_rfl) (by kernel_rfl) (by kernel_rfl) (by kernel_rfl) (by kernel_rfl)
theorem ok50 : FnOk Tryz.prog 50 sp50 := fnOk (nv := 3) (h := h50) tok mix (ctx_cons ok83 (ctx_cons ok84 ctx_nil)) Tryz.func50 (by kernel_rfl) (by kernel_rfl) (by kernel_rfl) (by kernel_rfl) (by kernel_rfl)
theorem ok23 : FnOk Tryz.prog 23 sp23 := fnOk (nv := 7) (h := h23) tok mix (ctx_cons ok50 ctx_nil) Tryz.func23 (by kernel_rfl) (by kernel_rfl) (by kernel_rfl) (by kernel_rfl) (by kernel_rfl)
theorem ok108 : FnOk Tryz.prog 108 sp108 := fnOk (nv := 2) (h := h108) tok mix ctx_nil Tryz.func108 (by kernel_rfl) (by kernel_rfl) (by kernel_rfl) (by kernel_rfl) (by kernel_rfl)
theorem ok109 : FnOk Tryz.prog 109 sp109 := fnOk (nv := 3) (h := h109) tok mix (ctx_cons ok108 ctx_nil) Tryz.func109 (by kernel_rfl) (by kernel_rfl) (by kernel_rfl) (by kernel_rfl) (by kernel_rfl)
theorem ok85 : FnOk Tryz.prog 85 sp85 := fnOk (nv := 5) (h := h85) tok mix (ctx_cons ok108 (ctx_cons ok109 ctx_nil)) Tryz.func85 (by kernel_rfl) (by kernel_rfl) (by kernel_rfl) (by kernel_rfl) (by kernel_rfl)
theorem ok51 : FnOk Tryz.prog 51 sp51 := fnOk (nv := 12) (h := h51) tok mix (ctx_cons ok85 ctx_nil) Tryz.func51 (by kernel_rfl) (by kernel_rfl) (by kernel_rfl) (by kernel_rfl) (by kernel_rfl)
theorem ok24 : FnOk Tryz.prog 24 sp24 := fnOk (nv := 8) (h := h24) tok mix (ctx_cons ok23 (ctx_cons ok51 ctx_nil)) Tryz.func24 (by kernel_rfl) (by kernel_rfl) (by kernel_rfl) (by kernel_rfl) (by kernel_rfl)
theorem ok53 : FnOk Tryz.prog 53 sp53 := ⟨⟨Tryz.f53, by kernel_rfl, by kernel_rfl, by kernel_rfl⟩, fun a r hr => nomatch (show (none : Option _) = some r from hr)⟩
theorem ok54 : FnOk Tryz.prog 54 sp54 := fnOk (nv := 7) (h := h54) tok mix (ctx_cons ok45 (ctx_cons ok78 ctx_nil)) Tryz.func54 (by kernel_rfl) (by kernel_rfl) (by kernel_rfl) (by kernel_rfl) (by kernel_rfl)
theorem ok55 : FnOk Tryz.prog 55 sp55 := fnOk (nv := 12) (h := h55) tok mix ctx_nil Tryz.func55 (by kernel_rfl) (by kernel_rfl) (by kernel_rfl) (by kernel_rfl) (by kernel_rfl)
theorem ok56 : FnOk Tryz.prog 56 sp56 := fnOk (nv := 2) (h := h56) tok mix ctx_nil Tryz.func56 (by kernel_rfl) (by kernel_rfl) (by kernel_rfl) (by kernel_rfl) (by kernel_rfl)
theorem ok86 : FnOk Tryz.prog 86 sp86 := fnOk (nv := 4) (h := h86) tok mix ctx_nil Tryz.func86 (by kernel_rfl) (by kernel_rfl) (by kernel_rfl) (by kernel_rfl) (by kernel_rfl)
theorem ok57 : FnOk Tryz.prog 57 sp57 := fnOk (nv := 8) (h := h57) tok mix (ctx_cons ok86 ctx_nil) Tryz.func57 (by kernel_rfl) (by kernel_rfl) (by kernel_rfl) (by kernel_rfl) (by kernel_rfl)
theorem ok87 : FnOk Tryz.prog 87 sp87 := fnOk (nv := 4) (h := h87) tok mix ctx_nil Tryz.func87 (by kernel_rfl) (by kernel_rfl) (by kernel_rfl) (by kernel_rfl) (by kernel_rfl)
theorem ok58 : FnOk Tryz.prog 58 sp58 := fnOk (nv := 4) (h := h58) tok mix (ctx_cons ok86 (ctx_cons ok87 ctx_nil)) Tryz.func58 (by kernel_rfl) (by kernel_rfl) (by kernel_rfl) (by kernel_rfl) (by kernel_rfl)
theorem ok137 : FnOk Tryz.prog 137 sp137 := fnOk (nv := 13) (h := h137) tok mix ctx_nil Tryz.func137 (by kernel_rfl) (by kernel_rfl) (by kernel_rfl) (by kernel_rfl) (by kernel_rfl)
theorem ok173 : FnOk Tryz.prog 173 sp173 := fnOk (nv := 2) (h := h173) tok mix ctx_nil Tryz.func173 (by kernel_rfl) (by kernel_rfl) (by kernel_rfl) (by kernel_rfl) (by kernel_rfl)
theorem ok158 : FnOk Tryz.prog 158 sp158 := fnOk (nv := 2) (h := h158) tok mix (ctx_cons ok173 ctx_nil) Tryz.func158 (by kernel_rfl) (by kernel_rfl) (by kernel_rfl) (by kernel_rfl) (by kernel_rfl)
theorem ok138 : FnOk Tryz.prog 138 sp138 := fnOk (nv := 4) (h := h138) tok mix (ctx_cons ok158 ctx_nil) Tryz.func138 (by kernel_rfl) (by kernel_rfl) (by kernel_rfl) (by kernel_rfl) (by kernel_rfl)
theorem ok110 : FnOk Tryz.prog 110 sp110 := fnOk (nv := 16) (h := h110) tok mix (ctx_cons ok85 (ctx_cons ok137 (ctx_cons ok138 ctx_nil))) Tryz.func110 (by kernel_rfl) (by kernel_rfl) (by kernel_rfl) (by kernel_rfl) (by kernel_rfl)
theorem ok88 : FnOk Tryz.prog 88 sp88 := fnOk (nv := 7) (h := h88) tok mix (ctx_cons ok110 ctx_nil) Tryz.func88 (by kernel_rfl) (by kernel_rfl) (by kernel_rfl) (by kernel_rfl) (by kernel_rfl)
theorem ok139 : FnOk Tryz.prog 139 sp139 := fnOk (nv := 9) (h := h139) tok mix ctx_nil Tryz.func139 (by kernel_rfl) (by kernel_rfl) (by kernel_rfl) (by kernel_rfl) (by kernel_rfl)
theorem ok140 : FnOk Tryz.prog 140 sp140 := fnOk (nv := 3) (h := h140) tok mix ctx_nil Tryz.func140 (by kernel_rfl) (by kernel_rfl) (by kernel_rfl) (by kernel_rfl) (by kernel_rfl)
theorem ok113 : FnOk Tryz.prog 113 sp113 := fnOk (nv := 8) (h := h113) tok mix (ctx_cons ok72 (ctx_cons ok139 (ctx_cons ok140 ctx_nil))) Tryz.func113 (by kernel_rfl) (by kernel_rfl) (by kernel_rfl) (by kernel_rfl) (by kernel_rfl)
theorem ok159 : FnOk Tryz.prog 159 sp159 := fnOk (nv := 14) (h := h159) tok mix ctx_nil Tryz.func159 (by kernel_rfl) (by kernel_rfl) (by kernel_rfl) (by kernel_rfl) (by kernel_rfl)
theorem ok187 : FnOk Tryz.prog 187 sp187 := fnOk (nv := 3) (h := h187) tok mix ctx_nil Tryz.func187 (by kernel_rfl) (by kernel_rfl) (by kernel_rfl) (by kernel_rfl) (by kernel_rfl)
theorem ok174 : FnOk Tryz.prog 174 sp174 := fnOk (nv := 1) (h := h174) tok mix (ctx_cons ok187 ctx_nil) Tryz.func174 (by kernel_rfl) (by kernel_rfl) (by kernel_rfl) (by kernel_rfl) (by kernel_rfl)
theorem ok160 : FnOk Tryz.prog 160 sp160 := fnOk (nv := 19) (h := h160) tok mix (ctx_cons ok174 ctx_nil) Tryz.func160 (by kernel_rfl) (by kernel_rfl) (by kernel_rfl) (by kernel_rfl) (by kernel_rfl)
theorem ok141 : FnOk Tryz.prog 141 sp141 := fnOk (nv := 8) (h := h141) tok mix (ctx_cons ok159 (ctx_cons ok160 ctx_nil)) Tryz.func141 (by kernel_rfl) (by kernel_rfl) (by kernel_rfl) (by kernel_rfl) (by kernel_rfl)
theorem ok114 : FnOk Tryz.prog 114 sp114 := fnOk (nv := 5) (h := h114) tok mix (ctx_cons ok108 (ctx_cons ok109 (ctx_cons ok141 ctx_nil))) Tryz.func114 (by kernel_rfl) (by kernel_rfl) (by kernel_rfl) (by kernel_rfl) (by kernel_rfl)
theorem ok175 : FnOk Tryz.prog 175 sp175 := fnOk (nv := 6) (h := h175) tok mix ctx_nil Tryz.func175 (by kernel_rfl) (by kernel_rfl) (by kernel_rfl) (by kernel_rfl) (by kernel_rfl)
theorem ok194 : FnOk Tryz.prog 194 sp194 := fnOk (nv := 9) (h := h194) tok mix ctx_nil Tryz.func194 (by kernel_rfl) (by kernel_rfl) (by kernel_rfl) (by kernel_rfl) (by kernel_rfl)
theorem ok176 : FnOk Tryz.prog 176 sp176 := fnOk (nv := 12) (h := h176) tok mix (ctx_cons ok194 ctx_nil) Tryz.func176 (by kernel_rfl) (by kernel_rfl) (by kernel_rfl) (by kernel_rfl) (by kernel_rfl)
theorem ok161 : FnOk Tryz.prog 161 sp161 := fnOk (nv := 6) (h := h161) tok mix (ctx_cons ok175 (ctx_cons ok176 ctx_nil)) Tryz.func161 (by kernel_rfl) (by kernel_rfl) (by kernel_rfl) (by kernel_rfl) (by kernel_rfl)
theorem ok142 : FnOk Tryz.prog 142 sp142 := fnOk (nv := 5) (h := h142) tok mix (ctx_cons ok161 ctx_nil) Tryz.func142 (by kernel_rfl) (by kernel_rfl) (by kernel_rfl) (by kernel_rfl) (by kernel_rfl)
theorem ok115 : FnOk Tryz.prog 115 sp115 := fnOk (nv := 4) (h := h115) tok mix (ctx_cons ok142 ctx_nil) Tryz.func115 (by kernel_rfl) (by kernel_rfl) (by kernel_rfl) (by kernel_rfl) (by kernel_rfl)
theorem ok144 : FnOk Tryz.prog 144 sp144 := fnOk (nv := 9) (h := h144) tok mix (ctx_cons ok85 ctx_nil) Tryz.func144 (by kernel_rfl) (by kernel_rfl) (by kernel_rfl) (by kernel_rfl) (by kernel_rfl)
theorem ok117 : FnOk Tryz.prog 117 sp117 := fnOk (nv := 12) (h := h117) tok mix (ctx_cons ok144 ctx_nil) Tryz.func117 (by kernel_rfl) (by kernel_rfl) (by kernel_rfl) (by kernel_rfl) (by kernel_rfl)
theorem ok111 : FnOk Tryz.prog 111 sp111 := fnOk (nv := 15) (h := h111) tok mix (ctx_cons ok113 (ctx_cons ok114 (ctx_cons ok115 (ctx_cons ok117 ctx_nil)))) Tryz.func111 (by kernel_rfl) (by kernel_rfl) (by kernel_rfl) (by kernel_rfl) (by kernel_rfl)
theorem ok112 : FnOk Tryz.prog 112 sp112 := fnOk (nv := 2) (h := h112) tok mix ctx_nil Tryz.func112 (by kernel_rfl) (by kernel_rfl) (by kernel_rfl) (by kernel_rfl) (by kernel_rfl)
theorem ok89 : FnOk Tryz.prog 89 sp89 := fnOk (nv := 7) (h := h89) tok mix (ctx_cons ok111 (ctx_cons ok112 ctx_nil)) Tryz.func89 (by kernel_rfl) (by kernel_rfl) (by kernel_rfl) (by kernel_rfl) (by kernel_rfl)
theorem ok59 : FnOk Tryz.prog 59 sp59 := fnOk (nv := 8) (h := h59) tok mix (ctx_cons ok85 (ctx_cons ok87 (ctx_cons ok88 (ctx_cons ok89 ctx_nil)))) Tryz.func59 (by kernel_rfl) (by kernel_rfl) (by kernel_rfl) (by kernel_rfl) (by kernel_rfl)
theorem ok90 : FnOk Tryz.prog 90 sp90 := fnOk (nv := 9) (h := h90) tok mix (ctx_cons ok110 ctx_nil) Tryz.func90 (by kernel_rfl) (by kernel_rfl) (by kernel_rfl) (by kernel_rfl) (by kernel_rfl)
theorem ok91 : FnOk Tryz.prog 91 sp91 := fnOk (nv := 10) (h := h91) tok mix (ctx_cons ok89 (ctx_cons ok113 (ctx_cons ok114 ctx_nil))) Tryz.func91 (by kernel_rfl) (by kernel_rfl) (by kernel_rfl) (by kernel_rfl) (by kernel_rfl)
theorem ok60 : FnOk Tryz.prog 60 sp60 := fnOk (nv := 4) (h := h60) tok mix (ctx_cons ok87 (ctx_cons ok90 (ctx_cons ok91 ctx_nil))) Tryz.func60 (by kernel_rfl) (by kernel_rfl) (by kernel_rfl) (by kernel_rfl) (by kernel_rfl)
theorem ok61 : FnOk Tryz.prog 61 sp61 := fnOk (nv := 4) (h := h61) tok mix (ctx_cons ok87 ctx_nil) Tryz.func61 (by kernel_rfl) (by kernel_rfl) (by kernel_rfl) (by kernel_rfl) (by kernel_rfl)
theorem ok143 : FnOk Tryz.prog 143 sp143 := fnOk (nv := 2) (h := h143) tok mix ctx_nil Tryz.func143 (by kernel_rfl) (by kernel_rfl) (by kernel_rfl) (by kernel_rfl) (by kernel_rfl)
theorem ok116 : FnOk Tryz.prog 116 sp116 := fnOk (nv := 7) (h := h116) tok mix (ctx_cons ok111 (ctx_cons ok143 ctx_nil)) Tryz.func116 (by kernel_rfl) (by kernel_rfl) (by kernel_rfl) (by kernel_rfl) (by kernel_rfl)
theorem ok118 : FnOk Tryz.prog 118 sp118 := fnOk (nv := 12) (h := h118) tok mix (ctx_cons ok144 ctx_nil) Tryz.func118 (by kernel_rfl) (by kernel_rfl) (by kernel_rfl) (by kernel_rfl) (by kernel_rfl)
theorem ok92 : FnOk Tryz.prog 92 sp92 := fnOk (nv := 20) (h := h92) tok mix (ctx_cons ok85 (ctx_cons ok87 (ctx_cons ok88 (ctx_cons ok115 (ctx_cons ok116 (ctx_cons ok117 (ctx_cons ok118 ctx_nil))))))) Tryz.func92 (by kernel_rfl) (by kernel_rfl) (by kernel_rfl) (by kernel_rfl) (by kernel_rfl)
theorem ok62 : FnOk Tryz.prog 62 sp62 := fnOk (nv := 6) (h := h62) tok mix (ctx_cons ok92 ctx_nil) Tryz.func62 (by kernel_rfl) (by kernel_rfl) (by kernel_rfl) (by kernel_rfl) (by kernel_rfl)
set_option maxHeartbeats 4000000 in
set_option maxRecDepth 1000000 in
theorem dn63 : DelNone Tryz.prog 63 := by
  constructor
  · intro b n cap i w hn hj
    go_enter Tryz.func63, Tryz.ntmps63
    go_wp2
    all_goals (go_ret; exact ⟨rfl, rfl⟩)
  · intro p w
    cases p
    · go_enter Tryz.func63, Tryz.ntmps63
      go_wp2
      all_goals (go_ret; exact ⟨rfl, rfl⟩)
    · go_enter Tryz.func63, Tryz.ntmps63
      go_wp2
      all_goals (go_ret; exact ⟨rfl, rfl⟩)
set_option maxHeartbeats 4000000 in
set_option maxRecDepth 1000000 in
theorem dw63 : DelWalk Tryz.prog 63 31 56 3 := by
  intro b n cap i j w hn hm hlt hj i0 hi0 hz1 A hA news s1 hsrc s2 s3 W1 W2 hW hcl
  have hic : i ≤ cap := by omega
  have hjc : j ≤ cap := by omega
  have tS : Tryz.prog.underlying 31 = some (.slice 56) := by kernel_rfl
  have mixed : Tryz.prog.follows .mixedOrders = true := Checked.mixed Tryz.checked
  go_enter Tryz.func63, Tryz.ntmps63
  go_wp2_with fail
  go_region_law_o (refine step_append_room rfl (.tmp 22) (.tmp 25) 31 rfl 56 i0 3 tS hi0 hz1 b 0 i cap (by simp [Act.eval, Act.put]) A (n - j) (cap - j) news (by simp [Act.eval, Act.put]) s1.out hsrc.out s2.out (by omega) s3.out ?_; rw [← hW.out])
  go_wp2
  go_ret
  exact ⟨rfl, rfl⟩
theorem ok63 : FnOk Tryz.prog 63 sp63 := del_ok tok (te := row56) (by kernel_rfl) (by kernel_rfl) (sz := 3) (by kernel_rfl) (Nat.blt_eq.mp (by kernel_rfl)) (by kernel_rfl : Tryz.prog.underlying 31 = some (.slice 56)) ⟨Tryz.f63, by kernel_rfl, by kernel_rfl, by kernel_rfl⟩ dn63 dw63
theorem ok146 : FnOk Tryz.prog 146 sp146 := fnOk (nv := 3) (h := h146) tok mix ctx_nil Tryz.func146 (by kernel_rfl) (by kernel_rfl) (by kernel_rfl) (by kernel_rfl) (by kernel_rfl)
theorem ok120 : FnOk Tryz.prog 120 sp120 := fnOk (nv := 4) (h := h120) tok mix (ctx_cons ok145 (ctx_cons ok146 ctx_nil)) Tryz.func120 (by kernel_rfl) (by kernel_rfl) (by kernel_rfl) (by kernel_rfl) (by kernel_rfl)
set_option maxHeartbeats 4000000 in
set_option maxRecDepth 1000000 in
theorem dn121 : DelNone Tryz.prog 121 := by
  constructor
  · intro b n cap i w hn hj
    go_enter Tryz.func121, Tryz.ntmps121
    go_wp2
    all_goals (go_ret; exact ⟨rfl, rfl⟩)
  · intro p w
    cases p
    · go_enter Tryz.func121, Tryz.ntmps121
      go_wp2
      all_goals (go_ret; exact ⟨rfl, rfl⟩)
    · go_enter Tryz.func121, Tryz.ntmps121
      go_wp2
      all_goals (go_ret; exact ⟨rfl, rfl⟩)
set_option maxHeartbeats 4000000 in
set_option maxRecDepth 1000000 in
theorem dw121 : DelWalk Tryz.prog 121 50 49 8 := by
  intro b n cap i j w hn hm hlt hj i0 hi0 hz1 A hA news s1 hsrc s2 s3 W1 W2 hW hcl
  have hic : i ≤ cap := by omega
  have hjc : j ≤ cap := by omega
  have tS : Tryz.prog.underlying 50 = some (.slice 49) := by kernel_rfl
  have mixed : Tryz.prog.follows .mixedOrders = true := Checked.mixed Tryz.checked
  go_enter Tryz.func121, Tryz.ntmps121
  go_wp2_with fail
  go_region_law_o (refine step_append_room rfl (.tmp 22) (.tmp 25) 50 rfl 49 i0 8 tS hi0 hz1 b 0 i cap (by simp [Act.eval, Act.put]) A (n - j) (cap - j) news (by simp [Act.eval, Act.put]) s1.out hsrc.out s2.out (by omega) s3.out ?_; rw [← hW.out])
  go_wp2
  go_ret
  exact ⟨rfl, rfl⟩
theorem ok121 : FnOk Tryz.prog 121 sp121 := del_ok tok (te := row49) (by kernel_rfl) (by kernel_rfl) (sz := 8) (by kernel_rfl) (Nat.blt_eq.mp (by kernel_rfl)) (by kernel_rfl : Tryz.prog.underlying 50 = some (.slice 49)) ⟨Tryz.f121, by kernel_rfl, by kernel_rfl, by kernel_rfl⟩ dn121 dw121
theorem ok93 : FnOk Tryz.prog 93 sp93 := fnOk (nv := 8) (h := h93) tok mix (ctx_cons ok119 (ctx_cons ok120 (ctx_cons ok121 ctx_nil))) Tryz.func93 (by kernel_rfl) (by kernel_rfl) (by kernel_rfl) (by kernel_rfl) (by kernel_rfl)
theorem ok195 : FnOk Tryz.prog 195 sp195 := fnOk (nv := 4) (h := h195) tok mix ctx_nil Tryz.func195 (by kernel_rfl) (by kernel_rfl) (by kernel_rfl) (by kernel_rfl) (by kernel_rfl)
theorem ok177 : FnOk Tryz.prog 177 sp177 := fnOk (nv := 2) (h := h177) tok mix (ctx_cons ok195 ctx_nil) Tryz.func177 (by kernel_rfl) (by kernel_rfl) (by kernel_rfl) (by kernel_rfl) (by kernel_rfl)
theorem ok163 : FnOk Tryz.prog 163 sp163 := fnOk (nv := 2) (h := h163) tok mix (ctx_cons ok177 ctx_nil) Tryz.func163 (by kernel_rfl) (by kernel_rfl) (by kernel_rfl) (by kernel_rfl) (by kernel_rfl)
theorem ok147 : FnOk Tryz.prog 147 sp147 := fnOk (nv := 10) (h := h147) tok mix ctx_nil Tryz.func147 (by kernel_rfl) (by kernel_rfl) (by kernel_rfl) (by kernel_rfl) (by kernel_rfl)
theorem ok122 : FnOk Tryz.prog 122 sp122 := fnOk (nv := 7) (h := h122) tok mix (ctx_cons ok45 (ctx_cons ok147 ctx_nil)) Tryz.func122 (by kernel_rfl) (by kernel_rfl) (by kernel_rfl) (by kernel_rfl) (by kernel_rfl)
theorem ok94 : FnOk Tryz.prog 94 sp94 := fnOk (nv := 5) (h := h94) tok mix (ctx_cons ok42 (ctx_cons ok78 (ctx_cons ok122 ctx_nil))) Tryz.func94 (by kernel_rfl) (by kernel_rfl) (by kernel_rfl) (by kernel_rfl) (by kernel_rfl)
theorem ok164 : FnOk Tryz.prog 164 sp164 := fnOk (nv := 4) (h := h164) tok mix ctx_nil Tryz.func164 (by kernel_rfl) (by kernel_rfl) (by kernel_rfl) (by kernel_rfl) (by kernel_rfl)
theorem ok148 : FnOk Tryz.prog 148 sp148 := fnOk (nv := 2) (h := h148) tok mix (ctx_cons ok164 ctx_nil) Tryz.func148 (by kernel_rfl) (by kernel_rfl) (by kernel_rfl) (by kernel_rfl) (by kernel_rfl)
theorem ok124 : FnOk Tryz.prog 124 sp124 := fnOk (nv := 2) (h := h124) tok mix (ctx_cons ok148 ctx_nil) Tryz.func124 (by kernel_rfl) (by kernel_rfl) (by kernel_rfl) (by kernel_rfl) (by kernel_rfl)
theorem ok95 : FnOk Tryz.prog 95 sp95 := fnOk (nv := 10) (h := h95) tok mix ctx_nil Tryz.func95 (by kernel_rfl) (by kernel_rfl) (by kernel_rfl) (by kernel_rfl) (by kernel_rfl)
theorem ok64 : FnOk Tryz.prog 64 sp64 := fnOk (nv := 9) (h := h64) tok mix (ctx_cons ok93 (ctx_cons ok94 (ctx_cons ok95 ctx_nil))) Tryz.func64 (by kernel_rfl) (by kernel_rfl) (by kernel_rfl) (by kernel_rfl) (by kernel_rfl)
theorem ok25 : FnOk Tryz.prog 25 sp25 := fnOk (nv := 12) (h := h25) tok mix (ctx_cons ok52 (ctx_cons ok53 (ctx_cons ok54 (ctx_cons ok55 (ctx_cons ok56 (ctx_cons ok57 (ctx_cons ok58 (ctx_cons ok59 (ctx_cons ok60 (ctx_cons ok61 (ctx_cons ok62 (ctx_cons ok63 ctx_nil)))))))))))) Tryz.func25 (by kernel_rfl) (by kernel_rfl) (by kernel_rfl) (by kernel_rfl) (by kernel_rfl)
theorem ok149 : FnOk Tryz.prog 149 sp149 := fnOk (nv := 14) (h := h149) tok mix (ctx_cons ok142 ctx_nil) Tryz.func149 (by kernel_rfl) (by kernel_rfl) (by kernel_rfl) (by kernel_rfl) (by kernel_rfl)
shelf_lay_g Go.Proofs.SlLaysF0.n6 Slsf 6 at Tryz 150 as lay150
theorem ok150 : FnOk Tryz.prog 150 sp150 := sortG_ok (ρ := lay150_ren) (n := 13) lay150 (by intro w; kernel_rfl) (by intro w; kernel_rfl) (by kernel_rfl) (Nat.blt_eq.mp (by kernel_rfl)) ⟨Tryz.f150, by kernel_rfl, by kernel_rfl, by kernel_rfl⟩
theorem ok128 : FnOk Tryz.prog 128 sp128 := fnOk (nv := 9) (h := h128) tok mix ctx_nil Tryz.func128 (by kernel_rfl) (by kernel_rfl) (by kernel_rfl) (by kernel_rfl) (by kernel_rfl)
theorem ok189 : FnOk Tryz.prog 189 sp189 := fnOk (nv := 9) (h := h189) tok mix (ctx_cons ok159 ctx_nil) Tryz.func189 (by kernel_rfl) (by kernel_rfl) (by kernel_rfl) (by kernel_rfl) (by kernel_rfl)
theorem ok201 : FnOk Tryz.prog 201 sp201 := fnOk (nv := 9) (h := h201) tok mix ctx_nil Tryz.func201 (by kernel_rfl) (by kernel_rfl) (by kernel_rfl) (by kernel_rfl) (by kernel_rfl)
theorem ok202 : FnOk Tryz.prog 202 sp202 := fnOk (nv := 2) (h := h202) tok mix ctx_nil Tryz.func202 (by kernel_rfl) (by kernel_rfl) (by kernel_rfl) (by kernel_rfl) (by kernel_rfl)
theorem ok203 : FnOk Tryz.prog 203 sp203 := fnOk (nv := 2) (h := h203) tok mix ctx_nil Tryz.func203 (by kernel_rfl) (by kernel_rfl) (by kernel_rfl) (by kernel_rfl) (by kernel_rfl)
theorem ok188 : FnOk Tryz.prog 188 sp188 := fnOk (nv := 7) (h := h188) tok mix (ctx_cons ok189 (ctx_cons ok201 (ctx_cons ok202 (ctx_cons ok203 ctx_nil)))) Tryz.func188 (by kernel_rfl) (by kernel_rfl) (by kernel_rfl) (by kernel_rfl) (by kernel_rfl)
theorem ok167 : FnOk Tryz.prog 167 sp167 := fnOk (nv := 8) (h := h167) tok mix (ctx_cons ok108 (ctx_cons ok188 (ctx_cons ok189 ctx_nil))) Tryz.func167 (by kernel_rfl) (by kernel_rfl) (by kernel_rfl) (by kernel_rfl) (by kernel_rfl)
theorem ok190 : FnOk Tryz.prog 190 sp190 := fnOk (nv := 1) (h := h190) tok mix ctx_nil Tryz.func190 (by kernel_rfl) (by kernel_rfl) (by kernel_rfl) (by kernel_rfl) (by kernel_rfl)
theorem ok168 : FnOk Tryz.prog 168 sp168 := fnOk (nv := 7) (h := h168) tok mix (ctx_cons ok190 ctx_nil) Tryz.func168 (by kernel_rfl) (by kernel_rfl) (by kernel_rfl) (by kernel_rfl) (by kernel_rfl)
theorem ok151 : FnOk Tryz.prog 151 sp151 := fnOk (nv := 4) (h := h151) tok mix (ctx_cons ok128 (ctx_cons ok167 (ctx_cons ok168 ctx_nil))) Tryz.func151 (by kernel_rfl) (by kernel_rfl) (by kernel_rfl) (by kernel_rfl) (by kernel_rfl)
theorem ok125 : FnOk Tryz.prog 125 sp125 := fnOk (nv := 44) (h := h125) tok mix (ctx_cons ok88 (ctx_cons ok89 (ctx_cons ok149 (ctx_cons ok150 (ctx_cons ok151 ctx_nil))))) Tryz.func125 (by kernel_rfl) (by kernel_rfl) (by kernel_rfl) (by kernel_rfl) (by kernel_rfl)
theorem ok96_r : ∀ n, FnOk Tryz.prog 96 (sp96_r n)
  | 0 => ⟨⟨Tryz.f96, by kernel_rfl, by kernel_rfl, by kernel_rfl⟩, fun a r hr => nomatch (show (none : Option _) = some r from hr)⟩
  | n + 1 => fnOk (nv := 29) (h := h96) tok mix (ctx_cons (ok96_r n) (ctx_cons ok125 ctx_nil)) Tryz.func96 (by kernel_rfl) (by kernel_rfl) (by kernel_rfl) (by kernel_rfl) (by kernel_rfl)
theorem ok96 : FnOk Tryz.prog 96 sp96 := ok96_r 64
theorem ok65 : FnOk Tryz.prog 65 sp65 := fnOk (nv := 3) (h := h65) tok mix (ctx_cons ok96 ctx_nil) Tryz.func65 (by kernel_rfl) (by kernel_rfl) (by kernel_rfl) (by kernel_rfl) (by kernel_rfl)
theorem ok169 : FnOk Tryz.prog 169 sp169 := fnOk (nv := 10) (h := h169) tok mix ctx_nil Tryz.func169 (by kernel_rfl) (by kernel_rfl) (by kernel_rfl) (by kernel_rfl) (by kernel_rfl)
theorem ok204 : FnOk Tryz.prog 204 sp204 := fnOk (nv := 11) (h := h204) tok mix ctx_nil Tryz.func204 (by kernel_rfl) (by kernel_rfl) (by kernel_rfl) (by kernel_rfl) (by kernel_rfl)
theorem ok191 : FnOk Tryz.prog 191 sp191 := fnOk (nv := 12) (h := h191) tok mix (ctx_cons ok204 ctx_nil) Tryz.func191 (by kernel_rfl) (by kernel_rfl) (by kernel_rfl) (by kernel_rfl) (by kernel_rfl)
theorem ok170_r : ∀ n, FnOk Tryz.prog 170 (sp170_r n)
  | 0 => ⟨⟨Tryz.f170, by kernel_rfl, by kernel_rfl, by kernel_rfl⟩, fun a r hr => nomatch (show (none : Option _) = some r from hr)⟩
  | n + 1 => fnOk (nv := 25) (h := h170) tok mix (ctx_cons (ok170_r n) (ctx_cons ok191 ctx_nil)) Tryz.func170 (by kernel_rfl) (by kernel_rfl) (by kernel_rfl) (by kernel_rfl) (by kernel_rfl)
theorem ok170 : FnOk Tryz.prog 170 sp170 := ok170_r 64
theorem ok152 : FnOk Tryz.prog 152 sp152 := fnOk (nv := 10) (h := h152) tok mix (ctx_cons ok169 (ctx_cons ok170 ctx_nil)) Tryz.func152 (by kernel_rfl) (by kernel_rfl) (by kernel_rfl) (by kernel_rfl) (by kernel_rfl)
theorem ok126 : FnOk Tryz.prog 126 sp126 := fnOk (nv := 2) (h := h126) tok mix (ctx_cons ok152 ctx_nil) Tryz.func126 (by kernel_rfl) (by kernel_rfl) (by kernel_rfl) (by kernel_rfl) (by kernel_rfl)
theorem ok153 : FnOk Tryz.prog 153 sp153 := fnOk (nv := 1) (h := h153) tok mix ctx_nil Tryz.func153 (by kernel_rfl) (by kernel_rfl) (by kernel_rfl) (by kernel_rfl) (by kernel_rfl)
theorem ok129 : FnOk Tryz.prog 129 sp129 := fnOk (nv := 7) (h := h129) tok mix (ctx_cons ok153 ctx_nil) Tryz.func129 (by kernel_rfl) (by kernel_rfl) (by kernel_rfl) (by kernel_rfl) (by kernel_rfl)
theorem ok127 : FnOk Tryz.prog 127 sp127 := fnOk (nv := 4) (h := h127) tok mix (ctx_cons ok128 (ctx_cons ok129 ctx_nil)) Tryz.func127 (by kernel_rfl) (by kernel_rfl) (by kernel_rfl) (by kernel_rfl) (by kernel_rfl)
theorem ok97 : FnOk Tryz.prog 97 sp97 := fnOk (nv := 39) (h := h97) tok mix (ctx_cons ok56 (ctx_cons ok126 (ctx_cons ok127 ctx_nil))) Tryz.func97 (by kernel_rfl) (by kernel_rfl) (by kernel_rfl) (by kernel_rfl) (by kernel_rfl)
theorem ok99 : FnOk Tryz.prog 99 sp99 := ⟨⟨Tryz.f99, by kernel_rfl, by kernel_rfl, by kernel_rfl⟩, fun a r hr => nomatch (show (none : Option _) = some r from hr)⟩
theorem ok100 : FnOk Tryz.prog 100 sp100 := ⟨⟨Tryz.f100, by kernel_rfl, by kernel_rfl, by kernel_rfl⟩, fun a r hr => nomatch (show (none : Option _) = some r from hr)⟩
theorem ok66 : FnOk Tryz.prog 66 sp66 := fnOk (nv := 59) (h := h66) tok mix (ctx_cons ok54 (ctx_cons ok58 (ctx_cons ok59 (ctx_cons ok60 (ctx_cons ok61 (ctx_cons ok62 (ctx_cons ok64 (ctx_cons ok97 (ctx_cons ok98 (ctx_cons ok99 (ctx_cons ok100 ctx_nil))))))))))) Tryz.func66 (by kernel_rfl) (by kernel_rfl) (by kernel_rfl) (by kernel_rfl) (by kernel_rfl)
theorem ok26 : FnOk Tryz.prog 26 sp26 := fnOk (nv := 8) (h := h26) tok mix (ctx_cons ok57 (ctx_cons ok65 (ctx_cons ok66 ctx_nil))) Tryz.func26 (by kernel_rfl) (by kernel_rfl) (by kernel_rfl) (by kernel_rfl) (by kernel_rfl)
theorem ok12 : FnOk Tryz.prog 12 sp12 := fnOk (nv := 11) (h := h12) tok mix (ctx_cons ok22 (ctx_cons ok23 (ctx_cons ok24 (ctx_cons ok25 (ctx_cons ok26 ctx_nil))))) Tryz.func12 (by kernel_rfl) (by kernel_rfl) (by kernel_rfl) (by kernel_rfl) (by kernel_rfl)
theorem ok27 : FnOk Tryz.prog 27 sp27 := fnOk (nv := 7) (h := h27) tok mix ctx_nil Tryz.func27 (by kernel_rfl) (by kernel_rfl) (by kernel_rfl) (by kernel_rfl) (by kernel_rfl)
theorem ok35 : FnOk Tryz.prog 35 sp35 := fnOk (nv := 1) (h := h35) tok mix ctx_nil Tryz.func35 (by kernel_rfl) (by kernel_rfl) (by kernel_rfl) (by kernel_rfl) (by kernel_rfl)
theorem ok36 : FnOk Tryz.prog 36 sp36 := fnOk (nv := 7) (h := h36) tok mix ctx_nil Tryz.func36 (by kernel_rfl) (by kernel_rfl) (by kernel_rfl) (by kernel_rfl) (by kernel_rfl)
theorem ok18 : FnOk Tryz.prog 18 sp18 := fnOk (nv := 8) (h := h18) tok mix (ctx_cons ok27 (ctx_cons ok35 (ctx_cons ok36 ctx_nil))) Tryz.func18 (by kernel_rfl) (by kernel_rfl) (by kernel_rfl) (by kernel_rfl) (by kernel_rfl)
theorem ok19 : FnOk Tryz.prog 19 sp19 := fnOk (nv := 1) (h := h19) tok mix ctx_nil Tryz.func19 (by kernel_rfl) (by kernel_rfl) (by kernel_rfl) (by kernel_rfl) (by kernel_rfl)
theorem ok21 : FnOk Tryz.prog 21 sp21 := fnOk (nv := 7) (h := h21) tok mix ctx_nil Tryz.func21 (by kernel_rfl) (by kernel_rfl) (by kernel_rfl) (by kernel_rfl) (by kernel_rfl)
theorem ok30 : FnOk Tryz.prog 30 sp30 := fnOk (nv := 2) (h := h30) tok mix ctx_nil Tryz.func30 (by kernel_rfl) (by kernel_rfl) (by kernel_rfl) (by kernel_rfl) (by kernel_rfl)
theorem ok37 : FnOk Tryz.prog 37 sp37 := fnOk (nv := 1) (h := h37) tok mix ctx_nil Tryz.func37 (by kernel_rfl) (by kernel_rfl) (by kernel_rfl) (by kernel_rfl) (by kernel_rfl)
theorem ok68 : FnOk Tryz.prog 68 sp68 := fnOk (nv := 8) (h := h68) tok mix ctx_nil Tryz.func68 (by kernel_rfl) (by kernel_rfl) (by kernel_rfl) (by kernel_rfl) (by kernel_rfl)
theorem ok101 : FnOk Tryz.prog 101 sp101 := fnOk (nv := 4) (h := h101) tok mix ctx_nil Tryz.func101 (by kernel_rfl) (by kernel_rfl) (by kernel_rfl) (by kernel_rfl) (by kernel_rfl)
theorem ok69 : FnOk Tryz.prog 69 sp69 := fnOk (nv := 7) (h := h69) tok mix (ctx_cons ok101 ctx_nil) Tryz.func69 (by kernel_rfl) (by kernel_rfl) (by kernel_rfl) (by kernel_rfl) (by kernel_rfl)
theorem ok38 : FnOk Tryz.prog 38 sp38 := fnOk (nv := 3) (h := h38) tok mix (ctx_cons ok68 (ctx_cons ok69 ctx_nil)) Tryz.func38 (by kernel_rfl) (by kernel_rfl) (by kernel_rfl) (by kernel_rfl) (by kernel_rfl)
theorem ok39 : FnOk Tryz.prog 39 sp39 := fnOk (nv := 6) (h := h39) tok mix (ctx_cons ok30 ctx_nil) Tryz.func39 (by kernel_rfl) (by kernel_rfl) (by kernel_rfl) (by kernel_rfl) (by kernel_rfl)
theorem ok40 : FnOk Tryz.prog 40 sp40 := fnOk (nv := 7) (h := h40) tok mix ctx_nil Tryz.func40 (by kernel_rfl) (by kernel_rfl) (by kernel_rfl) (by kernel_rfl) (by kernel_rfl)
theorem ok41 : FnOk Tryz.prog 41 sp41 := fnOk (nv := 2) (h := h41) tok mix ctx_nil Tryz.func41 (by kernel_rfl) (by kernel_rfl) (by kernel_rfl) (by kernel_rfl) (by kernel_rfl)
theorem ok20 : FnOk Tryz.prog 20 sp20 := fnOk (nv := 10) (h := h20) tok mix (ctx_cons ok21 (ctx_cons ok30 (ctx_cons ok37 (ctx_cons ok38 (ctx_cons ok39 (ctx_cons ok40 (ctx_cons ok41 ctx_nil))))))) Tryz.func20 (by kernel_rfl) (by kernel_rfl) (by kernel_rfl) (by kernel_rfl) (by kernel_rfl)
theorem ok9 : FnOk Tryz.prog 9 sp9 := fnOk (nv := 6) (h := h9) tok mix (ctx_cons ok12 (ctx_cons ok18 (ctx_cons ok19 (ctx_cons ok20 (ctx_cons ok21 ctx_nil))))) Tryz.func9 (by kernel_rfl) (by kernel_rfl) (by kernel_rfl) (by kernel_rfl) (by kernel_rfl)
theorem ok10 : FnOk Tryz.prog 10 sp10 := fnOk (nv := 6) (h := h10) tok mix ctx_nil Tryz.func10 (by kernel_rfl) (by kernel_rfl) (by kernel_rfl) (by kernel_rfl) (by kernel_rfl)
theorem ok11 : FnOk Tryz.prog 11 sp11 := fnOk (nv := 13) (h := h11) tok mix (ctx_cons ok18 (ctx_cons ok19 ctx_nil)) Tryz.func11 (by kernel_rfl) (by kernel_rfl) (by kernel_rfl) (by kernel_rfl) (by kernel_rfl)
theorem ok28 : FnOk Tryz.prog 28 sp28 := fnOk (nv := 5) (h := h28) tok mix ctx_nil Tryz.func28 (by kernel_rfl) (by kernel_rfl) (by kernel_rfl) (by kernel_rfl) (by kernel_rfl)
theorem ok32 : FnOk Tryz.prog 32 sp32 := fnOk (nv := 5) (h := h32) tok mix ctx_nil Tryz.func32 (by kernel_rfl) (by kernel_rfl) (by kernel_rfl) (by kernel_rfl) (by kernel_rfl)
theorem ok29 : FnOk Tryz.prog 29 sp29 := fnOk (nv := 7) (h := h29) tok mix (ctx_cons ok32 ctx_nil) Tryz.func29 (by kernel_rfl) (by kernel_rfl) (by kernel_rfl) (by kernel_rfl) (by kernel_rfl)
theorem ok13 : FnOk Tryz.prog 13 sp13 := fnOk (nv := 6) (h := h13) tok mix (ctx_cons ok27 (ctx_cons ok28 (ctx_cons ok29 ctx_nil))) Tryz.func13 (by kernel_rfl) (by kernel_rfl) (by kernel_rfl) (by kernel_rfl) (by kernel_rfl)
theorem ok67 : FnOk Tryz.prog 67 sp67 := fnOk (nv := 4) (h := h67) tok mix (ctx_cons ok101 ctx_nil) Tryz.func67 (by kernel_rfl) (by kernel_rfl) (by kernel_rfl) (by kernel_rfl) (by kernel_rfl)
theorem ok31 : FnOk Tryz.prog 31 sp31 := fnOk (nv := 7) (h := h31) tok mix (ctx_cons ok67 ctx_nil) Tryz.func31 (by kernel_rfl) (by kernel_rfl) (by kernel_rfl) (by kernel_rfl) (by kernel_rfl)
theorem ok33 : FnOk Tryz.prog 33 sp33 := fnOk (nv := 7) (h := h33) tok mix (ctx_cons ok32 ctx_nil) Tryz.func33 (by kernel_rfl) (by kernel_rfl) (by kernel_rfl) (by kernel_rfl) (by kernel_rfl)
theorem ok14 : FnOk Tryz.prog 14 sp14 := fnOk (nv := 9) (h := h14) tok mix (ctx_cons ok30 (ctx_cons ok31 (ctx_cons ok32 (ctx_cons ok33 ctx_nil)))) Tryz.func14 (by kernel_rfl) (by kernel_rfl) (by kernel_rfl) (by kernel_rfl) (by kernel_rfl)
theorem ok34 : FnOk Tryz.prog 34 sp34 := fnOk (nv := 14) (h := h34) tok mix (ctx_cons ok21 (ctx_cons ok31 (ctx_cons ok32 ctx_nil))) Tryz.func34 (by kernel_rfl) (by kernel_rfl) (by kernel_rfl) (by kernel_rfl) (by kernel_rfl)
theorem ok15 : FnOk Tryz.prog 15 sp15 := fnOk (nv := 7) (h := h15) tok mix (ctx_cons ok34 ctx_nil) Tryz.func15 (by kernel_rfl) (by kernel_rfl) (by kernel_rfl) (by kernel_rfl) (by kernel_rfl)
theorem ok3 : FnOk Tryz.prog 3 sp3 := fnOk (nv := 13) (h := h3) tok mix (ctx_cons ok9 (ctx_cons ok10 (ctx_cons ok11 (ctx_cons ok12 (ctx_cons ok13 (ctx_cons ok14 (ctx_cons ok15 ctx_nil))))))) Tryz.func3 (by kernel_rfl) (by kernel_rfl) (by kernel_rfl) (by kernel_rfl) (by kernel_rfl)
theorem ok4 : FnOk Tryz.prog 4 sp4 := fnOk (nv := 13) (h := h4) tok mix (ctx_cons ok9 (ctx_cons ok10 (ctx_cons ok11 (ctx_cons ok12 (ctx_cons ok13 ctx_nil))))) Tryz.func4 (by kernel_rfl) (by kernel_rfl) (by kernel_rfl) (by kernel_rfl) (by kernel_rfl)
theorem ok6 : FnOk Tryz.prog 6 sp6 := fnOk (nv := 9) (h := h6) tok mix (ctx_cons ok9 (ctx_cons ok10 (ctx_cons ok11 (ctx_cons ok12 ctx_nil)))) Tryz.func6 (by kernel_rfl) (by kernel_rfl) (by kernel_rfl) (by kernel_rfl) (by kernel_rfl)
theorem ok7 : FnOk Tryz.prog 7 sp7 := fnOk (nv := 9) (h := h7) tok mix (ctx_cons ok9 (ctx_cons ok10 (ctx_cons ok11 (ctx_cons ok12 ctx_nil)))) Tryz.func7 (by kernel_rfl) (by kernel_rfl) (by kernel_rfl) (by kernel_rfl) (by kernel_rfl)
theorem ok16 : FnOk Tryz.prog 16 sp16 := fnOk (nv := 9) (h := h16) tok mix (ctx_cons ok18 (ctx_cons ok19 ctx_nil)) Tryz.func16 (by kernel_rfl) (by kernel_rfl) (by kernel_rfl) (by kernel_rfl) (by kernel_rfl)
theorem ok8 : FnOk Tryz.prog 8 sp8 := fnOk (nv := 9) (h := h8) tok mix (ctx_cons ok9 (ctx_cons ok10 (ctx_cons ok12 (ctx_cons ok16 (ctx_cons ok18 ctx_nil))))) Tryz.func8 (by kernel_rfl) (by kernel_rfl) (by kernel_rfl) (by kernel_rfl) (by kernel_rfl)
end Go.Fx.D
