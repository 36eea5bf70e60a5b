/-
  Each of these functions does what its function over plain data says, where that gives an answer (printed by a program). Conditions: none.
-/
import Derived.Test.YtkbpndpddlhgbaaFxC
import Derived.Ground.NamesProg
import Derived.Shelf.Lay
import Derived.Test.YtkbpndpddlhgbaaD
import Derived.Test.YtkbpndpddlhgbaaFxB
import Derived.Test.YtkbpndpddlhgbaaChecked
import Derived.WalkKit
namespace Go.Fx.D
open Go Go.Fx Go.Proofs Go.Shelf Go.RowKit Go.Lib Go.Sort
set_option linter.unusedVariables false
set_option maxRecDepth 100000

theorem rowOk3 : RowOk Try.prog 3 row3 := ⟨by kernel_rfl, ⟨Try.t3, (Try.t3.zero).getD .nilFunc, by kernel_rfl, by kernel_rfl, by kernel_rfl⟩, by kernel_rfl, by kernel_rfl⟩
theorem rowOk4 : RowOk Try.prog 4 row4 := ⟨by kernel_rfl, ⟨Try.t4, (Try.t4.zero).getD .nilFunc, by kernel_rfl, by kernel_rfl, by kernel_rfl⟩, by kernel_rfl, by kernel_rfl⟩
theorem rowOk9 : RowOk Try.prog 9 row9 := ⟨by kernel_rfl, ⟨Try.t9, (Try.t9.zero).getD .nilFunc, by kernel_rfl, by kernel_rfl, by kernel_rfl⟩, by kernel_rfl, by kernel_rfl⟩
theorem rowOk22 : RowOk Try.prog 22 row22 := ⟨by kernel_rfl, ⟨Try.t22, (Try.t22.zero).getD .nilFunc, by kernel_rfl, by kernel_rfl, by kernel_rfl⟩, by kernel_rfl, by kernel_rfl⟩
theorem rowOk24 : RowOk Try.prog 24 row24 := ⟨by kernel_rfl, ⟨Try.t24, (Try.t24.zero).getD .nilFunc, by kernel_rfl, by kernel_rfl, by kernel_rfl⟩, by kernel_rfl, by kernel_rfl⟩
theorem rowOk26 : RowOk Try.prog 26 row26 := ⟨by kernel_rfl, ⟨Try.t26, (Try.t26.zero).getD .nilFunc, by kernel_rfl, by kernel_rfl, by kernel_rfl⟩, by kernel_rfl, by kernel_rfl⟩
theorem rowOk30 : RowOk Try.prog 30 row30 := ⟨by kernel_rfl, ⟨Try.t30, (Try.t30.zero).getD .nilFunc, by kernel_rfl, by kernel_rfl, by kernel_rfl⟩, by kernel_rfl, by kernel_rfl⟩
theorem rowOk37 : RowOk Try.prog 37 row37 := ⟨by kernel_rfl, ⟨Try.t37, (Try.t37.zero).getD .nilFunc, by kernel_rfl, by kernel_rfl, by kernel_rfl⟩, by kernel_rfl, by kernel_rfl⟩
theorem rowOk42 : RowOk Try.prog 42 row42 := ⟨by kernel_rfl, ⟨Try.t42, (Try.t42.zero).getD .nilFunc, by kernel_rfl, by kernel_rfl, by kernel_rfl⟩, by kernel_rfl, by kernel_rfl⟩
theorem rowOk43 : RowOk Try.prog 43 row43 := ⟨by kernel_rfl, ⟨Try.t43, (Try.t43.zero).getD .nilFunc, by kernel_rfl, by kernel_rfl, by kernel_rfl⟩, by kernel_rfl, by kernel_rfl⟩
theorem rowOk45 : RowOk Try.prog 45 row45 := ⟨by kernel_rfl, ⟨Try.t45, (Try.t45.zero).getD .nilFunc, by kernel_rfl, by kernel_rfl, by kernel_rfl⟩, by kernel_rfl, by kernel_rfl⟩
theorem rowOk46 : RowOk Try.prog 46 row46 := ⟨by kernel_rfl, ⟨Try.t46, (Try.t46.zero).getD .nilFunc, by kernel_rfl, by kernel_rfl, by kernel_rfl⟩, by kernel_rfl, by kernel_rfl⟩
theorem rowOk47 : RowOk Try.prog 47 row47 := ⟨by kernel_rfl, ⟨Try.t47, (Try.t47.zero).getD .nilFunc, by kernel_rfl, by kernel_rfl, by kernel_rfl⟩, by kernel_rfl, by kernel_rfl⟩
theorem rowOk48 : RowOk Try.prog 48 row48 := ⟨by kernel_rfl, ⟨Try.t48, (Try.t48.zero).getD .nilFunc, by kernel_rfl, by kernel_rfl, by kernel_rfl⟩, by kernel_rfl, by kernel_rfl⟩
theorem rowOk49 : RowOk Try.prog 49 row49 := ⟨by kernel_rfl, ⟨Try.t49, (Try.t49.zero).getD .nilFunc, by kernel_rfl, by kernel_rfl, by kernel_rfl⟩, by kernel_rfl, by kernel_rfl⟩
theorem rowOk51 : RowOk Try.prog 51 row51 := ⟨by kernel_rfl, ⟨Try.t51, (Try.t51.zero).getD .nilFunc, by kernel_rfl, by kernel_rfl, by kernel_rfl⟩, by kernel_rfl, by kernel_rfl⟩
theorem rowOk54 : RowOk Try.prog 54 row54 := ⟨by kernel_rfl, ⟨Try.t54, (Try.t54.zero).getD .nilFunc, by kernel_rfl, by kernel_rfl, by kernel_rfl⟩, by kernel_rfl, by kernel_rfl⟩
theorem rowOk70 : RowOk Try.prog 70 row70 := ⟨by kernel_rfl, ⟨Try.t70, (Try.t70.zero).getD .nilFunc, by kernel_rfl, by kernel_rfl, by kernel_rfl⟩, by kernel_rfl, by kernel_rfl⟩
theorem rowOk71 : RowOk Try.prog 71 row71 := ⟨by kernel_rfl, ⟨Try.t71, (Try.t71.zero).getD .nilFunc, by kernel_rfl, by kernel_rfl, by kernel_rfl⟩, by kernel_rfl, by kernel_rfl⟩
theorem rowOk73 : RowOk Try.prog 73 row73 := ⟨by kernel_rfl, ⟨Try.t73, (Try.t73.zero).getD .nilFunc, by kernel_rfl, by kernel_rfl, by kernel_rfl⟩, by kernel_rfl, by kernel_rfl⟩
theorem rowOk79 : RowOk Try.prog 79 row79 := ⟨by kernel_rfl, ⟨Try.t79, (Try.t79.zero).getD .nilFunc, by kernel_rfl, by kernel_rfl, by kernel_rfl⟩, by kernel_rfl, by kernel_rfl⟩
theorem rowOk81 : RowOk Try.prog 81 row81 := ⟨by kernel_rfl, ⟨Try.t81, (Try.t81.zero).getD .nilFunc, by kernel_rfl, by kernel_rfl, by kernel_rfl⟩, by kernel_rfl, by kernel_rfl⟩
theorem rowOk83 : RowOk Try.prog 83 row83 := ⟨by kernel_rfl, ⟨Try.t83, (Try.t83.zero).getD .nilFunc, by kernel_rfl, by kernel_rfl, by kernel_rfl⟩, by kernel_rfl, by kernel_rfl⟩
theorem rowOk85 : RowOk Try.prog 85 row85 := ⟨by kernel_rfl, ⟨Try.t85, (Try.t85.zero).getD .nilFunc, by kernel_rfl, by kernel_rfl, by kernel_rfl⟩, by kernel_rfl, by kernel_rfl⟩
theorem rowOk92 : RowOk Try.prog 92 row92 := ⟨by kernel_rfl, ⟨Try.t92, (Try.t92.zero).getD .nilFunc, by kernel_rfl, by kernel_rfl, by kernel_rfl⟩, by kernel_rfl, by kernel_rfl⟩
theorem rowOk102 : RowOk Try.prog 102 row102 := ⟨by kernel_rfl, ⟨Try.t102, (Try.t102.zero).getD .nilFunc, by kernel_rfl, by kernel_rfl, by kernel_rfl⟩, by kernel_rfl, by kernel_rfl⟩
theorem rowOk105 : RowOk Try.prog 105 row105 := ⟨by kernel_rfl, ⟨Try.t105, (Try.t105.zero).getD .nilFunc, by kernel_rfl, by kernel_rfl, by kernel_rfl⟩, by kernel_rfl, by kernel_rfl⟩
theorem tok : TblOk Try.prog (look tbl) := tblOk (all_cons rowOk3 (all_cons rowOk4 (all_cons rowOk9 (all_cons rowOk22 (all_cons rowOk24 (all_cons rowOk26 (all_cons rowOk30 (all_cons rowOk37 (all_cons rowOk42 (all_cons rowOk43 (all_cons rowOk45 (all_cons rowOk46 (all_cons rowOk47 (all_cons rowOk48 (all_cons rowOk49 (all_cons rowOk51 (all_cons rowOk54 (all_cons rowOk70 (all_cons rowOk71 (all_cons rowOk73 (all_cons rowOk79 (all_cons rowOk81 (all_cons rowOk83 (all_cons rowOk85 (all_cons rowOk92 (all_cons rowOk102 (all_cons rowOk105 all_nil)))))))))))))))))))))))))))
theorem mix : Try.prog.follows .mixedOrders = true := Checked.mixed Try.checked

theorem ok23 : FnOk Try.prog 23 sp23 := fnOk (nv := 2) (h := h23) tok mix ctx_nil Try.func23 (by kernel_rfl) (by kernel_rfl) (by kernel_rfl) (by kernel_rfl) (by kernel_rfl)
shelf_lay Go.Proofs.Lays.n189 Nm 189 at Try as lay24
theorem ok24 : FnOk Try.prog 24 sp24 := sortI_ok (ρ := lay24_ren) lay24 ⟨Try.f24, by kernel_rfl, by kernel_rfl, by kernel_rfl⟩
theorem ok66 : FnOk Try.prog 66 sp66 := fnOk (nv := 9) (h := h66) tok mix ctx_nil Try.func66 (by kernel_rfl) (by kernel_rfl) (by kernel_rfl) (by kernel_rfl) (by kernel_rfl)
theorem ok40 : FnOk Try.prog 40 sp40 := fnOk (nv := 2) (h := h40) tok mix (ctx_cons ok66 ctx_nil) Try.func40 (by kernel_rfl) (by kernel_rfl) (by kernel_rfl) (by kernel_rfl) (by kernel_rfl)
theorem ok43 : FnOk Try.prog 43 sp43 := fnOk (nv := 2) (h := h43) tok mix ctx_nil Try.func43 (by kernel_rfl) (by kernel_rfl) (by kernel_rfl) (by kernel_rfl) (by kernel_rfl)
theorem ok44 : FnOk Try.prog 44 sp44 := fnOk (nv := 3) (h := h44) tok mix (ctx_cons ok43 ctx_nil) Try.func44 (by kernel_rfl) (by kernel_rfl) (by kernel_rfl) (by kernel_rfl) (by kernel_rfl)
theorem ok28 : FnOk Try.prog 28 sp28 := fnOk (nv := 5) (h := h28) tok mix (ctx_cons ok43 (ctx_cons ok44 ctx_nil)) Try.func28 (by kernel_rfl) (by kernel_rfl) (by kernel_rfl) (by kernel_rfl) (by kernel_rfl)
theorem ok14 : FnOk Try.prog 14 sp14 := fnOk (nv := 13) (h := h14) tok mix (ctx_cons ok28 ctx_nil) Try.func14 (by kernel_rfl) (by kernel_rfl) (by kernel_rfl) (by kernel_rfl) (by kernel_rfl)
theorem ok42 : FnOk Try.prog 42 sp42 := fnOk (nv := 4) (h := h42) tok mix ctx_nil Try.func42 (by kernel_rfl) (by kernel_rfl) (by kernel_rfl) (by kernel_rfl) (by kernel_rfl)
theorem ok41 : FnOk Try.prog 41 sp41 := fnOk (nv := 7) (h := h41) tok mix (ctx_cons ok14 (ctx_cons ok28 (ctx_cons ok42 ctx_nil))) Try.func41 (by kernel_rfl) (by kernel_rfl) (by kernel_rfl) (by kernel_rfl) (by kernel_rfl)
theorem ok25 : FnOk Try.prog 25 sp25 := fnOk (nv := 19) (h := h25) tok mix (ctx_cons ok40 (ctx_cons ok41 ctx_nil)) Try.func25 (by kernel_rfl) (by kernel_rfl) (by kernel_rfl) (by kernel_rfl) (by kernel_rfl)
theorem ok12 : FnOk Try.prog 12 sp12 := fnOk (nv := 77) (h := h12) tok mix (ctx_cons ok23 (ctx_cons ok24 (ctx_cons ok25 ctx_nil))) Try.func12 (by kernel_rfl) (by kernel_rfl) (by kernel_rfl) (by kernel_rfl) (by kernel_rfl)
theorem ok9 : FnOk Try.prog 9 sp9 := fnOk (nv := 4) (h := h9) tok mix (ctx_cons ok12 ctx_nil) Try.func9 (by kernel_rfl) (by kernel_rfl) (by kernel_rfl) (by kernel_rfl) (by kernel_rfl)
theorem ok11 : FnOk Try.prog 11 sp11 := fnOk (nv := 6) (h := h11) tok mix ctx_nil Try.func11 (by kernel_rfl) (by kernel_rfl) (by kernel_rfl) (by kernel_rfl) (by kernel_rfl)
theorem ok10 : FnOk Try.prog 10 sp10 := fnOk (nv := 3) (h := h10) tok mix (ctx_cons ok11 ctx_nil) Try.func10 (by kernel_rfl) (by kernel_rfl) (by kernel_rfl) (by kernel_rfl) (by kernel_rfl)
theorem ok26 : FnOk Try.prog 26 sp26 := fnOk (nv := 1) (h := h26) tok mix ctx_nil Try.func26 (by kernel_rfl) (by kernel_rfl) (by kernel_rfl) (by kernel_rfl) (by kernel_rfl)
theorem ok17 : FnOk Try.prog 17 sp17 := fnOk (nv := 5) (h := h17) tok mix ctx_nil Try.func17 (by kernel_rfl) (by kernel_rfl) (by kernel_rfl) (by kernel_rfl) (by kernel_rfl)
theorem ok15 : FnOk Try.prog 15 sp15 := fnOk (nv := 9) (h := h15) tok mix (ctx_cons ok17 ctx_nil) Try.func15 (by kernel_rfl) (by kernel_rfl) (by kernel_rfl) (by kernel_rfl) (by kernel_rfl)
theorem ok16 : FnOk Try.prog 16 sp16 := fnOk (nv := 4) (h := h16) tok mix ctx_nil Try.func16 (by kernel_rfl) (by kernel_rfl) (by kernel_rfl) (by kernel_rfl) (by kernel_rfl)
theorem ok27 : FnOk Try.prog 27 sp27 := fnOk (nv := 12) (h := h27) tok mix (ctx_cons ok15 (ctx_cons ok16 (ctx_cons ok17 ctx_nil))) Try.func27 (by kernel_rfl) (by kernel_rfl) (by kernel_rfl) (by kernel_rfl) (by kernel_rfl)
theorem ok13 : FnOk Try.prog 13 sp13 := fnOk (nv := 13) (h := h13) tok mix (ctx_cons ok26 (ctx_cons ok27 ctx_nil)) Try.func13 (by kernel_rfl) (by kernel_rfl) (by kernel_rfl) (by kernel_rfl) (by kernel_rfl)
theorem ok3 : FnOk Try.prog 3 sp3 := fnOk (nv := 18) (h := h3) tok mix (ctx_cons ok9 (ctx_cons ok10 (ctx_cons ok11 (ctx_cons ok12 (ctx_cons ok13 (ctx_cons ok14 (ctx_cons ok15 ctx_nil))))))) Try.func3 (by kernel_rfl) (by kernel_rfl) (by kernel_rfl) (by kernel_rfl) (by kernel_rfl)
theorem ok4 : FnOk Try.prog 4 sp4 := fnOk (nv := 17) (h := h4) tok mix (ctx_cons ok9 (ctx_cons ok10 (ctx_cons ok11 (ctx_cons ok12 (ctx_cons ok14 (ctx_cons ok16 (ctx_cons ok17 ctx_nil))))))) Try.func4 (by kernel_rfl) (by kernel_rfl) (by kernel_rfl) (by kernel_rfl) (by kernel_rfl)
theorem ok5 : FnOk Try.prog 5 sp5 := fnOk (nv := 16) (h := h5) tok mix (ctx_cons ok9 (ctx_cons ok11 (ctx_cons ok12 ctx_nil))) Try.func5 (by kernel_rfl) (by kernel_rfl) (by kernel_rfl) (by kernel_rfl) (by kernel_rfl)
theorem ok18 : FnOk Try.prog 18 sp18 := fnOk (nv := 1) (h := h18) tok mix ctx_nil Try.func18 (by kernel_rfl) (by kernel_rfl) (by kernel_rfl) (by kernel_rfl) (by kernel_rfl)
theorem ok67_ne : FnOk Try.prog 67 sp67_ne := fnOk (nv := 1) (h := h67) tok mix ctx_nil Try.func67 (by kernel_rfl) (by kernel_rfl) (by kernel_rfl) (by kernel_rfl) (by kernel_rfl)
set_option maxHeartbeats 2000000 in
theorem walk67 (p : Option Addr) (cap : Nat) (w : World) : Calls Try.prog 67 #[.slice p 0 cap] w fun e w' => ∃ p', e = .returned (.slice p' 0 0) ∧ RowKit.Below w.heap.size w w' ∧ w.drawn ≤ w'.drawn := by
  have q := q_nil (P := Try.prog) (t := 42) rowOk42.und
  cases p with
  | none =>
    go_enter Try.func67, Try.ntmps67
    go_wp2
    go_ret
    exact ⟨_, rfl, .refl _ _, Nat.le_refl _⟩
  | some p =>
    go_enter Try.func67, Try.ntmps67
    go_wp2
    go_ret
    exact ⟨_, rfl, (RowKit.Below.refl _ w).alloc (Nat.le_refl _) _, Nat.le_refl _⟩
theorem ok67 : FnOk Try.prog 67 sp67 := clone_ok ok67_ne walk67
theorem ok68_ne : FnOk Try.prog 68 sp68_ne := fnOk (nv := 1) (h := h68) tok mix ctx_nil Try.func68 (by kernel_rfl) (by kernel_rfl) (by kernel_rfl) (by kernel_rfl) (by kernel_rfl)
set_option maxHeartbeats 2000000 in
theorem walk68 (p : Option Addr) (cap : Nat) (w : World) : Calls Try.prog 68 #[.slice p 0 cap] w fun e w' => ∃ p', e = .returned (.slice p' 0 0) ∧ RowKit.Below w.heap.size w w' ∧ w.drawn ≤ w'.drawn := by
  have q := q_nil (P := Try.prog) (t := 43) rowOk43.und
  cases p with
  | none =>
    go_enter Try.func68, Try.ntmps68
    go_wp2
    go_ret
    exact ⟨_, rfl, .refl _ _, Nat.le_refl _⟩
  | some p =>
    go_enter Try.func68, Try.ntmps68
    go_wp2
    go_ret
    exact ⟨_, rfl, (RowKit.Below.refl _ w).alloc (Nat.le_refl _) _, Nat.le_refl _⟩
theorem ok68 : FnOk Try.prog 68 sp68 := clone_ok ok68_ne walk68
theorem ok69_ne : FnOk Try.prog 69 sp69_ne := fnOk (nv := 1) (h := h69) tok mix ctx_nil Try.func69 (by kernel_rfl) (by kernel_rfl) (by kernel_rfl) (by kernel_rfl) (by kernel_rfl)
set_option maxHeartbeats 2000000 in
theorem walk69 (p : Option Addr) (cap : Nat) (w : World) : Calls Try.prog 69 #[.slice p 0 cap] w fun e w' => ∃ p', e = .returned (.slice p' 0 0) ∧ RowKit.Below w.heap.size w w' ∧ w.drawn ≤ w'.drawn := by
  have q := q_nil (P := Try.prog) (t := 71) rowOk71.und
  cases p with
  | none =>
    go_enter Try.func69, Try.ntmps69
    go_wp2
    go_ret
    exact ⟨_, rfl, .refl _ _, Nat.le_refl _⟩
  | some p =>
    go_enter Try.func69, Try.ntmps69
    go_wp2
    go_ret
    exact ⟨_, rfl, (RowKit.Below.refl _ w).alloc (Nat.le_refl _) _, Nat.le_refl _⟩
theorem ok69 : FnOk Try.prog 69 sp69 := clone_ok ok69_ne walk69
theorem ok70_ne : FnOk Try.prog 70 sp70_ne := fnOk (nv := 1) (h := h70) tok mix ctx_nil Try.func70 (by kernel_rfl) (by kernel_rfl) (by kernel_rfl) (by kernel_rfl) (by kernel_rfl)
set_option maxHeartbeats 2000000 in
theorem walk70 (p : Option Addr) (cap : Nat) (w : World) : Calls Try.prog 70 #[.slice p 0 cap] w fun e w' => ∃ p', e = .returned (.slice p' 0 0) ∧ RowKit.Below w.heap.size w w' ∧ w.drawn ≤ w'.drawn := by
  have q := q_nil (P := Try.prog) (t := 46) rowOk46.und
  cases p with
  | none =>
    go_enter Try.func70, Try.ntmps70
    go_wp2
    go_ret
    exact ⟨_, rfl, .refl _ _, Nat.le_refl _⟩
  | some p =>
    go_enter Try.func70, Try.ntmps70
    go_wp2
    go_ret
    exact ⟨_, rfl, (RowKit.Below.refl _ w).alloc (Nat.le_refl _) _, Nat.le_refl _⟩
theorem ok70 : FnOk Try.prog 70 sp70 := clone_ok ok70_ne walk70
theorem ok71_ne : FnOk Try.prog 71 sp71_ne := fnOk (nv := 1) (h := h71) tok mix ctx_nil Try.func71 (by kernel_rfl) (by kernel_rfl) (by kernel_rfl) (by kernel_rfl) (by kernel_rfl)
set_option maxHeartbeats 2000000 in
theorem walk71 (p : Option Addr) (cap : Nat) (w : World) : Calls Try.prog 71 #[.slice p 0 cap] w fun e w' => ∃ p', e = .returned (.slice p' 0 0) ∧ RowKit.Below w.heap.size w w' ∧ w.drawn ≤ w'.drawn := by
  have q := q_nil (P := Try.prog) (t := 48) rowOk48.und
  cases p with
  | none =>
    go_enter Try.func71, Try.ntmps71
    go_wp2
    go_ret
    exact ⟨_, rfl, .refl _ _, Nat.le_refl _⟩
  | some p =>
    go_enter Try.func71, Try.ntmps71
    go_wp2
    go_ret
    exact ⟨_, rfl, (RowKit.Below.refl _ w).alloc (Nat.le_refl _) _, Nat.le_refl _⟩
theorem ok71 : FnOk Try.prog 71 sp71 := clone_ok ok71_ne walk71
theorem ok72_ne : FnOk Try.prog 72 sp72_ne := fnOk (nv := 1) (h := h72) tok mix ctx_nil Try.func72 (by kernel_rfl) (by kernel_rfl) (by kernel_rfl) (by kernel_rfl) (by kernel_rfl)
set_option maxHeartbeats 2000000 in
theorem walk72 (p : Option Addr) (cap : Nat) (w : World) : Calls Try.prog 72 #[.slice p 0 cap] w fun e w' => ∃ p', e = .returned (.slice p' 0 0) ∧ RowKit.Below w.heap.size w w' ∧ w.drawn ≤ w'.drawn := by
  have q := q_nil (P := Try.prog) (t := 49) rowOk49.und
  cases p with
  | none =>
    go_enter Try.func72, Try.ntmps72
    go_wp2
    go_ret
    exact ⟨_, rfl, .refl _ _, Nat.le_refl _⟩
  | some p =>
    go_enter Try.func72, Try.ntmps72
    go_wp2
    go_ret
    exact ⟨_, rfl, (RowKit.Below.refl _ w).alloc (Nat.le_refl _) _, Nat.le_refl _⟩
theorem ok72 : FnOk Try.prog 72 sp72 := clone_ok ok72_ne walk72
theorem ok73_ne : FnOk Try.prog 73 sp73_ne := fnOk (nv := 1) (h := h73) tok mix ctx_nil Try.func73 (by kernel_rfl) (by kernel_rfl) (by kernel_rfl) (by kernel_rfl) (by kernel_rfl)
set_option maxHeartbeats 2000000 in
theorem walk73 (p : Option Addr) (cap : Nat) (w : World) : Calls Try.prog 73 #[.slice p 0 cap] w fun e w' => ∃ p', e = .returned (.slice p' 0 0) ∧ RowKit.Below w.heap.size w w' ∧ w.drawn ≤ w'.drawn := by
  have q := q_nil (P := Try.prog) (t := 22) rowOk22.und
  cases p with
  | none =>
    go_enter Try.func73, Try.ntmps73
    go_wp2
    go_ret
    exact ⟨_, rfl, .refl _ _, Nat.le_refl _⟩
  | some p =>
    go_enter Try.func73, Try.ntmps73
    go_wp2
    go_ret
    exact ⟨_, rfl, (RowKit.Below.refl _ w).alloc (Nat.le_refl _) _, Nat.le_refl _⟩
theorem ok73 : FnOk Try.prog 73 sp73 := clone_ok ok73_ne walk73
theorem ok74_ne : FnOk Try.prog 74 sp74_ne := fnOk (nv := 1) (h := h74) tok mix ctx_nil Try.func74 (by kernel_rfl) (by kernel_rfl) (by kernel_rfl) (by kernel_rfl) (by kernel_rfl)
set_option maxHeartbeats 2000000 in
theorem walk74 (p : Option Addr) (cap : Nat) (w : World) : Calls Try.prog 74 #[.slice p 0 cap] w fun e w' => ∃ p', e = .returned (.slice p' 0 0) ∧ RowKit.Below w.heap.size w w' ∧ w.drawn ≤ w'.drawn := by
  have q := q_nil (P := Try.prog) (t := 47) rowOk47.und
  cases p with
  | none =>
    go_enter Try.func74, Try.ntmps74
    go_wp2
    go_ret
    exact ⟨_, rfl, .refl _ _, Nat.le_refl _⟩
  | some p =>
    go_enter Try.func74, Try.ntmps74
    go_wp2
    go_ret
    exact ⟨_, rfl, (RowKit.Below.refl _ w).alloc (Nat.le_refl _) _, Nat.le_refl _⟩
theorem ok74 : FnOk Try.prog 74 sp74 := clone_ok ok74_ne walk74
theorem ok86_ne : FnOk Try.prog 86 sp86_ne := fnOk (nv := 1) (h := h86) tok mix ctx_nil Try.func86 (by kernel_rfl) (by kernel_rfl) (by kernel_rfl) (by kernel_rfl) (by kernel_rfl)
set_option maxHeartbeats 2000000 in
theorem walk86 (p : Option Addr) (cap : Nat) (w : World) : Calls Try.prog 86 #[.slice p 0 cap] w fun e w' => ∃ p', e = .returned (.slice p' 0 0) ∧ RowKit.Below w.heap.size w w' ∧ w.drawn ≤ w'.drawn := by
  have q := q_nil (P := Try.prog) (t := 79) rowOk79.und
  cases p with
  | none =>
    go_enter Try.func86, Try.ntmps86
    go_wp2
    go_ret
    exact ⟨_, rfl, .refl _ _, Nat.le_refl _⟩
  | some p =>
    go_enter Try.func86, Try.ntmps86
    go_wp2
    go_ret
    exact ⟨_, rfl, (RowKit.Below.refl _ w).alloc (Nat.le_refl _) _, Nat.le_refl _⟩
theorem ok86 : FnOk Try.prog 86 sp86 := clone_ok ok86_ne walk86
theorem ok87 : FnOk Try.prog 87 sp87 := fnOk (nv := 4) (h := h87) tok mix ctx_nil Try.func87 (by kernel_rfl) (by kernel_rfl) (by kernel_rfl) (by kernel_rfl) (by kernel_rfl)
theorem ok75 : FnOk Try.prog 75 sp75 := fnOk (nv := 3) (h := h75) tok mix (ctx_cons ok86 (ctx_cons ok87 ctx_nil)) Try.func75 (by kernel_rfl) (by kernel_rfl) (by kernel_rfl) (by kernel_rfl) (by kernel_rfl)
theorem ok45 : FnOk Try.prog 45 sp45 := fnOk (nv := 62) (h := h45) tok mix (ctx_cons ok67 (ctx_cons ok68 (ctx_cons ok69 (ctx_cons ok70 (ctx_cons ok71 (ctx_cons ok72 (ctx_cons ok73 (ctx_cons ok74 (ctx_cons ok75 ctx_nil))))))))) Try.func45 (by kernel_rfl) (by kernel_rfl) (by kernel_rfl) (by kernel_rfl) (by kernel_rfl)
theorem ok46 : FnOk Try.prog 46 sp46 := fnOk (nv := 9) (h := h46) tok mix ctx_nil Try.func46 (by kernel_rfl) (by kernel_rfl) (by kernel_rfl) (by kernel_rfl) (by kernel_rfl)
theorem ok47 : FnOk Try.prog 47 sp47 := fnOk (nv := 3) (h := h47) tok mix ctx_nil Try.func47 (by kernel_rfl) (by kernel_rfl) (by kernel_rfl) (by kernel_rfl) (by kernel_rfl)
theorem ok76 : FnOk Try.prog 76 sp76 := fnOk (nv := 9) (h := h76) tok mix ctx_nil Try.func76 (by kernel_rfl) (by kernel_rfl) (by kernel_rfl) (by kernel_rfl) (by kernel_rfl)
theorem ok77 : FnOk Try.prog 77 sp77 := fnOk (nv := 3) (h := h77) tok mix ctx_nil Try.func77 (by kernel_rfl) (by kernel_rfl) (by kernel_rfl) (by kernel_rfl) (by kernel_rfl)
theorem ok48 : FnOk Try.prog 48 sp48 := fnOk (nv := 4) (h := h48) tok mix (ctx_cons ok76 (ctx_cons ok77 ctx_nil)) Try.func48 (by kernel_rfl) (by kernel_rfl) (by kernel_rfl) (by kernel_rfl) (by kernel_rfl)
theorem ok99 : FnOk Try.prog 99 sp99 := fnOk (nv := 9) (h := h99) tok mix ctx_nil Try.func99 (by kernel_rfl) (by kernel_rfl) (by kernel_rfl) (by kernel_rfl) (by kernel_rfl)
theorem ok94 : FnOk Try.prog 94 sp94 := fnOk (nv := 8) (h := h94) tok mix (ctx_cons ok99 ctx_nil) Try.func94 (by kernel_rfl) (by kernel_rfl) (by kernel_rfl) (by kernel_rfl) (by kernel_rfl)
theorem ok95 : FnOk Try.prog 95 sp95 := fnOk (nv := 4) (h := h95) tok mix ctx_nil Try.func95 (by kernel_rfl) (by kernel_rfl) (by kernel_rfl) (by kernel_rfl) (by kernel_rfl)
theorem ok96 : FnOk Try.prog 96 sp96 := fnOk (nv := 3) (h := h96) tok mix ctx_nil Try.func96 (by kernel_rfl) (by kernel_rfl) (by kernel_rfl) (by kernel_rfl) (by kernel_rfl)
theorem ok103 : FnOk Try.prog 103 sp103 := fnOk (nv := 4) (h := h103) tok mix ctx_nil Try.func103 (by kernel_rfl) (by kernel_rfl) (by kernel_rfl) (by kernel_rfl) (by kernel_rfl)
theorem ok102 : FnOk Try.prog 102 sp102 := fnOk (nv := 2) (h := h102) tok mix (ctx_cons ok103 ctx_nil) Try.func102 (by kernel_rfl) (by kernel_rfl) (by kernel_rfl) (by kernel_rfl) (by kernel_rfl)
theorem ok101 : FnOk Try.prog 101 sp101 := fnOk (nv := 2) (h := h101) tok mix (ctx_cons ok102 ctx_nil) Try.func101 (by kernel_rfl) (by kernel_rfl) (by kernel_rfl) (by kernel_rfl) (by kernel_rfl)
theorem ok97 : FnOk Try.prog 97 sp97 := fnOk (nv := 10) (h := h97) tok mix ctx_nil Try.func97 (by kernel_rfl) (by kernel_rfl) (by kernel_rfl) (by kernel_rfl) (by kernel_rfl)
theorem ok88 : FnOk Try.prog 88 sp88 := fnOk (nv := 8) (h := h88) tok mix (ctx_cons ok94 (ctx_cons ok95 (ctx_cons ok96 (ctx_cons ok97 ctx_nil)))) Try.func88 (by kernel_rfl) (by kernel_rfl) (by kernel_rfl) (by kernel_rfl) (by kernel_rfl)
theorem ok78 : FnOk Try.prog 78 sp78 := fnOk (nv := 4) (h := h78) tok mix (ctx_cons ok88 ctx_nil) Try.func78 (by kernel_rfl) (by kernel_rfl) (by kernel_rfl) (by kernel_rfl) (by kernel_rfl)
theorem ok89 : FnOk Try.prog 89 sp89 := fnOk (nv := 8) (h := h89) tok mix (ctx_cons ok46 ctx_nil) Try.func89 (by kernel_rfl) (by kernel_rfl) (by kernel_rfl) (by kernel_rfl) (by kernel_rfl)
theorem ok90 : FnOk Try.prog 90 sp90 := fnOk (nv := 4) (h := h90) tok mix ctx_nil Try.func90 (by kernel_rfl) (by kernel_rfl) (by kernel_rfl) (by kernel_rfl) (by kernel_rfl)
theorem ok98 : FnOk Try.prog 98 sp98 := fnOk (nv := 9) (h := h98) tok mix ctx_nil Try.func98 (by kernel_rfl) (by kernel_rfl) (by kernel_rfl) (by kernel_rfl) (by kernel_rfl)
theorem ok91 : FnOk Try.prog 91 sp91 := fnOk (nv := 8) (h := h91) tok mix (ctx_cons ok98 ctx_nil) Try.func91 (by kernel_rfl) (by kernel_rfl) (by kernel_rfl) (by kernel_rfl) (by kernel_rfl)
theorem ok92 : FnOk Try.prog 92 sp92 := fnOk (nv := 3) (h := h92) tok mix ctx_nil Try.func92 (by kernel_rfl) (by kernel_rfl) (by kernel_rfl) (by kernel_rfl) (by kernel_rfl)
theorem ok79 : FnOk Try.prog 79 sp79 := fnOk (nv := 7) (h := h79) tok mix (ctx_cons ok89 ctx_nil) Try.func79 (by kernel_rfl) (by kernel_rfl) (by kernel_rfl) (by kernel_rfl) (by kernel_rfl)
theorem ok49 : FnOk Try.prog 49 sp49 := fnOk (nv := 6) (h := h49) tok mix (ctx_cons ok78 (ctx_cons ok79 ctx_nil)) Try.func49 (by kernel_rfl) (by kernel_rfl) (by kernel_rfl) (by kernel_rfl) (by kernel_rfl)
set_option maxHeartbeats 4000000 in
set_option maxRecDepth 1000000 in
theorem dn50 : DelNone Try.prog 50 := by
  constructor
  · intro b n cap i w hn hj
    go_enter Try.func50, Try.ntmps50
    go_wp2
    all_goals (go_ret; exact ⟨rfl, rfl⟩)
  · intro p w
    cases p
    · go_enter Try.func50, Try.ntmps50
      go_wp2
      all_goals (go_ret; exact ⟨rfl, rfl⟩)
    · go_enter Try.func50, Try.ntmps50
      go_wp2
      all_goals (go_ret; exact ⟨rfl, rfl⟩)
set_option maxHeartbeats 4000000 in
set_option maxRecDepth 1000000 in
theorem dw50 : DelWalk Try.prog 50 48 83 9 := by
  intro b n cap i j w hn hm hlt hj i0 hi0 hz1 A hA news s1 hsrc s2 s3 W1 W2 hW hcl
  have hic : i ≤ cap := by omega
  have hjc : j ≤ cap := by omega
  have tS : Try.prog.underlying 48 = some (.slice 83) := by kernel_rfl
  have mixed : Try.prog.follows .mixedOrders = true := Checked.mixed Try.checked
  go_enter Try.func50, Try.ntmps50
  go_wp2_with fail
  go_region_law_o (refine step_append_room rfl (.tmp 22) (.tmp 25) 48 rfl 83 i0 9 tS hi0 hz1 b 0 i cap (by simp [Act.eval, Act.put]) A (n - j) (cap - j) news (by simp [Act.eval, Act.put]) s1.out hsrc.out s2.out (by omega) s3.out ?_; rw [← hW.out])
  go_wp2
  go_ret
  exact ⟨rfl, rfl⟩
theorem ok50 : FnOk Try.prog 50 sp50 := del_ok tok (te := row83) (by kernel_rfl) (by kernel_rfl) (sz := 9) (by kernel_rfl) (Nat.blt_eq.mp (by kernel_rfl)) (by kernel_rfl : Try.prog.underlying 48 = some (.slice 83)) ⟨Try.f50, by kernel_rfl, by kernel_rfl, by kernel_rfl⟩ dn50 dw50
theorem ok51 : FnOk Try.prog 51 sp51 := fnOk (nv := 9) (h := h51) tok mix ctx_nil Try.func51 (by kernel_rfl) (by kernel_rfl) (by kernel_rfl) (by kernel_rfl) (by kernel_rfl)
theorem ok52 : FnOk Try.prog 52 sp52 := fnOk (nv := 8) (h := h52) tok mix ctx_nil Try.func52 (by kernel_rfl) (by kernel_rfl) (by kernel_rfl) (by kernel_rfl) (by kernel_rfl)
theorem ok29 : FnOk Try.prog 29 sp29 := fnOk (nv := 17) (h := h29) tok mix (ctx_cons ok45 (ctx_cons ok46 (ctx_cons ok47 (ctx_cons ok48 (ctx_cons ok49 (ctx_cons ok50 (ctx_cons ok51 (ctx_cons ok52 ctx_nil)))))))) Try.func29 (by kernel_rfl) (by kernel_rfl) (by kernel_rfl) (by kernel_rfl) (by kernel_rfl)
theorem ok35 : FnOk Try.prog 35 sp35 := fnOk (nv := 9) (h := h35) tok mix ctx_nil Try.func35 (by kernel_rfl) (by kernel_rfl) (by kernel_rfl) (by kernel_rfl) (by kernel_rfl)
theorem ok30 : FnOk Try.prog 30 sp30 := fnOk (nv := 2) (h := h30) tok mix (ctx_cons ok35 ctx_nil) Try.func30 (by kernel_rfl) (by kernel_rfl) (by kernel_rfl) (by kernel_rfl) (by kernel_rfl)
theorem ok31 : FnOk Try.prog 31 sp31 := fnOk (nv := 3) (h := h31) tok mix ctx_nil Try.func31 (by kernel_rfl) (by kernel_rfl) (by kernel_rfl) (by kernel_rfl) (by kernel_rfl)
theorem ok53 : FnOk Try.prog 53 sp53 := fnOk (nv := 9) (h := h53) tok mix (ctx_cons ok28 ctx_nil) Try.func53 (by kernel_rfl) (by kernel_rfl) (by kernel_rfl) (by kernel_rfl) (by kernel_rfl)
theorem ok32 : FnOk Try.prog 32 sp32 := fnOk (nv := 12) (h := h32) tok mix (ctx_cons ok53 ctx_nil) Try.func32 (by kernel_rfl) (by kernel_rfl) (by kernel_rfl) (by kernel_rfl) (by kernel_rfl)
theorem ok19 : FnOk Try.prog 19 sp19 := fnOk (nv := 13) (h := h19) tok mix (ctx_cons ok12 (ctx_cons ok23 (ctx_cons ok29 (ctx_cons ok30 (ctx_cons ok31 (ctx_cons ok32 ctx_nil)))))) Try.func19 (by kernel_rfl) (by kernel_rfl) (by kernel_rfl) (by kernel_rfl) (by kernel_rfl)
theorem ok33 : FnOk Try.prog 33 sp33 := fnOk (nv := 10) (h := h33) tok mix ctx_nil Try.func33 (by kernel_rfl) (by kernel_rfl) (by kernel_rfl) (by kernel_rfl) (by kernel_rfl)
theorem ok54 : FnOk Try.prog 54 sp54 := fnOk (nv := 6) (h := h54) tok mix ctx_nil Try.func54 (by kernel_rfl) (by kernel_rfl) (by kernel_rfl) (by kernel_rfl) (by kernel_rfl)
theorem ok34 : FnOk Try.prog 34 sp34 := fnOk (nv := 6) (h := h34) tok mix (ctx_cons ok54 ctx_nil) Try.func34 (by kernel_rfl) (by kernel_rfl) (by kernel_rfl) (by kernel_rfl) (by kernel_rfl)
theorem ok20 : FnOk Try.prog 20 sp20 := fnOk (nv := 11) (h := h20) tok mix (ctx_cons ok33 (ctx_cons ok34 ctx_nil)) Try.func20 (by kernel_rfl) (by kernel_rfl) (by kernel_rfl) (by kernel_rfl) (by kernel_rfl)
theorem ok21 : FnOk Try.prog 21 sp21 := fnOk (nv := 8) (h := h21) tok mix (ctx_cons ok17 ctx_nil) Try.func21 (by kernel_rfl) (by kernel_rfl) (by kernel_rfl) (by kernel_rfl) (by kernel_rfl)
theorem ok6 : FnOk Try.prog 6 sp6 := fnOk (nv := 12) (h := h6) tok mix (ctx_cons ok9 (ctx_cons ok10 (ctx_cons ok11 (ctx_cons ok18 (ctx_cons ok19 (ctx_cons ok20 (ctx_cons ok21 ctx_nil))))))) Try.func6 (by kernel_rfl) (by kernel_rfl) (by kernel_rfl) (by kernel_rfl) (by kernel_rfl)
theorem ok7 : FnOk Try.prog 7 sp7 := fnOk (nv := 13) (h := h7) tok mix (ctx_cons ok9 (ctx_cons ok11 (ctx_cons ok18 (ctx_cons ok19 ctx_nil)))) Try.func7 (by kernel_rfl) (by kernel_rfl) (by kernel_rfl) (by kernel_rfl) (by kernel_rfl)
theorem ok36 : FnOk Try.prog 36 sp36 := fnOk (nv := 3) (h := h36) tok mix ctx_nil Try.func36 (by kernel_rfl) (by kernel_rfl) (by kernel_rfl) (by kernel_rfl) (by kernel_rfl)
set_option maxHeartbeats 4000000 in
set_option maxRecDepth 1000000 in
theorem dn37 : DelNone Try.prog 37 := by
  constructor
  · intro b n cap i w hn hj
    go_enter Try.func37, Try.ntmps37
    go_wp2
    all_goals (go_ret; exact ⟨rfl, rfl⟩)
  · intro p w
    cases p
    · go_enter Try.func37, Try.ntmps37
      go_wp2
      all_goals (go_ret; exact ⟨rfl, rfl⟩)
    · go_enter Try.func37, Try.ntmps37
      go_wp2
      all_goals (go_ret; exact ⟨rfl, rfl⟩)
set_option maxHeartbeats 4000000 in
set_option maxRecDepth 1000000 in
theorem dw37 : DelWalk Try.prog 37 22 26 6 := by
  intro b n cap i j w hn hm hlt hj i0 hi0 hz1 A hA news s1 hsrc s2 s3 W1 W2 hW hcl
  have hic : i ≤ cap := by omega
  have hjc : j ≤ cap := by omega
  have tS : Try.prog.underlying 22 = some (.slice 26) := by kernel_rfl
  have mixed : Try.prog.follows .mixedOrders = true := Checked.mixed Try.checked
  go_enter Try.func37, Try.ntmps37
  go_wp2_with fail
  go_region_law_o (refine step_append_room rfl (.tmp 22) (.tmp 25) 22 rfl 26 i0 6 tS hi0 hz1 b 0 i cap (by simp [Act.eval, Act.put]) A (n - j) (cap - j) news (by simp [Act.eval, Act.put]) s1.out hsrc.out s2.out (by omega) s3.out ?_; rw [← hW.out])
  go_wp2
  go_ret
  exact ⟨rfl, rfl⟩
theorem ok37 : FnOk Try.prog 37 sp37 := del_ok tok (te := row26) (by kernel_rfl) (by kernel_rfl) (sz := 6) (by kernel_rfl) (Nat.blt_eq.mp (by kernel_rfl)) (by kernel_rfl : Try.prog.underlying 22 = some (.slice 26)) ⟨Try.f37, by kernel_rfl, by kernel_rfl, by kernel_rfl⟩ dn37 dw37
theorem ok22 : FnOk Try.prog 22 sp22 := fnOk (nv := 7) (h := h22) tok mix (ctx_cons ok29 (ctx_cons ok35 (ctx_cons ok36 (ctx_cons ok37 ctx_nil)))) Try.func22 (by kernel_rfl) (by kernel_rfl) (by kernel_rfl) (by kernel_rfl) (by kernel_rfl)
theorem ok8 : FnOk Try.prog 8 sp8 := fnOk (nv := 23) (h := h8) tok mix (ctx_cons ok9 (ctx_cons ok11 (ctx_cons ok18 (ctx_cons ok19 (ctx_cons ok20 (ctx_cons ok22 ctx_nil)))))) Try.func8 (by kernel_rfl) (by kernel_rfl) (by kernel_rfl) (by kernel_rfl) (by kernel_rfl)
end Go.Fx.D
