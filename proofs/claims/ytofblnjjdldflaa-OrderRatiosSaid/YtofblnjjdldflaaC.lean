/-
  Each of these functions does what its function over plain data says, where that gives an answer (printed by a program). Conditions: none.
-/
import Derived.Test.YtofblnjjdldflaaFxC
import Derived.Ground.SlsfProg
import Derived.Shelf.Lay
import Derived.Test.YtofblnjjdldflaaD
import Derived.Test.YtofblnjjdldflaaFxB
import Derived.Test.YtofblnjjdldflaaChecked
import Derived.WalkKit
namespace Go.Fx.D
open Go Go.Fx Go.Proofs Go.Shelf Go.RowKit Go.Lib Go.Sort
set_option linter.unusedVariables false
set_option maxRecDepth 100000

theorem rowOk3 : RowOk Try.prog 3 row3 := ⟨by kernel_rfl, ⟨Try.t3, (Try.t3.zero).getD .nilFunc, by kernel_rfl, by kernel_rfl, by kernel_rfl⟩, by kernel_rfl, by kernel_rfl⟩
theorem rowOk4 : RowOk Try.prog 4 row4 := ⟨by kernel_rfl, ⟨Try.t4, (Try.t4.zero).getD .nilFunc, by kernel_rfl, by kernel_rfl, by kernel_rfl⟩, by kernel_rfl, by kernel_rfl⟩
theorem rowOk5 : RowOk Try.prog 5 row5 := ⟨by kernel_rfl, ⟨Try.t5, (Try.t5.zero).getD .nilFunc, by kernel_rfl, by kernel_rfl, by kernel_rfl⟩, by kernel_rfl, by kernel_rfl⟩
theorem rowOk9 : RowOk Try.prog 9 row9 := ⟨by kernel_rfl, ⟨Try.t9, (Try.t9.zero).getD .nilFunc, by kernel_rfl, by kernel_rfl, by kernel_rfl⟩, by kernel_rfl, by kernel_rfl⟩
theorem rowOk22 : RowOk Try.prog 22 row22 := ⟨by kernel_rfl, ⟨Try.t22, (Try.t22.zero).getD .nilFunc, by kernel_rfl, by kernel_rfl, by kernel_rfl⟩, by kernel_rfl, by kernel_rfl⟩
theorem rowOk24 : RowOk Try.prog 24 row24 := ⟨by kernel_rfl, ⟨Try.t24, (Try.t24.zero).getD .nilFunc, by kernel_rfl, by kernel_rfl, by kernel_rfl⟩, by kernel_rfl, by kernel_rfl⟩
theorem rowOk25 : RowOk Try.prog 25 row25 := ⟨by kernel_rfl, ⟨Try.t25, (Try.t25.zero).getD .nilFunc, by kernel_rfl, by kernel_rfl, by kernel_rfl⟩, by kernel_rfl, by kernel_rfl⟩
theorem rowOk27 : RowOk Try.prog 27 row27 := ⟨by kernel_rfl, ⟨Try.t27, (Try.t27.zero).getD .nilFunc, by kernel_rfl, by kernel_rfl, by kernel_rfl⟩, by kernel_rfl, by kernel_rfl⟩
theorem rowOk28 : RowOk Try.prog 28 row28 := ⟨by kernel_rfl, ⟨Try.t28, (Try.t28.zero).getD .nilFunc, by kernel_rfl, by kernel_rfl, by kernel_rfl⟩, by kernel_rfl, by kernel_rfl⟩
theorem rowOk29 : RowOk Try.prog 29 row29 := ⟨by kernel_rfl, ⟨Try.t29, (Try.t29.zero).getD .nilFunc, by kernel_rfl, by kernel_rfl, by kernel_rfl⟩, by kernel_rfl, by kernel_rfl⟩
theorem rowOk30 : RowOk Try.prog 30 row30 := ⟨by kernel_rfl, ⟨Try.t30, (Try.t30.zero).getD .nilFunc, by kernel_rfl, by kernel_rfl, by kernel_rfl⟩, by kernel_rfl, by kernel_rfl⟩
theorem rowOk31 : RowOk Try.prog 31 row31 := ⟨by kernel_rfl, ⟨Try.t31, (Try.t31.zero).getD .nilFunc, by kernel_rfl, by kernel_rfl, by kernel_rfl⟩, by kernel_rfl, by kernel_rfl⟩
theorem rowOk32 : RowOk Try.prog 32 row32 := ⟨by kernel_rfl, ⟨Try.t32, (Try.t32.zero).getD .nilFunc, by kernel_rfl, by kernel_rfl, by kernel_rfl⟩, by kernel_rfl, by kernel_rfl⟩
theorem rowOk34 : RowOk Try.prog 34 row34 := ⟨by kernel_rfl, ⟨Try.t34, (Try.t34.zero).getD .nilFunc, by kernel_rfl, by kernel_rfl, by kernel_rfl⟩, by kernel_rfl, by kernel_rfl⟩
theorem rowOk37 : RowOk Try.prog 37 row37 := ⟨by kernel_rfl, ⟨Try.t37, (Try.t37.zero).getD .nilFunc, by kernel_rfl, by kernel_rfl, by kernel_rfl⟩, by kernel_rfl, by kernel_rfl⟩
theorem rowOk39 : RowOk Try.prog 39 row39 := ⟨by kernel_rfl, ⟨Try.t39, (Try.t39.zero).getD .nilFunc, by kernel_rfl, by kernel_rfl, by kernel_rfl⟩, by kernel_rfl, by kernel_rfl⟩
theorem rowOk40 : RowOk Try.prog 40 row40 := ⟨by kernel_rfl, ⟨Try.t40, (Try.t40.zero).getD .nilFunc, by kernel_rfl, by kernel_rfl, by kernel_rfl⟩, by kernel_rfl, by kernel_rfl⟩
theorem rowOk42 : RowOk Try.prog 42 row42 := ⟨by kernel_rfl, ⟨Try.t42, (Try.t42.zero).getD .nilFunc, by kernel_rfl, by kernel_rfl, by kernel_rfl⟩, by kernel_rfl, by kernel_rfl⟩
theorem rowOk44 : RowOk Try.prog 44 row44 := ⟨by kernel_rfl, ⟨Try.t44, (Try.t44.zero).getD .nilFunc, by kernel_rfl, by kernel_rfl, by kernel_rfl⟩, by kernel_rfl, by kernel_rfl⟩
theorem rowOk45 : RowOk Try.prog 45 row45 := ⟨by kernel_rfl, ⟨Try.t45, (Try.t45.zero).getD .nilFunc, by kernel_rfl, by kernel_rfl, by kernel_rfl⟩, by kernel_rfl, by kernel_rfl⟩
theorem rowOk47 : RowOk Try.prog 47 row47 := ⟨by kernel_rfl, ⟨Try.t47, (Try.t47.zero).getD .nilFunc, by kernel_rfl, by kernel_rfl, by kernel_rfl⟩, by kernel_rfl, by kernel_rfl⟩
theorem rowOk48 : RowOk Try.prog 48 row48 := ⟨by kernel_rfl, ⟨Try.t48, (Try.t48.zero).getD .nilFunc, by kernel_rfl, by kernel_rfl, by kernel_rfl⟩, by kernel_rfl, by kernel_rfl⟩
theorem rowOk50 : RowOk Try.prog 50 row50 := ⟨by kernel_rfl, ⟨Try.t50, (Try.t50.zero).getD .nilFunc, by kernel_rfl, by kernel_rfl, by kernel_rfl⟩, by kernel_rfl, by kernel_rfl⟩
theorem rowOk52 : RowOk Try.prog 52 row52 := ⟨by kernel_rfl, ⟨Try.t52, (Try.t52.zero).getD .nilFunc, by kernel_rfl, by kernel_rfl, by kernel_rfl⟩, by kernel_rfl, by kernel_rfl⟩
theorem rowOk57 : RowOk Try.prog 57 row57 := ⟨by kernel_rfl, ⟨Try.t57, (Try.t57.zero).getD .nilFunc, by kernel_rfl, by kernel_rfl, by kernel_rfl⟩, by kernel_rfl, by kernel_rfl⟩
theorem rowOk61 : RowOk Try.prog 61 row61 := ⟨by kernel_rfl, ⟨Try.t61, (Try.t61.zero).getD .nilFunc, by kernel_rfl, by kernel_rfl, by kernel_rfl⟩, by kernel_rfl, by kernel_rfl⟩
theorem rowOk75 : RowOk Try.prog 75 row75 := ⟨by kernel_rfl, ⟨Try.t75, (Try.t75.zero).getD .nilFunc, by kernel_rfl, by kernel_rfl, by kernel_rfl⟩, by kernel_rfl, by kernel_rfl⟩
theorem rowOk80 : RowOk Try.prog 80 row80 := ⟨by kernel_rfl, ⟨Try.t80, (Try.t80.zero).getD .nilFunc, by kernel_rfl, by kernel_rfl, by kernel_rfl⟩, by kernel_rfl, by kernel_rfl⟩
theorem rowOk85 : RowOk Try.prog 85 row85 := ⟨by kernel_rfl, ⟨Try.t85, (Try.t85.zero).getD .nilFunc, by kernel_rfl, by kernel_rfl, by kernel_rfl⟩, by kernel_rfl, by kernel_rfl⟩
theorem rowOk88 : RowOk Try.prog 88 row88 := ⟨by kernel_rfl, ⟨Try.t88, (Try.t88.zero).getD .nilFunc, by kernel_rfl, by kernel_rfl, by kernel_rfl⟩, by kernel_rfl, by kernel_rfl⟩
theorem rowOk96 : RowOk Try.prog 96 row96 := ⟨by kernel_rfl, ⟨Try.t96, (Try.t96.zero).getD .nilFunc, by kernel_rfl, by kernel_rfl, by kernel_rfl⟩, by kernel_rfl, by kernel_rfl⟩
theorem rowOk98 : RowOk Try.prog 98 row98 := ⟨by kernel_rfl, ⟨Try.t98, (Try.t98.zero).getD .nilFunc, by kernel_rfl, by kernel_rfl, by kernel_rfl⟩, by kernel_rfl, by kernel_rfl⟩
theorem rowOk103 : RowOk Try.prog 103 row103 := ⟨by kernel_rfl, ⟨Try.t103, (Try.t103.zero).getD .nilFunc, by kernel_rfl, by kernel_rfl, by kernel_rfl⟩, by kernel_rfl, by kernel_rfl⟩
theorem rowOk117 : RowOk Try.prog 117 row117 := ⟨by kernel_rfl, ⟨Try.t117, (Try.t117.zero).getD .nilFunc, by kernel_rfl, by kernel_rfl, by kernel_rfl⟩, by kernel_rfl, by kernel_rfl⟩
theorem rowOk119 : RowOk Try.prog 119 row119 := ⟨by kernel_rfl, ⟨Try.t119, (Try.t119.zero).getD .nilFunc, by kernel_rfl, by kernel_rfl, by kernel_rfl⟩, by kernel_rfl, by kernel_rfl⟩
theorem rowOk120 : RowOk Try.prog 120 row120 := ⟨by kernel_rfl, ⟨Try.t120, (Try.t120.zero).getD .nilFunc, by kernel_rfl, by kernel_rfl, by kernel_rfl⟩, by kernel_rfl, by kernel_rfl⟩
theorem rowOk122 : RowOk Try.prog 122 row122 := ⟨by kernel_rfl, ⟨Try.t122, (Try.t122.zero).getD .nilFunc, by kernel_rfl, by kernel_rfl, by kernel_rfl⟩, by kernel_rfl, by kernel_rfl⟩
theorem rowOk134 : RowOk Try.prog 134 row134 := ⟨by kernel_rfl, ⟨Try.t134, (Try.t134.zero).getD .nilFunc, by kernel_rfl, by kernel_rfl, by kernel_rfl⟩, by kernel_rfl, by kernel_rfl⟩
theorem tok : TblOk Try.prog (look tbl) := tblOk (all_cons rowOk3 (all_cons rowOk4 (all_cons rowOk5 (all_cons rowOk9 (all_cons rowOk22 (all_cons rowOk24 (all_cons rowOk25 (all_cons rowOk27 (all_cons rowOk28 (all_cons rowOk29 (all_cons rowOk30 (all_cons rowOk31 (all_cons rowOk32 (all_cons rowOk34 (all_cons rowOk37 (all_cons rowOk39 (all_cons rowOk40 (all_cons rowOk42 (all_cons rowOk44 (all_cons rowOk45 (all_cons rowOk47 (all_cons rowOk48 (all_cons rowOk50 (all_cons rowOk52 (all_cons rowOk57 (all_cons rowOk61 (all_cons rowOk75 (all_cons rowOk80 (all_cons rowOk85 (all_cons rowOk88 (all_cons rowOk96 (all_cons rowOk98 (all_cons rowOk103 (all_cons rowOk117 (all_cons rowOk119 (all_cons rowOk120 (all_cons rowOk122 (all_cons rowOk134 all_nil))))))))))))))))))))))))))))))))))))))
theorem mix : Try.prog.follows .mixedOrders = true := Checked.mixed Try.checked

theorem ok5 : FnOk Try.prog 5 sp5 := fnOk (nv := 1) (h := h5) tok mix ctx_nil Try.func5 (by kernel_rfl) (by kernel_rfl) (by kernel_rfl) (by kernel_rfl) (by kernel_rfl)
theorem ok67 : FnOk Try.prog 67 sp67 := fnOk (nv := 6) (h := h67) tok mix ctx_nil Try.func67 (by kernel_rfl) (by kernel_rfl) (by kernel_rfl) (by kernel_rfl) (by kernel_rfl)
theorem ok85 : FnOk Try.prog 85 sp85 := fnOk (nv := 9) (h := h85) tok mix ctx_nil Try.func85 (by kernel_rfl) (by kernel_rfl) (by kernel_rfl) (by kernel_rfl) (by kernel_rfl)
theorem ok68 : FnOk Try.prog 68 sp68 := fnOk (nv := 12) (h := h68) tok mix (ctx_cons ok85 ctx_nil) Try.func68 (by kernel_rfl) (by kernel_rfl) (by kernel_rfl) (by kernel_rfl) (by kernel_rfl)
theorem ok41 : FnOk Try.prog 41 sp41 := fnOk (nv := 6) (h := h41) tok mix (ctx_cons ok67 (ctx_cons ok68 ctx_nil)) Try.func41 (by kernel_rfl) (by kernel_rfl) (by kernel_rfl) (by kernel_rfl) (by kernel_rfl)
theorem ok25 : FnOk Try.prog 25 sp25 := fnOk (nv := 5) (h := h25) tok mix (ctx_cons ok41 ctx_nil) Try.func25 (by kernel_rfl) (by kernel_rfl) (by kernel_rfl) (by kernel_rfl) (by kernel_rfl)
theorem ok10 : FnOk Try.prog 10 sp10 := fnOk (nv := 14) (h := h10) tok mix (ctx_cons ok25 ctx_nil) Try.func10 (by kernel_rfl) (by kernel_rfl) (by kernel_rfl) (by kernel_rfl) (by kernel_rfl)
theorem ok42 : FnOk Try.prog 42 sp42 := fnOk (nv := 13) (h := h42) tok mix ctx_nil Try.func42 (by kernel_rfl) (by kernel_rfl) (by kernel_rfl) (by kernel_rfl) (by kernel_rfl)
theorem ok86 : FnOk Try.prog 86 sp86 := fnOk (nv := 2) (h := h86) tok mix ctx_nil Try.func86 (by kernel_rfl) (by kernel_rfl) (by kernel_rfl) (by kernel_rfl) (by kernel_rfl)
theorem ok69 : FnOk Try.prog 69 sp69 := fnOk (nv := 2) (h := h69) tok mix (ctx_cons ok86 ctx_nil) Try.func69 (by kernel_rfl) (by kernel_rfl) (by kernel_rfl) (by kernel_rfl) (by kernel_rfl)
theorem ok43 : FnOk Try.prog 43 sp43 := fnOk (nv := 4) (h := h43) tok mix (ctx_cons ok69 ctx_nil) Try.func43 (by kernel_rfl) (by kernel_rfl) (by kernel_rfl) (by kernel_rfl) (by kernel_rfl)
theorem ok59 : FnOk Try.prog 59 sp59 := fnOk (nv := 2) (h := h59) tok mix ctx_nil Try.func59 (by kernel_rfl) (by kernel_rfl) (by kernel_rfl) (by kernel_rfl) (by kernel_rfl)
theorem ok70 : FnOk Try.prog 70 sp70 := fnOk (nv := 3) (h := h70) tok mix (ctx_cons ok59 ctx_nil) Try.func70 (by kernel_rfl) (by kernel_rfl) (by kernel_rfl) (by kernel_rfl) (by kernel_rfl)
theorem ok44 : FnOk Try.prog 44 sp44 := fnOk (nv := 5) (h := h44) tok mix (ctx_cons ok59 (ctx_cons ok70 ctx_nil)) Try.func44 (by kernel_rfl) (by kernel_rfl) (by kernel_rfl) (by kernel_rfl) (by kernel_rfl)
theorem ok26 : FnOk Try.prog 26 sp26 := fnOk (nv := 16) (h := h26) tok mix (ctx_cons ok42 (ctx_cons ok43 (ctx_cons ok44 ctx_nil))) Try.func26 (by kernel_rfl) (by kernel_rfl) (by kernel_rfl) (by kernel_rfl) (by kernel_rfl)
theorem ok11 : FnOk Try.prog 11 sp11 := fnOk (nv := 7) (h := h11) tok mix (ctx_cons ok26 ctx_nil) Try.func11 (by kernel_rfl) (by kernel_rfl) (by kernel_rfl) (by kernel_rfl) (by kernel_rfl)
theorem ok45 : FnOk Try.prog 45 sp45 := fnOk (nv := 4) (h := h45) tok mix (ctx_cons ok25 ctx_nil) Try.func45 (by kernel_rfl) (by kernel_rfl) (by kernel_rfl) (by kernel_rfl) (by kernel_rfl)
theorem ok71 : FnOk Try.prog 71 sp71 := fnOk (nv := 9) (h := h71) tok mix ctx_nil Try.func71 (by kernel_rfl) (by kernel_rfl) (by kernel_rfl) (by kernel_rfl) (by kernel_rfl)
theorem ok72 : FnOk Try.prog 72 sp72 := fnOk (nv := 3) (h := h72) tok mix ctx_nil Try.func72 (by kernel_rfl) (by kernel_rfl) (by kernel_rfl) (by kernel_rfl) (by kernel_rfl)
theorem ok73_ne : FnOk Try.prog 73 sp73_ne := fnOk (nv := 1) (h := h73) tok mix ctx_nil Try.func73 (by kernel_rfl) (by kernel_rfl) (by kernel_rfl) (by kernel_rfl) (by kernel_rfl)
set_option maxHeartbeats 2000000 in
theorem walk73 (p : Option Addr) (cap : Nat) (w : World) : Calls Try.prog 73 #[.slice p 0 cap] w fun e w' => ∃ p', e = .returned (.slice p' 0 0) ∧ RowKit.Below w.heap.size w w' ∧ w.drawn ≤ w'.drawn := by
  have q := q_nil (P := Try.prog) (t := 45) rowOk45.und
  cases p with
  | none =>
    go_enter Try.func73, Try.ntmps73
    go_wp2
    go_ret
    exact ⟨_, rfl, .refl _ _, Nat.le_refl _⟩
  | some p =>
    go_enter Try.func73, Try.ntmps73
    go_wp2
    go_ret
    exact ⟨_, rfl, (RowKit.Below.refl _ w).alloc (Nat.le_refl _) _, Nat.le_refl _⟩
theorem ok73 : FnOk Try.prog 73 sp73 := clone_ok ok73_ne walk73
theorem ok46 : FnOk Try.prog 46 sp46 := fnOk (nv := 8) (h := h46) tok mix (ctx_cons ok71 (ctx_cons ok72 (ctx_cons ok73 ctx_nil))) Try.func46 (by kernel_rfl) (by kernel_rfl) (by kernel_rfl) (by kernel_rfl) (by kernel_rfl)
theorem ok74 : FnOk Try.prog 74 sp74 := fnOk (nv := 9) (h := h74) tok mix (ctx_cons ok44 ctx_nil) Try.func74 (by kernel_rfl) (by kernel_rfl) (by kernel_rfl) (by kernel_rfl) (by kernel_rfl)
theorem ok47 : FnOk Try.prog 47 sp47 := fnOk (nv := 12) (h := h47) tok mix (ctx_cons ok74 ctx_nil) Try.func47 (by kernel_rfl) (by kernel_rfl) (by kernel_rfl) (by kernel_rfl) (by kernel_rfl)
theorem ok84 : FnOk Try.prog 84 sp84 := fnOk (nv := 14) (h := h84) tok mix ctx_nil Try.func84 (by kernel_rfl) (by kernel_rfl) (by kernel_rfl) (by kernel_rfl) (by kernel_rfl)
theorem ok58 : FnOk Try.prog 58 sp58 := fnOk (nv := 3) (h := h58) tok mix ctx_nil Try.func58 (by kernel_rfl) (by kernel_rfl) (by kernel_rfl) (by kernel_rfl) (by kernel_rfl)
theorem ok89 : FnOk Try.prog 89 sp89 := fnOk (nv := 1) (h := h89) tok mix (ctx_cons ok58 ctx_nil) Try.func89 (by kernel_rfl) (by kernel_rfl) (by kernel_rfl) (by kernel_rfl) (by kernel_rfl)
theorem ok87 : FnOk Try.prog 87 sp87 := fnOk (nv := 19) (h := h87) tok mix (ctx_cons ok89 ctx_nil) Try.func87 (by kernel_rfl) (by kernel_rfl) (by kernel_rfl) (by kernel_rfl) (by kernel_rfl)
theorem ok75 : FnOk Try.prog 75 sp75 := fnOk (nv := 8) (h := h75) tok mix (ctx_cons ok84 (ctx_cons ok87 ctx_nil)) Try.func75 (by kernel_rfl) (by kernel_rfl) (by kernel_rfl) (by kernel_rfl) (by kernel_rfl)
theorem ok48 : FnOk Try.prog 48 sp48 := fnOk (nv := 5) (h := h48) tok mix (ctx_cons ok59 (ctx_cons ok70 (ctx_cons ok75 ctx_nil))) Try.func48 (by kernel_rfl) (by kernel_rfl) (by kernel_rfl) (by kernel_rfl) (by kernel_rfl)
theorem ok27 : FnOk Try.prog 27 sp27 := fnOk (nv := 15) (h := h27) tok mix (ctx_cons ok45 (ctx_cons ok46 (ctx_cons ok47 (ctx_cons ok48 ctx_nil)))) Try.func27 (by kernel_rfl) (by kernel_rfl) (by kernel_rfl) (by kernel_rfl) (by kernel_rfl)
theorem ok28 : FnOk Try.prog 28 sp28 := fnOk (nv := 2) (h := h28) tok mix ctx_nil Try.func28 (by kernel_rfl) (by kernel_rfl) (by kernel_rfl) (by kernel_rfl) (by kernel_rfl)
theorem ok12 : FnOk Try.prog 12 sp12 := fnOk (nv := 7) (h := h12) tok mix (ctx_cons ok27 (ctx_cons ok28 ctx_nil)) Try.func12 (by kernel_rfl) (by kernel_rfl) (by kernel_rfl) (by kernel_rfl) (by kernel_rfl)
shelf_lay_g Go.Proofs.SlLaysF0.n6 Slsf 6 at Try 13 as lay13
theorem ok13 : FnOk Try.prog 13 sp13 := sortG_ok (ρ := lay13_ren) (n := 12) lay13 (by intro w; kernel_rfl) (by intro w; kernel_rfl) (by kernel_rfl) (Nat.blt_eq.mp (by kernel_rfl)) ⟨Try.f13, by kernel_rfl, by kernel_rfl, by kernel_rfl⟩
theorem ok31 : FnOk Try.prog 31 sp31 := fnOk (nv := 9) (h := h31) tok mix ctx_nil Try.func31 (by kernel_rfl) (by kernel_rfl) (by kernel_rfl) (by kernel_rfl) (by kernel_rfl)
theorem ok61 : FnOk Try.prog 61 sp61 := fnOk (nv := 9) (h := h61) tok mix (ctx_cons ok84 ctx_nil) Try.func61 (by kernel_rfl) (by kernel_rfl) (by kernel_rfl) (by kernel_rfl) (by kernel_rfl)
theorem ok81 : FnOk Try.prog 81 sp81 := fnOk (nv := 9) (h := h81) tok mix ctx_nil Try.func81 (by kernel_rfl) (by kernel_rfl) (by kernel_rfl) (by kernel_rfl) (by kernel_rfl)
theorem ok82 : FnOk Try.prog 82 sp82 := fnOk (nv := 2) (h := h82) tok mix ctx_nil Try.func82 (by kernel_rfl) (by kernel_rfl) (by kernel_rfl) (by kernel_rfl) (by kernel_rfl)
theorem ok83 : FnOk Try.prog 83 sp83 := fnOk (nv := 2) (h := h83) tok mix ctx_nil Try.func83 (by kernel_rfl) (by kernel_rfl) (by kernel_rfl) (by kernel_rfl) (by kernel_rfl)
theorem ok60 : FnOk Try.prog 60 sp60 := fnOk (nv := 7) (h := h60) tok mix (ctx_cons ok61 (ctx_cons ok81 (ctx_cons ok82 (ctx_cons ok83 ctx_nil)))) Try.func60 (by kernel_rfl) (by kernel_rfl) (by kernel_rfl) (by kernel_rfl) (by kernel_rfl)
theorem ok32 : FnOk Try.prog 32 sp32 := fnOk (nv := 8) (h := h32) tok mix (ctx_cons ok59 (ctx_cons ok60 (ctx_cons ok61 ctx_nil))) Try.func32 (by kernel_rfl) (by kernel_rfl) (by kernel_rfl) (by kernel_rfl) (by kernel_rfl)
theorem ok62 : FnOk Try.prog 62 sp62 := fnOk (nv := 1) (h := h62) tok mix ctx_nil Try.func62 (by kernel_rfl) (by kernel_rfl) (by kernel_rfl) (by kernel_rfl) (by kernel_rfl)
theorem ok33 : FnOk Try.prog 33 sp33 := fnOk (nv := 7) (h := h33) tok mix (ctx_cons ok62 ctx_nil) Try.func33 (by kernel_rfl) (by kernel_rfl) (by kernel_rfl) (by kernel_rfl) (by kernel_rfl)
theorem ok14 : FnOk Try.prog 14 sp14 := fnOk (nv := 4) (h := h14) tok mix (ctx_cons ok31 (ctx_cons ok32 (ctx_cons ok33 ctx_nil))) Try.func14 (by kernel_rfl) (by kernel_rfl) (by kernel_rfl) (by kernel_rfl) (by kernel_rfl)
theorem ok7 : FnOk Try.prog 7 sp7 := fnOk (nv := 44) (h := h7) tok mix (ctx_cons ok10 (ctx_cons ok11 (ctx_cons ok12 (ctx_cons ok13 (ctx_cons ok14 ctx_nil))))) Try.func7 (by kernel_rfl) (by kernel_rfl) (by kernel_rfl) (by kernel_rfl) (by kernel_rfl)
theorem ok24_r : ∀ n, FnOk Try.prog 24 (sp24_r n)
  | 0 => ⟨⟨Try.f24, by kernel_rfl, by kernel_rfl, by kernel_rfl⟩, fun a r hr => nomatch (show (none : Option _) = some r from hr)⟩
  | n + 1 => fnOk (nv := 29) (h := h24) tok mix (ctx_cons (ok24_r n) (ctx_cons ok7 ctx_nil)) Try.func24 (by kernel_rfl) (by kernel_rfl) (by kernel_rfl) (by kernel_rfl) (by kernel_rfl)
theorem ok24 : FnOk Try.prog 24 sp24 := ok24_r 64
theorem ok9 : FnOk Try.prog 9 sp9 := fnOk (nv := 3) (h := h9) tok mix (ctx_cons ok24 ctx_nil) Try.func9 (by kernel_rfl) (by kernel_rfl) (by kernel_rfl) (by kernel_rfl) (by kernel_rfl)
theorem ok4 : FnOk Try.prog 4 sp4 := fnOk (nv := 0) (h := h4) tok mix (ctx_cons ok5 (ctx_cons ok7 (ctx_cons ok9 ctx_nil))) Try.func4 (by kernel_rfl) (by kernel_rfl) (by kernel_rfl) (by kernel_rfl) (by kernel_rfl)
theorem ok6 : FnOk Try.prog 6 sp6 := fnOk (nv := 6) (h := h6) tok mix ctx_nil Try.func6 (by kernel_rfl) (by kernel_rfl) (by kernel_rfl) (by kernel_rfl) (by kernel_rfl)
theorem ok63 : FnOk Try.prog 63 sp63 := fnOk (nv := 4) (h := h63) tok mix ctx_nil Try.func63 (by kernel_rfl) (by kernel_rfl) (by kernel_rfl) (by kernel_rfl) (by kernel_rfl)
theorem ok34 : FnOk Try.prog 34 sp34 := fnOk (nv := 6) (h := h34) tok mix (ctx_cons ok63 ctx_nil) Try.func34 (by kernel_rfl) (by kernel_rfl) (by kernel_rfl) (by kernel_rfl) (by kernel_rfl)
theorem ok39 : FnOk Try.prog 39 sp39 := fnOk (nv := 8) (h := h39) tok mix ctx_nil Try.func39 (by kernel_rfl) (by kernel_rfl) (by kernel_rfl) (by kernel_rfl) (by kernel_rfl)
theorem ok64 : FnOk Try.prog 64 sp64 := fnOk (nv := 6) (h := h64) tok mix (ctx_cons ok63 ctx_nil) Try.func64 (by kernel_rfl) (by kernel_rfl) (by kernel_rfl) (by kernel_rfl) (by kernel_rfl)
theorem ok65 : FnOk Try.prog 65 sp65 := fnOk (nv := 4) (h := h65) tok mix ctx_nil Try.func65 (by kernel_rfl) (by kernel_rfl) (by kernel_rfl) (by kernel_rfl) (by kernel_rfl)
theorem ok35 : FnOk Try.prog 35 sp35 := fnOk (nv := 10) (h := h35) tok mix (ctx_cons ok39 (ctx_cons ok64 (ctx_cons ok65 ctx_nil))) Try.func35 (by kernel_rfl) (by kernel_rfl) (by kernel_rfl) (by kernel_rfl) (by kernel_rfl)
theorem ok40 : FnOk Try.prog 40 sp40 := fnOk (nv := 7) (h := h40) tok mix (ctx_cons ok65 ctx_nil) Try.func40 (by kernel_rfl) (by kernel_rfl) (by kernel_rfl) (by kernel_rfl) (by kernel_rfl)
theorem ok36 : FnOk Try.prog 36 sp36 := fnOk (nv := 9) (h := h36) tok mix (ctx_cons ok39 (ctx_cons ok40 ctx_nil)) Try.func36 (by kernel_rfl) (by kernel_rfl) (by kernel_rfl) (by kernel_rfl) (by kernel_rfl)
theorem ok15 : FnOk Try.prog 15 sp15 := fnOk (nv := 5) (h := h15) tok mix (ctx_cons ok34 (ctx_cons ok35 (ctx_cons ok36 ctx_nil))) Try.func15 (by kernel_rfl) (by kernel_rfl) (by kernel_rfl) (by kernel_rfl) (by kernel_rfl)
theorem ok37 : FnOk Try.prog 37 sp37 := fnOk (nv := 2) (h := h37) tok mix ctx_nil Try.func37 (by kernel_rfl) (by kernel_rfl) (by kernel_rfl) (by kernel_rfl) (by kernel_rfl)
theorem ok16 : FnOk Try.prog 16 sp16 := fnOk (nv := 9) (h := h16) tok mix (ctx_cons ok37 ctx_nil) Try.func16 (by kernel_rfl) (by kernel_rfl) (by kernel_rfl) (by kernel_rfl) (by kernel_rfl)
theorem ok17 : FnOk Try.prog 17 sp17 := fnOk (nv := 9) (h := h17) tok mix ctx_nil Try.func17 (by kernel_rfl) (by kernel_rfl) (by kernel_rfl) (by kernel_rfl) (by kernel_rfl)
theorem ok66 : FnOk Try.prog 66 sp66 := fnOk (nv := 5) (h := h66) tok mix ctx_nil Try.func66 (by kernel_rfl) (by kernel_rfl) (by kernel_rfl) (by kernel_rfl) (by kernel_rfl)
theorem ok38 : FnOk Try.prog 38 sp38 := fnOk (nv := 7) (h := h38) tok mix (ctx_cons ok66 ctx_nil) Try.func38 (by kernel_rfl) (by kernel_rfl) (by kernel_rfl) (by kernel_rfl) (by kernel_rfl)
theorem ok18 : FnOk Try.prog 18 sp18 := fnOk (nv := 5) (h := h18) tok mix (ctx_cons ok38 ctx_nil) Try.func18 (by kernel_rfl) (by kernel_rfl) (by kernel_rfl) (by kernel_rfl) (by kernel_rfl)
theorem ok19 : FnOk Try.prog 19 sp19 := fnOk (nv := 7) (h := h19) tok mix ctx_nil Try.func19 (by kernel_rfl) (by kernel_rfl) (by kernel_rfl) (by kernel_rfl) (by kernel_rfl)
theorem ok20 : FnOk Try.prog 20 sp20 := fnOk (nv := 7) (h := h20) tok mix ctx_nil Try.func20 (by kernel_rfl) (by kernel_rfl) (by kernel_rfl) (by kernel_rfl) (by kernel_rfl)
theorem ok21 : FnOk Try.prog 21 sp21 := fnOk (nv := 2) (h := h21) tok mix ctx_nil Try.func21 (by kernel_rfl) (by kernel_rfl) (by kernel_rfl) (by kernel_rfl) (by kernel_rfl)
theorem ok22 : FnOk Try.prog 22 sp22 := fnOk (nv := 9) (h := h22) tok mix ctx_nil Try.func22 (by kernel_rfl) (by kernel_rfl) (by kernel_rfl) (by kernel_rfl) (by kernel_rfl)
theorem ok23 : FnOk Try.prog 23 sp23 := fnOk (nv := 3) (h := h23) tok mix (ctx_cons ok39 (ctx_cons ok40 ctx_nil)) Try.func23 (by kernel_rfl) (by kernel_rfl) (by kernel_rfl) (by kernel_rfl) (by kernel_rfl)
theorem ok8 : FnOk Try.prog 8 sp8 := fnOk (nv := 15) (h := h8) tok mix (ctx_cons ok15 (ctx_cons ok16 (ctx_cons ok17 (ctx_cons ok18 (ctx_cons ok19 (ctx_cons ok20 (ctx_cons ok21 (ctx_cons ok22 (ctx_cons ok23 ctx_nil))))))))) Try.func8 (by kernel_rfl) (by kernel_rfl) (by kernel_rfl) (by kernel_rfl) (by kernel_rfl)
theorem ok3 : FnOk Try.prog 3 sp3 := fnOk (nv := 21) (h := h3) tok mix (ctx_cons ok4 (ctx_cons ok5 (ctx_cons ok6 (ctx_cons ok7 (ctx_cons ok8 ctx_nil))))) Try.func3 (by kernel_rfl) (by kernel_rfl) (by kernel_rfl) (by kernel_rfl) (by kernel_rfl)
end Go.Fx.D
