/-
  Each of these functions does what its function over plain data says, where that gives an answer (printed by a program). Conditions: none.
-/
import Derived.Test.YtnmgbgbedngcmaaFxC
import Derived.Ground.SlsfProg
import Derived.Shelf.Lay
import Derived.Test.YtnmgbgbedngcmaaD
import Derived.Test.YtnmgbgbedngcmaaFxB
import Derived.Test.YtnmgbgbedngcmaaChecked
import Derived.WalkKit
namespace Go.Fx.D
open Go Go.Fx Go.Proofs
set_option linter.unusedVariables false
set_option maxRecDepth 100000

theorem rowOk3 : RowOk Try.prog 3 row3 := ⟨by kernel_rfl, ⟨Try.t3, (Try.t3.zero).getD .nilFunc, by kernel_rfl, by kernel_rfl, by kernel_rfl⟩, by kernel_rfl, by kernel_rfl⟩
theorem rowOk4 : RowOk Try.prog 4 row4 := ⟨by kernel_rfl, ⟨Try.t4, (Try.t4.zero).getD .nilFunc, by kernel_rfl, by kernel_rfl, by kernel_rfl⟩, by kernel_rfl, by kernel_rfl⟩
theorem rowOk22 : RowOk Try.prog 22 row22 := ⟨by kernel_rfl, ⟨Try.t22, (Try.t22.zero).getD .nilFunc, by kernel_rfl, by kernel_rfl, by kernel_rfl⟩, by kernel_rfl, by kernel_rfl⟩
theorem rowOk30 : RowOk Try.prog 30 row30 := ⟨by kernel_rfl, ⟨Try.t30, (Try.t30.zero).getD .nilFunc, by kernel_rfl, by kernel_rfl, by kernel_rfl⟩, by kernel_rfl, by kernel_rfl⟩
theorem rowOk31 : RowOk Try.prog 31 row31 := ⟨by kernel_rfl, ⟨Try.t31, (Try.t31.zero).getD .nilFunc, by kernel_rfl, by kernel_rfl, by kernel_rfl⟩, by kernel_rfl, by kernel_rfl⟩
theorem rowOk33 : RowOk Try.prog 33 row33 := ⟨by kernel_rfl, ⟨Try.t33, (Try.t33.zero).getD .nilFunc, by kernel_rfl, by kernel_rfl, by kernel_rfl⟩, by kernel_rfl, by kernel_rfl⟩
theorem rowOk34 : RowOk Try.prog 34 row34 := ⟨by kernel_rfl, ⟨Try.t34, (Try.t34.zero).getD .nilFunc, by kernel_rfl, by kernel_rfl, by kernel_rfl⟩, by kernel_rfl, by kernel_rfl⟩
theorem rowOk43 : RowOk Try.prog 43 row43 := ⟨by kernel_rfl, ⟨Try.t43, (Try.t43.zero).getD .nilFunc, by kernel_rfl, by kernel_rfl, by kernel_rfl⟩, by kernel_rfl, by kernel_rfl⟩
theorem rowOk51 : RowOk Try.prog 51 row51 := ⟨by kernel_rfl, ⟨Try.t51, (Try.t51.zero).getD .nilFunc, by kernel_rfl, by kernel_rfl, by kernel_rfl⟩, by kernel_rfl, by kernel_rfl⟩
theorem rowOk53 : RowOk Try.prog 53 row53 := ⟨by kernel_rfl, ⟨Try.t53, (Try.t53.zero).getD .nilFunc, by kernel_rfl, by kernel_rfl, by kernel_rfl⟩, by kernel_rfl, by kernel_rfl⟩
theorem rowOk60 : RowOk Try.prog 60 row60 := ⟨by kernel_rfl, ⟨Try.t60, (Try.t60.zero).getD .nilFunc, by kernel_rfl, by kernel_rfl, by kernel_rfl⟩, by kernel_rfl, by kernel_rfl⟩
theorem tok : TblOk Try.prog (look tbl) := tblOk (all_cons rowOk3 (all_cons rowOk4 (all_cons rowOk22 (all_cons rowOk30 (all_cons rowOk31 (all_cons rowOk33 (all_cons rowOk34 (all_cons rowOk43 (all_cons rowOk51 (all_cons rowOk53 (all_cons rowOk60 all_nil)))))))))))
theorem mix : Try.prog.follows .mixedOrders = true := Checked.mixed Try.checked

theorem ok22_ne : FnOk Try.prog 22 sp22_ne := fnOk (nv := 1) (h := h22) tok mix ctx_nil Try.func22 (by kernel_rfl) (by kernel_rfl) (by kernel_rfl) (by kernel_rfl) (by kernel_rfl)
set_option maxHeartbeats 2000000 in
theorem walk22 (p : Option Addr) (cap : Nat) (w : World) : Calls Try.prog 22 #[.slice p 0 cap] w fun e w' => ∃ p', e = .returned (.slice p' 0 0) ∧ RowKit.Below w.heap.size w w' ∧ w.drawn ≤ w'.drawn := by
  have q := q_nil (P := Try.prog) (t := 22) rowOk22.und
  cases p with
  | none =>
    go_enter Try.func22, Try.ntmps22
    go_wp2
    go_ret
    exact ⟨_, rfl, .refl _ _, Nat.le_refl _⟩
  | some p =>
    go_enter Try.func22, Try.ntmps22
    go_wp2
    go_ret
    exact ⟨_, rfl, (RowKit.Below.refl _ w).alloc (Nat.le_refl _) _, Nat.le_refl _⟩
theorem ok22 : FnOk Try.prog 22 sp22 := clone_ok ok22_ne walk22
theorem ok23 : FnOk Try.prog 23 sp23 := fnOk (nv := 1) (h := h23) tok mix ctx_nil Try.func23 (by kernel_rfl) (by kernel_rfl) (by kernel_rfl) (by kernel_rfl) (by kernel_rfl)
theorem ok24 : FnOk Try.prog 24 sp24 := fnOk (nv := 9) (h := h24) tok mix ctx_nil Try.func24 (by kernel_rfl) (by kernel_rfl) (by kernel_rfl) (by kernel_rfl) (by kernel_rfl)
shelf_lay_g Go.Proofs.SlLaysF0.n6 Slsf 6 at Try 25 as lay25
theorem ok25 : FnOk Try.prog 25 sp25 := sortF_ok (ρ := lay25_ren) (n := 0) lay25 (by intro w; kernel_rfl) (by intro w; kernel_rfl) (by kernel_rfl) (Nat.blt_eq.mp (by kernel_rfl)) ⟨Try.f25, by kernel_rfl, by kernel_rfl, by kernel_rfl⟩
theorem ok36 : FnOk Try.prog 36 sp36 := fnOk (nv := 9) (h := h36) tok mix ctx_nil Try.func36 (by kernel_rfl) (by kernel_rfl) (by kernel_rfl) (by kernel_rfl) (by kernel_rfl)
theorem ok50 : FnOk Try.prog 50 sp50 := fnOk (nv := 1) (h := h50) tok mix ctx_nil Try.func50 (by kernel_rfl) (by kernel_rfl) (by kernel_rfl) (by kernel_rfl) (by kernel_rfl)
theorem ok37 : FnOk Try.prog 37 sp37 := fnOk (nv := 7) (h := h37) tok mix (ctx_cons ok50 ctx_nil) Try.func37 (by kernel_rfl) (by kernel_rfl) (by kernel_rfl) (by kernel_rfl) (by kernel_rfl)
theorem ok26 : FnOk Try.prog 26 sp26 := fnOk (nv := 4) (h := h26) tok mix (ctx_cons ok36 (ctx_cons ok37 ctx_nil)) Try.func26 (by kernel_rfl) (by kernel_rfl) (by kernel_rfl) (by kernel_rfl) (by kernel_rfl)
theorem ok13 : FnOk Try.prog 13 sp13 := fnOk (nv := 83) (h := h13) tok mix (ctx_cons ok22 (ctx_cons ok23 (ctx_cons ok24 (ctx_cons ok25 (ctx_cons ok26 ctx_nil))))) Try.func13 (by kernel_rfl) (by kernel_rfl) (by kernel_rfl) (by kernel_rfl) (by kernel_rfl)
theorem ok11 : FnOk Try.prog 11 sp11 := fnOk (nv := 0) (h := h11) tok mix (ctx_cons ok13 ctx_nil) Try.func11 (by kernel_rfl) (by kernel_rfl) (by kernel_rfl) (by kernel_rfl) (by kernel_rfl)
theorem ok12 : FnOk Try.prog 12 sp12 := fnOk (nv := 6) (h := h12) tok mix ctx_nil Try.func12 (by kernel_rfl) (by kernel_rfl) (by kernel_rfl) (by kernel_rfl) (by kernel_rfl)
theorem ok3 : FnOk Try.prog 3 sp3 := fnOk (nv := 11) (h := h3) tok mix (ctx_cons ok11 (ctx_cons ok12 (ctx_cons ok13 ctx_nil))) Try.func3 (by kernel_rfl) (by kernel_rfl) (by kernel_rfl) (by kernel_rfl) (by kernel_rfl)
theorem ok4 : FnOk Try.prog 4 sp4 := fnOk (nv := 12) (h := h4) tok mix (ctx_cons ok11 (ctx_cons ok12 (ctx_cons ok13 ctx_nil))) Try.func4 (by kernel_rfl) (by kernel_rfl) (by kernel_rfl) (by kernel_rfl) (by kernel_rfl)
theorem ok14 : FnOk Try.prog 14 sp14 := fnOk (nv := 6) (h := h14) tok mix ctx_nil Try.func14 (by kernel_rfl) (by kernel_rfl) (by kernel_rfl) (by kernel_rfl) (by kernel_rfl)
theorem ok5 : FnOk Try.prog 5 sp5 := fnOk (nv := 10) (h := h5) tok mix (ctx_cons ok11 (ctx_cons ok12 (ctx_cons ok13 (ctx_cons ok14 ctx_nil)))) Try.func5 (by kernel_rfl) (by kernel_rfl) (by kernel_rfl) (by kernel_rfl) (by kernel_rfl)
theorem ok6 : FnOk Try.prog 6 sp6 := fnOk (nv := 11) (h := h6) tok mix (ctx_cons ok11 (ctx_cons ok12 (ctx_cons ok13 ctx_nil))) Try.func6 (by kernel_rfl) (by kernel_rfl) (by kernel_rfl) (by kernel_rfl) (by kernel_rfl)
theorem ok15 : FnOk Try.prog 15 sp15 := fnOk (nv := 12) (h := h15) tok mix ctx_nil Try.func15 (by kernel_rfl) (by kernel_rfl) (by kernel_rfl) (by kernel_rfl) (by kernel_rfl)
theorem ok7 : FnOk Try.prog 7 sp7 := fnOk (nv := 10) (h := h7) tok mix (ctx_cons ok11 (ctx_cons ok12 (ctx_cons ok15 ctx_nil))) Try.func7 (by kernel_rfl) (by kernel_rfl) (by kernel_rfl) (by kernel_rfl) (by kernel_rfl)
theorem ok16 : FnOk Try.prog 16 sp16 := fnOk (nv := 4) (h := h16) tok mix ctx_nil Try.func16 (by kernel_rfl) (by kernel_rfl) (by kernel_rfl) (by kernel_rfl) (by kernel_rfl)
theorem ok17 : FnOk Try.prog 17 sp17 := fnOk (nv := 6) (h := h17) tok mix ctx_nil Try.func17 (by kernel_rfl) (by kernel_rfl) (by kernel_rfl) (by kernel_rfl) (by kernel_rfl)
theorem ok38 : FnOk Try.prog 38 sp38 := fnOk (nv := 9) (h := h38) tok mix ctx_nil Try.func38 (by kernel_rfl) (by kernel_rfl) (by kernel_rfl) (by kernel_rfl) (by kernel_rfl)
theorem ok28 : FnOk Try.prog 28 sp28 := fnOk (nv := 2) (h := h28) tok mix (ctx_cons ok38 ctx_nil) Try.func28 (by kernel_rfl) (by kernel_rfl) (by kernel_rfl) (by kernel_rfl) (by kernel_rfl)
theorem ok27 : FnOk Try.prog 27 sp27 := fnOk (nv := 3) (h := h27) tok mix (ctx_cons ok28 ctx_nil) Try.func27 (by kernel_rfl) (by kernel_rfl) (by kernel_rfl) (by kernel_rfl) (by kernel_rfl)
theorem ok29 : FnOk Try.prog 29 sp29 := fnOk (nv := 14) (h := h29) tok mix ctx_nil Try.func29 (by kernel_rfl) (by kernel_rfl) (by kernel_rfl) (by kernel_rfl) (by kernel_rfl)
theorem ok30 : FnOk Try.prog 30 sp30 := fnOk (nv := 2) (h := h30) tok mix ctx_nil Try.func30 (by kernel_rfl) (by kernel_rfl) (by kernel_rfl) (by kernel_rfl) (by kernel_rfl)
theorem ok31 : FnOk Try.prog 31 sp31 := fnOk (nv := 2) (h := h31) tok mix ctx_nil Try.func31 (by kernel_rfl) (by kernel_rfl) (by kernel_rfl) (by kernel_rfl) (by kernel_rfl)
theorem ok18 : FnOk Try.prog 18 sp18 := fnOk (nv := 13) (h := h18) tok mix (ctx_cons ok13 (ctx_cons ok24 (ctx_cons ok27 (ctx_cons ok29 (ctx_cons ok30 (ctx_cons ok31 ctx_nil)))))) Try.func18 (by kernel_rfl) (by kernel_rfl) (by kernel_rfl) (by kernel_rfl) (by kernel_rfl)
theorem ok8 : FnOk Try.prog 8 sp8 := fnOk (nv := 16) (h := h8) tok mix (ctx_cons ok11 (ctx_cons ok12 (ctx_cons ok16 (ctx_cons ok17 (ctx_cons ok18 ctx_nil))))) Try.func8 (by kernel_rfl) (by kernel_rfl) (by kernel_rfl) (by kernel_rfl) (by kernel_rfl)
theorem ok9 : FnOk Try.prog 9 sp9 := fnOk (nv := 10) (h := h9) tok mix (ctx_cons ok11 (ctx_cons ok12 (ctx_cons ok18 ctx_nil))) Try.func9 (by kernel_rfl) (by kernel_rfl) (by kernel_rfl) (by kernel_rfl) (by kernel_rfl)
theorem ok32 : FnOk Try.prog 32 sp32 := fnOk (nv := 6) (h := h32) tok mix ctx_nil Try.func32 (by kernel_rfl) (by kernel_rfl) (by kernel_rfl) (by kernel_rfl) (by kernel_rfl)
theorem ok39 : FnOk Try.prog 39 sp39 := fnOk (nv := 1) (h := h39) tok mix ctx_nil Try.func39 (by kernel_rfl) (by kernel_rfl) (by kernel_rfl) (by kernel_rfl) (by kernel_rfl)
theorem ok33 : FnOk Try.prog 33 sp33 := fnOk (nv := 13) (h := h33) tok mix (ctx_cons ok39 ctx_nil) Try.func33 (by kernel_rfl) (by kernel_rfl) (by kernel_rfl) (by kernel_rfl) (by kernel_rfl)
theorem ok19 : FnOk Try.prog 19 sp19 := fnOk (nv := 13) (h := h19) tok mix (ctx_cons ok32 (ctx_cons ok33 ctx_nil)) Try.func19 (by kernel_rfl) (by kernel_rfl) (by kernel_rfl) (by kernel_rfl) (by kernel_rfl)
theorem ok20 : FnOk Try.prog 20 sp20 := fnOk (nv := 5) (h := h20) tok mix ctx_nil Try.func20 (by kernel_rfl) (by kernel_rfl) (by kernel_rfl) (by kernel_rfl) (by kernel_rfl)
theorem ok21 : FnOk Try.prog 21 sp21 := fnOk (nv := 8) (h := h21) tok mix ctx_nil Try.func21 (by kernel_rfl) (by kernel_rfl) (by kernel_rfl) (by kernel_rfl) (by kernel_rfl)
theorem ok10 : FnOk Try.prog 10 sp10 := fnOk (nv := 15) (h := h10) tok mix (ctx_cons ok11 (ctx_cons ok12 (ctx_cons ok14 (ctx_cons ok15 (ctx_cons ok16 (ctx_cons ok18 (ctx_cons ok19 (ctx_cons ok20 (ctx_cons ok21 ctx_nil))))))))) Try.func10 (by kernel_rfl) (by kernel_rfl) (by kernel_rfl) (by kernel_rfl) (by kernel_rfl)
end Go.Fx.D
