/-
  Each of these functions does what its function over plain data says, where that gives an answer (printed by a program). Conditions: none.
-/
import Derived.Test.YtfpkhbclbhghnaaD
import Derived.Test.YtfpkhbclbhghnaaFxB
import Derived.Test.YtfpkhbclbhghnaaChecked
import Derived.WalkKit
namespace Go.Fx.D
open Go Go.Fx Go.Proofs
set_option linter.unusedVariables false
set_option maxRecDepth 100000

theorem rowOk3 : RowOk Try.prog 3 row3 := ⟨by kernel_rfl, ⟨Try.t3, (Try.t3.zero).getD .nilFunc, by kernel_rfl, by kernel_rfl, by kernel_rfl⟩, by kernel_rfl, by kernel_rfl⟩
theorem rowOk4 : RowOk Try.prog 4 row4 := ⟨by kernel_rfl, ⟨Try.t4, (Try.t4.zero).getD .nilFunc, by kernel_rfl, by kernel_rfl, by kernel_rfl⟩, by kernel_rfl, by kernel_rfl⟩
theorem rowOk5 : RowOk Try.prog 5 row5 := ⟨by kernel_rfl, ⟨Try.t5, (Try.t5.zero).getD .nilFunc, by kernel_rfl, by kernel_rfl, by kernel_rfl⟩, by kernel_rfl, by kernel_rfl⟩
theorem rowOk9 : RowOk Try.prog 9 row9 := ⟨by kernel_rfl, ⟨Try.t9, (Try.t9.zero).getD .nilFunc, by kernel_rfl, by kernel_rfl, by kernel_rfl⟩, by kernel_rfl, by kernel_rfl⟩
theorem rowOk22 : RowOk Try.prog 22 row22 := ⟨by kernel_rfl, ⟨Try.t22, (Try.t22.zero).getD .nilFunc, by kernel_rfl, by kernel_rfl, by kernel_rfl⟩, by kernel_rfl, by kernel_rfl⟩
theorem rowOk24 : RowOk Try.prog 24 row24 := ⟨by kernel_rfl, ⟨Try.t24, (Try.t24.zero).getD .nilFunc, by kernel_rfl, by kernel_rfl, by kernel_rfl⟩, by kernel_rfl, by kernel_rfl⟩
theorem rowOk26 : RowOk Try.prog 26 row26 := ⟨by kernel_rfl, ⟨Try.t26, (Try.t26.zero).getD .nilFunc, by kernel_rfl, by kernel_rfl, by kernel_rfl⟩, by kernel_rfl, by kernel_rfl⟩
theorem rowOk27 : RowOk Try.prog 27 row27 := ⟨by kernel_rfl, ⟨Try.t27, (Try.t27.zero).getD .nilFunc, by kernel_rfl, by kernel_rfl, by kernel_rfl⟩, by kernel_rfl, by kernel_rfl⟩
theorem rowOk29 : RowOk Try.prog 29 row29 := ⟨by kernel_rfl, ⟨Try.t29, (Try.t29.zero).getD .nilFunc, by kernel_rfl, by kernel_rfl, by kernel_rfl⟩, by kernel_rfl, by kernel_rfl⟩
theorem rowOk30 : RowOk Try.prog 30 row30 := ⟨by kernel_rfl, ⟨Try.t30, (Try.t30.zero).getD .nilFunc, by kernel_rfl, by kernel_rfl, by kernel_rfl⟩, by kernel_rfl, by kernel_rfl⟩
theorem rowOk31 : RowOk Try.prog 31 row31 := ⟨by kernel_rfl, ⟨Try.t31, (Try.t31.zero).getD .nilFunc, by kernel_rfl, by kernel_rfl, by kernel_rfl⟩, by kernel_rfl, by kernel_rfl⟩
theorem rowOk32 : RowOk Try.prog 32 row32 := ⟨by kernel_rfl, ⟨Try.t32, (Try.t32.zero).getD .nilFunc, by kernel_rfl, by kernel_rfl, by kernel_rfl⟩, by kernel_rfl, by kernel_rfl⟩
theorem rowOk33 : RowOk Try.prog 33 row33 := ⟨by kernel_rfl, ⟨Try.t33, (Try.t33.zero).getD .nilFunc, by kernel_rfl, by kernel_rfl, by kernel_rfl⟩, by kernel_rfl, by kernel_rfl⟩
theorem rowOk34 : RowOk Try.prog 34 row34 := ⟨by kernel_rfl, ⟨Try.t34, (Try.t34.zero).getD .nilFunc, by kernel_rfl, by kernel_rfl, by kernel_rfl⟩, by kernel_rfl, by kernel_rfl⟩
theorem rowOk36 : RowOk Try.prog 36 row36 := ⟨by kernel_rfl, ⟨Try.t36, (Try.t36.zero).getD .nilFunc, by kernel_rfl, by kernel_rfl, by kernel_rfl⟩, by kernel_rfl, by kernel_rfl⟩
theorem rowOk38 : RowOk Try.prog 38 row38 := ⟨by kernel_rfl, ⟨Try.t38, (Try.t38.zero).getD .nilFunc, by kernel_rfl, by kernel_rfl, by kernel_rfl⟩, by kernel_rfl, by kernel_rfl⟩
theorem rowOk40 : RowOk Try.prog 40 row40 := ⟨by kernel_rfl, ⟨Try.t40, (Try.t40.zero).getD .nilFunc, by kernel_rfl, by kernel_rfl, by kernel_rfl⟩, by kernel_rfl, by kernel_rfl⟩
theorem rowOk42 : RowOk Try.prog 42 row42 := ⟨by kernel_rfl, ⟨Try.t42, (Try.t42.zero).getD .nilFunc, by kernel_rfl, by kernel_rfl, by kernel_rfl⟩, by kernel_rfl, by kernel_rfl⟩
theorem rowOk44 : RowOk Try.prog 44 row44 := ⟨by kernel_rfl, ⟨Try.t44, (Try.t44.zero).getD .nilFunc, by kernel_rfl, by kernel_rfl, by kernel_rfl⟩, by kernel_rfl, by kernel_rfl⟩
theorem rowOk48 : RowOk Try.prog 48 row48 := ⟨by kernel_rfl, ⟨Try.t48, (Try.t48.zero).getD .nilFunc, by kernel_rfl, by kernel_rfl, by kernel_rfl⟩, by kernel_rfl, by kernel_rfl⟩
theorem rowOk59 : RowOk Try.prog 59 row59 := ⟨by kernel_rfl, ⟨Try.t59, (Try.t59.zero).getD .nilFunc, by kernel_rfl, by kernel_rfl, by kernel_rfl⟩, by kernel_rfl, by kernel_rfl⟩
theorem rowOk65 : RowOk Try.prog 65 row65 := ⟨by kernel_rfl, ⟨Try.t65, (Try.t65.zero).getD .nilFunc, by kernel_rfl, by kernel_rfl, by kernel_rfl⟩, by kernel_rfl, by kernel_rfl⟩
theorem rowOk69 : RowOk Try.prog 69 row69 := ⟨by kernel_rfl, ⟨Try.t69, (Try.t69.zero).getD .nilFunc, by kernel_rfl, by kernel_rfl, by kernel_rfl⟩, by kernel_rfl, by kernel_rfl⟩
theorem rowOk70 : RowOk Try.prog 70 row70 := ⟨by kernel_rfl, ⟨Try.t70, (Try.t70.zero).getD .nilFunc, by kernel_rfl, by kernel_rfl, by kernel_rfl⟩, by kernel_rfl, by kernel_rfl⟩
theorem rowOk72 : RowOk Try.prog 72 row72 := ⟨by kernel_rfl, ⟨Try.t72, (Try.t72.zero).getD .nilFunc, by kernel_rfl, by kernel_rfl, by kernel_rfl⟩, by kernel_rfl, by kernel_rfl⟩
theorem rowOk82 : RowOk Try.prog 82 row82 := ⟨by kernel_rfl, ⟨Try.t82, (Try.t82.zero).getD .nilFunc, by kernel_rfl, by kernel_rfl, by kernel_rfl⟩, by kernel_rfl, by kernel_rfl⟩
theorem rowOk85 : RowOk Try.prog 85 row85 := ⟨by kernel_rfl, ⟨Try.t85, (Try.t85.zero).getD .nilFunc, by kernel_rfl, by kernel_rfl, by kernel_rfl⟩, by kernel_rfl, by kernel_rfl⟩
theorem rowOk94 : RowOk Try.prog 94 row94 := ⟨by kernel_rfl, ⟨Try.t94, (Try.t94.zero).getD .nilFunc, by kernel_rfl, by kernel_rfl, by kernel_rfl⟩, by kernel_rfl, by kernel_rfl⟩
theorem rowOk99 : RowOk Try.prog 99 row99 := ⟨by kernel_rfl, ⟨Try.t99, (Try.t99.zero).getD .nilFunc, by kernel_rfl, by kernel_rfl, by kernel_rfl⟩, by kernel_rfl, by kernel_rfl⟩
theorem rowOk105 : RowOk Try.prog 105 row105 := ⟨by kernel_rfl, ⟨Try.t105, (Try.t105.zero).getD .nilFunc, by kernel_rfl, by kernel_rfl, by kernel_rfl⟩, by kernel_rfl, by kernel_rfl⟩
theorem rowOk110 : RowOk Try.prog 110 row110 := ⟨by kernel_rfl, ⟨Try.t110, (Try.t110.zero).getD .nilFunc, by kernel_rfl, by kernel_rfl, by kernel_rfl⟩, by kernel_rfl, by kernel_rfl⟩
theorem rowOk115 : RowOk Try.prog 115 row115 := ⟨by kernel_rfl, ⟨Try.t115, (Try.t115.zero).getD .nilFunc, by kernel_rfl, by kernel_rfl, by kernel_rfl⟩, by kernel_rfl, by kernel_rfl⟩
theorem tok : TblOk Try.prog (look tbl) := tblOk (all_cons rowOk3 (all_cons rowOk4 (all_cons rowOk5 (all_cons rowOk9 (all_cons rowOk22 (all_cons rowOk24 (all_cons rowOk26 (all_cons rowOk27 (all_cons rowOk29 (all_cons rowOk30 (all_cons rowOk31 (all_cons rowOk32 (all_cons rowOk33 (all_cons rowOk34 (all_cons rowOk36 (all_cons rowOk38 (all_cons rowOk40 (all_cons rowOk42 (all_cons rowOk44 (all_cons rowOk48 (all_cons rowOk59 (all_cons rowOk65 (all_cons rowOk69 (all_cons rowOk70 (all_cons rowOk72 (all_cons rowOk82 (all_cons rowOk85 (all_cons rowOk94 (all_cons rowOk99 (all_cons rowOk105 (all_cons rowOk110 (all_cons rowOk115 all_nil))))))))))))))))))))))))))))))))
theorem mix : Try.prog.follows .mixedOrders = true := Checked.mixed Try.checked

theorem ok7 : FnOk Try.prog 7 sp7 := fnOk (nv := 1) (h := h7) tok mix ctx_nil Try.func7 (by kernel_rfl) (by kernel_rfl) (by kernel_rfl) (by kernel_rfl) (by kernel_rfl)
theorem ok48 : FnOk Try.prog 48 sp48 := fnOk (nv := 2) (h := h48) tok mix ctx_nil Try.func48 (by kernel_rfl) (by kernel_rfl) (by kernel_rfl) (by kernel_rfl) (by kernel_rfl)
theorem ok49 : FnOk Try.prog 49 sp49 := fnOk (nv := 3) (h := h49) tok mix (ctx_cons ok48 ctx_nil) Try.func49 (by kernel_rfl) (by kernel_rfl) (by kernel_rfl) (by kernel_rfl) (by kernel_rfl)
theorem ok35 : FnOk Try.prog 35 sp35 := fnOk (nv := 5) (h := h35) tok mix (ctx_cons ok48 (ctx_cons ok49 ctx_nil)) Try.func35 (by kernel_rfl) (by kernel_rfl) (by kernel_rfl) (by kernel_rfl) (by kernel_rfl)
theorem ok18 : FnOk Try.prog 18 sp18 := fnOk (nv := 9) (h := h18) tok mix (ctx_cons ok35 ctx_nil) Try.func18 (by kernel_rfl) (by kernel_rfl) (by kernel_rfl) (by kernel_rfl) (by kernel_rfl)
theorem ok10 : FnOk Try.prog 10 sp10 := fnOk (nv := 12) (h := h10) tok mix (ctx_cons ok18 ctx_nil) Try.func10 (by kernel_rfl) (by kernel_rfl) (by kernel_rfl) (by kernel_rfl) (by kernel_rfl)
theorem ok45 : FnOk Try.prog 45 sp45 := fnOk (nv := 9) (h := h45) tok mix ctx_nil Try.func45 (by kernel_rfl) (by kernel_rfl) (by kernel_rfl) (by kernel_rfl) (by kernel_rfl)
theorem ok46 : FnOk Try.prog 46 sp46 := fnOk (nv := 3) (h := h46) tok mix ctx_nil Try.func46 (by kernel_rfl) (by kernel_rfl) (by kernel_rfl) (by kernel_rfl) (by kernel_rfl)
theorem ok47_ne : FnOk Try.prog 47 sp47_ne := fnOk (nv := 1) (h := h47) tok mix ctx_nil Try.func47 (by kernel_rfl) (by kernel_rfl) (by kernel_rfl) (by kernel_rfl) (by kernel_rfl)
set_option maxHeartbeats 2000000 in
theorem walk47 (p : Option Addr) (cap : Nat) (w : World) : Calls Try.prog 47 #[.slice p 0 cap] w fun e w' => ∃ p', e = .returned (.slice p' 0 0) ∧ RowKit.Below w.heap.size w w' ∧ w.drawn ≤ w'.drawn := by
  have q := q_nil (P := Try.prog) (t := 38) rowOk38.und
  cases p with
  | none =>
    go_enter Try.func47, Try.ntmps47
    go_wp2
    go_ret
    exact ⟨_, rfl, .refl _ _, Nat.le_refl _⟩
  | some p =>
    go_enter Try.func47, Try.ntmps47
    go_wp2
    go_ret
    exact ⟨_, rfl, (RowKit.Below.refl _ w).alloc (Nat.le_refl _) _, Nat.le_refl _⟩
theorem ok47 : FnOk Try.prog 47 sp47 := clone_ok ok47_ne walk47
theorem ok33 : FnOk Try.prog 33 sp33 := fnOk (nv := 8) (h := h33) tok mix (ctx_cons ok45 (ctx_cons ok46 (ctx_cons ok47 ctx_nil))) Try.func33 (by kernel_rfl) (by kernel_rfl) (by kernel_rfl) (by kernel_rfl) (by kernel_rfl)
theorem ok55 : FnOk Try.prog 55 sp55 := fnOk (nv := 14) (h := h55) tok mix ctx_nil Try.func55 (by kernel_rfl) (by kernel_rfl) (by kernel_rfl) (by kernel_rfl) (by kernel_rfl)
theorem ok61 : FnOk Try.prog 61 sp61 := fnOk (nv := 3) (h := h61) tok mix ctx_nil Try.func61 (by kernel_rfl) (by kernel_rfl) (by kernel_rfl) (by kernel_rfl) (by kernel_rfl)
theorem ok58 : FnOk Try.prog 58 sp58 := fnOk (nv := 1) (h := h58) tok mix (ctx_cons ok61 ctx_nil) Try.func58 (by kernel_rfl) (by kernel_rfl) (by kernel_rfl) (by kernel_rfl) (by kernel_rfl)
theorem ok56 : FnOk Try.prog 56 sp56 := fnOk (nv := 19) (h := h56) tok mix (ctx_cons ok58 ctx_nil) Try.func56 (by kernel_rfl) (by kernel_rfl) (by kernel_rfl) (by kernel_rfl) (by kernel_rfl)
theorem ok50 : FnOk Try.prog 50 sp50 := fnOk (nv := 8) (h := h50) tok mix (ctx_cons ok55 (ctx_cons ok56 ctx_nil)) Try.func50 (by kernel_rfl) (by kernel_rfl) (by kernel_rfl) (by kernel_rfl) (by kernel_rfl)
theorem ok34 : FnOk Try.prog 34 sp34 := fnOk (nv := 5) (h := h34) tok mix (ctx_cons ok48 (ctx_cons ok49 (ctx_cons ok50 ctx_nil))) Try.func34 (by kernel_rfl) (by kernel_rfl) (by kernel_rfl) (by kernel_rfl) (by kernel_rfl)
theorem ok59 : FnOk Try.prog 59 sp59 := fnOk (nv := 6) (h := h59) tok mix ctx_nil Try.func59 (by kernel_rfl) (by kernel_rfl) (by kernel_rfl) (by kernel_rfl) (by kernel_rfl)
theorem ok62 : FnOk Try.prog 62 sp62 := fnOk (nv := 9) (h := h62) tok mix ctx_nil Try.func62 (by kernel_rfl) (by kernel_rfl) (by kernel_rfl) (by kernel_rfl) (by kernel_rfl)
theorem ok60 : FnOk Try.prog 60 sp60 := fnOk (nv := 12) (h := h60) tok mix (ctx_cons ok62 ctx_nil) Try.func60 (by kernel_rfl) (by kernel_rfl) (by kernel_rfl) (by kernel_rfl) (by kernel_rfl)
theorem ok57 : FnOk Try.prog 57 sp57 := fnOk (nv := 6) (h := h57) tok mix (ctx_cons ok59 (ctx_cons ok60 ctx_nil)) Try.func57 (by kernel_rfl) (by kernel_rfl) (by kernel_rfl) (by kernel_rfl) (by kernel_rfl)
theorem ok51 : FnOk Try.prog 51 sp51 := fnOk (nv := 5) (h := h51) tok mix (ctx_cons ok57 ctx_nil) Try.func51 (by kernel_rfl) (by kernel_rfl) (by kernel_rfl) (by kernel_rfl) (by kernel_rfl)
theorem ok36 : FnOk Try.prog 36 sp36 := fnOk (nv := 4) (h := h36) tok mix (ctx_cons ok51 ctx_nil) Try.func36 (by kernel_rfl) (by kernel_rfl) (by kernel_rfl) (by kernel_rfl) (by kernel_rfl)
theorem ok19 : FnOk Try.prog 19 sp19 := fnOk (nv := 15) (h := h19) tok mix (ctx_cons ok10 (ctx_cons ok33 (ctx_cons ok34 (ctx_cons ok36 ctx_nil)))) Try.func19 (by kernel_rfl) (by kernel_rfl) (by kernel_rfl) (by kernel_rfl) (by kernel_rfl)
theorem ok20 : FnOk Try.prog 20 sp20 := fnOk (nv := 2) (h := h20) tok mix ctx_nil Try.func20 (by kernel_rfl) (by kernel_rfl) (by kernel_rfl) (by kernel_rfl) (by kernel_rfl)
theorem ok11 : FnOk Try.prog 11 sp11 := fnOk (nv := 7) (h := h11) tok mix (ctx_cons ok19 (ctx_cons ok20 ctx_nil)) Try.func11 (by kernel_rfl) (by kernel_rfl) (by kernel_rfl) (by kernel_rfl) (by kernel_rfl)
theorem ok21 : FnOk Try.prog 21 sp21 := fnOk (nv := 2) (h := h21) tok mix ctx_nil Try.func21 (by kernel_rfl) (by kernel_rfl) (by kernel_rfl) (by kernel_rfl) (by kernel_rfl)
theorem ok12 : FnOk Try.prog 12 sp12 := fnOk (nv := 7) (h := h12) tok mix (ctx_cons ok19 (ctx_cons ok21 ctx_nil)) Try.func12 (by kernel_rfl) (by kernel_rfl) (by kernel_rfl) (by kernel_rfl) (by kernel_rfl)
theorem ok6 : FnOk Try.prog 6 sp6 := fnOk (nv := 3) (h := h6) tok mix (ctx_cons ok7 (ctx_cons ok10 (ctx_cons ok11 (ctx_cons ok12 ctx_nil)))) Try.func6 (by kernel_rfl) (by kernel_rfl) (by kernel_rfl) (by kernel_rfl) (by kernel_rfl)
theorem ok8 : FnOk Try.prog 8 sp8 := fnOk (nv := 6) (h := h8) tok mix ctx_nil Try.func8 (by kernel_rfl) (by kernel_rfl) (by kernel_rfl) (by kernel_rfl) (by kernel_rfl)
theorem ok13 : FnOk Try.prog 13 sp13 := fnOk (nv := 6) (h := h13) tok mix ctx_nil Try.func13 (by kernel_rfl) (by kernel_rfl) (by kernel_rfl) (by kernel_rfl) (by kernel_rfl)
theorem ok37 : FnOk Try.prog 37 sp37 := fnOk (nv := 1) (h := h37) tok mix ctx_nil Try.func37 (by kernel_rfl) (by kernel_rfl) (by kernel_rfl) (by kernel_rfl) (by kernel_rfl)
theorem ok22 : FnOk Try.prog 22 sp22 := fnOk (nv := 2) (h := h22) tok mix (ctx_cons ok37 ctx_nil) Try.func22 (by kernel_rfl) (by kernel_rfl) (by kernel_rfl) (by kernel_rfl) (by kernel_rfl)
theorem ok23 : FnOk Try.prog 23 sp23 := fnOk (nv := 2) (h := h23) tok mix ctx_nil Try.func23 (by kernel_rfl) (by kernel_rfl) (by kernel_rfl) (by kernel_rfl) (by kernel_rfl)
theorem ok14 : FnOk Try.prog 14 sp14 := fnOk (nv := 7) (h := h14) tok mix (ctx_cons ok22 (ctx_cons ok23 ctx_nil)) Try.func14 (by kernel_rfl) (by kernel_rfl) (by kernel_rfl) (by kernel_rfl) (by kernel_rfl)
theorem ok52 : FnOk Try.prog 52 sp52 := fnOk (nv := 4) (h := h52) tok mix ctx_nil Try.func52 (by kernel_rfl) (by kernel_rfl) (by kernel_rfl) (by kernel_rfl) (by kernel_rfl)
theorem ok38 : FnOk Try.prog 38 sp38 := fnOk (nv := 6) (h := h38) tok mix (ctx_cons ok52 ctx_nil) Try.func38 (by kernel_rfl) (by kernel_rfl) (by kernel_rfl) (by kernel_rfl) (by kernel_rfl)
theorem ok43 : FnOk Try.prog 43 sp43 := fnOk (nv := 8) (h := h43) tok mix ctx_nil Try.func43 (by kernel_rfl) (by kernel_rfl) (by kernel_rfl) (by kernel_rfl) (by kernel_rfl)
theorem ok53 : FnOk Try.prog 53 sp53 := fnOk (nv := 6) (h := h53) tok mix (ctx_cons ok52 ctx_nil) Try.func53 (by kernel_rfl) (by kernel_rfl) (by kernel_rfl) (by kernel_rfl) (by kernel_rfl)
theorem ok54 : FnOk Try.prog 54 sp54 := fnOk (nv := 4) (h := h54) tok mix ctx_nil Try.func54 (by kernel_rfl) (by kernel_rfl) (by kernel_rfl) (by kernel_rfl) (by kernel_rfl)
theorem ok39 : FnOk Try.prog 39 sp39 := fnOk (nv := 10) (h := h39) tok mix (ctx_cons ok43 (ctx_cons ok53 (ctx_cons ok54 ctx_nil))) Try.func39 (by kernel_rfl) (by kernel_rfl) (by kernel_rfl) (by kernel_rfl) (by kernel_rfl)
theorem ok44 : FnOk Try.prog 44 sp44 := fnOk (nv := 7) (h := h44) tok mix (ctx_cons ok54 ctx_nil) Try.func44 (by kernel_rfl) (by kernel_rfl) (by kernel_rfl) (by kernel_rfl) (by kernel_rfl)
theorem ok40 : FnOk Try.prog 40 sp40 := fnOk (nv := 9) (h := h40) tok mix (ctx_cons ok43 (ctx_cons ok44 ctx_nil)) Try.func40 (by kernel_rfl) (by kernel_rfl) (by kernel_rfl) (by kernel_rfl) (by kernel_rfl)
theorem ok24 : FnOk Try.prog 24 sp24 := fnOk (nv := 5) (h := h24) tok mix (ctx_cons ok38 (ctx_cons ok39 (ctx_cons ok40 ctx_nil))) Try.func24 (by kernel_rfl) (by kernel_rfl) (by kernel_rfl) (by kernel_rfl) (by kernel_rfl)
theorem ok41 : FnOk Try.prog 41 sp41 := fnOk (nv := 2) (h := h41) tok mix ctx_nil Try.func41 (by kernel_rfl) (by kernel_rfl) (by kernel_rfl) (by kernel_rfl) (by kernel_rfl)
theorem ok25 : FnOk Try.prog 25 sp25 := fnOk (nv := 9) (h := h25) tok mix (ctx_cons ok41 ctx_nil) Try.func25 (by kernel_rfl) (by kernel_rfl) (by kernel_rfl) (by kernel_rfl) (by kernel_rfl)
theorem ok26 : FnOk Try.prog 26 sp26 := fnOk (nv := 9) (h := h26) tok mix ctx_nil Try.func26 (by kernel_rfl) (by kernel_rfl) (by kernel_rfl) (by kernel_rfl) (by kernel_rfl)
theorem ok9 : FnOk Try.prog 9 sp9 := fnOk (nv := 5) (h := h9) tok mix ctx_nil Try.func9 (by kernel_rfl) (by kernel_rfl) (by kernel_rfl) (by kernel_rfl) (by kernel_rfl)
theorem ok42 : FnOk Try.prog 42 sp42 := fnOk (nv := 7) (h := h42) tok mix (ctx_cons ok9 ctx_nil) Try.func42 (by kernel_rfl) (by kernel_rfl) (by kernel_rfl) (by kernel_rfl) (by kernel_rfl)
theorem ok27 : FnOk Try.prog 27 sp27 := fnOk (nv := 5) (h := h27) tok mix (ctx_cons ok42 ctx_nil) Try.func27 (by kernel_rfl) (by kernel_rfl) (by kernel_rfl) (by kernel_rfl) (by kernel_rfl)
theorem ok28 : FnOk Try.prog 28 sp28 := fnOk (nv := 7) (h := h28) tok mix ctx_nil Try.func28 (by kernel_rfl) (by kernel_rfl) (by kernel_rfl) (by kernel_rfl) (by kernel_rfl)
theorem ok29 : FnOk Try.prog 29 sp29 := fnOk (nv := 7) (h := h29) tok mix ctx_nil Try.func29 (by kernel_rfl) (by kernel_rfl) (by kernel_rfl) (by kernel_rfl) (by kernel_rfl)
theorem ok30 : FnOk Try.prog 30 sp30 := fnOk (nv := 2) (h := h30) tok mix ctx_nil Try.func30 (by kernel_rfl) (by kernel_rfl) (by kernel_rfl) (by kernel_rfl) (by kernel_rfl)
theorem ok31 : FnOk Try.prog 31 sp31 := fnOk (nv := 9) (h := h31) tok mix ctx_nil Try.func31 (by kernel_rfl) (by kernel_rfl) (by kernel_rfl) (by kernel_rfl) (by kernel_rfl)
theorem ok32 : FnOk Try.prog 32 sp32 := fnOk (nv := 3) (h := h32) tok mix (ctx_cons ok43 (ctx_cons ok44 ctx_nil)) Try.func32 (by kernel_rfl) (by kernel_rfl) (by kernel_rfl) (by kernel_rfl) (by kernel_rfl)
theorem ok15 : FnOk Try.prog 15 sp15 := fnOk (nv := 15) (h := h15) tok mix (ctx_cons ok24 (ctx_cons ok25 (ctx_cons ok26 (ctx_cons ok27 (ctx_cons ok28 (ctx_cons ok29 (ctx_cons ok30 (ctx_cons ok31 (ctx_cons ok32 ctx_nil))))))))) Try.func15 (by kernel_rfl) (by kernel_rfl) (by kernel_rfl) (by kernel_rfl) (by kernel_rfl)
theorem ok16 : FnOk Try.prog 16 sp16 := fnOk (nv := 10) (h := h16) tok mix (ctx_cons ok11 (ctx_cons ok33 (ctx_cons ok34 ctx_nil))) Try.func16 (by kernel_rfl) (by kernel_rfl) (by kernel_rfl) (by kernel_rfl) (by kernel_rfl)
theorem ok4 : FnOk Try.prog 4 sp4 := fnOk (nv := 16) (h := h4) tok mix (ctx_cons ok6 (ctx_cons ok7 (ctx_cons ok8 (ctx_cons ok11 (ctx_cons ok12 (ctx_cons ok13 (ctx_cons ok14 (ctx_cons ok15 (ctx_cons ok16 ctx_nil))))))))) Try.func4 (by kernel_rfl) (by kernel_rfl) (by kernel_rfl) (by kernel_rfl) (by kernel_rfl)
theorem ok17 : FnOk Try.prog 17 sp17 := fnOk (nv := 12) (h := h17) tok mix (ctx_cons ok18 ctx_nil) Try.func17 (by kernel_rfl) (by kernel_rfl) (by kernel_rfl) (by kernel_rfl) (by kernel_rfl)
theorem ok5 : FnOk Try.prog 5 sp5 := fnOk (nv := 11) (h := h5) tok mix (ctx_cons ok6 (ctx_cons ok7 (ctx_cons ok8 (ctx_cons ok9 (ctx_cons ok17 ctx_nil))))) Try.func5 (by kernel_rfl) (by kernel_rfl) (by kernel_rfl) (by kernel_rfl) (by kernel_rfl)
end Go.Fx.D
