/-
  Each of these functions does what its function over plain data says, where that gives an answer (printed by a program). Conditions: none.
-/
import Derived.Test.YtljanmldkldggaaD
import Derived.Test.YtljanmldkldggaaFxB
import Derived.Test.YtljanmldkldggaaChecked
namespace Go.Fx.D
open Go Go.Fx Go.Proofs
set_option linter.unusedVariables false
set_option maxRecDepth 100000

theorem rowOk3 : RowOk Try.prog 3 row3 := ⟨by kernel_rfl, ⟨Try.t3, (Try.t3.zero).getD .nilFunc, by kernel_rfl, by kernel_rfl, by kernel_rfl⟩, by kernel_rfl, by kernel_rfl⟩
theorem rowOk4 : RowOk Try.prog 4 row4 := ⟨by kernel_rfl, ⟨Try.t4, (Try.t4.zero).getD .nilFunc, by kernel_rfl, by kernel_rfl, by kernel_rfl⟩, by kernel_rfl, by kernel_rfl⟩
theorem rowOk5 : RowOk Try.prog 5 row5 := ⟨by kernel_rfl, ⟨Try.t5, (Try.t5.zero).getD .nilFunc, by kernel_rfl, by kernel_rfl, by kernel_rfl⟩, by kernel_rfl, by kernel_rfl⟩
theorem rowOk9 : RowOk Try.prog 9 row9 := ⟨by kernel_rfl, ⟨Try.t9, (Try.t9.zero).getD .nilFunc, by kernel_rfl, by kernel_rfl, by kernel_rfl⟩, by kernel_rfl, by kernel_rfl⟩
theorem rowOk23 : RowOk Try.prog 23 row23 := ⟨by kernel_rfl, ⟨Try.t23, (Try.t23.zero).getD .nilFunc, by kernel_rfl, by kernel_rfl, by kernel_rfl⟩, by kernel_rfl, by kernel_rfl⟩
theorem rowOk27 : RowOk Try.prog 27 row27 := ⟨by kernel_rfl, ⟨Try.t27, (Try.t27.zero).getD .nilFunc, by kernel_rfl, by kernel_rfl, by kernel_rfl⟩, by kernel_rfl, by kernel_rfl⟩
theorem rowOk38 : RowOk Try.prog 38 row38 := ⟨by kernel_rfl, ⟨Try.t38, (Try.t38.zero).getD .nilFunc, by kernel_rfl, by kernel_rfl, by kernel_rfl⟩, by kernel_rfl, by kernel_rfl⟩
theorem rowOk39 : RowOk Try.prog 39 row39 := ⟨by kernel_rfl, ⟨Try.t39, (Try.t39.zero).getD .nilFunc, by kernel_rfl, by kernel_rfl, by kernel_rfl⟩, by kernel_rfl, by kernel_rfl⟩
theorem rowOk44 : RowOk Try.prog 44 row44 := ⟨by kernel_rfl, ⟨Try.t44, (Try.t44.zero).getD .nilFunc, by kernel_rfl, by kernel_rfl, by kernel_rfl⟩, by kernel_rfl, by kernel_rfl⟩
theorem rowOk45 : RowOk Try.prog 45 row45 := ⟨by kernel_rfl, ⟨Try.t45, (Try.t45.zero).getD .nilFunc, by kernel_rfl, by kernel_rfl, by kernel_rfl⟩, by kernel_rfl, by kernel_rfl⟩
theorem rowOk49 : RowOk Try.prog 49 row49 := ⟨by kernel_rfl, ⟨Try.t49, (Try.t49.zero).getD .nilFunc, by kernel_rfl, by kernel_rfl, by kernel_rfl⟩, by kernel_rfl, by kernel_rfl⟩
theorem rowOk52 : RowOk Try.prog 52 row52 := ⟨by kernel_rfl, ⟨Try.t52, (Try.t52.zero).getD .nilFunc, by kernel_rfl, by kernel_rfl, by kernel_rfl⟩, by kernel_rfl, by kernel_rfl⟩
theorem rowOk54 : RowOk Try.prog 54 row54 := ⟨by kernel_rfl, ⟨Try.t54, (Try.t54.zero).getD .nilFunc, by kernel_rfl, by kernel_rfl, by kernel_rfl⟩, by kernel_rfl, by kernel_rfl⟩
theorem rowOk59 : RowOk Try.prog 59 row59 := ⟨by kernel_rfl, ⟨Try.t59, (Try.t59.zero).getD .nilFunc, by kernel_rfl, by kernel_rfl, by kernel_rfl⟩, by kernel_rfl, by kernel_rfl⟩
theorem rowOk70 : RowOk Try.prog 70 row70 := ⟨by kernel_rfl, ⟨Try.t70, (Try.t70.zero).getD .nilFunc, by kernel_rfl, by kernel_rfl, by kernel_rfl⟩, by kernel_rfl, by kernel_rfl⟩
theorem tok : TblOk Try.prog (look tbl) := tblOk (all_cons rowOk3 (all_cons rowOk4 (all_cons rowOk5 (all_cons rowOk9 (all_cons rowOk23 (all_cons rowOk27 (all_cons rowOk38 (all_cons rowOk39 (all_cons rowOk44 (all_cons rowOk45 (all_cons rowOk49 (all_cons rowOk52 (all_cons rowOk54 (all_cons rowOk59 (all_cons rowOk70 all_nil)))))))))))))))
theorem mix : Try.prog.follows .mixedOrders = true := Checked.mixed Try.checked

theorem ok27 : FnOk Try.prog 27 sp27 := fnOk (nv := 2) (h := h27) tok mix ctx_nil Try.func27 (by kernel_rfl) (by kernel_rfl) (by kernel_rfl) (by kernel_rfl) (by kernel_rfl)
theorem ok28 : FnOk Try.prog 28 sp28 := fnOk (nv := 3) (h := h28) tok mix (ctx_cons ok27 ctx_nil) Try.func28 (by kernel_rfl) (by kernel_rfl) (by kernel_rfl) (by kernel_rfl) (by kernel_rfl)
theorem ok36 : FnOk Try.prog 36 sp36 := fnOk (nv := 14) (h := h36) tok mix ctx_nil Try.func36 (by kernel_rfl) (by kernel_rfl) (by kernel_rfl) (by kernel_rfl) (by kernel_rfl)
theorem ok44 : FnOk Try.prog 44 sp44 := fnOk (nv := 3) (h := h44) tok mix ctx_nil Try.func44 (by kernel_rfl) (by kernel_rfl) (by kernel_rfl) (by kernel_rfl) (by kernel_rfl)
theorem ok43 : FnOk Try.prog 43 sp43 := fnOk (nv := 1) (h := h43) tok mix (ctx_cons ok44 ctx_nil) Try.func43 (by kernel_rfl) (by kernel_rfl) (by kernel_rfl) (by kernel_rfl) (by kernel_rfl)
theorem ok37 : FnOk Try.prog 37 sp37 := fnOk (nv := 19) (h := h37) tok mix (ctx_cons ok43 ctx_nil) Try.func37 (by kernel_rfl) (by kernel_rfl) (by kernel_rfl) (by kernel_rfl) (by kernel_rfl)
theorem ok29 : FnOk Try.prog 29 sp29 := fnOk (nv := 8) (h := h29) tok mix (ctx_cons ok36 (ctx_cons ok37 ctx_nil)) Try.func29 (by kernel_rfl) (by kernel_rfl) (by kernel_rfl) (by kernel_rfl) (by kernel_rfl)
theorem ok15 : FnOk Try.prog 15 sp15 := fnOk (nv := 5) (h := h15) tok mix (ctx_cons ok27 (ctx_cons ok28 (ctx_cons ok29 ctx_nil))) Try.func15 (by kernel_rfl) (by kernel_rfl) (by kernel_rfl) (by kernel_rfl) (by kernel_rfl)
theorem ok12 : FnOk Try.prog 12 sp12 := fnOk (nv := 2) (h := h12) tok mix (ctx_cons ok15 ctx_nil) Try.func12 (by kernel_rfl) (by kernel_rfl) (by kernel_rfl) (by kernel_rfl) (by kernel_rfl)
theorem ok14 : FnOk Try.prog 14 sp14 := fnOk (nv := 6) (h := h14) tok mix ctx_nil Try.func14 (by kernel_rfl) (by kernel_rfl) (by kernel_rfl) (by kernel_rfl) (by kernel_rfl)
theorem ok26 : FnOk Try.prog 26 sp26 := fnOk (nv := 1) (h := h26) tok mix (ctx_cons ok14 ctx_nil) Try.func26 (by kernel_rfl) (by kernel_rfl) (by kernel_rfl) (by kernel_rfl) (by kernel_rfl)
theorem ok13 : FnOk Try.prog 13 sp13 := fnOk (nv := 5) (h := h13) tok mix (ctx_cons ok14 (ctx_cons ok26 ctx_nil)) Try.func13 (by kernel_rfl) (by kernel_rfl) (by kernel_rfl) (by kernel_rfl) (by kernel_rfl)
theorem ok38 : FnOk Try.prog 38 sp38 := fnOk (nv := 1) (h := h38) tok mix ctx_nil Try.func38 (by kernel_rfl) (by kernel_rfl) (by kernel_rfl) (by kernel_rfl) (by kernel_rfl)
theorem ok30 : FnOk Try.prog 30 sp30 := fnOk (nv := 2) (h := h30) tok mix (ctx_cons ok38 ctx_nil) Try.func30 (by kernel_rfl) (by kernel_rfl) (by kernel_rfl) (by kernel_rfl) (by kernel_rfl)
theorem ok31 : FnOk Try.prog 31 sp31 := fnOk (nv := 2) (h := h31) tok mix ctx_nil Try.func31 (by kernel_rfl) (by kernel_rfl) (by kernel_rfl) (by kernel_rfl) (by kernel_rfl)
theorem ok16 : FnOk Try.prog 16 sp16 := fnOk (nv := 7) (h := h16) tok mix (ctx_cons ok30 (ctx_cons ok31 ctx_nil)) Try.func16 (by kernel_rfl) (by kernel_rfl) (by kernel_rfl) (by kernel_rfl) (by kernel_rfl)
theorem ok17 : FnOk Try.prog 17 sp17 := fnOk (nv := 4) (h := h17) tok mix ctx_nil Try.func17 (by kernel_rfl) (by kernel_rfl) (by kernel_rfl) (by kernel_rfl) (by kernel_rfl)
theorem ok3 : FnOk Try.prog 3 sp3 := fnOk (nv := 16) (h := h3) tok mix (ctx_cons ok12 (ctx_cons ok13 (ctx_cons ok14 (ctx_cons ok15 (ctx_cons ok16 (ctx_cons ok17 ctx_nil)))))) Try.func3 (by kernel_rfl) (by kernel_rfl) (by kernel_rfl) (by kernel_rfl) (by kernel_rfl)
theorem ok18 : FnOk Try.prog 18 sp18 := fnOk (nv := 5) (h := h18) tok mix (ctx_cons ok27 (ctx_cons ok28 ctx_nil)) Try.func18 (by kernel_rfl) (by kernel_rfl) (by kernel_rfl) (by kernel_rfl) (by kernel_rfl)
theorem ok4 : FnOk Try.prog 4 sp4 := fnOk (nv := 13) (h := h4) tok mix (ctx_cons ok12 (ctx_cons ok13 (ctx_cons ok17 (ctx_cons ok18 ctx_nil)))) Try.func4 (by kernel_rfl) (by kernel_rfl) (by kernel_rfl) (by kernel_rfl) (by kernel_rfl)
theorem ok19 : FnOk Try.prog 19 sp19 := fnOk (nv := 5) (h := h19) tok mix (ctx_cons ok27 (ctx_cons ok28 ctx_nil)) Try.func19 (by kernel_rfl) (by kernel_rfl) (by kernel_rfl) (by kernel_rfl) (by kernel_rfl)
theorem ok5 : FnOk Try.prog 5 sp5 := fnOk (nv := 16) (h := h5) tok mix (ctx_cons ok12 (ctx_cons ok13 (ctx_cons ok14 (ctx_cons ok15 (ctx_cons ok18 (ctx_cons ok19 ctx_nil)))))) Try.func5 (by kernel_rfl) (by kernel_rfl) (by kernel_rfl) (by kernel_rfl) (by kernel_rfl)
theorem ok6 : FnOk Try.prog 6 sp6 := fnOk (nv := 16) (h := h6) tok mix (ctx_cons ok12 (ctx_cons ok14 (ctx_cons ok15 (ctx_cons ok18 (ctx_cons ok19 ctx_nil))))) Try.func6 (by kernel_rfl) (by kernel_rfl) (by kernel_rfl) (by kernel_rfl) (by kernel_rfl)
theorem ok20 : FnOk Try.prog 20 sp20 := fnOk (nv := 7) (h := h20) tok mix (ctx_cons ok30 ctx_nil) Try.func20 (by kernel_rfl) (by kernel_rfl) (by kernel_rfl) (by kernel_rfl) (by kernel_rfl)
theorem ok21 : FnOk Try.prog 21 sp21 := fnOk (nv := 7) (h := h21) tok mix (ctx_cons ok30 ctx_nil) Try.func21 (by kernel_rfl) (by kernel_rfl) (by kernel_rfl) (by kernel_rfl) (by kernel_rfl)
theorem ok22 : FnOk Try.prog 22 sp22 := fnOk (nv := 4) (h := h22) tok mix ctx_nil Try.func22 (by kernel_rfl) (by kernel_rfl) (by kernel_rfl) (by kernel_rfl) (by kernel_rfl)
theorem ok7 : FnOk Try.prog 7 sp7 := fnOk (nv := 18) (h := h7) tok mix (ctx_cons ok12 (ctx_cons ok13 (ctx_cons ok17 (ctx_cons ok18 (ctx_cons ok19 (ctx_cons ok20 (ctx_cons ok21 (ctx_cons ok22 ctx_nil)))))))) Try.func7 (by kernel_rfl) (by kernel_rfl) (by kernel_rfl) (by kernel_rfl) (by kernel_rfl)
theorem ok33 : FnOk Try.prog 33 sp33 := fnOk (nv := 9) (h := h33) tok mix (ctx_cons ok36 ctx_nil) Try.func33 (by kernel_rfl) (by kernel_rfl) (by kernel_rfl) (by kernel_rfl) (by kernel_rfl)
theorem ok39 : FnOk Try.prog 39 sp39 := fnOk (nv := 9) (h := h39) tok mix ctx_nil Try.func39 (by kernel_rfl) (by kernel_rfl) (by kernel_rfl) (by kernel_rfl) (by kernel_rfl)
theorem ok40 : FnOk Try.prog 40 sp40 := fnOk (nv := 2) (h := h40) tok mix ctx_nil Try.func40 (by kernel_rfl) (by kernel_rfl) (by kernel_rfl) (by kernel_rfl) (by kernel_rfl)
theorem ok41 : FnOk Try.prog 41 sp41 := fnOk (nv := 2) (h := h41) tok mix ctx_nil Try.func41 (by kernel_rfl) (by kernel_rfl) (by kernel_rfl) (by kernel_rfl) (by kernel_rfl)
theorem ok32 : FnOk Try.prog 32 sp32 := fnOk (nv := 7) (h := h32) tok mix (ctx_cons ok33 (ctx_cons ok39 (ctx_cons ok40 (ctx_cons ok41 ctx_nil)))) Try.func32 (by kernel_rfl) (by kernel_rfl) (by kernel_rfl) (by kernel_rfl) (by kernel_rfl)
theorem ok23 : FnOk Try.prog 23 sp23 := fnOk (nv := 8) (h := h23) tok mix (ctx_cons ok27 (ctx_cons ok32 (ctx_cons ok33 ctx_nil))) Try.func23 (by kernel_rfl) (by kernel_rfl) (by kernel_rfl) (by kernel_rfl) (by kernel_rfl)
theorem ok42 : FnOk Try.prog 42 sp42 := fnOk (nv := 12) (h := h42) tok mix ctx_nil Try.func42 (by kernel_rfl) (by kernel_rfl) (by kernel_rfl) (by kernel_rfl) (by kernel_rfl)
theorem ok34 : FnOk Try.prog 34 sp34 := fnOk (nv := 9) (h := h34) tok mix (ctx_cons ok42 ctx_nil) Try.func34 (by kernel_rfl) (by kernel_rfl) (by kernel_rfl) (by kernel_rfl) (by kernel_rfl)
theorem ok35 : FnOk Try.prog 35 sp35 := fnOk (nv := 7) (h := h35) tok mix (ctx_cons ok34 ctx_nil) Try.func35 (by kernel_rfl) (by kernel_rfl) (by kernel_rfl) (by kernel_rfl) (by kernel_rfl)
theorem ok24 : FnOk Try.prog 24 sp24 := fnOk (nv := 8) (h := h24) tok mix (ctx_cons ok30 (ctx_cons ok34 (ctx_cons ok35 ctx_nil))) Try.func24 (by kernel_rfl) (by kernel_rfl) (by kernel_rfl) (by kernel_rfl) (by kernel_rfl)
theorem ok8 : FnOk Try.prog 8 sp8 := fnOk (nv := 9) (h := h8) tok mix (ctx_cons ok12 (ctx_cons ok13 (ctx_cons ok23 (ctx_cons ok24 ctx_nil)))) Try.func8 (by kernel_rfl) (by kernel_rfl) (by kernel_rfl) (by kernel_rfl) (by kernel_rfl)
theorem ok9 : FnOk Try.prog 9 sp9 := fnOk (nv := 10) (h := h9) tok mix (ctx_cons ok12 (ctx_cons ok13 (ctx_cons ok23 ctx_nil))) Try.func9 (by kernel_rfl) (by kernel_rfl) (by kernel_rfl) (by kernel_rfl) (by kernel_rfl)
theorem ok25 : FnOk Try.prog 25 sp25 := fnOk (nv := 5) (h := h25) tok mix ctx_nil Try.func25 (by kernel_rfl) (by kernel_rfl) (by kernel_rfl) (by kernel_rfl) (by kernel_rfl)
theorem ok10 : FnOk Try.prog 10 sp10 := fnOk (nv := 12) (h := h10) tok mix (ctx_cons ok12 (ctx_cons ok14 (ctx_cons ok23 (ctx_cons ok25 ctx_nil)))) Try.func10 (by kernel_rfl) (by kernel_rfl) (by kernel_rfl) (by kernel_rfl) (by kernel_rfl)
theorem ok11 : FnOk Try.prog 11 sp11 := fnOk (nv := 7) (h := h11) tok mix (ctx_cons ok12 (ctx_cons ok13 (ctx_cons ok23 ctx_nil))) Try.func11 (by kernel_rfl) (by kernel_rfl) (by kernel_rfl) (by kernel_rfl) (by kernel_rfl)
end Go.Fx.D
