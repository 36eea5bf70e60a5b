/-
  Each of these functions does what its function over plain data says, where that gives an answer (printed by a program). Conditions: none.
-/
import Derived.Test.YtkbpndpddlhgbaaFxC
import Derived.Ground.NamesProg
import Derived.Shelf.Lay
import Derived.Test.YtkbpndpddlhgbaaD
import Derived.Test.YtkbpndpddlhgbaaFxB
import Derived.Test.YtkbpndpddlhgbaaChecked
import Derived.WalkKit
namespace Go.Fx.D
open Go Go.Fx Go.Proofs
set_option linter.unusedVariables false
set_option maxRecDepth 100000

theorem rowOk3 : RowOk Try.prog 3 row3 := ⟨by kernel_rfl, ⟨Try.t3, (Try.t3.zero).getD .nilFunc, by kernel_rfl, by kernel_rfl, by kernel_rfl⟩, by kernel_rfl, by kernel_rfl⟩
theorem rowOk4 : RowOk Try.prog 4 row4 := ⟨by kernel_rfl, ⟨Try.t4, (Try.t4.zero).getD .nilFunc, by kernel_rfl, by kernel_rfl, by kernel_rfl⟩, by kernel_rfl, by kernel_rfl⟩
theorem rowOk22 : RowOk Try.prog 22 row22 := ⟨by kernel_rfl, ⟨Try.t22, (Try.t22.zero).getD .nilFunc, by kernel_rfl, by kernel_rfl, by kernel_rfl⟩, by kernel_rfl, by kernel_rfl⟩
theorem rowOk24 : RowOk Try.prog 24 row24 := ⟨by kernel_rfl, ⟨Try.t24, (Try.t24.zero).getD .nilFunc, by kernel_rfl, by kernel_rfl, by kernel_rfl⟩, by kernel_rfl, by kernel_rfl⟩
theorem rowOk26 : RowOk Try.prog 26 row26 := ⟨by kernel_rfl, ⟨Try.t26, (Try.t26.zero).getD .nilFunc, by kernel_rfl, by kernel_rfl, by kernel_rfl⟩, by kernel_rfl, by kernel_rfl⟩
theorem rowOk30 : RowOk Try.prog 30 row30 := ⟨by kernel_rfl, ⟨Try.t30, (Try.t30.zero).getD .nilFunc, by kernel_rfl, by kernel_rfl, by kernel_rfl⟩, by kernel_rfl, by kernel_rfl⟩
theorem rowOk37 : RowOk Try.prog 37 row37 := ⟨by kernel_rfl, ⟨Try.t37, (Try.t37.zero).getD .nilFunc, by kernel_rfl, by kernel_rfl, by kernel_rfl⟩, by kernel_rfl, by kernel_rfl⟩
theorem rowOk92 : RowOk Try.prog 92 row92 := ⟨by kernel_rfl, ⟨Try.t92, (Try.t92.zero).getD .nilFunc, by kernel_rfl, by kernel_rfl, by kernel_rfl⟩, by kernel_rfl, by kernel_rfl⟩
theorem tok : TblOk Try.prog (look tbl) := tblOk (all_cons rowOk3 (all_cons rowOk4 (all_cons rowOk22 (all_cons rowOk24 (all_cons rowOk26 (all_cons rowOk30 (all_cons rowOk37 (all_cons rowOk92 all_nil))))))))
theorem mix : Try.prog.follows .mixedOrders = true := Checked.mixed Try.checked

theorem ok23 : FnOk Try.prog 23 sp23 := fnOk (nv := 2) (h := h23) tok mix ctx_nil Try.func23 (by kernel_rfl) (by kernel_rfl) (by kernel_rfl) (by kernel_rfl) (by kernel_rfl)
shelf_lay Go.Proofs.Lays.n189 Nm 189 at Try as lay24
theorem ok24 : FnOk Try.prog 24 sp24 := sortI_ok (ρ := lay24_ren) lay24 ⟨Try.f24, by kernel_rfl, by kernel_rfl, by kernel_rfl⟩
theorem ok66 : FnOk Try.prog 66 sp66 := fnOk (nv := 9) (h := h66) tok mix ctx_nil Try.func66 (by kernel_rfl) (by kernel_rfl) (by kernel_rfl) (by kernel_rfl) (by kernel_rfl)
theorem ok40 : FnOk Try.prog 40 sp40 := fnOk (nv := 2) (h := h40) tok mix (ctx_cons ok66 ctx_nil) Try.func40 (by kernel_rfl) (by kernel_rfl) (by kernel_rfl) (by kernel_rfl) (by kernel_rfl)
theorem ok43 : FnOk Try.prog 43 sp43 := fnOk (nv := 2) (h := h43) tok mix ctx_nil Try.func43 (by kernel_rfl) (by kernel_rfl) (by kernel_rfl) (by kernel_rfl) (by kernel_rfl)
theorem ok44 : FnOk Try.prog 44 sp44 := fnOk (nv := 3) (h := h44) tok mix (ctx_cons ok43 ctx_nil) Try.func44 (by kernel_rfl) (by kernel_rfl) (by kernel_rfl) (by kernel_rfl) (by kernel_rfl)
theorem ok28 : FnOk Try.prog 28 sp28 := fnOk (nv := 5) (h := h28) tok mix (ctx_cons ok43 (ctx_cons ok44 ctx_nil)) Try.func28 (by kernel_rfl) (by kernel_rfl) (by kernel_rfl) (by kernel_rfl) (by kernel_rfl)
theorem ok14 : FnOk Try.prog 14 sp14 := fnOk (nv := 13) (h := h14) tok mix (ctx_cons ok28 ctx_nil) Try.func14 (by kernel_rfl) (by kernel_rfl) (by kernel_rfl) (by kernel_rfl) (by kernel_rfl)
theorem ok42 : FnOk Try.prog 42 sp42 := fnOk (nv := 4) (h := h42) tok mix ctx_nil Try.func42 (by kernel_rfl) (by kernel_rfl) (by kernel_rfl) (by kernel_rfl) (by kernel_rfl)
theorem ok41 : FnOk Try.prog 41 sp41 := fnOk (nv := 7) (h := h41) tok mix (ctx_cons ok14 (ctx_cons ok28 (ctx_cons ok42 ctx_nil))) Try.func41 (by kernel_rfl) (by kernel_rfl) (by kernel_rfl) (by kernel_rfl) (by kernel_rfl)
theorem ok25 : FnOk Try.prog 25 sp25 := fnOk (nv := 19) (h := h25) tok mix (ctx_cons ok40 (ctx_cons ok41 ctx_nil)) Try.func25 (by kernel_rfl) (by kernel_rfl) (by kernel_rfl) (by kernel_rfl) (by kernel_rfl)
theorem ok12 : FnOk Try.prog 12 sp12 := fnOk (nv := 77) (h := h12) tok mix (ctx_cons ok23 (ctx_cons ok24 (ctx_cons ok25 ctx_nil))) Try.func12 (by kernel_rfl) (by kernel_rfl) (by kernel_rfl) (by kernel_rfl) (by kernel_rfl)
theorem ok9 : FnOk Try.prog 9 sp9 := fnOk (nv := 4) (h := h9) tok mix (ctx_cons ok12 ctx_nil) Try.func9 (by kernel_rfl) (by kernel_rfl) (by kernel_rfl) (by kernel_rfl) (by kernel_rfl)
theorem ok11 : FnOk Try.prog 11 sp11 := fnOk (nv := 6) (h := h11) tok mix ctx_nil Try.func11 (by kernel_rfl) (by kernel_rfl) (by kernel_rfl) (by kernel_rfl) (by kernel_rfl)
theorem ok10 : FnOk Try.prog 10 sp10 := fnOk (nv := 3) (h := h10) tok mix (ctx_cons ok11 ctx_nil) Try.func10 (by kernel_rfl) (by kernel_rfl) (by kernel_rfl) (by kernel_rfl) (by kernel_rfl)
theorem ok26 : FnOk Try.prog 26 sp26 := fnOk (nv := 1) (h := h26) tok mix ctx_nil Try.func26 (by kernel_rfl) (by kernel_rfl) (by kernel_rfl) (by kernel_rfl) (by kernel_rfl)
theorem ok17 : FnOk Try.prog 17 sp17 := fnOk (nv := 5) (h := h17) tok mix ctx_nil Try.func17 (by kernel_rfl) (by kernel_rfl) (by kernel_rfl) (by kernel_rfl) (by kernel_rfl)
theorem ok15 : FnOk Try.prog 15 sp15 := fnOk (nv := 9) (h := h15) tok mix (ctx_cons ok17 ctx_nil) Try.func15 (by kernel_rfl) (by kernel_rfl) (by kernel_rfl) (by kernel_rfl) (by kernel_rfl)
theorem ok16 : FnOk Try.prog 16 sp16 := fnOk (nv := 4) (h := h16) tok mix ctx_nil Try.func16 (by kernel_rfl) (by kernel_rfl) (by kernel_rfl) (by kernel_rfl) (by kernel_rfl)
theorem ok27 : FnOk Try.prog 27 sp27 := fnOk (nv := 12) (h := h27) tok mix (ctx_cons ok15 (ctx_cons ok16 (ctx_cons ok17 ctx_nil))) Try.func27 (by kernel_rfl) (by kernel_rfl) (by kernel_rfl) (by kernel_rfl) (by kernel_rfl)
theorem ok13 : FnOk Try.prog 13 sp13 := fnOk (nv := 13) (h := h13) tok mix (ctx_cons ok26 (ctx_cons ok27 ctx_nil)) Try.func13 (by kernel_rfl) (by kernel_rfl) (by kernel_rfl) (by kernel_rfl) (by kernel_rfl)
theorem ok3 : FnOk Try.prog 3 sp3 := fnOk (nv := 18) (h := h3) tok mix (ctx_cons ok9 (ctx_cons ok10 (ctx_cons ok11 (ctx_cons ok12 (ctx_cons ok13 (ctx_cons ok14 (ctx_cons ok15 ctx_nil))))))) Try.func3 (by kernel_rfl) (by kernel_rfl) (by kernel_rfl) (by kernel_rfl) (by kernel_rfl)
theorem ok4 : FnOk Try.prog 4 sp4 := fnOk (nv := 17) (h := h4) tok mix (ctx_cons ok9 (ctx_cons ok10 (ctx_cons ok11 (ctx_cons ok12 (ctx_cons ok14 (ctx_cons ok16 (ctx_cons ok17 ctx_nil))))))) Try.func4 (by kernel_rfl) (by kernel_rfl) (by kernel_rfl) (by kernel_rfl) (by kernel_rfl)
theorem ok5 : FnOk Try.prog 5 sp5 := fnOk (nv := 16) (h := h5) tok mix (ctx_cons ok9 (ctx_cons ok11 (ctx_cons ok12 ctx_nil))) Try.func5 (by kernel_rfl) (by kernel_rfl) (by kernel_rfl) (by kernel_rfl) (by kernel_rfl)
end Go.Fx.D
