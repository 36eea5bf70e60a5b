/-
  Each of these functions does what its function over plain data says, where that gives an answer (printed by a program). Conditions: none.
-/
import Derived.Test.YteodpoelbdakgaaGreatFxD
import Derived.Ground.SlsfProg
import Derived.Shelf.Lay
import Derived.Test.YteodpoelbdakgaaGreatD
import Derived.Test.YteodpoelbdakgaaGreatFxC
import Derived.Test.YteodpoelbdakgaaGreatChecked
import Derived.WalkKit
namespace Go.Fx.D
open Go Go.Fx Go.Proofs Go.Shelf Go.RowKit Go.Lib Go.Sort
set_option linter.unusedVariables false
set_option maxRecDepth 100000

theorem rowOk3 : RowOk Tryz.prog 3 row3 := ⟨by kernel_rfl, ⟨Tryz.t3, (Tryz.t3.zero).getD .nilFunc, by kernel_rfl, by kernel_rfl, by kernel_rfl⟩, by kernel_rfl, by kernel_rfl⟩
theorem rowOk4 : RowOk Tryz.prog 4 row4 := ⟨by kernel_rfl, ⟨Tryz.t4, (Tryz.t4.zero).getD .nilFunc, by kernel_rfl, by kernel_rfl, by kernel_rfl⟩, by kernel_rfl, by kernel_rfl⟩
theorem rowOk5 : RowOk Tryz.prog 5 row5 := ⟨by kernel_rfl, ⟨Tryz.t5, (Tryz.t5.zero).getD .nilFunc, by kernel_rfl, by kernel_rfl, by kernel_rfl⟩, by kernel_rfl, by kernel_rfl⟩
theorem rowOk9 : RowOk Tryz.prog 9 row9 := ⟨by kernel_rfl, ⟨Tryz.t9, (Tryz.t9.zero).getD .nilFunc, by kernel_rfl, by kernel_rfl, by kernel_rfl⟩, by kernel_rfl, by kernel_rfl⟩
theorem rowOk22 : RowOk Tryz.prog 22 row22 := ⟨by kernel_rfl, ⟨Tryz.t22, (Tryz.t22.zero).getD .nilFunc, by kernel_rfl, by kernel_rfl, by kernel_rfl⟩, by kernel_rfl, by kernel_rfl⟩
theorem rowOk23 : RowOk Tryz.prog 23 row23 := ⟨by kernel_rfl, ⟨Tryz.t23, (Tryz.t23.zero).getD .nilFunc, by kernel_rfl, by kernel_rfl, by kernel_rfl⟩, by kernel_rfl, by kernel_rfl⟩
theorem rowOk25 : RowOk Tryz.prog 25 row25 := ⟨by kernel_rfl, ⟨Tryz.t25, (Tryz.t25.zero).getD .nilFunc, by kernel_rfl, by kernel_rfl, by kernel_rfl⟩, by kernel_rfl, by kernel_rfl⟩
theorem rowOk27 : RowOk Tryz.prog 27 row27 := ⟨by kernel_rfl, ⟨Tryz.t27, (Tryz.t27.zero).getD .nilFunc, by kernel_rfl, by kernel_rfl, by kernel_rfl⟩, by kernel_rfl, by kernel_rfl⟩
theorem rowOk28 : RowOk Tryz.prog 28 row28 := ⟨by kernel_rfl, ⟨Tryz.t28, (Tryz.t28.zero).getD .nilFunc, by kernel_rfl, by kernel_rfl, by kernel_rfl⟩, by kernel_rfl, by kernel_rfl⟩
theorem rowOk30 : RowOk Tryz.prog 30 row30 := ⟨by kernel_rfl, ⟨Tryz.t30, (Tryz.t30.zero).getD .nilFunc, by kernel_rfl, by kernel_rfl, by kernel_rfl⟩, by kernel_rfl, by kernel_rfl⟩
theorem rowOk31 : RowOk Tryz.prog 31 row31 := ⟨by kernel_rfl, ⟨Tryz.t31, (Tryz.t31.zero).getD .nilFunc, by kernel_rfl, by kernel_rfl, by kernel_rfl⟩, by kernel_rfl, by kernel_rfl⟩
theorem rowOk32 : RowOk Tryz.prog 32 row32 := ⟨by kernel_rfl, ⟨Tryz.t32, (Tryz.t32.zero).getD .nilFunc, by kernel_rfl, by kernel_rfl, by kernel_rfl⟩, by kernel_rfl, by kernel_rfl⟩
theorem rowOk33 : RowOk Tryz.prog 33 row33 := ⟨by kernel_rfl, ⟨Tryz.t33, (Tryz.t33.zero).getD .nilFunc, by kernel_rfl, by kernel_rfl, by kernel_rfl⟩, by kernel_rfl, by kernel_rfl⟩
theorem rowOk34 : RowOk Tryz.prog 34 row34 := ⟨by kernel_rfl, ⟨Tryz.t34, (Tryz.t34.zero).getD .nilFunc, by kernel_rfl, by kernel_rfl, by kernel_rfl⟩, by kernel_rfl, by kernel_rfl⟩
theorem rowOk35 : RowOk Tryz.prog 35 row35 := ⟨by kernel_rfl, ⟨Tryz.t35, (Tryz.t35.zero).getD .nilFunc, by kernel_rfl, by kernel_rfl, by kernel_rfl⟩, by kernel_rfl, by kernel_rfl⟩
theorem rowOk37 : RowOk Tryz.prog 37 row37 := ⟨by kernel_rfl, ⟨Tryz.t37, (Tryz.t37.zero).getD .nilFunc, by kernel_rfl, by kernel_rfl, by kernel_rfl⟩, by kernel_rfl, by kernel_rfl⟩
theorem rowOk42 : RowOk Tryz.prog 42 row42 := ⟨by kernel_rfl, ⟨Tryz.t42, (Tryz.t42.zero).getD .nilFunc, by kernel_rfl, by kernel_rfl, by kernel_rfl⟩, by kernel_rfl, by kernel_rfl⟩
theorem rowOk43 : RowOk Tryz.prog 43 row43 := ⟨by kernel_rfl, ⟨Tryz.t43, (Tryz.t43.zero).getD .nilFunc, by kernel_rfl, by kernel_rfl, by kernel_rfl⟩, by kernel_rfl, by kernel_rfl⟩
theorem rowOk45 : RowOk Tryz.prog 45 row45 := ⟨by kernel_rfl, ⟨Tryz.t45, (Tryz.t45.zero).getD .nilFunc, by kernel_rfl, by kernel_rfl, by kernel_rfl⟩, by kernel_rfl, by kernel_rfl⟩
theorem rowOk59 : RowOk Tryz.prog 59 row59 := ⟨by kernel_rfl, ⟨Tryz.t59, (Tryz.t59.zero).getD .nilFunc, by kernel_rfl, by kernel_rfl, by kernel_rfl⟩, by kernel_rfl, by kernel_rfl⟩
theorem rowOk66 : RowOk Tryz.prog 66 row66 := ⟨by kernel_rfl, ⟨Tryz.t66, (Tryz.t66.zero).getD .nilFunc, by kernel_rfl, by kernel_rfl, by kernel_rfl⟩, by kernel_rfl, by kernel_rfl⟩
theorem rowOk69 : RowOk Tryz.prog 69 row69 := ⟨by kernel_rfl, ⟨Tryz.t69, (Tryz.t69.zero).getD .nilFunc, by kernel_rfl, by kernel_rfl, by kernel_rfl⟩, by kernel_rfl, by kernel_rfl⟩
theorem rowOk70 : RowOk Tryz.prog 70 row70 := ⟨by kernel_rfl, ⟨Tryz.t70, (Tryz.t70.zero).getD .nilFunc, by kernel_rfl, by kernel_rfl, by kernel_rfl⟩, by kernel_rfl, by kernel_rfl⟩
theorem rowOk72 : RowOk Tryz.prog 72 row72 := ⟨by kernel_rfl, ⟨Tryz.t72, (Tryz.t72.zero).getD .nilFunc, by kernel_rfl, by kernel_rfl, by kernel_rfl⟩, by kernel_rfl, by kernel_rfl⟩
theorem rowOk74 : RowOk Tryz.prog 74 row74 := ⟨by kernel_rfl, ⟨Tryz.t74, (Tryz.t74.zero).getD .nilFunc, by kernel_rfl, by kernel_rfl, by kernel_rfl⟩, by kernel_rfl, by kernel_rfl⟩
theorem rowOk91 : RowOk Tryz.prog 91 row91 := ⟨by kernel_rfl, ⟨Tryz.t91, (Tryz.t91.zero).getD .nilFunc, by kernel_rfl, by kernel_rfl, by kernel_rfl⟩, by kernel_rfl, by kernel_rfl⟩
theorem rowOk97 : RowOk Tryz.prog 97 row97 := ⟨by kernel_rfl, ⟨Tryz.t97, (Tryz.t97.zero).getD .nilFunc, by kernel_rfl, by kernel_rfl, by kernel_rfl⟩, by kernel_rfl, by kernel_rfl⟩
theorem rowOk100 : RowOk Tryz.prog 100 row100 := ⟨by kernel_rfl, ⟨Tryz.t100, (Tryz.t100.zero).getD .nilFunc, by kernel_rfl, by kernel_rfl, by kernel_rfl⟩, by kernel_rfl, by kernel_rfl⟩
theorem rowOk102 : RowOk Tryz.prog 102 row102 := ⟨by kernel_rfl, ⟨Tryz.t102, (Tryz.t102.zero).getD .nilFunc, by kernel_rfl, by kernel_rfl, by kernel_rfl⟩, by kernel_rfl, by kernel_rfl⟩
theorem rowOk108 : RowOk Tryz.prog 108 row108 := ⟨by kernel_rfl, ⟨Tryz.t108, (Tryz.t108.zero).getD .nilFunc, by kernel_rfl, by kernel_rfl, by kernel_rfl⟩, by kernel_rfl, by kernel_rfl⟩
theorem rowOk110 : RowOk Tryz.prog 110 row110 := ⟨by kernel_rfl, ⟨Tryz.t110, (Tryz.t110.zero).getD .nilFunc, by kernel_rfl, by kernel_rfl, by kernel_rfl⟩, by kernel_rfl, by kernel_rfl⟩
theorem rowOk112 : RowOk Tryz.prog 112 row112 := ⟨by kernel_rfl, ⟨Tryz.t112, (Tryz.t112.zero).getD .nilFunc, by kernel_rfl, by kernel_rfl, by kernel_rfl⟩, by kernel_rfl, by kernel_rfl⟩
theorem rowOk128 : RowOk Tryz.prog 128 row128 := ⟨by kernel_rfl, ⟨Tryz.t128, (Tryz.t128.zero).getD .nilFunc, by kernel_rfl, by kernel_rfl, by kernel_rfl⟩, by kernel_rfl, by kernel_rfl⟩
theorem rowOk132 : RowOk Tryz.prog 132 row132 := ⟨by kernel_rfl, ⟨Tryz.t132, (Tryz.t132.zero).getD .nilFunc, by kernel_rfl, by kernel_rfl, by kernel_rfl⟩, by kernel_rfl, by kernel_rfl⟩
theorem rowOk177 : RowOk Tryz.prog 177 row177 := ⟨by kernel_rfl, ⟨Tryz.t177, (Tryz.t177.zero).getD .nilFunc, by kernel_rfl, by kernel_rfl, by kernel_rfl⟩, by kernel_rfl, by kernel_rfl⟩
theorem rowOk180 : RowOk Tryz.prog 180 row180 := ⟨by kernel_rfl, ⟨Tryz.t180, (Tryz.t180.zero).getD .nilFunc, by kernel_rfl, by kernel_rfl, by kernel_rfl⟩, by kernel_rfl, by kernel_rfl⟩
theorem rowOk191 : RowOk Tryz.prog 191 row191 := ⟨by kernel_rfl, ⟨Tryz.t191, (Tryz.t191.zero).getD .nilFunc, by kernel_rfl, by kernel_rfl, by kernel_rfl⟩, by kernel_rfl, by kernel_rfl⟩
theorem rowOk243 : RowOk Tryz.prog 243 row243 := ⟨by kernel_rfl, ⟨Tryz.t243, (Tryz.t243.zero).getD .nilFunc, by kernel_rfl, by kernel_rfl, by kernel_rfl⟩, by kernel_rfl, by kernel_rfl⟩
theorem rowOk247 : RowOk Tryz.prog 247 row247 := ⟨by kernel_rfl, ⟨Tryz.t247, (Tryz.t247.zero).getD .nilFunc, by kernel_rfl, by kernel_rfl, by kernel_rfl⟩, by kernel_rfl, by kernel_rfl⟩
theorem rowOk260 : RowOk Tryz.prog 260 row260 := ⟨by kernel_rfl, ⟨Tryz.t260, (Tryz.t260.zero).getD .nilFunc, by kernel_rfl, by kernel_rfl, by kernel_rfl⟩, by kernel_rfl, by kernel_rfl⟩
theorem rowOk261 : RowOk Tryz.prog 261 row261 := ⟨by kernel_rfl, ⟨Tryz.t261, (Tryz.t261.zero).getD .nilFunc, by kernel_rfl, by kernel_rfl, by kernel_rfl⟩, by kernel_rfl, by kernel_rfl⟩
theorem rowOk289 : RowOk Tryz.prog 289 row289 := ⟨by kernel_rfl, ⟨Tryz.t289, (Tryz.t289.zero).getD .nilFunc, by kernel_rfl, by kernel_rfl, by kernel_rfl⟩, by kernel_rfl, by kernel_rfl⟩
theorem rowOk291 : RowOk Tryz.prog 291 row291 := ⟨by kernel_rfl, ⟨Tryz.t291, (Tryz.t291.zero).getD .nilFunc, by kernel_rfl, by kernel_rfl, by kernel_rfl⟩, by kernel_rfl, by kernel_rfl⟩
theorem rowOk313 : RowOk Tryz.prog 313 row313 := ⟨by kernel_rfl, ⟨Tryz.t313, (Tryz.t313.zero).getD .nilFunc, by kernel_rfl, by kernel_rfl, by kernel_rfl⟩, by kernel_rfl, by kernel_rfl⟩
theorem rowOk315 : RowOk Tryz.prog 315 row315 := ⟨by kernel_rfl, ⟨Tryz.t315, (Tryz.t315.zero).getD .nilFunc, by kernel_rfl, by kernel_rfl, by kernel_rfl⟩, by kernel_rfl, by kernel_rfl⟩
theorem rowOk381 : RowOk Tryz.prog 381 row381 := ⟨by kernel_rfl, ⟨Tryz.t381, (Tryz.t381.zero).getD .nilFunc, by kernel_rfl, by kernel_rfl, by kernel_rfl⟩, by kernel_rfl, by kernel_rfl⟩
theorem tok : TblOk Tryz.prog (look tbl) := tblOk (all_cons rowOk3 (all_cons rowOk4 (all_cons rowOk5 (all_cons rowOk9 (all_cons rowOk22 (all_cons rowOk23 (all_cons rowOk25 (all_cons rowOk27 (all_cons rowOk28 (all_cons rowOk30 (all_cons rowOk31 (all_cons rowOk32 (all_cons rowOk33 (all_cons rowOk34 (all_cons rowOk35 (all_cons rowOk37 (all_cons rowOk42 (all_cons rowOk43 (all_cons rowOk45 (all_cons rowOk59 (all_cons rowOk66 (all_cons rowOk69 (all_cons rowOk70 (all_cons rowOk72 (all_cons rowOk74 (all_cons rowOk91 (all_cons rowOk97 (all_cons rowOk100 (all_cons rowOk102 (all_cons rowOk108 (all_cons rowOk110 (all_cons rowOk112 (all_cons rowOk128 (all_cons rowOk132 (all_cons rowOk177 (all_cons rowOk180 (all_cons rowOk191 (all_cons rowOk243 (all_cons rowOk247 (all_cons rowOk260 (all_cons rowOk261 (all_cons rowOk289 (all_cons rowOk291 (all_cons rowOk313 (all_cons rowOk315 (all_cons rowOk381 all_nil))))))))))))))))))))))))))))))))))))))))))))))
theorem mix : Tryz.prog.follows .mixedOrders = true := Checked.mixed Tryz.checked

theorem ok37 : FnOk Tryz.prog 37 sp37 := fnOk (nv := 1) (h := h37) tok mix ctx_nil Tryz.func37 (by kernel_rfl) (by kernel_rfl) (by kernel_rfl) (by kernel_rfl) (by kernel_rfl)
theorem ok328 : FnOk Tryz.prog 328 sp328 := fnOk (nv := 6) (h := h328) tok mix ctx_nil Tryz.func328 (by kernel_rfl) (by kernel_rfl) (by kernel_rfl) (by kernel_rfl) (by kernel_rfl)
theorem ok361 : FnOk Tryz.prog 361 sp361 := fnOk (nv := 9) (h := h361) tok mix ctx_nil Tryz.func361 (by kernel_rfl) (by kernel_rfl) (by kernel_rfl) (by kernel_rfl) (by kernel_rfl)
theorem ok329 : FnOk Tryz.prog 329 sp329 := fnOk (nv := 12) (h := h329) tok mix (ctx_cons ok361 ctx_nil) Tryz.func329 (by kernel_rfl) (by kernel_rfl) (by kernel_rfl) (by kernel_rfl) (by kernel_rfl)
theorem ok275 : FnOk Tryz.prog 275 sp275 := fnOk (nv := 6) (h := h275) tok mix (ctx_cons ok328 (ctx_cons ok329 ctx_nil)) Tryz.func275 (by kernel_rfl) (by kernel_rfl) (by kernel_rfl) (by kernel_rfl) (by kernel_rfl)
theorem ok201 : FnOk Tryz.prog 201 sp201 := fnOk (nv := 5) (h := h201) tok mix (ctx_cons ok275 ctx_nil) Tryz.func201 (by kernel_rfl) (by kernel_rfl) (by kernel_rfl) (by kernel_rfl) (by kernel_rfl)
theorem ok120 : FnOk Tryz.prog 120 sp120 := fnOk (nv := 14) (h := h120) tok mix (ctx_cons ok201 ctx_nil) Tryz.func120 (by kernel_rfl) (by kernel_rfl) (by kernel_rfl) (by kernel_rfl) (by kernel_rfl)
theorem ok289 : FnOk Tryz.prog 289 sp289 := fnOk (nv := 2) (h := h289) tok mix ctx_nil Tryz.func289 (by kernel_rfl) (by kernel_rfl) (by kernel_rfl) (by kernel_rfl) (by kernel_rfl)
theorem ok315 : FnOk Tryz.prog 315 sp315 := fnOk (nv := 3) (h := h315) tok mix (ctx_cons ok289 ctx_nil) Tryz.func315 (by kernel_rfl) (by kernel_rfl) (by kernel_rfl) (by kernel_rfl) (by kernel_rfl)
theorem ok256 : FnOk Tryz.prog 256 sp256 := fnOk (nv := 5) (h := h256) tok mix (ctx_cons ok289 (ctx_cons ok315 ctx_nil)) Tryz.func256 (by kernel_rfl) (by kernel_rfl) (by kernel_rfl) (by kernel_rfl) (by kernel_rfl)
theorem ok276 : FnOk Tryz.prog 276 sp276 := fnOk (nv := 13) (h := h276) tok mix ctx_nil Tryz.func276 (by kernel_rfl) (by kernel_rfl) (by kernel_rfl) (by kernel_rfl) (by kernel_rfl)
theorem ok362 : FnOk Tryz.prog 362 sp362 := fnOk (nv := 2) (h := h362) tok mix ctx_nil Tryz.func362 (by kernel_rfl) (by kernel_rfl) (by kernel_rfl) (by kernel_rfl) (by kernel_rfl)
theorem ok330 : FnOk Tryz.prog 330 sp330 := fnOk (nv := 2) (h := h330) tok mix (ctx_cons ok362 ctx_nil) Tryz.func330 (by kernel_rfl) (by kernel_rfl) (by kernel_rfl) (by kernel_rfl) (by kernel_rfl)
theorem ok277 : FnOk Tryz.prog 277 sp277 := fnOk (nv := 4) (h := h277) tok mix (ctx_cons ok330 ctx_nil) Tryz.func277 (by kernel_rfl) (by kernel_rfl) (by kernel_rfl) (by kernel_rfl) (by kernel_rfl)
theorem ok202 : FnOk Tryz.prog 202 sp202 := fnOk (nv := 16) (h := h202) tok mix (ctx_cons ok256 (ctx_cons ok276 (ctx_cons ok277 ctx_nil))) Tryz.func202 (by kernel_rfl) (by kernel_rfl) (by kernel_rfl) (by kernel_rfl) (by kernel_rfl)
theorem ok121 : FnOk Tryz.prog 121 sp121 := fnOk (nv := 7) (h := h121) tok mix (ctx_cons ok202 ctx_nil) Tryz.func121 (by kernel_rfl) (by kernel_rfl) (by kernel_rfl) (by kernel_rfl) (by kernel_rfl)
theorem ok224 : FnOk Tryz.prog 224 sp224 := fnOk (nv := 9) (h := h224) tok mix (ctx_cons ok256 ctx_nil) Tryz.func224 (by kernel_rfl) (by kernel_rfl) (by kernel_rfl) (by kernel_rfl) (by kernel_rfl)
theorem ok145 : FnOk Tryz.prog 145 sp145 := fnOk (nv := 12) (h := h145) tok mix (ctx_cons ok224 ctx_nil) Tryz.func145 (by kernel_rfl) (by kernel_rfl) (by kernel_rfl) (by kernel_rfl) (by kernel_rfl)
theorem ok278 : FnOk Tryz.prog 278 sp278 := fnOk (nv := 4) (h := h278) tok mix (ctx_cons ok201 ctx_nil) Tryz.func278 (by kernel_rfl) (by kernel_rfl) (by kernel_rfl) (by kernel_rfl) (by kernel_rfl)
theorem ok229_ne : FnOk Tryz.prog 229 sp229_ne := fnOk (nv := 1) (h := h229) tok mix ctx_nil Tryz.func229 (by kernel_rfl) (by kernel_rfl) (by kernel_rfl) (by kernel_rfl) (by kernel_rfl)
set_option maxHeartbeats 2000000 in
theorem walk229 (p : Option Addr) (cap : Nat) (w : World) : Calls Tryz.prog 229 #[.slice p 0 cap] w fun e w' => ∃ p', e = .returned (.slice p' 0 0) ∧ RowKit.Below w.heap.size w w' ∧ w.drawn ≤ w'.drawn := by
  have q := q_nil (P := Tryz.prog) (t := 70) rowOk70.und
  cases p with
  | none =>
    go_enter Tryz.func229, Tryz.ntmps229
    go_wp2
    go_ret
    exact ⟨_, rfl, .refl _ _, Nat.le_refl _⟩
  | some p =>
    go_enter Tryz.func229, Tryz.ntmps229
    go_wp2
    go_ret
    exact ⟨_, rfl, (RowKit.Below.refl _ w).alloc (Nat.le_refl _) _, Nat.le_refl _⟩
theorem ok229 : FnOk Tryz.prog 229 sp229 := clone_ok ok229_ne walk229
theorem ok331 : FnOk Tryz.prog 331 sp331 := fnOk (nv := 9) (h := h331) tok mix ctx_nil Tryz.func331 (by kernel_rfl) (by kernel_rfl) (by kernel_rfl) (by kernel_rfl) (by kernel_rfl)
theorem ok332 : FnOk Tryz.prog 332 sp332 := fnOk (nv := 3) (h := h332) tok mix ctx_nil Tryz.func332 (by kernel_rfl) (by kernel_rfl) (by kernel_rfl) (by kernel_rfl) (by kernel_rfl)
theorem ok279 : FnOk Tryz.prog 279 sp279 := fnOk (nv := 8) (h := h279) tok mix (ctx_cons ok229 (ctx_cons ok331 (ctx_cons ok332 ctx_nil))) Tryz.func279 (by kernel_rfl) (by kernel_rfl) (by kernel_rfl) (by kernel_rfl) (by kernel_rfl)
theorem ok340 : FnOk Tryz.prog 340 sp340 := fnOk (nv := 14) (h := h340) tok mix ctx_nil Tryz.func340 (by kernel_rfl) (by kernel_rfl) (by kernel_rfl) (by kernel_rfl) (by kernel_rfl)
theorem ok251 : FnOk Tryz.prog 251 sp251 := fnOk (nv := 3) (h := h251) tok mix ctx_nil Tryz.func251 (by kernel_rfl) (by kernel_rfl) (by kernel_rfl) (by kernel_rfl) (by kernel_rfl)
theorem ok373 : FnOk Tryz.prog 373 sp373 := fnOk (nv := 1) (h := h373) tok mix (ctx_cons ok251 ctx_nil) Tryz.func373 (by kernel_rfl) (by kernel_rfl) (by kernel_rfl) (by kernel_rfl) (by kernel_rfl)
theorem ok363 : FnOk Tryz.prog 363 sp363 := fnOk (nv := 19) (h := h363) tok mix (ctx_cons ok373 ctx_nil) Tryz.func363 (by kernel_rfl) (by kernel_rfl) (by kernel_rfl) (by kernel_rfl) (by kernel_rfl)
theorem ok333 : FnOk Tryz.prog 333 sp333 := fnOk (nv := 8) (h := h333) tok mix (ctx_cons ok340 (ctx_cons ok363 ctx_nil)) Tryz.func333 (by kernel_rfl) (by kernel_rfl) (by kernel_rfl) (by kernel_rfl) (by kernel_rfl)
theorem ok280 : FnOk Tryz.prog 280 sp280 := fnOk (nv := 5) (h := h280) tok mix (ctx_cons ok289 (ctx_cons ok315 (ctx_cons ok333 ctx_nil))) Tryz.func280 (by kernel_rfl) (by kernel_rfl) (by kernel_rfl) (by kernel_rfl) (by kernel_rfl)
theorem ok203 : FnOk Tryz.prog 203 sp203 := fnOk (nv := 15) (h := h203) tok mix (ctx_cons ok145 (ctx_cons ok278 (ctx_cons ok279 (ctx_cons ok280 ctx_nil)))) Tryz.func203 (by kernel_rfl) (by kernel_rfl) (by kernel_rfl) (by kernel_rfl) (by kernel_rfl)
theorem ok204 : FnOk Tryz.prog 204 sp204 := fnOk (nv := 2) (h := h204) tok mix ctx_nil Tryz.func204 (by kernel_rfl) (by kernel_rfl) (by kernel_rfl) (by kernel_rfl) (by kernel_rfl)
theorem ok122 : FnOk Tryz.prog 122 sp122 := fnOk (nv := 7) (h := h122) tok mix (ctx_cons ok203 (ctx_cons ok204 ctx_nil)) Tryz.func122 (by kernel_rfl) (by kernel_rfl) (by kernel_rfl) (by kernel_rfl) (by kernel_rfl)
shelf_lay_g Go.Proofs.SlLaysF0.n6 Slsf 6 at Tryz 123 as lay123
theorem ok123 : FnOk Tryz.prog 123 sp123 := sortG_ok (ρ := lay123_ren) (n := 18) lay123 (by intro w; kernel_rfl) (by intro w; kernel_rfl) (by kernel_rfl) (Nat.blt_eq.mp (by kernel_rfl)) ⟨Tryz.f123, by kernel_rfl, by kernel_rfl, by kernel_rfl⟩
theorem ok68 : FnOk Tryz.prog 68 sp68 := fnOk (nv := 9) (h := h68) tok mix ctx_nil Tryz.func68 (by kernel_rfl) (by kernel_rfl) (by kernel_rfl) (by kernel_rfl) (by kernel_rfl)
theorem ok225 : FnOk Tryz.prog 225 sp225 := fnOk (nv := 1) (h := h225) tok mix ctx_nil Tryz.func225 (by kernel_rfl) (by kernel_rfl) (by kernel_rfl) (by kernel_rfl) (by kernel_rfl)
theorem ok146 : FnOk Tryz.prog 146 sp146 := fnOk (nv := 7) (h := h146) tok mix (ctx_cons ok225 ctx_nil) Tryz.func146 (by kernel_rfl) (by kernel_rfl) (by kernel_rfl) (by kernel_rfl) (by kernel_rfl)
theorem ok291 : FnOk Tryz.prog 291 sp291 := fnOk (nv := 9) (h := h291) tok mix (ctx_cons ok340 ctx_nil) Tryz.func291 (by kernel_rfl) (by kernel_rfl) (by kernel_rfl) (by kernel_rfl) (by kernel_rfl)
theorem ok337 : FnOk Tryz.prog 337 sp337 := fnOk (nv := 9) (h := h337) tok mix ctx_nil Tryz.func337 (by kernel_rfl) (by kernel_rfl) (by kernel_rfl) (by kernel_rfl) (by kernel_rfl)
theorem ok338 : FnOk Tryz.prog 338 sp338 := fnOk (nv := 2) (h := h338) tok mix ctx_nil Tryz.func338 (by kernel_rfl) (by kernel_rfl) (by kernel_rfl) (by kernel_rfl) (by kernel_rfl)
theorem ok339 : FnOk Tryz.prog 339 sp339 := fnOk (nv := 2) (h := h339) tok mix ctx_nil Tryz.func339 (by kernel_rfl) (by kernel_rfl) (by kernel_rfl) (by kernel_rfl) (by kernel_rfl)
theorem ok290 : FnOk Tryz.prog 290 sp290 := fnOk (nv := 7) (h := h290) tok mix (ctx_cons ok291 (ctx_cons ok337 (ctx_cons ok338 (ctx_cons ok339 ctx_nil)))) Tryz.func290 (by kernel_rfl) (by kernel_rfl) (by kernel_rfl) (by kernel_rfl) (by kernel_rfl)
theorem ok206 : FnOk Tryz.prog 206 sp206 := fnOk (nv := 8) (h := h206) tok mix (ctx_cons ok289 (ctx_cons ok290 (ctx_cons ok291 ctx_nil))) Tryz.func206 (by kernel_rfl) (by kernel_rfl) (by kernel_rfl) (by kernel_rfl) (by kernel_rfl)
theorem ok124 : FnOk Tryz.prog 124 sp124 := fnOk (nv := 4) (h := h124) tok mix (ctx_cons ok68 (ctx_cons ok146 (ctx_cons ok206 ctx_nil))) Tryz.func124 (by kernel_rfl) (by kernel_rfl) (by kernel_rfl) (by kernel_rfl) (by kernel_rfl)
theorem ok59 : FnOk Tryz.prog 59 sp59 := fnOk (nv := 44) (h := h59) tok mix (ctx_cons ok120 (ctx_cons ok121 (ctx_cons ok122 (ctx_cons ok123 (ctx_cons ok124 ctx_nil))))) Tryz.func59 (by kernel_rfl) (by kernel_rfl) (by kernel_rfl) (by kernel_rfl) (by kernel_rfl)
theorem ok119_r : ∀ n, FnOk Tryz.prog 119 (sp119_r n)
  | 0 => ⟨⟨Tryz.f119, by kernel_rfl, by kernel_rfl, by kernel_rfl⟩, fun a r hr => nomatch (show (none : Option _) = some r from hr)⟩
  | n + 1 => fnOk (nv := 29) (h := h119) tok mix (ctx_cons (ok119_r n) (ctx_cons ok59 ctx_nil)) Tryz.func119 (by kernel_rfl) (by kernel_rfl) (by kernel_rfl) (by kernel_rfl) (by kernel_rfl)
theorem ok119 : FnOk Tryz.prog 119 sp119 := ok119_r 64
theorem ok58 : FnOk Tryz.prog 58 sp58 := fnOk (nv := 3) (h := h58) tok mix (ctx_cons ok119 ctx_nil) Tryz.func58 (by kernel_rfl) (by kernel_rfl) (by kernel_rfl) (by kernel_rfl) (by kernel_rfl)
theorem ok15 : FnOk Tryz.prog 15 sp15 := fnOk (nv := 0) (h := h15) tok mix (ctx_cons ok37 (ctx_cons ok58 (ctx_cons ok59 ctx_nil))) Tryz.func15 (by kernel_rfl) (by kernel_rfl) (by kernel_rfl) (by kernel_rfl) (by kernel_rfl)
theorem ok16 : FnOk Tryz.prog 16 sp16 := fnOk (nv := 2) (h := h16) tok mix ctx_nil Tryz.func16 (by kernel_rfl) (by kernel_rfl) (by kernel_rfl) (by kernel_rfl) (by kernel_rfl)
theorem ok95 : FnOk Tryz.prog 95 sp95 := fnOk (nv := 7) (h := h95) tok mix ctx_nil Tryz.func95 (by kernel_rfl) (by kernel_rfl) (by kernel_rfl) (by kernel_rfl) (by kernel_rfl)
theorem ok171 : FnOk Tryz.prog 171 sp171 := fnOk (nv := 1) (h := h171) tok mix ctx_nil Tryz.func171 (by kernel_rfl) (by kernel_rfl) (by kernel_rfl) (by kernel_rfl) (by kernel_rfl)
theorem ok172 : FnOk Tryz.prog 172 sp172 := fnOk (nv := 7) (h := h172) tok mix ctx_nil Tryz.func172 (by kernel_rfl) (by kernel_rfl) (by kernel_rfl) (by kernel_rfl) (by kernel_rfl)
theorem ok101 : FnOk Tryz.prog 101 sp101 := fnOk (nv := 8) (h := h101) tok mix (ctx_cons ok95 (ctx_cons ok171 (ctx_cons ok172 ctx_nil))) Tryz.func101 (by kernel_rfl) (by kernel_rfl) (by kernel_rfl) (by kernel_rfl) (by kernel_rfl)
theorem ok20 : FnOk Tryz.prog 20 sp20 := fnOk (nv := 7) (h := h20) tok mix ctx_nil Tryz.func20 (by kernel_rfl) (by kernel_rfl) (by kernel_rfl) (by kernel_rfl) (by kernel_rfl)
theorem ok21 : FnOk Tryz.prog 21 sp21 := fnOk (nv := 2) (h := h21) tok mix ctx_nil Tryz.func21 (by kernel_rfl) (by kernel_rfl) (by kernel_rfl) (by kernel_rfl) (by kernel_rfl)
theorem ok111 : FnOk Tryz.prog 111 sp111 := fnOk (nv := 8) (h := h111) tok mix ctx_nil Tryz.func111 (by kernel_rfl) (by kernel_rfl) (by kernel_rfl) (by kernel_rfl) (by kernel_rfl)
theorem ok113 : FnOk Tryz.prog 113 sp113 := fnOk (nv := 4) (h := h113) tok mix ctx_nil Tryz.func113 (by kernel_rfl) (by kernel_rfl) (by kernel_rfl) (by kernel_rfl) (by kernel_rfl)
theorem ok135 : FnOk Tryz.prog 135 sp135 := fnOk (nv := 7) (h := h135) tok mix (ctx_cons ok113 ctx_nil) Tryz.func135 (by kernel_rfl) (by kernel_rfl) (by kernel_rfl) (by kernel_rfl) (by kernel_rfl)
theorem ok64 : FnOk Tryz.prog 64 sp64 := fnOk (nv := 3) (h := h64) tok mix (ctx_cons ok111 (ctx_cons ok135 ctx_nil)) Tryz.func64 (by kernel_rfl) (by kernel_rfl) (by kernel_rfl) (by kernel_rfl) (by kernel_rfl)
theorem ok100 : FnOk Tryz.prog 100 sp100 := fnOk (nv := 7) (h := h100) tok mix ctx_nil Tryz.func100 (by kernel_rfl) (by kernel_rfl) (by kernel_rfl) (by kernel_rfl) (by kernel_rfl)
theorem ok173 : FnOk Tryz.prog 173 sp173 := fnOk (nv := 1) (h := h173) tok mix ctx_nil Tryz.func173 (by kernel_rfl) (by kernel_rfl) (by kernel_rfl) (by kernel_rfl) (by kernel_rfl)
theorem ok174 : FnOk Tryz.prog 174 sp174 := fnOk (nv := 6) (h := h174) tok mix (ctx_cons ok21 ctx_nil) Tryz.func174 (by kernel_rfl) (by kernel_rfl) (by kernel_rfl) (by kernel_rfl) (by kernel_rfl)
theorem ok175 : FnOk Tryz.prog 175 sp175 := fnOk (nv := 2) (h := h175) tok mix ctx_nil Tryz.func175 (by kernel_rfl) (by kernel_rfl) (by kernel_rfl) (by kernel_rfl) (by kernel_rfl)
theorem ok102 : FnOk Tryz.prog 102 sp102 := fnOk (nv := 10) (h := h102) tok mix (ctx_cons ok20 (ctx_cons ok21 (ctx_cons ok64 (ctx_cons ok100 (ctx_cons ok173 (ctx_cons ok174 (ctx_cons ok175 ctx_nil))))))) Tryz.func102 (by kernel_rfl) (by kernel_rfl) (by kernel_rfl) (by kernel_rfl) (by kernel_rfl)
theorem ok252 : FnOk Tryz.prog 252 sp252 := fnOk (nv := 4) (h := h252) tok mix ctx_nil Tryz.func252 (by kernel_rfl) (by kernel_rfl) (by kernel_rfl) (by kernel_rfl) (by kernel_rfl)
theorem ok167 : FnOk Tryz.prog 167 sp167 := fnOk (nv := 6) (h := h167) tok mix (ctx_cons ok252 ctx_nil) Tryz.func167 (by kernel_rfl) (by kernel_rfl) (by kernel_rfl) (by kernel_rfl) (by kernel_rfl)
theorem ok253 : FnOk Tryz.prog 253 sp253 := fnOk (nv := 6) (h := h253) tok mix (ctx_cons ok252 ctx_nil) Tryz.func253 (by kernel_rfl) (by kernel_rfl) (by kernel_rfl) (by kernel_rfl) (by kernel_rfl)
theorem ok168 : FnOk Tryz.prog 168 sp168 := fnOk (nv := 10) (h := h168) tok mix (ctx_cons ok111 (ctx_cons ok113 (ctx_cons ok253 ctx_nil))) Tryz.func168 (by kernel_rfl) (by kernel_rfl) (by kernel_rfl) (by kernel_rfl) (by kernel_rfl)
theorem ok169 : FnOk Tryz.prog 169 sp169 := fnOk (nv := 9) (h := h169) tok mix (ctx_cons ok111 (ctx_cons ok135 ctx_nil)) Tryz.func169 (by kernel_rfl) (by kernel_rfl) (by kernel_rfl) (by kernel_rfl) (by kernel_rfl)
theorem ok91 : FnOk Tryz.prog 91 sp91 := fnOk (nv := 5) (h := h91) tok mix (ctx_cons ok167 (ctx_cons ok168 (ctx_cons ok169 ctx_nil))) Tryz.func91 (by kernel_rfl) (by kernel_rfl) (by kernel_rfl) (by kernel_rfl) (by kernel_rfl)
theorem ok132 : FnOk Tryz.prog 132 sp132 := fnOk (nv := 6) (h := h132) tok mix ctx_nil Tryz.func132 (by kernel_rfl) (by kernel_rfl) (by kernel_rfl) (by kernel_rfl) (by kernel_rfl)
theorem ok292 : FnOk Tryz.prog 292 sp292 := fnOk (nv := 8) (h := h292) tok mix ctx_nil Tryz.func292 (by kernel_rfl) (by kernel_rfl) (by kernel_rfl) (by kernel_rfl) (by kernel_rfl)
theorem ok293 : FnOk Tryz.prog 293 sp293 := fnOk (nv := 6) (h := h293) tok mix (ctx_cons ok292 ctx_nil) Tryz.func293 (by kernel_rfl) (by kernel_rfl) (by kernel_rfl) (by kernel_rfl) (by kernel_rfl)
theorem ok341 : FnOk Tryz.prog 341 sp341 := fnOk (nv := 6) (h := h341) tok mix ctx_nil Tryz.func341 (by kernel_rfl) (by kernel_rfl) (by kernel_rfl) (by kernel_rfl) (by kernel_rfl)
theorem ok342 : FnOk Tryz.prog 342 sp342 := fnOk (nv := 8) (h := h342) tok mix (ctx_cons ok341 ctx_nil) Tryz.func342 (by kernel_rfl) (by kernel_rfl) (by kernel_rfl) (by kernel_rfl) (by kernel_rfl)
theorem ok294 : FnOk Tryz.prog 294 sp294 := fnOk (nv := 11) (h := h294) tok mix (ctx_cons ok341 (ctx_cons ok342 ctx_nil)) Tryz.func294 (by kernel_rfl) (by kernel_rfl) (by kernel_rfl) (by kernel_rfl) (by kernel_rfl)
theorem ok207 : FnOk Tryz.prog 207 sp207 := fnOk (nv := 12) (h := h207) tok mix (ctx_cons ok292 (ctx_cons ok293 (ctx_cons ok294 ctx_nil))) Tryz.func207 (by kernel_rfl) (by kernel_rfl) (by kernel_rfl) (by kernel_rfl) (by kernel_rfl)
theorem ok125 : FnOk Tryz.prog 125 sp125 := fnOk (nv := 10) (h := h125) tok mix (ctx_cons ok21 (ctx_cons ok64 (ctx_cons ok91 (ctx_cons ok132 (ctx_cons ok207 ctx_nil))))) Tryz.func125 (by kernel_rfl) (by kernel_rfl) (by kernel_rfl) (by kernel_rfl) (by kernel_rfl)
theorem ok31 : FnOk Tryz.prog 31 sp31 := fnOk (nv := 7) (h := h31) tok mix ctx_nil Tryz.func31 (by kernel_rfl) (by kernel_rfl) (by kernel_rfl) (by kernel_rfl) (by kernel_rfl)
theorem ok116 : FnOk Tryz.prog 116 sp116 := fnOk (nv := 7) (h := h116) tok mix ctx_nil Tryz.func116 (by kernel_rfl) (by kernel_rfl) (by kernel_rfl) (by kernel_rfl) (by kernel_rfl)
theorem ok42 : FnOk Tryz.prog 42 sp42 := fnOk (nv := 4) (h := h42) tok mix ctx_nil Tryz.func42 (by kernel_rfl) (by kernel_rfl) (by kernel_rfl) (by kernel_rfl) (by kernel_rfl)
theorem ok107 : FnOk Tryz.prog 107 sp107 := fnOk (nv := 5) (h := h107) tok mix ctx_nil Tryz.func107 (by kernel_rfl) (by kernel_rfl) (by kernel_rfl) (by kernel_rfl) (by kernel_rfl)
theorem ok109 : FnOk Tryz.prog 109 sp109 := fnOk (nv := 5) (h := h109) tok mix ctx_nil Tryz.func109 (by kernel_rfl) (by kernel_rfl) (by kernel_rfl) (by kernel_rfl) (by kernel_rfl)
theorem ok108 : FnOk Tryz.prog 108 sp108 := fnOk (nv := 7) (h := h108) tok mix (ctx_cons ok109 ctx_nil) Tryz.func108 (by kernel_rfl) (by kernel_rfl) (by kernel_rfl) (by kernel_rfl) (by kernel_rfl)
theorem ok43 : FnOk Tryz.prog 43 sp43 := fnOk (nv := 6) (h := h43) tok mix (ctx_cons ok95 (ctx_cons ok107 (ctx_cons ok108 ctx_nil))) Tryz.func43 (by kernel_rfl) (by kernel_rfl) (by kernel_rfl) (by kernel_rfl) (by kernel_rfl)
theorem ok47 : FnOk Tryz.prog 47 sp47 := fnOk (nv := 4) (h := h47) tok mix (ctx_cons ok113 ctx_nil) Tryz.func47 (by kernel_rfl) (by kernel_rfl) (by kernel_rfl) (by kernel_rfl) (by kernel_rfl)
theorem ok114 : FnOk Tryz.prog 114 sp114 := fnOk (nv := 7) (h := h114) tok mix (ctx_cons ok47 ctx_nil) Tryz.func114 (by kernel_rfl) (by kernel_rfl) (by kernel_rfl) (by kernel_rfl) (by kernel_rfl)
theorem ok97 : FnOk Tryz.prog 97 sp97 := fnOk (nv := 14) (h := h97) tok mix (ctx_cons ok20 (ctx_cons ok109 (ctx_cons ok114 ctx_nil))) Tryz.func97 (by kernel_rfl) (by kernel_rfl) (by kernel_rfl) (by kernel_rfl) (by kernel_rfl)
theorem ok32 : FnOk Tryz.prog 32 sp32 := fnOk (nv := 7) (h := h32) tok mix (ctx_cons ok97 ctx_nil) Tryz.func32 (by kernel_rfl) (by kernel_rfl) (by kernel_rfl) (by kernel_rfl) (by kernel_rfl)
theorem ok75 : FnOk Tryz.prog 75 sp75 := fnOk (nv := 7) (h := h75) tok mix (ctx_cons ok109 ctx_nil) Tryz.func75 (by kernel_rfl) (by kernel_rfl) (by kernel_rfl) (by kernel_rfl) (by kernel_rfl)
theorem ok268 : FnOk Tryz.prog 268 sp268 := fnOk (nv := 1) (h := h268) tok mix ctx_nil Tryz.func268 (by kernel_rfl) (by kernel_rfl) (by kernel_rfl) (by kernel_rfl) (by kernel_rfl)
theorem ok190 : FnOk Tryz.prog 190 sp190 := fnOk (nv := 2) (h := h190) tok mix (ctx_cons ok268 ctx_nil) Tryz.func190 (by kernel_rfl) (by kernel_rfl) (by kernel_rfl) (by kernel_rfl) (by kernel_rfl)
theorem ok191 : FnOk Tryz.prog 191 sp191 := fnOk (nv := 2) (h := h191) tok mix ctx_nil Tryz.func191 (by kernel_rfl) (by kernel_rfl) (by kernel_rfl) (by kernel_rfl) (by kernel_rfl)
theorem ok112 : FnOk Tryz.prog 112 sp112 := fnOk (nv := 7) (h := h112) tok mix (ctx_cons ok190 (ctx_cons ok191 ctx_nil)) Tryz.func112 (by kernel_rfl) (by kernel_rfl) (by kernel_rfl) (by kernel_rfl) (by kernel_rfl)
theorem ok98 : FnOk Tryz.prog 98 sp98 := fnOk (nv := 17) (h := h98) tok mix (ctx_cons ok47 (ctx_cons ok75 (ctx_cons ok111 (ctx_cons ok112 ctx_nil)))) Tryz.func98 (by kernel_rfl) (by kernel_rfl) (by kernel_rfl) (by kernel_rfl) (by kernel_rfl)
theorem ok48 : FnOk Tryz.prog 48 sp48 := fnOk (nv := 7) (h := h48) tok mix (ctx_cons ok98 ctx_nil) Tryz.func48 (by kernel_rfl) (by kernel_rfl) (by kernel_rfl) (by kernel_rfl) (by kernel_rfl)
theorem ok110 : FnOk Tryz.prog 110 sp110 := fnOk (nv := 8) (h := h110) tok mix (ctx_cons ok109 ctx_nil) Tryz.func110 (by kernel_rfl) (by kernel_rfl) (by kernel_rfl) (by kernel_rfl) (by kernel_rfl)
theorem ok44 : FnOk Tryz.prog 44 sp44 := fnOk (nv := 12) (h := h44) tok mix (ctx_cons ok32 (ctx_cons ok42 (ctx_cons ok47 (ctx_cons ok48 (ctx_cons ok75 (ctx_cons ok107 (ctx_cons ok109 (ctx_cons ok110 ctx_nil)))))))) Tryz.func44 (by kernel_rfl) (by kernel_rfl) (by kernel_rfl) (by kernel_rfl) (by kernel_rfl)
theorem ok192 : FnOk Tryz.prog 192 sp192 := fnOk (nv := 7) (h := h192) tok mix ctx_nil Tryz.func192 (by kernel_rfl) (by kernel_rfl) (by kernel_rfl) (by kernel_rfl) (by kernel_rfl)
theorem ok269 : FnOk Tryz.prog 269 sp269 := fnOk (nv := 4) (h := h269) tok mix ctx_nil Tryz.func269 (by kernel_rfl) (by kernel_rfl) (by kernel_rfl) (by kernel_rfl) (by kernel_rfl)
theorem ok193 : FnOk Tryz.prog 193 sp193 := fnOk (nv := 8) (h := h193) tok mix (ctx_cons ok269 ctx_nil) Tryz.func193 (by kernel_rfl) (by kernel_rfl) (by kernel_rfl) (by kernel_rfl) (by kernel_rfl)
theorem ok35 : FnOk Tryz.prog 35 sp35 := fnOk (nv := 7) (h := h35) tok mix (ctx_cons ok98 ctx_nil) Tryz.func35 (by kernel_rfl) (by kernel_rfl) (by kernel_rfl) (by kernel_rfl) (by kernel_rfl)
theorem ok194 : FnOk Tryz.prog 194 sp194 := fnOk (nv := 6) (h := h194) tok mix (ctx_cons ok32 (ctx_cons ok35 (ctx_cons ok42 (ctx_cons ok109 ctx_nil)))) Tryz.func194 (by kernel_rfl) (by kernel_rfl) (by kernel_rfl) (by kernel_rfl) (by kernel_rfl)
theorem ok45 : FnOk Tryz.prog 45 sp45 := fnOk (nv := 9) (h := h45) tok mix (ctx_cons ok97 ctx_nil) Tryz.func45 (by kernel_rfl) (by kernel_rfl) (by kernel_rfl) (by kernel_rfl) (by kernel_rfl)
theorem ok46 : FnOk Tryz.prog 46 sp46 := fnOk (nv := 10) (h := h46) tok mix (ctx_cons ok35 (ctx_cons ok111 (ctx_cons ok112 ctx_nil))) Tryz.func46 (by kernel_rfl) (by kernel_rfl) (by kernel_rfl) (by kernel_rfl) (by kernel_rfl)
theorem ok195 : FnOk Tryz.prog 195 sp195 := fnOk (nv := 5) (h := h195) tok mix (ctx_cons ok42 (ctx_cons ok45 (ctx_cons ok46 ctx_nil))) Tryz.func195 (by kernel_rfl) (by kernel_rfl) (by kernel_rfl) (by kernel_rfl) (by kernel_rfl)
theorem ok196 : FnOk Tryz.prog 196 sp196 := fnOk (nv := 7) (h := h196) tok mix ctx_nil Tryz.func196 (by kernel_rfl) (by kernel_rfl) (by kernel_rfl) (by kernel_rfl) (by kernel_rfl)
theorem ok270 : FnOk Tryz.prog 270 sp270 := fnOk (nv := 10) (h := h270) tok mix ctx_nil Tryz.func270 (by kernel_rfl) (by kernel_rfl) (by kernel_rfl) (by kernel_rfl) (by kernel_rfl)
theorem ok197 : FnOk Tryz.prog 197 sp197 := fnOk (nv := 12) (h := h197) tok mix (ctx_cons ok100 (ctx_cons ok270 ctx_nil)) Tryz.func197 (by kernel_rfl) (by kernel_rfl) (by kernel_rfl) (by kernel_rfl) (by kernel_rfl)
theorem ok117 : FnOk Tryz.prog 117 sp117 := fnOk (nv := 16) (h := h117) tok mix (ctx_cons ok20 (ctx_cons ok21 (ctx_cons ok42 (ctx_cons ok43 (ctx_cons ok44 (ctx_cons ok192 (ctx_cons ok193 (ctx_cons ok194 (ctx_cons ok195 (ctx_cons ok196 (ctx_cons ok197 ctx_nil))))))))))) Tryz.func117 (by kernel_rfl) (by kernel_rfl) (by kernel_rfl) (by kernel_rfl) (by kernel_rfl)
theorem ok384 : FnOk Tryz.prog 384 sp384 := fnOk (nv := 12) (h := h384) tok mix ctx_nil Tryz.func384 (by kernel_rfl) (by kernel_rfl) (by kernel_rfl) (by kernel_rfl) (by kernel_rfl)
theorem ok379 : FnOk Tryz.prog 379 sp379 := fnOk (nv := 9) (h := h379) tok mix (ctx_cons ok384 ctx_nil) Tryz.func379 (by kernel_rfl) (by kernel_rfl) (by kernel_rfl) (by kernel_rfl) (by kernel_rfl)
theorem ok380 : FnOk Tryz.prog 380 sp380 := fnOk (nv := 7) (h := h380) tok mix (ctx_cons ok379 ctx_nil) Tryz.func380 (by kernel_rfl) (by kernel_rfl) (by kernel_rfl) (by kernel_rfl) (by kernel_rfl)
theorem ok372 : FnOk Tryz.prog 372 sp372 := fnOk (nv := 8) (h := h372) tok mix (ctx_cons ok190 (ctx_cons ok379 (ctx_cons ok380 ctx_nil))) Tryz.func372 (by kernel_rfl) (by kernel_rfl) (by kernel_rfl) (by kernel_rfl) (by kernel_rfl)
theorem ok360 : FnOk Tryz.prog 360 sp360 := fnOk (nv := 5) (h := h360) tok mix (ctx_cons ok32 (ctx_cons ok35 (ctx_cons ok372 ctx_nil))) Tryz.func360 (by kernel_rfl) (by kernel_rfl) (by kernel_rfl) (by kernel_rfl) (by kernel_rfl)
theorem ok327 : FnOk Tryz.prog 327 sp327 := fnOk (nv := 11) (h := h327) tok mix (ctx_cons ok135 (ctx_cons ok360 ctx_nil)) Tryz.func327 (by kernel_rfl) (by kernel_rfl) (by kernel_rfl) (by kernel_rfl) (by kernel_rfl)
theorem ok271_r : ∀ n, FnOk Tryz.prog 271 (sp271_r n)
  | 0 => ⟨⟨Tryz.f271, by kernel_rfl, by kernel_rfl, by kernel_rfl⟩, fun a r hr => nomatch (show (none : Option _) = some r from hr)⟩
  | n + 1 => fnOk (nv := 10) (h := h271) tok mix (ctx_cons (ok271_r n) (ctx_cons ok327 ctx_nil)) Tryz.func271 (by kernel_rfl) (by kernel_rfl) (by kernel_rfl) (by kernel_rfl) (by kernel_rfl)
theorem ok271 : FnOk Tryz.prog 271 sp271 := ok271_r 64
theorem ok198 : FnOk Tryz.prog 198 sp198 := fnOk (nv := 3) (h := h198) tok mix (ctx_cons ok271 ctx_nil) Tryz.func198 (by kernel_rfl) (by kernel_rfl) (by kernel_rfl) (by kernel_rfl) (by kernel_rfl)
theorem ok199 : FnOk Tryz.prog 199 sp199 := fnOk (nv := 12) (h := h199) tok mix (ctx_cons ok21 ctx_nil) Tryz.func199 (by kernel_rfl) (by kernel_rfl) (by kernel_rfl) (by kernel_rfl) (by kernel_rfl)
theorem ok272 : FnOk Tryz.prog 272 sp272 := fnOk (nv := 7) (h := h272) tok mix ctx_nil Tryz.func272 (by kernel_rfl) (by kernel_rfl) (by kernel_rfl) (by kernel_rfl) (by kernel_rfl)
theorem ok273 : FnOk Tryz.prog 273 sp273 := fnOk (nv := 8) (h := h273) tok mix ctx_nil Tryz.func273 (by kernel_rfl) (by kernel_rfl) (by kernel_rfl) (by kernel_rfl) (by kernel_rfl)
theorem ok274 : FnOk Tryz.prog 274 sp274 := fnOk (nv := 6) (h := h274) tok mix ctx_nil Tryz.func274 (by kernel_rfl) (by kernel_rfl) (by kernel_rfl) (by kernel_rfl) (by kernel_rfl)
theorem ok200 : FnOk Tryz.prog 200 sp200 := fnOk (nv := 16) (h := h200) tok mix (ctx_cons ok42 (ctx_cons ok43 (ctx_cons ok44 (ctx_cons ok100 (ctx_cons ok193 (ctx_cons ok194 (ctx_cons ok197 (ctx_cons ok269 (ctx_cons ok272 (ctx_cons ok273 (ctx_cons ok274 ctx_nil))))))))))) Tryz.func200 (by kernel_rfl) (by kernel_rfl) (by kernel_rfl) (by kernel_rfl) (by kernel_rfl)
theorem ok118 : FnOk Tryz.prog 118 sp118 := fnOk (nv := 21) (h := h118) tok mix (ctx_cons ok20 (ctx_cons ok195 (ctx_cons ok198 (ctx_cons ok199 (ctx_cons ok200 ctx_nil))))) Tryz.func118 (by kernel_rfl) (by kernel_rfl) (by kernel_rfl) (by kernel_rfl) (by kernel_rfl)
theorem ok54 : FnOk Tryz.prog 54 sp54 := fnOk (nv := 17) (h := h54) tok mix (ctx_cons ok95 (ctx_cons ok116 (ctx_cons ok117 (ctx_cons ok118 ctx_nil)))) Tryz.func54 (by kernel_rfl) (by kernel_rfl) (by kernel_rfl) (by kernel_rfl) (by kernel_rfl)
theorem ok56 : FnOk Tryz.prog 56 sp56 := fnOk (nv := 11) (h := h56) tok mix (ctx_cons ok54 ctx_nil) Tryz.func56 (by kernel_rfl) (by kernel_rfl) (by kernel_rfl) (by kernel_rfl) (by kernel_rfl)
theorem ok53 : FnOk Tryz.prog 53 sp53 := fnOk (nv := 7) (h := h53) tok mix ctx_nil Tryz.func53 (by kernel_rfl) (by kernel_rfl) (by kernel_rfl) (by kernel_rfl) (by kernel_rfl)
theorem ok99 : FnOk Tryz.prog 99 sp99 := fnOk (nv := 11) (h := h99) tok mix ctx_nil Tryz.func99 (by kernel_rfl) (by kernel_rfl) (by kernel_rfl) (by kernel_rfl) (by kernel_rfl)
theorem ok213 : FnOk Tryz.prog 213 sp213 := fnOk (nv := 8) (h := h213) tok mix ctx_nil Tryz.func213 (by kernel_rfl) (by kernel_rfl) (by kernel_rfl) (by kernel_rfl) (by kernel_rfl)
theorem ok165 : FnOk Tryz.prog 165 sp165 := fnOk (nv := 9) (h := h165) tok mix (ctx_cons ok20 (ctx_cons ok31 (ctx_cons ok53 (ctx_cons ok99 (ctx_cons ok100 (ctx_cons ok175 (ctx_cons ok213 ctx_nil))))))) Tryz.func165 (by kernel_rfl) (by kernel_rfl) (by kernel_rfl) (by kernel_rfl) (by kernel_rfl)
theorem ok208 : FnOk Tryz.prog 208 sp208 := fnOk (nv := 7) (h := h208) tok mix ctx_nil Tryz.func208 (by kernel_rfl) (by kernel_rfl) (by kernel_rfl) (by kernel_rfl) (by kernel_rfl)
theorem ok209 : FnOk Tryz.prog 209 sp209 := fnOk (nv := 9) (h := h209) tok mix (ctx_cons ok95 (ctx_cons ok172 ctx_nil)) Tryz.func209 (by kernel_rfl) (by kernel_rfl) (by kernel_rfl) (by kernel_rfl) (by kernel_rfl)
theorem ok126 : FnOk Tryz.prog 126 sp126 := fnOk (nv := 13) (h := h126) tok mix (ctx_cons ok31 (ctx_cons ok56 (ctx_cons ok95 (ctx_cons ok132 (ctx_cons ok165 (ctx_cons ok208 (ctx_cons ok209 ctx_nil))))))) Tryz.func126 (by kernel_rfl) (by kernel_rfl) (by kernel_rfl) (by kernel_rfl) (by kernel_rfl)
theorem ok210 : FnOk Tryz.prog 210 sp210 := fnOk (nv := 8) (h := h210) tok mix (ctx_cons ok31 ctx_nil) Tryz.func210 (by kernel_rfl) (by kernel_rfl) (by kernel_rfl) (by kernel_rfl) (by kernel_rfl)
theorem ok211 : FnOk Tryz.prog 211 sp211 := fnOk (nv := 7) (h := h211) tok mix ctx_nil Tryz.func211 (by kernel_rfl) (by kernel_rfl) (by kernel_rfl) (by kernel_rfl) (by kernel_rfl)
theorem ok343 : FnOk Tryz.prog 343 sp343 := fnOk (nv := 1) (h := h343) tok mix ctx_nil Tryz.func343 (by kernel_rfl) (by kernel_rfl) (by kernel_rfl) (by kernel_rfl) (by kernel_rfl)
theorem ok295 : FnOk Tryz.prog 295 sp295 := fnOk (nv := 3) (h := h295) tok mix (ctx_cons ok343 ctx_nil) Tryz.func295 (by kernel_rfl) (by kernel_rfl) (by kernel_rfl) (by kernel_rfl) (by kernel_rfl)
theorem ok296 : FnOk Tryz.prog 296 sp296 := fnOk (nv := 9) (h := h296) tok mix ctx_nil Tryz.func296 (by kernel_rfl) (by kernel_rfl) (by kernel_rfl) (by kernel_rfl) (by kernel_rfl)
theorem ok212 : FnOk Tryz.prog 212 sp212 := fnOk (nv := 10) (h := h212) tok mix (ctx_cons ok295 (ctx_cons ok296 ctx_nil)) Tryz.func212 (by kernel_rfl) (by kernel_rfl) (by kernel_rfl) (by kernel_rfl) (by kernel_rfl)
theorem ok127 : FnOk Tryz.prog 127 sp127 := fnOk (nv := 14) (h := h127) tok mix (ctx_cons ok20 (ctx_cons ok31 (ctx_cons ok53 (ctx_cons ok100 (ctx_cons ok132 (ctx_cons ok210 (ctx_cons ok211 (ctx_cons ok212 (ctx_cons ok213 ctx_nil))))))))) Tryz.func127 (by kernel_rfl) (by kernel_rfl) (by kernel_rfl) (by kernel_rfl) (by kernel_rfl)
theorem ok38 : FnOk Tryz.prog 38 sp38 := fnOk (nv := 9) (h := h38) tok mix (ctx_cons ok20 (ctx_cons ok21 (ctx_cons ok99 (ctx_cons ok100 ctx_nil)))) Tryz.func38 (by kernel_rfl) (by kernel_rfl) (by kernel_rfl) (by kernel_rfl) (by kernel_rfl)
theorem ok128 : FnOk Tryz.prog 128 sp128 := fnOk (nv := 11) (h := h128) tok mix (ctx_cons ok20 (ctx_cons ok21 (ctx_cons ok38 (ctx_cons ok132 ctx_nil)))) Tryz.func128 (by kernel_rfl) (by kernel_rfl) (by kernel_rfl) (by kernel_rfl) (by kernel_rfl)
theorem ok115 : FnOk Tryz.prog 115 sp115 := fnOk (nv := 7) (h := h115) tok mix (ctx_cons ok109 ctx_nil) Tryz.func115 (by kernel_rfl) (by kernel_rfl) (by kernel_rfl) (by kernel_rfl) (by kernel_rfl)
theorem ok51 : FnOk Tryz.prog 51 sp51 := fnOk (nv := 9) (h := h51) tok mix (ctx_cons ok21 (ctx_cons ok109 (ctx_cons ok114 (ctx_cons ok115 ctx_nil)))) Tryz.func51 (by kernel_rfl) (by kernel_rfl) (by kernel_rfl) (by kernel_rfl) (by kernel_rfl)
theorem ok304 : FnOk Tryz.prog 304 sp304 := fnOk (nv := 1) (h := h304) tok mix ctx_nil Tryz.func304 (by kernel_rfl) (by kernel_rfl) (by kernel_rfl) (by kernel_rfl) (by kernel_rfl)
theorem ok226 : FnOk Tryz.prog 226 sp226 := fnOk (nv := 16) (h := h226) tok mix (ctx_cons ok304 ctx_nil) Tryz.func226 (by kernel_rfl) (by kernel_rfl) (by kernel_rfl) (by kernel_rfl) (by kernel_rfl)
theorem ok147_r : ∀ n, FnOk Tryz.prog 147 (sp147_r n)
  | 0 => ⟨⟨Tryz.f147, by kernel_rfl, by kernel_rfl, by kernel_rfl⟩, fun a r hr => nomatch (show (none : Option _) = some r from hr)⟩
  | n + 1 => fnOk (nv := 17) (h := h147) tok mix (ctx_cons (ok147_r n) (ctx_cons ok32 (ctx_cons ok35 (ctx_cons ok48 (ctx_cons ok51 (ctx_cons ok135 (ctx_cons ok226 ctx_nil))))))) Tryz.func147 (by kernel_rfl) (by kernel_rfl) (by kernel_rfl) (by kernel_rfl) (by kernel_rfl)
theorem ok147 : FnOk Tryz.prog 147 sp147 := ok147_r 64
theorem ok74 : FnOk Tryz.prog 74 sp74 := fnOk (nv := 9) (h := h74) tok mix (ctx_cons ok75 (ctx_cons ok147 ctx_nil)) Tryz.func74 (by kernel_rfl) (by kernel_rfl) (by kernel_rfl) (by kernel_rfl) (by kernel_rfl)
theorem ok76 : FnOk Tryz.prog 76 sp76 := fnOk (nv := 12) (h := h76) tok mix (ctx_cons ok21 (ctx_cons ok32 (ctx_cons ok35 (ctx_cons ok51 ctx_nil)))) Tryz.func76 (by kernel_rfl) (by kernel_rfl) (by kernel_rfl) (by kernel_rfl) (by kernel_rfl)
theorem ok148 : FnOk Tryz.prog 148 sp148 := fnOk (nv := 6) (h := h148) tok mix (ctx_cons ok20 ctx_nil) Tryz.func148 (by kernel_rfl) (by kernel_rfl) (by kernel_rfl) (by kernel_rfl) (by kernel_rfl)
theorem ok149 : FnOk Tryz.prog 149 sp149 := fnOk (nv := 6) (h := h149) tok mix ctx_nil Tryz.func149 (by kernel_rfl) (by kernel_rfl) (by kernel_rfl) (by kernel_rfl) (by kernel_rfl)
theorem ok77 : FnOk Tryz.prog 77 sp77 := fnOk (nv := 12) (h := h77) tok mix (ctx_cons ok148 (ctx_cons ok149 ctx_nil)) Tryz.func77 (by kernel_rfl) (by kernel_rfl) (by kernel_rfl) (by kernel_rfl) (by kernel_rfl)
theorem ok78 : FnOk Tryz.prog 78 sp78 := fnOk (nv := 14) (h := h78) tok mix (ctx_cons ok148 (ctx_cons ok149 ctx_nil)) Tryz.func78 (by kernel_rfl) (by kernel_rfl) (by kernel_rfl) (by kernel_rfl) (by kernel_rfl)
theorem ok26 : FnOk Tryz.prog 26 sp26 := fnOk (nv := 15) (h := h26) tok mix (ctx_cons ok32 (ctx_cons ok74 (ctx_cons ok75 (ctx_cons ok76 (ctx_cons ok77 (ctx_cons ok78 ctx_nil)))))) Tryz.func26 (by kernel_rfl) (by kernel_rfl) (by kernel_rfl) (by kernel_rfl) (by kernel_rfl)
theorem ok33 : FnOk Tryz.prog 33 sp33 := fnOk (nv := 9) (h := h33) tok mix (ctx_cons ok74 ctx_nil) Tryz.func33 (by kernel_rfl) (by kernel_rfl) (by kernel_rfl) (by kernel_rfl) (by kernel_rfl)
theorem ok87 : FnOk Tryz.prog 87 sp87 := fnOk (nv := 9) (h := h87) tok mix ctx_nil Tryz.func87 (by kernel_rfl) (by kernel_rfl) (by kernel_rfl) (by kernel_rfl) (by kernel_rfl)
theorem ok164 : FnOk Tryz.prog 164 sp164 := fnOk (nv := 7) (h := h164) tok mix ctx_nil Tryz.func164 (by kernel_rfl) (by kernel_rfl) (by kernel_rfl) (by kernel_rfl) (by kernel_rfl)
theorem ok86 : FnOk Tryz.prog 86 sp86 := fnOk (nv := 10) (h := h86) tok mix (ctx_cons ok31 (ctx_cons ok32 (ctx_cons ok33 (ctx_cons ok87 (ctx_cons ok148 (ctx_cons ok164 (ctx_cons ok165 ctx_nil))))))) Tryz.func86 (by kernel_rfl) (by kernel_rfl) (by kernel_rfl) (by kernel_rfl) (by kernel_rfl)
theorem ok88 : FnOk Tryz.prog 88 sp88 := fnOk (nv := 7) (h := h88) tok mix (ctx_cons ok31 ctx_nil) Tryz.func88 (by kernel_rfl) (by kernel_rfl) (by kernel_rfl) (by kernel_rfl) (by kernel_rfl)
theorem ok28 : FnOk Tryz.prog 28 sp28 := fnOk (nv := 8) (h := h28) tok mix (ctx_cons ok26 (ctx_cons ok86 (ctx_cons ok87 (ctx_cons ok88 ctx_nil)))) Tryz.func28 (by kernel_rfl) (by kernel_rfl) (by kernel_rfl) (by kernel_rfl) (by kernel_rfl)
theorem ok214 : FnOk Tryz.prog 214 sp214 := fnOk (nv := 5) (h := h214) tok mix ctx_nil Tryz.func214 (by kernel_rfl) (by kernel_rfl) (by kernel_rfl) (by kernel_rfl) (by kernel_rfl)
theorem ok215 : FnOk Tryz.prog 215 sp215 := fnOk (nv := 6) (h := h215) tok mix (ctx_cons ok95 (ctx_cons ok172 ctx_nil)) Tryz.func215 (by kernel_rfl) (by kernel_rfl) (by kernel_rfl) (by kernel_rfl) (by kernel_rfl)
theorem ok216 : FnOk Tryz.prog 216 sp216 := fnOk (nv := 5) (h := h216) tok mix ctx_nil Tryz.func216 (by kernel_rfl) (by kernel_rfl) (by kernel_rfl) (by kernel_rfl) (by kernel_rfl)
theorem ok217 : FnOk Tryz.prog 217 sp217 := fnOk (nv := 6) (h := h217) tok mix ctx_nil Tryz.func217 (by kernel_rfl) (by kernel_rfl) (by kernel_rfl) (by kernel_rfl) (by kernel_rfl)
theorem ok129 : FnOk Tryz.prog 129 sp129 := fnOk (nv := 12) (h := h129) tok mix (ctx_cons ok28 (ctx_cons ok88 (ctx_cons ok132 (ctx_cons ok165 (ctx_cons ok196 (ctx_cons ok208 (ctx_cons ok214 (ctx_cons ok215 (ctx_cons ok216 (ctx_cons ok217 ctx_nil)))))))))) Tryz.func129 (by kernel_rfl) (by kernel_rfl) (by kernel_rfl) (by kernel_rfl) (by kernel_rfl)
theorem ok297 : FnOk Tryz.prog 297 sp297 := fnOk (nv := 1) (h := h297) tok mix ctx_nil Tryz.func297 (by kernel_rfl) (by kernel_rfl) (by kernel_rfl) (by kernel_rfl) (by kernel_rfl)
theorem ok344 : FnOk Tryz.prog 344 sp344 := fnOk (nv := 9) (h := h344) tok mix (ctx_cons ok109 ctx_nil) Tryz.func344 (by kernel_rfl) (by kernel_rfl) (by kernel_rfl) (by kernel_rfl) (by kernel_rfl)
theorem ok298 : FnOk Tryz.prog 298 sp298 := fnOk (nv := 12) (h := h298) tok mix (ctx_cons ok42 (ctx_cons ok109 (ctx_cons ok344 ctx_nil))) Tryz.func298 (by kernel_rfl) (by kernel_rfl) (by kernel_rfl) (by kernel_rfl) (by kernel_rfl)
theorem ok218 : FnOk Tryz.prog 218 sp218 := fnOk (nv := 13) (h := h218) tok mix (ctx_cons ok297 (ctx_cons ok298 ctx_nil)) Tryz.func218 (by kernel_rfl) (by kernel_rfl) (by kernel_rfl) (by kernel_rfl) (by kernel_rfl)
theorem ok130 : FnOk Tryz.prog 130 sp130 := fnOk (nv := 13) (h := h130) tok mix (ctx_cons ok75 (ctx_cons ok218 ctx_nil)) Tryz.func130 (by kernel_rfl) (by kernel_rfl) (by kernel_rfl) (by kernel_rfl) (by kernel_rfl)
theorem ok131 : FnOk Tryz.prog 131 sp131 := fnOk (nv := 8) (h := h131) tok mix ctx_nil Tryz.func131 (by kernel_rfl) (by kernel_rfl) (by kernel_rfl) (by kernel_rfl) (by kernel_rfl)
theorem ok60 : FnOk Tryz.prog 60 sp60 := fnOk (nv := 17) (h := h60) tok mix (ctx_cons ok101 (ctx_cons ok102 (ctx_cons ok125 (ctx_cons ok126 (ctx_cons ok127 (ctx_cons ok128 (ctx_cons ok129 (ctx_cons ok130 (ctx_cons ok131 (ctx_cons ok132 ctx_nil)))))))))) Tryz.func60 (by kernel_rfl) (by kernel_rfl) (by kernel_rfl) (by kernel_rfl) (by kernel_rfl)
theorem ok133_r : ∀ n, FnOk Tryz.prog 133 (sp133_r n)
  | 0 => ⟨⟨Tryz.f133, by kernel_rfl, by kernel_rfl, by kernel_rfl⟩, fun a r hr => nomatch (show (none : Option _) = some r from hr)⟩
  | n + 1 => fnOk (nv := 1) (h := h133) tok mix (ctx_cons (ok133_r n) ctx_nil) Tryz.func133 (by kernel_rfl) (by kernel_rfl) (by kernel_rfl) (by kernel_rfl) (by kernel_rfl)
theorem ok133 : FnOk Tryz.prog 133 sp133 := ok133_r 64
theorem ok61 : FnOk Tryz.prog 61 sp61 := fnOk (nv := 8) (h := h61) tok mix (ctx_cons ok133 ctx_nil) Tryz.func61 (by kernel_rfl) (by kernel_rfl) (by kernel_rfl) (by kernel_rfl) (by kernel_rfl)
theorem ok134 : FnOk Tryz.prog 134 sp134 := fnOk (nv := 6) (h := h134) tok mix ctx_nil Tryz.func134 (by kernel_rfl) (by kernel_rfl) (by kernel_rfl) (by kernel_rfl) (by kernel_rfl)
theorem ok136 : FnOk Tryz.prog 136 sp136 := fnOk (nv := 2) (h := h136) tok mix ctx_nil Tryz.func136 (by kernel_rfl) (by kernel_rfl) (by kernel_rfl) (by kernel_rfl) (by kernel_rfl)
theorem ok62 : FnOk Tryz.prog 62 sp62 := fnOk (nv := 19) (h := h62) tok mix (ctx_cons ok134 (ctx_cons ok134 (ctx_cons ok135 (ctx_cons ok136 ctx_nil)))) Tryz.func62 (by kernel_rfl) (by kernel_rfl) (by kernel_rfl) (by kernel_rfl) (by kernel_rfl)
theorem ok18 : FnOk Tryz.prog 18 sp18 := fnOk (nv := 5) (h := h18) tok mix (ctx_cons ok64 ctx_nil) Tryz.func18 (by kernel_rfl) (by kernel_rfl) (by kernel_rfl) (by kernel_rfl) (by kernel_rfl)
theorem ok137 : FnOk Tryz.prog 137 sp137 := fnOk (nv := 6) (h := h137) tok mix ctx_nil Tryz.func137 (by kernel_rfl) (by kernel_rfl) (by kernel_rfl) (by kernel_rfl) (by kernel_rfl)
theorem ok138 : FnOk Tryz.prog 138 sp138 := fnOk (nv := 3) (h := h138) tok mix (ctx_cons ok137 ctx_nil) Tryz.func138 (by kernel_rfl) (by kernel_rfl) (by kernel_rfl) (by kernel_rfl) (by kernel_rfl)
theorem ok139 : FnOk Tryz.prog 139 sp139 := fnOk (nv := 9) (h := h139) tok mix (ctx_cons ok137 (ctx_cons ok138 ctx_nil)) Tryz.func139 (by kernel_rfl) (by kernel_rfl) (by kernel_rfl) (by kernel_rfl) (by kernel_rfl)
theorem ok63 : FnOk Tryz.prog 63 sp63 := fnOk (nv := 30) (h := h63) tok mix (ctx_cons ok18 (ctx_cons ok61 (ctx_cons ok62 (ctx_cons ok137 (ctx_cons ok138 (ctx_cons ok139 ctx_nil)))))) Tryz.func63 (by kernel_rfl) (by kernel_rfl) (by kernel_rfl) (by kernel_rfl) (by kernel_rfl)
theorem ok17 : FnOk Tryz.prog 17 sp17 := fnOk (nv := 7) (h := h17) tok mix (ctx_cons ok37 (ctx_cons ok60 (ctx_cons ok61 (ctx_cons ok62 (ctx_cons ok63 ctx_nil))))) Tryz.func17 (by kernel_rfl) (by kernel_rfl) (by kernel_rfl) (by kernel_rfl) (by kernel_rfl)
theorem ok65 : FnOk Tryz.prog 65 sp65 := fnOk (nv := 2) (h := h65) tok mix ctx_nil Tryz.func65 (by kernel_rfl) (by kernel_rfl) (by kernel_rfl) (by kernel_rfl) (by kernel_rfl)
theorem ok219 : FnOk Tryz.prog 219 sp219 := fnOk (nv := 10) (h := h219) tok mix ctx_nil Tryz.func219 (by kernel_rfl) (by kernel_rfl) (by kernel_rfl) (by kernel_rfl) (by kernel_rfl)
theorem ok345 : FnOk Tryz.prog 345 sp345 := fnOk (nv := 11) (h := h345) tok mix ctx_nil Tryz.func345 (by kernel_rfl) (by kernel_rfl) (by kernel_rfl) (by kernel_rfl) (by kernel_rfl)
theorem ok299 : FnOk Tryz.prog 299 sp299 := fnOk (nv := 12) (h := h299) tok mix (ctx_cons ok345 ctx_nil) Tryz.func299 (by kernel_rfl) (by kernel_rfl) (by kernel_rfl) (by kernel_rfl) (by kernel_rfl)
theorem ok220_r : ∀ n, FnOk Tryz.prog 220 (sp220_r n)
  | 0 => ⟨⟨Tryz.f220, by kernel_rfl, by kernel_rfl, by kernel_rfl⟩, fun a r hr => nomatch (show (none : Option _) = some r from hr)⟩
  | n + 1 => fnOk (nv := 25) (h := h220) tok mix (ctx_cons (ok220_r n) (ctx_cons ok299 ctx_nil)) Tryz.func220 (by kernel_rfl) (by kernel_rfl) (by kernel_rfl) (by kernel_rfl) (by kernel_rfl)
theorem ok220 : FnOk Tryz.prog 220 sp220 := ok220_r 64
theorem ok140 : FnOk Tryz.prog 140 sp140 := fnOk (nv := 10) (h := h140) tok mix (ctx_cons ok219 (ctx_cons ok220 ctx_nil)) Tryz.func140 (by kernel_rfl) (by kernel_rfl) (by kernel_rfl) (by kernel_rfl) (by kernel_rfl)
theorem ok66 : FnOk Tryz.prog 66 sp66 := fnOk (nv := 2) (h := h66) tok mix (ctx_cons ok140 ctx_nil) Tryz.func66 (by kernel_rfl) (by kernel_rfl) (by kernel_rfl) (by kernel_rfl) (by kernel_rfl)
theorem ok141 : FnOk Tryz.prog 141 sp141 := fnOk (nv := 1) (h := h141) tok mix ctx_nil Tryz.func141 (by kernel_rfl) (by kernel_rfl) (by kernel_rfl) (by kernel_rfl) (by kernel_rfl)
theorem ok69 : FnOk Tryz.prog 69 sp69 := fnOk (nv := 7) (h := h69) tok mix (ctx_cons ok141 ctx_nil) Tryz.func69 (by kernel_rfl) (by kernel_rfl) (by kernel_rfl) (by kernel_rfl) (by kernel_rfl)
theorem ok67 : FnOk Tryz.prog 67 sp67 := fnOk (nv := 4) (h := h67) tok mix (ctx_cons ok68 (ctx_cons ok69 ctx_nil)) Tryz.func67 (by kernel_rfl) (by kernel_rfl) (by kernel_rfl) (by kernel_rfl) (by kernel_rfl)
theorem ok19 : FnOk Tryz.prog 19 sp19 := fnOk (nv := 39) (h := h19) tok mix (ctx_cons ok65 (ctx_cons ok66 (ctx_cons ok67 ctx_nil))) Tryz.func19 (by kernel_rfl) (by kernel_rfl) (by kernel_rfl) (by kernel_rfl) (by kernel_rfl)
theorem ok3 : FnOk Tryz.prog 3 sp3 := fnOk (nv := 15) (h := h3) tok mix (ctx_cons ok15 (ctx_cons ok16 (ctx_cons ok17 (ctx_cons ok18 (ctx_cons ok19 (ctx_cons ok20 (ctx_cons ok21 ctx_nil))))))) Tryz.func3 (by kernel_rfl) (by kernel_rfl) (by kernel_rfl) (by kernel_rfl) (by kernel_rfl)
end Go.Fx.D
