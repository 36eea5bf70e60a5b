/-
  Each of these functions does what its function over plain data says, where that gives an answer (printed by a program). Conditions: none.
-/
import Derived.Test.YtkfeeenaelcalaaGreatFxD
import Derived.Ground.NamesProg
import Derived.Shelf.Lay
import Derived.Test.YtkfeeenaelcalaaGreatD
import Derived.Test.YtkfeeenaelcalaaGreatFxC
import Derived.Test.YtkfeeenaelcalaaGreatChecked
import Derived.WalkKit
namespace Go.Fx.D
open Go Go.Fx Go.Proofs Go.Shelf Go.RowKit Go.Lib Go.Sort
set_option linter.unusedVariables false
set_option maxRecDepth 100000

theorem rowOk3 : RowOk Tryz.prog 3 row3 := ⟨by kernel_rfl, ⟨Tryz.t3, (Tryz.t3.zero).getD .nilFunc, by kernel_rfl, by kernel_rfl, by kernel_rfl⟩, by kernel_rfl, by kernel_rfl⟩
theorem rowOk4 : RowOk Tryz.prog 4 row4 := ⟨by kernel_rfl, ⟨Tryz.t4, (Tryz.t4.zero).getD .nilFunc, by kernel_rfl, by kernel_rfl, by kernel_rfl⟩, by kernel_rfl, by kernel_rfl⟩
theorem rowOk5 : RowOk Tryz.prog 5 row5 := ⟨by kernel_rfl, ⟨Tryz.t5, (Tryz.t5.zero).getD .nilFunc, by kernel_rfl, by kernel_rfl, by kernel_rfl⟩, by kernel_rfl, by kernel_rfl⟩
theorem rowOk9 : RowOk Tryz.prog 9 row9 := ⟨by kernel_rfl, ⟨Tryz.t9, (Tryz.t9.zero).getD .nilFunc, by kernel_rfl, by kernel_rfl, by kernel_rfl⟩, by kernel_rfl, by kernel_rfl⟩
theorem rowOk22 : RowOk Tryz.prog 22 row22 := ⟨by kernel_rfl, ⟨Tryz.t22, (Tryz.t22.zero).getD .nilFunc, by kernel_rfl, by kernel_rfl, by kernel_rfl⟩, by kernel_rfl, by kernel_rfl⟩
theorem rowOk23 : RowOk Tryz.prog 23 row23 := ⟨by kernel_rfl, ⟨Tryz.t23, (Tryz.t23.zero).getD .nilFunc, by kernel_rfl, by kernel_rfl, by kernel_rfl⟩, by kernel_rfl, by kernel_rfl⟩
theorem rowOk25 : RowOk Tryz.prog 25 row25 := ⟨by kernel_rfl, ⟨Tryz.t25, (Tryz.t25.zero).getD .nilFunc, by kernel_rfl, by kernel_rfl, by kernel_rfl⟩, by kernel_rfl, by kernel_rfl⟩
theorem rowOk27 : RowOk Tryz.prog 27 row27 := ⟨by kernel_rfl, ⟨Tryz.t27, (Tryz.t27.zero).getD .nilFunc, by kernel_rfl, by kernel_rfl, by kernel_rfl⟩, by kernel_rfl, by kernel_rfl⟩
theorem rowOk28 : RowOk Tryz.prog 28 row28 := ⟨by kernel_rfl, ⟨Tryz.t28, (Tryz.t28.zero).getD .nilFunc, by kernel_rfl, by kernel_rfl, by kernel_rfl⟩, by kernel_rfl, by kernel_rfl⟩
theorem rowOk30 : RowOk Tryz.prog 30 row30 := ⟨by kernel_rfl, ⟨Tryz.t30, (Tryz.t30.zero).getD .nilFunc, by kernel_rfl, by kernel_rfl, by kernel_rfl⟩, by kernel_rfl, by kernel_rfl⟩
theorem rowOk31 : RowOk Tryz.prog 31 row31 := ⟨by kernel_rfl, ⟨Tryz.t31, (Tryz.t31.zero).getD .nilFunc, by kernel_rfl, by kernel_rfl, by kernel_rfl⟩, by kernel_rfl, by kernel_rfl⟩
theorem rowOk32 : RowOk Tryz.prog 32 row32 := ⟨by kernel_rfl, ⟨Tryz.t32, (Tryz.t32.zero).getD .nilFunc, by kernel_rfl, by kernel_rfl, by kernel_rfl⟩, by kernel_rfl, by kernel_rfl⟩
theorem rowOk33 : RowOk Tryz.prog 33 row33 := ⟨by kernel_rfl, ⟨Tryz.t33, (Tryz.t33.zero).getD .nilFunc, by kernel_rfl, by kernel_rfl, by kernel_rfl⟩, by kernel_rfl, by kernel_rfl⟩
theorem rowOk34 : RowOk Tryz.prog 34 row34 := ⟨by kernel_rfl, ⟨Tryz.t34, (Tryz.t34.zero).getD .nilFunc, by kernel_rfl, by kernel_rfl, by kernel_rfl⟩, by kernel_rfl, by kernel_rfl⟩
theorem rowOk35 : RowOk Tryz.prog 35 row35 := ⟨by kernel_rfl, ⟨Tryz.t35, (Tryz.t35.zero).getD .nilFunc, by kernel_rfl, by kernel_rfl, by kernel_rfl⟩, by kernel_rfl, by kernel_rfl⟩
theorem rowOk37 : RowOk Tryz.prog 37 row37 := ⟨by kernel_rfl, ⟨Tryz.t37, (Tryz.t37.zero).getD .nilFunc, by kernel_rfl, by kernel_rfl, by kernel_rfl⟩, by kernel_rfl, by kernel_rfl⟩
theorem rowOk39 : RowOk Tryz.prog 39 row39 := ⟨by kernel_rfl, ⟨Tryz.t39, (Tryz.t39.zero).getD .nilFunc, by kernel_rfl, by kernel_rfl, by kernel_rfl⟩, by kernel_rfl, by kernel_rfl⟩
theorem rowOk41 : RowOk Tryz.prog 41 row41 := ⟨by kernel_rfl, ⟨Tryz.t41, (Tryz.t41.zero).getD .nilFunc, by kernel_rfl, by kernel_rfl, by kernel_rfl⟩, by kernel_rfl, by kernel_rfl⟩
theorem rowOk43 : RowOk Tryz.prog 43 row43 := ⟨by kernel_rfl, ⟨Tryz.t43, (Tryz.t43.zero).getD .nilFunc, by kernel_rfl, by kernel_rfl, by kernel_rfl⟩, by kernel_rfl, by kernel_rfl⟩
theorem rowOk50 : RowOk Tryz.prog 50 row50 := ⟨by kernel_rfl, ⟨Tryz.t50, (Tryz.t50.zero).getD .nilFunc, by kernel_rfl, by kernel_rfl, by kernel_rfl⟩, by kernel_rfl, by kernel_rfl⟩
theorem rowOk61 : RowOk Tryz.prog 61 row61 := ⟨by kernel_rfl, ⟨Tryz.t61, (Tryz.t61.zero).getD .nilFunc, by kernel_rfl, by kernel_rfl, by kernel_rfl⟩, by kernel_rfl, by kernel_rfl⟩
theorem rowOk67 : RowOk Tryz.prog 67 row67 := ⟨by kernel_rfl, ⟨Tryz.t67, (Tryz.t67.zero).getD .nilFunc, by kernel_rfl, by kernel_rfl, by kernel_rfl⟩, by kernel_rfl, by kernel_rfl⟩
theorem rowOk71 : RowOk Tryz.prog 71 row71 := ⟨by kernel_rfl, ⟨Tryz.t71, (Tryz.t71.zero).getD .nilFunc, by kernel_rfl, by kernel_rfl, by kernel_rfl⟩, by kernel_rfl, by kernel_rfl⟩
theorem rowOk76 : RowOk Tryz.prog 76 row76 := ⟨by kernel_rfl, ⟨Tryz.t76, (Tryz.t76.zero).getD .nilFunc, by kernel_rfl, by kernel_rfl, by kernel_rfl⟩, by kernel_rfl, by kernel_rfl⟩
theorem rowOk78 : RowOk Tryz.prog 78 row78 := ⟨by kernel_rfl, ⟨Tryz.t78, (Tryz.t78.zero).getD .nilFunc, by kernel_rfl, by kernel_rfl, by kernel_rfl⟩, by kernel_rfl, by kernel_rfl⟩
theorem rowOk92 : RowOk Tryz.prog 92 row92 := ⟨by kernel_rfl, ⟨Tryz.t92, (Tryz.t92.zero).getD .nilFunc, by kernel_rfl, by kernel_rfl, by kernel_rfl⟩, by kernel_rfl, by kernel_rfl⟩
theorem rowOk97 : RowOk Tryz.prog 97 row97 := ⟨by kernel_rfl, ⟨Tryz.t97, (Tryz.t97.zero).getD .nilFunc, by kernel_rfl, by kernel_rfl, by kernel_rfl⟩, by kernel_rfl, by kernel_rfl⟩
theorem rowOk99 : RowOk Tryz.prog 99 row99 := ⟨by kernel_rfl, ⟨Tryz.t99, (Tryz.t99.zero).getD .nilFunc, by kernel_rfl, by kernel_rfl, by kernel_rfl⟩, by kernel_rfl, by kernel_rfl⟩
theorem rowOk101 : RowOk Tryz.prog 101 row101 := ⟨by kernel_rfl, ⟨Tryz.t101, (Tryz.t101.zero).getD .nilFunc, by kernel_rfl, by kernel_rfl, by kernel_rfl⟩, by kernel_rfl, by kernel_rfl⟩
theorem rowOk103 : RowOk Tryz.prog 103 row103 := ⟨by kernel_rfl, ⟨Tryz.t103, (Tryz.t103.zero).getD .nilFunc, by kernel_rfl, by kernel_rfl, by kernel_rfl⟩, by kernel_rfl, by kernel_rfl⟩
theorem rowOk111 : RowOk Tryz.prog 111 row111 := ⟨by kernel_rfl, ⟨Tryz.t111, (Tryz.t111.zero).getD .nilFunc, by kernel_rfl, by kernel_rfl, by kernel_rfl⟩, by kernel_rfl, by kernel_rfl⟩
theorem rowOk142 : RowOk Tryz.prog 142 row142 := ⟨by kernel_rfl, ⟨Tryz.t142, (Tryz.t142.zero).getD .nilFunc, by kernel_rfl, by kernel_rfl, by kernel_rfl⟩, by kernel_rfl, by kernel_rfl⟩
theorem rowOk155 : RowOk Tryz.prog 155 row155 := ⟨by kernel_rfl, ⟨Tryz.t155, (Tryz.t155.zero).getD .nilFunc, by kernel_rfl, by kernel_rfl, by kernel_rfl⟩, by kernel_rfl, by kernel_rfl⟩
theorem rowOk162 : RowOk Tryz.prog 162 row162 := ⟨by kernel_rfl, ⟨Tryz.t162, (Tryz.t162.zero).getD .nilFunc, by kernel_rfl, by kernel_rfl, by kernel_rfl⟩, by kernel_rfl, by kernel_rfl⟩
theorem rowOk169 : RowOk Tryz.prog 169 row169 := ⟨by kernel_rfl, ⟨Tryz.t169, (Tryz.t169.zero).getD .nilFunc, by kernel_rfl, by kernel_rfl, by kernel_rfl⟩, by kernel_rfl, by kernel_rfl⟩
theorem rowOk175 : RowOk Tryz.prog 175 row175 := ⟨by kernel_rfl, ⟨Tryz.t175, (Tryz.t175.zero).getD .nilFunc, by kernel_rfl, by kernel_rfl, by kernel_rfl⟩, by kernel_rfl, by kernel_rfl⟩
theorem rowOk183 : RowOk Tryz.prog 183 row183 := ⟨by kernel_rfl, ⟨Tryz.t183, (Tryz.t183.zero).getD .nilFunc, by kernel_rfl, by kernel_rfl, by kernel_rfl⟩, by kernel_rfl, by kernel_rfl⟩
theorem rowOk228 : RowOk Tryz.prog 228 row228 := ⟨by kernel_rfl, ⟨Tryz.t228, (Tryz.t228.zero).getD .nilFunc, by kernel_rfl, by kernel_rfl, by kernel_rfl⟩, by kernel_rfl, by kernel_rfl⟩
theorem tok : TblOk Tryz.prog (look tbl) := tblOk (all_cons rowOk3 (all_cons rowOk4 (all_cons rowOk5 (all_cons rowOk9 (all_cons rowOk22 (all_cons rowOk23 (all_cons rowOk25 (all_cons rowOk27 (all_cons rowOk28 (all_cons rowOk30 (all_cons rowOk31 (all_cons rowOk32 (all_cons rowOk33 (all_cons rowOk34 (all_cons rowOk35 (all_cons rowOk37 (all_cons rowOk39 (all_cons rowOk41 (all_cons rowOk43 (all_cons rowOk50 (all_cons rowOk61 (all_cons rowOk67 (all_cons rowOk71 (all_cons rowOk76 (all_cons rowOk78 (all_cons rowOk92 (all_cons rowOk97 (all_cons rowOk99 (all_cons rowOk101 (all_cons rowOk103 (all_cons rowOk111 (all_cons rowOk142 (all_cons rowOk155 (all_cons rowOk162 (all_cons rowOk169 (all_cons rowOk175 (all_cons rowOk183 (all_cons rowOk228 all_nil))))))))))))))))))))))))))))))))))))))
theorem mix : Tryz.prog.follows .mixedOrders = true := Checked.mixed Tryz.checked

theorem ok16 : FnOk Tryz.prog 16 sp16 := fnOk (nv := 2) (h := h16) tok mix ctx_nil Tryz.func16 (by kernel_rfl) (by kernel_rfl) (by kernel_rfl) (by kernel_rfl) (by kernel_rfl)
theorem ok65 : FnOk Tryz.prog 65 sp65 := fnOk (nv := 1) (h := h65) tok mix ctx_nil Tryz.func65 (by kernel_rfl) (by kernel_rfl) (by kernel_rfl) (by kernel_rfl) (by kernel_rfl)
theorem ok35 : FnOk Tryz.prog 35 sp35 := fnOk (nv := 5) (h := h35) tok mix ctx_nil Tryz.func35 (by kernel_rfl) (by kernel_rfl) (by kernel_rfl) (by kernel_rfl) (by kernel_rfl)
theorem ok24 : FnOk Tryz.prog 24 sp24 := fnOk (nv := 7) (h := h24) tok mix (ctx_cons ok35 ctx_nil) Tryz.func24 (by kernel_rfl) (by kernel_rfl) (by kernel_rfl) (by kernel_rfl) (by kernel_rfl)
theorem ok162 : FnOk Tryz.prog 162 sp162 := fnOk (nv := 1) (h := h162) tok mix ctx_nil Tryz.func162 (by kernel_rfl) (by kernel_rfl) (by kernel_rfl) (by kernel_rfl) (by kernel_rfl)
theorem ok19 : FnOk Tryz.prog 19 sp19 := fnOk (nv := 4) (h := h19) tok mix ctx_nil Tryz.func19 (by kernel_rfl) (by kernel_rfl) (by kernel_rfl) (by kernel_rfl) (by kernel_rfl)
theorem ok229 : FnOk Tryz.prog 229 sp229 := fnOk (nv := 9) (h := h229) tok mix (ctx_cons ok35 ctx_nil) Tryz.func229 (by kernel_rfl) (by kernel_rfl) (by kernel_rfl) (by kernel_rfl) (by kernel_rfl)
theorem ok163 : FnOk Tryz.prog 163 sp163 := fnOk (nv := 12) (h := h163) tok mix (ctx_cons ok19 (ctx_cons ok35 (ctx_cons ok229 ctx_nil))) Tryz.func163 (by kernel_rfl) (by kernel_rfl) (by kernel_rfl) (by kernel_rfl) (by kernel_rfl)
theorem ok105 : FnOk Tryz.prog 105 sp105 := fnOk (nv := 13) (h := h105) tok mix (ctx_cons ok162 (ctx_cons ok163 ctx_nil)) Tryz.func105 (by kernel_rfl) (by kernel_rfl) (by kernel_rfl) (by kernel_rfl) (by kernel_rfl)
theorem ok56 : FnOk Tryz.prog 56 sp56 := fnOk (nv := 13) (h := h56) tok mix (ctx_cons ok24 (ctx_cons ok105 ctx_nil)) Tryz.func56 (by kernel_rfl) (by kernel_rfl) (by kernel_rfl) (by kernel_rfl) (by kernel_rfl)
theorem ok59 : FnOk Tryz.prog 59 sp59 := fnOk (nv := 8) (h := h59) tok mix ctx_nil Tryz.func59 (by kernel_rfl) (by kernel_rfl) (by kernel_rfl) (by kernel_rfl) (by kernel_rfl)
theorem ok73 : FnOk Tryz.prog 73 sp73 := fnOk (nv := 4) (h := h73) tok mix ctx_nil Tryz.func73 (by kernel_rfl) (by kernel_rfl) (by kernel_rfl) (by kernel_rfl) (by kernel_rfl)
theorem ok21 : FnOk Tryz.prog 21 sp21 := fnOk (nv := 7) (h := h21) tok mix (ctx_cons ok73 ctx_nil) Tryz.func21 (by kernel_rfl) (by kernel_rfl) (by kernel_rfl) (by kernel_rfl) (by kernel_rfl)
theorem ok78 : FnOk Tryz.prog 78 sp78 := fnOk (nv := 8) (h := h78) tok mix ctx_nil Tryz.func78 (by kernel_rfl) (by kernel_rfl) (by kernel_rfl) (by kernel_rfl) (by kernel_rfl)
theorem ok80 : FnOk Tryz.prog 80 sp80 := fnOk (nv := 3) (h := h80) tok mix (ctx_cons ok21 (ctx_cons ok78 ctx_nil)) Tryz.func80 (by kernel_rfl) (by kernel_rfl) (by kernel_rfl) (by kernel_rfl) (by kernel_rfl)
theorem ok87 : FnOk Tryz.prog 87 sp87 := fnOk (nv := 2) (h := h87) tok mix ctx_nil Tryz.func87 (by kernel_rfl) (by kernel_rfl) (by kernel_rfl) (by kernel_rfl) (by kernel_rfl)
theorem ok125 : FnOk Tryz.prog 125 sp125 := fnOk (nv := 6) (h := h125) tok mix ctx_nil Tryz.func125 (by kernel_rfl) (by kernel_rfl) (by kernel_rfl) (by kernel_rfl) (by kernel_rfl)
theorem ok232 : FnOk Tryz.prog 232 sp232 := fnOk (nv := 8) (h := h232) tok mix ctx_nil Tryz.func232 (by kernel_rfl) (by kernel_rfl) (by kernel_rfl) (by kernel_rfl) (by kernel_rfl)
theorem ok233 : FnOk Tryz.prog 233 sp233 := fnOk (nv := 6) (h := h233) tok mix (ctx_cons ok232 ctx_nil) Tryz.func233 (by kernel_rfl) (by kernel_rfl) (by kernel_rfl) (by kernel_rfl) (by kernel_rfl)
theorem ok276 : FnOk Tryz.prog 276 sp276 := fnOk (nv := 6) (h := h276) tok mix ctx_nil Tryz.func276 (by kernel_rfl) (by kernel_rfl) (by kernel_rfl) (by kernel_rfl) (by kernel_rfl)
theorem ok277 : FnOk Tryz.prog 277 sp277 := fnOk (nv := 8) (h := h277) tok mix (ctx_cons ok276 ctx_nil) Tryz.func277 (by kernel_rfl) (by kernel_rfl) (by kernel_rfl) (by kernel_rfl) (by kernel_rfl)
theorem ok234 : FnOk Tryz.prog 234 sp234 := fnOk (nv := 11) (h := h234) tok mix (ctx_cons ok276 (ctx_cons ok277 ctx_nil)) Tryz.func234 (by kernel_rfl) (by kernel_rfl) (by kernel_rfl) (by kernel_rfl) (by kernel_rfl)
theorem ok167 : FnOk Tryz.prog 167 sp167 := fnOk (nv := 12) (h := h167) tok mix (ctx_cons ok232 (ctx_cons ok233 (ctx_cons ok234 ctx_nil))) Tryz.func167 (by kernel_rfl) (by kernel_rfl) (by kernel_rfl) (by kernel_rfl) (by kernel_rfl)
theorem ok278 : FnOk Tryz.prog 278 sp278 := fnOk (nv := 4) (h := h278) tok mix ctx_nil Tryz.func278 (by kernel_rfl) (by kernel_rfl) (by kernel_rfl) (by kernel_rfl) (by kernel_rfl)
theorem ok235 : FnOk Tryz.prog 235 sp235 := fnOk (nv := 6) (h := h235) tok mix (ctx_cons ok278 ctx_nil) Tryz.func235 (by kernel_rfl) (by kernel_rfl) (by kernel_rfl) (by kernel_rfl) (by kernel_rfl)
theorem ok279 : FnOk Tryz.prog 279 sp279 := fnOk (nv := 6) (h := h279) tok mix (ctx_cons ok278 ctx_nil) Tryz.func279 (by kernel_rfl) (by kernel_rfl) (by kernel_rfl) (by kernel_rfl) (by kernel_rfl)
theorem ok236 : FnOk Tryz.prog 236 sp236 := fnOk (nv := 10) (h := h236) tok mix (ctx_cons ok73 (ctx_cons ok78 (ctx_cons ok279 ctx_nil))) Tryz.func236 (by kernel_rfl) (by kernel_rfl) (by kernel_rfl) (by kernel_rfl) (by kernel_rfl)
theorem ok237 : FnOk Tryz.prog 237 sp237 := fnOk (nv := 9) (h := h237) tok mix (ctx_cons ok21 (ctx_cons ok78 ctx_nil)) Tryz.func237 (by kernel_rfl) (by kernel_rfl) (by kernel_rfl) (by kernel_rfl) (by kernel_rfl)
theorem ok168 : FnOk Tryz.prog 168 sp168 := fnOk (nv := 5) (h := h168) tok mix (ctx_cons ok235 (ctx_cons ok236 (ctx_cons ok237 ctx_nil))) Tryz.func168 (by kernel_rfl) (by kernel_rfl) (by kernel_rfl) (by kernel_rfl) (by kernel_rfl)
theorem ok118 : FnOk Tryz.prog 118 sp118 := fnOk (nv := 10) (h := h118) tok mix (ctx_cons ok80 (ctx_cons ok87 (ctx_cons ok125 (ctx_cons ok167 (ctx_cons ok168 ctx_nil))))) Tryz.func118 (by kernel_rfl) (by kernel_rfl) (by kernel_rfl) (by kernel_rfl) (by kernel_rfl)
theorem ok169 : FnOk Tryz.prog 169 sp169 := fnOk (nv := 1) (h := h169) tok mix ctx_nil Tryz.func169 (by kernel_rfl) (by kernel_rfl) (by kernel_rfl) (by kernel_rfl) (by kernel_rfl)
theorem ok170 : FnOk Tryz.prog 170 sp170 := fnOk (nv := 7) (h := h170) tok mix ctx_nil Tryz.func170 (by kernel_rfl) (by kernel_rfl) (by kernel_rfl) (by kernel_rfl) (by kernel_rfl)
theorem ok171 : FnOk Tryz.prog 171 sp171 := fnOk (nv := 7) (h := h171) tok mix ctx_nil Tryz.func171 (by kernel_rfl) (by kernel_rfl) (by kernel_rfl) (by kernel_rfl) (by kernel_rfl)
theorem ok119 : FnOk Tryz.prog 119 sp119 := fnOk (nv := 8) (h := h119) tok mix (ctx_cons ok169 (ctx_cons ok170 (ctx_cons ok171 ctx_nil))) Tryz.func119 (by kernel_rfl) (by kernel_rfl) (by kernel_rfl) (by kernel_rfl) (by kernel_rfl)
theorem ok172 : FnOk Tryz.prog 172 sp172 := fnOk (nv := 7) (h := h172) tok mix ctx_nil Tryz.func172 (by kernel_rfl) (by kernel_rfl) (by kernel_rfl) (by kernel_rfl) (by kernel_rfl)
theorem ok173 : FnOk Tryz.prog 173 sp173 := fnOk (nv := 9) (h := h173) tok mix (ctx_cons ok170 (ctx_cons ok171 ctx_nil)) Tryz.func173 (by kernel_rfl) (by kernel_rfl) (by kernel_rfl) (by kernel_rfl) (by kernel_rfl)
theorem ok174 : FnOk Tryz.prog 174 sp174 := fnOk (nv := 7) (h := h174) tok mix ctx_nil Tryz.func174 (by kernel_rfl) (by kernel_rfl) (by kernel_rfl) (by kernel_rfl) (by kernel_rfl)
theorem ok141 : FnOk Tryz.prog 141 sp141 := fnOk (nv := 7) (h := h141) tok mix ctx_nil Tryz.func141 (by kernel_rfl) (by kernel_rfl) (by kernel_rfl) (by kernel_rfl) (by kernel_rfl)
theorem ok179 : FnOk Tryz.prog 179 sp179 := fnOk (nv := 7) (h := h179) tok mix ctx_nil Tryz.func179 (by kernel_rfl) (by kernel_rfl) (by kernel_rfl) (by kernel_rfl) (by kernel_rfl)
theorem ok180 : FnOk Tryz.prog 180 sp180 := fnOk (nv := 2) (h := h180) tok mix ctx_nil Tryz.func180 (by kernel_rfl) (by kernel_rfl) (by kernel_rfl) (by kernel_rfl) (by kernel_rfl)
theorem ok184 : FnOk Tryz.prog 184 sp184 := fnOk (nv := 7) (h := h184) tok mix ctx_nil Tryz.func184 (by kernel_rfl) (by kernel_rfl) (by kernel_rfl) (by kernel_rfl) (by kernel_rfl)
theorem ok185 : FnOk Tryz.prog 185 sp185 := fnOk (nv := 8) (h := h185) tok mix ctx_nil Tryz.func185 (by kernel_rfl) (by kernel_rfl) (by kernel_rfl) (by kernel_rfl) (by kernel_rfl)
theorem ok238 : FnOk Tryz.prog 238 sp238 := fnOk (nv := 11) (h := h238) tok mix ctx_nil Tryz.func238 (by kernel_rfl) (by kernel_rfl) (by kernel_rfl) (by kernel_rfl) (by kernel_rfl)
theorem ok175 : FnOk Tryz.prog 175 sp175 := fnOk (nv := 9) (h := h175) tok mix (ctx_cons ok141 (ctx_cons ok174 (ctx_cons ok179 (ctx_cons ok180 (ctx_cons ok184 (ctx_cons ok185 (ctx_cons ok238 ctx_nil))))))) Tryz.func175 (by kernel_rfl) (by kernel_rfl) (by kernel_rfl) (by kernel_rfl) (by kernel_rfl)
theorem ok280 : FnOk Tryz.prog 280 sp280 := fnOk (nv := 7) (h := h280) tok mix ctx_nil Tryz.func280 (by kernel_rfl) (by kernel_rfl) (by kernel_rfl) (by kernel_rfl) (by kernel_rfl)
theorem ok26 : FnOk Tryz.prog 26 sp26 := fnOk (nv := 8) (h := h26) tok mix (ctx_cons ok35 ctx_nil) Tryz.func26 (by kernel_rfl) (by kernel_rfl) (by kernel_rfl) (by kernel_rfl) (by kernel_rfl)
theorem ok34 : FnOk Tryz.prog 34 sp34 := fnOk (nv := 4) (h := h34) tok mix (ctx_cons ok73 ctx_nil) Tryz.func34 (by kernel_rfl) (by kernel_rfl) (by kernel_rfl) (by kernel_rfl) (by kernel_rfl)
theorem ok150 : FnOk Tryz.prog 150 sp150 := fnOk (nv := 1) (h := h150) tok mix ctx_nil Tryz.func150 (by kernel_rfl) (by kernel_rfl) (by kernel_rfl) (by kernel_rfl) (by kernel_rfl)
theorem ok97 : FnOk Tryz.prog 97 sp97 := fnOk (nv := 2) (h := h97) tok mix (ctx_cons ok150 ctx_nil) Tryz.func97 (by kernel_rfl) (by kernel_rfl) (by kernel_rfl) (by kernel_rfl) (by kernel_rfl)
theorem ok137 : FnOk Tryz.prog 137 sp137 := fnOk (nv := 2) (h := h137) tok mix ctx_nil Tryz.func137 (by kernel_rfl) (by kernel_rfl) (by kernel_rfl) (by kernel_rfl) (by kernel_rfl)
theorem ok79 : FnOk Tryz.prog 79 sp79 := fnOk (nv := 7) (h := h79) tok mix (ctx_cons ok97 (ctx_cons ok137 ctx_nil)) Tryz.func79 (by kernel_rfl) (by kernel_rfl) (by kernel_rfl) (by kernel_rfl) (by kernel_rfl)
theorem ok75 : FnOk Tryz.prog 75 sp75 := fnOk (nv := 17) (h := h75) tok mix (ctx_cons ok24 (ctx_cons ok34 (ctx_cons ok78 (ctx_cons ok79 ctx_nil)))) Tryz.func75 (by kernel_rfl) (by kernel_rfl) (by kernel_rfl) (by kernel_rfl) (by kernel_rfl)
theorem ok28 : FnOk Tryz.prog 28 sp28 := fnOk (nv := 7) (h := h28) tok mix (ctx_cons ok75 ctx_nil) Tryz.func28 (by kernel_rfl) (by kernel_rfl) (by kernel_rfl) (by kernel_rfl) (by kernel_rfl)
theorem ok37 : FnOk Tryz.prog 37 sp37 := fnOk (nv := 5) (h := h37) tok mix ctx_nil Tryz.func37 (by kernel_rfl) (by kernel_rfl) (by kernel_rfl) (by kernel_rfl) (by kernel_rfl)
theorem ok88 : FnOk Tryz.prog 88 sp88 := fnOk (nv := 7) (h := h88) tok mix (ctx_cons ok34 ctx_nil) Tryz.func88 (by kernel_rfl) (by kernel_rfl) (by kernel_rfl) (by kernel_rfl) (by kernel_rfl)
theorem ok85 : FnOk Tryz.prog 85 sp85 := fnOk (nv := 14) (h := h85) tok mix (ctx_cons ok35 (ctx_cons ok88 (ctx_cons ok141 ctx_nil))) Tryz.func85 (by kernel_rfl) (by kernel_rfl) (by kernel_rfl) (by kernel_rfl) (by kernel_rfl)
theorem ok39 : FnOk Tryz.prog 39 sp39 := fnOk (nv := 7) (h := h39) tok mix (ctx_cons ok85 ctx_nil) Tryz.func39 (by kernel_rfl) (by kernel_rfl) (by kernel_rfl) (by kernel_rfl) (by kernel_rfl)
theorem ok44 : FnOk Tryz.prog 44 sp44 := fnOk (nv := 12) (h := h44) tok mix (ctx_cons ok19 (ctx_cons ok24 (ctx_cons ok26 (ctx_cons ok28 (ctx_cons ok34 (ctx_cons ok35 (ctx_cons ok37 (ctx_cons ok39 ctx_nil)))))))) Tryz.func44 (by kernel_rfl) (by kernel_rfl) (by kernel_rfl) (by kernel_rfl) (by kernel_rfl)
theorem ok188 : FnOk Tryz.prog 188 sp188 := fnOk (nv := 7) (h := h188) tok mix ctx_nil Tryz.func188 (by kernel_rfl) (by kernel_rfl) (by kernel_rfl) (by kernel_rfl) (by kernel_rfl)
theorem ok301 : FnOk Tryz.prog 301 sp301 := fnOk (nv := 7) (h := h301) tok mix ctx_nil Tryz.func301 (by kernel_rfl) (by kernel_rfl) (by kernel_rfl) (by kernel_rfl) (by kernel_rfl)
theorem ok313 : FnOk Tryz.prog 313 sp313 := fnOk (nv := 4) (h := h313) tok mix ctx_nil Tryz.func313 (by kernel_rfl) (by kernel_rfl) (by kernel_rfl) (by kernel_rfl) (by kernel_rfl)
theorem ok302 : FnOk Tryz.prog 302 sp302 := fnOk (nv := 8) (h := h302) tok mix (ctx_cons ok313 ctx_nil) Tryz.func302 (by kernel_rfl) (by kernel_rfl) (by kernel_rfl) (by kernel_rfl) (by kernel_rfl)
theorem ok27 : FnOk Tryz.prog 27 sp27 := fnOk (nv := 7) (h := h27) tok mix (ctx_cons ok75 ctx_nil) Tryz.func27 (by kernel_rfl) (by kernel_rfl) (by kernel_rfl) (by kernel_rfl) (by kernel_rfl)
theorem ok303 : FnOk Tryz.prog 303 sp303 := fnOk (nv := 6) (h := h303) tok mix (ctx_cons ok19 (ctx_cons ok27 (ctx_cons ok35 (ctx_cons ok39 ctx_nil)))) Tryz.func303 (by kernel_rfl) (by kernel_rfl) (by kernel_rfl) (by kernel_rfl) (by kernel_rfl)
theorem ok30 : FnOk Tryz.prog 30 sp30 := fnOk (nv := 10) (h := h30) tok mix (ctx_cons ok27 (ctx_cons ok78 (ctx_cons ok79 ctx_nil))) Tryz.func30 (by kernel_rfl) (by kernel_rfl) (by kernel_rfl) (by kernel_rfl) (by kernel_rfl)
theorem ok43 : FnOk Tryz.prog 43 sp43 := fnOk (nv := 9) (h := h43) tok mix (ctx_cons ok85 ctx_nil) Tryz.func43 (by kernel_rfl) (by kernel_rfl) (by kernel_rfl) (by kernel_rfl) (by kernel_rfl)
theorem ok304 : FnOk Tryz.prog 304 sp304 := fnOk (nv := 5) (h := h304) tok mix (ctx_cons ok19 (ctx_cons ok30 (ctx_cons ok43 ctx_nil))) Tryz.func304 (by kernel_rfl) (by kernel_rfl) (by kernel_rfl) (by kernel_rfl) (by kernel_rfl)
theorem ok314 : FnOk Tryz.prog 314 sp314 := fnOk (nv := 7) (h := h314) tok mix (ctx_cons ok35 ctx_nil) Tryz.func314 (by kernel_rfl) (by kernel_rfl) (by kernel_rfl) (by kernel_rfl) (by kernel_rfl)
theorem ok305 : FnOk Tryz.prog 305 sp305 := fnOk (nv := 6) (h := h305) tok mix (ctx_cons ok37 (ctx_cons ok170 (ctx_cons ok314 ctx_nil))) Tryz.func305 (by kernel_rfl) (by kernel_rfl) (by kernel_rfl) (by kernel_rfl) (by kernel_rfl)
theorem ok315 : FnOk Tryz.prog 315 sp315 := fnOk (nv := 10) (h := h315) tok mix ctx_nil Tryz.func315 (by kernel_rfl) (by kernel_rfl) (by kernel_rfl) (by kernel_rfl) (by kernel_rfl)
theorem ok306 : FnOk Tryz.prog 306 sp306 := fnOk (nv := 12) (h := h306) tok mix (ctx_cons ok179 (ctx_cons ok315 ctx_nil)) Tryz.func306 (by kernel_rfl) (by kernel_rfl) (by kernel_rfl) (by kernel_rfl) (by kernel_rfl)
theorem ok281 : FnOk Tryz.prog 281 sp281 := fnOk (nv := 16) (h := h281) tok mix (ctx_cons ok19 (ctx_cons ok44 (ctx_cons ok87 (ctx_cons ok141 (ctx_cons ok188 (ctx_cons ok301 (ctx_cons ok302 (ctx_cons ok303 (ctx_cons ok304 (ctx_cons ok305 (ctx_cons ok306 ctx_nil))))))))))) Tryz.func281 (by kernel_rfl) (by kernel_rfl) (by kernel_rfl) (by kernel_rfl) (by kernel_rfl)
theorem ok151 : FnOk Tryz.prog 151 sp151 := fnOk (nv := 12) (h := h151) tok mix ctx_nil Tryz.func151 (by kernel_rfl) (by kernel_rfl) (by kernel_rfl) (by kernel_rfl) (by kernel_rfl)
theorem ok98 : FnOk Tryz.prog 98 sp98 := fnOk (nv := 9) (h := h98) tok mix (ctx_cons ok151 ctx_nil) Tryz.func98 (by kernel_rfl) (by kernel_rfl) (by kernel_rfl) (by kernel_rfl) (by kernel_rfl)
theorem ok99 : FnOk Tryz.prog 99 sp99 := fnOk (nv := 7) (h := h99) tok mix (ctx_cons ok98 ctx_nil) Tryz.func99 (by kernel_rfl) (by kernel_rfl) (by kernel_rfl) (by kernel_rfl) (by kernel_rfl)
theorem ok51 : FnOk Tryz.prog 51 sp51 := fnOk (nv := 8) (h := h51) tok mix (ctx_cons ok97 (ctx_cons ok98 (ctx_cons ok99 ctx_nil))) Tryz.func51 (by kernel_rfl) (by kernel_rfl) (by kernel_rfl) (by kernel_rfl) (by kernel_rfl)
theorem ok117 : FnOk Tryz.prog 117 sp117 := fnOk (nv := 5) (h := h117) tok mix (ctx_cons ok27 (ctx_cons ok39 (ctx_cons ok51 ctx_nil))) Tryz.func117 (by kernel_rfl) (by kernel_rfl) (by kernel_rfl) (by kernel_rfl) (by kernel_rfl)
theorem ok64 : FnOk Tryz.prog 64 sp64 := fnOk (nv := 11) (h := h64) tok mix (ctx_cons ok21 (ctx_cons ok117 ctx_nil)) Tryz.func64 (by kernel_rfl) (by kernel_rfl) (by kernel_rfl) (by kernel_rfl) (by kernel_rfl)
theorem ok111_r : ∀ n, FnOk Tryz.prog 111 (sp111_r n)
  | 0 => ⟨⟨Tryz.f111, by kernel_rfl, by kernel_rfl, by kernel_rfl⟩, fun a r hr => nomatch (show (none : Option _) = some r from hr)⟩
  | n + 1 => fnOk (nv := 10) (h := h111) tok mix (ctx_cons (ok111_r n) (ctx_cons ok64 ctx_nil)) Tryz.func111 (by kernel_rfl) (by kernel_rfl) (by kernel_rfl) (by kernel_rfl) (by kernel_rfl)
theorem ok111 : FnOk Tryz.prog 111 sp111 := ok111_r 64
theorem ok61 : FnOk Tryz.prog 61 sp61 := fnOk (nv := 3) (h := h61) tok mix (ctx_cons ok111 ctx_nil) Tryz.func61 (by kernel_rfl) (by kernel_rfl) (by kernel_rfl) (by kernel_rfl) (by kernel_rfl)
theorem ok63 : FnOk Tryz.prog 63 sp63 := fnOk (nv := 12) (h := h63) tok mix (ctx_cons ok87 ctx_nil) Tryz.func63 (by kernel_rfl) (by kernel_rfl) (by kernel_rfl) (by kernel_rfl) (by kernel_rfl)
theorem ok316 : FnOk Tryz.prog 316 sp316 := fnOk (nv := 7) (h := h316) tok mix ctx_nil Tryz.func316 (by kernel_rfl) (by kernel_rfl) (by kernel_rfl) (by kernel_rfl) (by kernel_rfl)
theorem ok317 : FnOk Tryz.prog 317 sp317 := fnOk (nv := 8) (h := h317) tok mix ctx_nil Tryz.func317 (by kernel_rfl) (by kernel_rfl) (by kernel_rfl) (by kernel_rfl) (by kernel_rfl)
theorem ok318 : FnOk Tryz.prog 318 sp318 := fnOk (nv := 6) (h := h318) tok mix ctx_nil Tryz.func318 (by kernel_rfl) (by kernel_rfl) (by kernel_rfl) (by kernel_rfl) (by kernel_rfl)
theorem ok307 : FnOk Tryz.prog 307 sp307 := fnOk (nv := 16) (h := h307) tok mix (ctx_cons ok19 (ctx_cons ok44 (ctx_cons ok179 (ctx_cons ok302 (ctx_cons ok303 (ctx_cons ok305 (ctx_cons ok306 (ctx_cons ok313 (ctx_cons ok316 (ctx_cons ok317 (ctx_cons ok318 ctx_nil))))))))))) Tryz.func307 (by kernel_rfl) (by kernel_rfl) (by kernel_rfl) (by kernel_rfl) (by kernel_rfl)
theorem ok282 : FnOk Tryz.prog 282 sp282 := fnOk (nv := 21) (h := h282) tok mix (ctx_cons ok61 (ctx_cons ok63 (ctx_cons ok141 (ctx_cons ok304 (ctx_cons ok307 ctx_nil))))) Tryz.func282 (by kernel_rfl) (by kernel_rfl) (by kernel_rfl) (by kernel_rfl) (by kernel_rfl)
theorem ok239 : FnOk Tryz.prog 239 sp239 := fnOk (nv := 17) (h := h239) tok mix (ctx_cons ok170 (ctx_cons ok280 (ctx_cons ok281 (ctx_cons ok282 ctx_nil)))) Tryz.func239 (by kernel_rfl) (by kernel_rfl) (by kernel_rfl) (by kernel_rfl) (by kernel_rfl)
theorem ok176 : FnOk Tryz.prog 176 sp176 := fnOk (nv := 11) (h := h176) tok mix (ctx_cons ok239 ctx_nil) Tryz.func176 (by kernel_rfl) (by kernel_rfl) (by kernel_rfl) (by kernel_rfl) (by kernel_rfl)
theorem ok120 : FnOk Tryz.prog 120 sp120 := fnOk (nv := 13) (h := h120) tok mix (ctx_cons ok125 (ctx_cons ok170 (ctx_cons ok172 (ctx_cons ok173 (ctx_cons ok174 (ctx_cons ok175 (ctx_cons ok176 ctx_nil))))))) Tryz.func120 (by kernel_rfl) (by kernel_rfl) (by kernel_rfl) (by kernel_rfl) (by kernel_rfl)
theorem ok177 : FnOk Tryz.prog 177 sp177 := fnOk (nv := 1) (h := h177) tok mix ctx_nil Tryz.func177 (by kernel_rfl) (by kernel_rfl) (by kernel_rfl) (by kernel_rfl) (by kernel_rfl)
theorem ok178 : FnOk Tryz.prog 178 sp178 := fnOk (nv := 6) (h := h178) tok mix (ctx_cons ok87 ctx_nil) Tryz.func178 (by kernel_rfl) (by kernel_rfl) (by kernel_rfl) (by kernel_rfl) (by kernel_rfl)
theorem ok121 : FnOk Tryz.prog 121 sp121 := fnOk (nv := 10) (h := h121) tok mix (ctx_cons ok80 (ctx_cons ok87 (ctx_cons ok141 (ctx_cons ok177 (ctx_cons ok178 (ctx_cons ok179 (ctx_cons ok180 ctx_nil))))))) Tryz.func121 (by kernel_rfl) (by kernel_rfl) (by kernel_rfl) (by kernel_rfl) (by kernel_rfl)
theorem ok181 : FnOk Tryz.prog 181 sp181 := fnOk (nv := 8) (h := h181) tok mix (ctx_cons ok174 ctx_nil) Tryz.func181 (by kernel_rfl) (by kernel_rfl) (by kernel_rfl) (by kernel_rfl) (by kernel_rfl)
theorem ok182 : FnOk Tryz.prog 182 sp182 := fnOk (nv := 7) (h := h182) tok mix ctx_nil Tryz.func182 (by kernel_rfl) (by kernel_rfl) (by kernel_rfl) (by kernel_rfl) (by kernel_rfl)
theorem ok283 : FnOk Tryz.prog 283 sp283 := fnOk (nv := 1) (h := h283) tok mix ctx_nil Tryz.func283 (by kernel_rfl) (by kernel_rfl) (by kernel_rfl) (by kernel_rfl) (by kernel_rfl)
theorem ok240 : FnOk Tryz.prog 240 sp240 := fnOk (nv := 3) (h := h240) tok mix (ctx_cons ok283 ctx_nil) Tryz.func240 (by kernel_rfl) (by kernel_rfl) (by kernel_rfl) (by kernel_rfl) (by kernel_rfl)
theorem ok241 : FnOk Tryz.prog 241 sp241 := fnOk (nv := 9) (h := h241) tok mix ctx_nil Tryz.func241 (by kernel_rfl) (by kernel_rfl) (by kernel_rfl) (by kernel_rfl) (by kernel_rfl)
theorem ok183 : FnOk Tryz.prog 183 sp183 := fnOk (nv := 10) (h := h183) tok mix (ctx_cons ok240 (ctx_cons ok241 ctx_nil)) Tryz.func183 (by kernel_rfl) (by kernel_rfl) (by kernel_rfl) (by kernel_rfl) (by kernel_rfl)
theorem ok122 : FnOk Tryz.prog 122 sp122 := fnOk (nv := 14) (h := h122) tok mix (ctx_cons ok125 (ctx_cons ok141 (ctx_cons ok174 (ctx_cons ok179 (ctx_cons ok181 (ctx_cons ok182 (ctx_cons ok183 (ctx_cons ok184 (ctx_cons ok185 ctx_nil))))))))) Tryz.func122 (by kernel_rfl) (by kernel_rfl) (by kernel_rfl) (by kernel_rfl) (by kernel_rfl)
theorem ok186 : FnOk Tryz.prog 186 sp186 := fnOk (nv := 9) (h := h186) tok mix (ctx_cons ok87 (ctx_cons ok141 (ctx_cons ok179 (ctx_cons ok238 ctx_nil)))) Tryz.func186 (by kernel_rfl) (by kernel_rfl) (by kernel_rfl) (by kernel_rfl) (by kernel_rfl)
theorem ok123 : FnOk Tryz.prog 123 sp123 := fnOk (nv := 11) (h := h123) tok mix (ctx_cons ok87 (ctx_cons ok125 (ctx_cons ok141 (ctx_cons ok186 ctx_nil)))) Tryz.func123 (by kernel_rfl) (by kernel_rfl) (by kernel_rfl) (by kernel_rfl) (by kernel_rfl)
theorem ok187 : FnOk Tryz.prog 187 sp187 := fnOk (nv := 5) (h := h187) tok mix ctx_nil Tryz.func187 (by kernel_rfl) (by kernel_rfl) (by kernel_rfl) (by kernel_rfl) (by kernel_rfl)
theorem ok189 : FnOk Tryz.prog 189 sp189 := fnOk (nv := 6) (h := h189) tok mix (ctx_cons ok170 (ctx_cons ok171 ctx_nil)) Tryz.func189 (by kernel_rfl) (by kernel_rfl) (by kernel_rfl) (by kernel_rfl) (by kernel_rfl)
theorem ok190 : FnOk Tryz.prog 190 sp190 := fnOk (nv := 5) (h := h190) tok mix ctx_nil Tryz.func190 (by kernel_rfl) (by kernel_rfl) (by kernel_rfl) (by kernel_rfl) (by kernel_rfl)
theorem ok191 : FnOk Tryz.prog 191 sp191 := fnOk (nv := 6) (h := h191) tok mix ctx_nil Tryz.func191 (by kernel_rfl) (by kernel_rfl) (by kernel_rfl) (by kernel_rfl) (by kernel_rfl)
theorem ok193 : FnOk Tryz.prog 193 sp193 := fnOk (nv := 7) (h := h193) tok mix (ctx_cons ok174 ctx_nil) Tryz.func193 (by kernel_rfl) (by kernel_rfl) (by kernel_rfl) (by kernel_rfl) (by kernel_rfl)
theorem ok244 : FnOk Tryz.prog 244 sp244 := fnOk (nv := 9) (h := h244) tok mix ctx_nil Tryz.func244 (by kernel_rfl) (by kernel_rfl) (by kernel_rfl) (by kernel_rfl) (by kernel_rfl)
theorem ok284 : FnOk Tryz.prog 284 sp284 := fnOk (nv := 6) (h := h284) tok mix (ctx_cons ok141 ctx_nil) Tryz.func284 (by kernel_rfl) (by kernel_rfl) (by kernel_rfl) (by kernel_rfl) (by kernel_rfl)
theorem ok285 : FnOk Tryz.prog 285 sp285 := fnOk (nv := 7) (h := h285) tok mix ctx_nil Tryz.func285 (by kernel_rfl) (by kernel_rfl) (by kernel_rfl) (by kernel_rfl) (by kernel_rfl)
theorem ok89 : FnOk Tryz.prog 89 sp89 := fnOk (nv := 7) (h := h89) tok mix (ctx_cons ok35 ctx_nil) Tryz.func89 (by kernel_rfl) (by kernel_rfl) (by kernel_rfl) (by kernel_rfl) (by kernel_rfl)
theorem ok41 : FnOk Tryz.prog 41 sp41 := fnOk (nv := 9) (h := h41) tok mix (ctx_cons ok35 (ctx_cons ok87 (ctx_cons ok88 (ctx_cons ok89 ctx_nil)))) Tryz.func41 (by kernel_rfl) (by kernel_rfl) (by kernel_rfl) (by kernel_rfl) (by kernel_rfl)
theorem ok199 : FnOk Tryz.prog 199 sp199 := fnOk (nv := 1) (h := h199) tok mix ctx_nil Tryz.func199 (by kernel_rfl) (by kernel_rfl) (by kernel_rfl) (by kernel_rfl) (by kernel_rfl)
theorem ok145 : FnOk Tryz.prog 145 sp145 := fnOk (nv := 16) (h := h145) tok mix (ctx_cons ok199 ctx_nil) Tryz.func145 (by kernel_rfl) (by kernel_rfl) (by kernel_rfl) (by kernel_rfl) (by kernel_rfl)
theorem ok92_r : ∀ n, FnOk Tryz.prog 92 (sp92_r n)
  | 0 => ⟨⟨Tryz.f92, by kernel_rfl, by kernel_rfl, by kernel_rfl⟩, fun a r hr => nomatch (show (none : Option _) = some r from hr)⟩
  | n + 1 => fnOk (nv := 17) (h := h92) tok mix (ctx_cons (ok92_r n) (ctx_cons ok21 (ctx_cons ok27 (ctx_cons ok28 (ctx_cons ok39 (ctx_cons ok41 (ctx_cons ok145 ctx_nil))))))) Tryz.func92 (by kernel_rfl) (by kernel_rfl) (by kernel_rfl) (by kernel_rfl) (by kernel_rfl)
theorem ok92 : FnOk Tryz.prog 92 sp92 := ok92_r 64
theorem ok47 : FnOk Tryz.prog 47 sp47 := fnOk (nv := 9) (h := h47) tok mix (ctx_cons ok24 (ctx_cons ok92 ctx_nil)) Tryz.func47 (by kernel_rfl) (by kernel_rfl) (by kernel_rfl) (by kernel_rfl) (by kernel_rfl)
theorem ok286 : FnOk Tryz.prog 286 sp286 := fnOk (nv := 9) (h := h286) tok mix (ctx_cons ok47 ctx_nil) Tryz.func286 (by kernel_rfl) (by kernel_rfl) (by kernel_rfl) (by kernel_rfl) (by kernel_rfl)
theorem ok242 : FnOk Tryz.prog 242 sp242 := fnOk (nv := 10) (h := h242) tok mix (ctx_cons ok39 (ctx_cons ok174 (ctx_cons ok175 (ctx_cons ok244 (ctx_cons ok284 (ctx_cons ok285 (ctx_cons ok286 ctx_nil))))))) Tryz.func242 (by kernel_rfl) (by kernel_rfl) (by kernel_rfl) (by kernel_rfl) (by kernel_rfl)
theorem ok287 : FnOk Tryz.prog 287 sp287 := fnOk (nv := 12) (h := h287) tok mix (ctx_cons ok27 (ctx_cons ok39 (ctx_cons ok41 (ctx_cons ok87 ctx_nil)))) Tryz.func287 (by kernel_rfl) (by kernel_rfl) (by kernel_rfl) (by kernel_rfl) (by kernel_rfl)
theorem ok308 : FnOk Tryz.prog 308 sp308 := fnOk (nv := 6) (h := h308) tok mix ctx_nil Tryz.func308 (by kernel_rfl) (by kernel_rfl) (by kernel_rfl) (by kernel_rfl) (by kernel_rfl)
theorem ok288 : FnOk Tryz.prog 288 sp288 := fnOk (nv := 12) (h := h288) tok mix (ctx_cons ok284 (ctx_cons ok308 ctx_nil)) Tryz.func288 (by kernel_rfl) (by kernel_rfl) (by kernel_rfl) (by kernel_rfl) (by kernel_rfl)
theorem ok289 : FnOk Tryz.prog 289 sp289 := fnOk (nv := 14) (h := h289) tok mix (ctx_cons ok284 (ctx_cons ok308 ctx_nil)) Tryz.func289 (by kernel_rfl) (by kernel_rfl) (by kernel_rfl) (by kernel_rfl) (by kernel_rfl)
theorem ok243 : FnOk Tryz.prog 243 sp243 := fnOk (nv := 15) (h := h243) tok mix (ctx_cons ok24 (ctx_cons ok39 (ctx_cons ok47 (ctx_cons ok287 (ctx_cons ok288 (ctx_cons ok289 ctx_nil)))))) Tryz.func243 (by kernel_rfl) (by kernel_rfl) (by kernel_rfl) (by kernel_rfl) (by kernel_rfl)
theorem ok192 : FnOk Tryz.prog 192 sp192 := fnOk (nv := 8) (h := h192) tok mix (ctx_cons ok193 (ctx_cons ok242 (ctx_cons ok243 (ctx_cons ok244 ctx_nil)))) Tryz.func192 (by kernel_rfl) (by kernel_rfl) (by kernel_rfl) (by kernel_rfl) (by kernel_rfl)
theorem ok124 : FnOk Tryz.prog 124 sp124 := fnOk (nv := 12) (h := h124) tok mix (ctx_cons ok125 (ctx_cons ok172 (ctx_cons ok175 (ctx_cons ok187 (ctx_cons ok188 (ctx_cons ok189 (ctx_cons ok190 (ctx_cons ok191 (ctx_cons ok192 (ctx_cons ok193 ctx_nil)))))))))) Tryz.func124 (by kernel_rfl) (by kernel_rfl) (by kernel_rfl) (by kernel_rfl) (by kernel_rfl)
theorem ok66 : FnOk Tryz.prog 66 sp66 := fnOk (nv := 17) (h := h66) tok mix (ctx_cons ok56 (ctx_cons ok59 (ctx_cons ok118 (ctx_cons ok119 (ctx_cons ok120 (ctx_cons ok121 (ctx_cons ok122 (ctx_cons ok123 (ctx_cons ok124 (ctx_cons ok125 ctx_nil)))))))))) Tryz.func66 (by kernel_rfl) (by kernel_rfl) (by kernel_rfl) (by kernel_rfl) (by kernel_rfl)
theorem ok126_r : ∀ n, FnOk Tryz.prog 126 (sp126_r n)
  | 0 => ⟨⟨Tryz.f126, by kernel_rfl, by kernel_rfl, by kernel_rfl⟩, fun a r hr => nomatch (show (none : Option _) = some r from hr)⟩
  | n + 1 => fnOk (nv := 1) (h := h126) tok mix (ctx_cons (ok126_r n) ctx_nil) Tryz.func126 (by kernel_rfl) (by kernel_rfl) (by kernel_rfl) (by kernel_rfl) (by kernel_rfl)
theorem ok126 : FnOk Tryz.prog 126 sp126 := ok126_r 64
theorem ok67 : FnOk Tryz.prog 67 sp67 := fnOk (nv := 8) (h := h67) tok mix (ctx_cons ok126 ctx_nil) Tryz.func67 (by kernel_rfl) (by kernel_rfl) (by kernel_rfl) (by kernel_rfl) (by kernel_rfl)
theorem ok127 : FnOk Tryz.prog 127 sp127 := fnOk (nv := 6) (h := h127) tok mix ctx_nil Tryz.func127 (by kernel_rfl) (by kernel_rfl) (by kernel_rfl) (by kernel_rfl) (by kernel_rfl)
theorem ok128 : FnOk Tryz.prog 128 sp128 := fnOk (nv := 2) (h := h128) tok mix ctx_nil Tryz.func128 (by kernel_rfl) (by kernel_rfl) (by kernel_rfl) (by kernel_rfl) (by kernel_rfl)
theorem ok68 : FnOk Tryz.prog 68 sp68 := fnOk (nv := 19) (h := h68) tok mix (ctx_cons ok21 (ctx_cons ok21 (ctx_cons ok127 (ctx_cons ok128 ctx_nil)))) Tryz.func68 (by kernel_rfl) (by kernel_rfl) (by kernel_rfl) (by kernel_rfl) (by kernel_rfl)
theorem ok22 : FnOk Tryz.prog 22 sp22 := fnOk (nv := 6) (h := h22) tok mix ctx_nil Tryz.func22 (by kernel_rfl) (by kernel_rfl) (by kernel_rfl) (by kernel_rfl) (by kernel_rfl)
theorem ok32 : FnOk Tryz.prog 32 sp32 := fnOk (nv := 5) (h := h32) tok mix (ctx_cons ok80 ctx_nil) Tryz.func32 (by kernel_rfl) (by kernel_rfl) (by kernel_rfl) (by kernel_rfl) (by kernel_rfl)
theorem ok129 : FnOk Tryz.prog 129 sp129 := fnOk (nv := 3) (h := h129) tok mix (ctx_cons ok22 ctx_nil) Tryz.func129 (by kernel_rfl) (by kernel_rfl) (by kernel_rfl) (by kernel_rfl) (by kernel_rfl)
theorem ok130 : FnOk Tryz.prog 130 sp130 := fnOk (nv := 9) (h := h130) tok mix (ctx_cons ok22 (ctx_cons ok129 ctx_nil)) Tryz.func130 (by kernel_rfl) (by kernel_rfl) (by kernel_rfl) (by kernel_rfl) (by kernel_rfl)
theorem ok69 : FnOk Tryz.prog 69 sp69 := fnOk (nv := 30) (h := h69) tok mix (ctx_cons ok22 (ctx_cons ok32 (ctx_cons ok67 (ctx_cons ok68 (ctx_cons ok129 (ctx_cons ok130 ctx_nil)))))) Tryz.func69 (by kernel_rfl) (by kernel_rfl) (by kernel_rfl) (by kernel_rfl) (by kernel_rfl)
theorem ok17 : FnOk Tryz.prog 17 sp17 := fnOk (nv := 7) (h := h17) tok mix (ctx_cons ok65 (ctx_cons ok66 (ctx_cons ok67 (ctx_cons ok68 (ctx_cons ok69 ctx_nil))))) Tryz.func17 (by kernel_rfl) (by kernel_rfl) (by kernel_rfl) (by kernel_rfl) (by kernel_rfl)
theorem ok102 : FnOk Tryz.prog 102 sp102 := fnOk (nv := 2) (h := h102) tok mix ctx_nil Tryz.func102 (by kernel_rfl) (by kernel_rfl) (by kernel_rfl) (by kernel_rfl) (by kernel_rfl)
shelf_lay Go.Proofs.Lays.n189 Nm 189 at Tryz as lay152
theorem ok152 : FnOk Tryz.prog 152 sp152 := sortI_ok (ρ := lay152_ren) lay152 ⟨Tryz.f152, by kernel_rfl, by kernel_rfl, by kernel_rfl⟩
theorem ok267 : FnOk Tryz.prog 267 sp267 := fnOk (nv := 9) (h := h267) tok mix ctx_nil Tryz.func267 (by kernel_rfl) (by kernel_rfl) (by kernel_rfl) (by kernel_rfl) (by kernel_rfl)
theorem ok214 : FnOk Tryz.prog 214 sp214 := fnOk (nv := 2) (h := h214) tok mix (ctx_cons ok267 ctx_nil) Tryz.func214 (by kernel_rfl) (by kernel_rfl) (by kernel_rfl) (by kernel_rfl) (by kernel_rfl)
theorem ok134 : FnOk Tryz.prog 134 sp134 := fnOk (nv := 2) (h := h134) tok mix ctx_nil Tryz.func134 (by kernel_rfl) (by kernel_rfl) (by kernel_rfl) (by kernel_rfl) (by kernel_rfl)
theorem ok135 : FnOk Tryz.prog 135 sp135 := fnOk (nv := 3) (h := h135) tok mix (ctx_cons ok134 ctx_nil) Tryz.func135 (by kernel_rfl) (by kernel_rfl) (by kernel_rfl) (by kernel_rfl) (by kernel_rfl)
theorem ok83 : FnOk Tryz.prog 83 sp83 := fnOk (nv := 5) (h := h83) tok mix (ctx_cons ok134 (ctx_cons ok135 ctx_nil)) Tryz.func83 (by kernel_rfl) (by kernel_rfl) (by kernel_rfl) (by kernel_rfl) (by kernel_rfl)
theorem ok84 : FnOk Tryz.prog 84 sp84 := fnOk (nv := 4) (h := h84) tok mix ctx_nil Tryz.func84 (by kernel_rfl) (by kernel_rfl) (by kernel_rfl) (by kernel_rfl) (by kernel_rfl)
theorem ok216 : FnOk Tryz.prog 216 sp216 := fnOk (nv := 13) (h := h216) tok mix (ctx_cons ok83 ctx_nil) Tryz.func216 (by kernel_rfl) (by kernel_rfl) (by kernel_rfl) (by kernel_rfl) (by kernel_rfl)
theorem ok215 : FnOk Tryz.prog 215 sp215 := fnOk (nv := 7) (h := h215) tok mix (ctx_cons ok83 (ctx_cons ok84 (ctx_cons ok216 ctx_nil))) Tryz.func215 (by kernel_rfl) (by kernel_rfl) (by kernel_rfl) (by kernel_rfl) (by kernel_rfl)
theorem ok153 : FnOk Tryz.prog 153 sp153 := fnOk (nv := 19) (h := h153) tok mix (ctx_cons ok214 (ctx_cons ok215 ctx_nil)) Tryz.func153 (by kernel_rfl) (by kernel_rfl) (by kernel_rfl) (by kernel_rfl) (by kernel_rfl)
theorem ok100 : FnOk Tryz.prog 100 sp100 := fnOk (nv := 77) (h := h100) tok mix (ctx_cons ok102 (ctx_cons ok152 (ctx_cons ok153 ctx_nil))) Tryz.func100 (by kernel_rfl) (by kernel_rfl) (by kernel_rfl) (by kernel_rfl) (by kernel_rfl)
theorem ok52 : FnOk Tryz.prog 52 sp52 := fnOk (nv := 4) (h := h52) tok mix (ctx_cons ok100 ctx_nil) Tryz.func52 (by kernel_rfl) (by kernel_rfl) (by kernel_rfl) (by kernel_rfl) (by kernel_rfl)
theorem ok54 : FnOk Tryz.prog 54 sp54 := fnOk (nv := 6) (h := h54) tok mix ctx_nil Tryz.func54 (by kernel_rfl) (by kernel_rfl) (by kernel_rfl) (by kernel_rfl) (by kernel_rfl)
theorem ok53 : FnOk Tryz.prog 53 sp53 := fnOk (nv := 3) (h := h53) tok mix (ctx_cons ok54 ctx_nil) Tryz.func53 (by kernel_rfl) (by kernel_rfl) (by kernel_rfl) (by kernel_rfl) (by kernel_rfl)
theorem ok74 : FnOk Tryz.prog 74 sp74 := fnOk (nv := 9) (h := h74) tok mix (ctx_cons ok83 ctx_nil) Tryz.func74 (by kernel_rfl) (by kernel_rfl) (by kernel_rfl) (by kernel_rfl) (by kernel_rfl)
theorem ok23 : FnOk Tryz.prog 23 sp23 := fnOk (nv := 12) (h := h23) tok mix (ctx_cons ok74 ctx_nil) Tryz.func23 (by kernel_rfl) (by kernel_rfl) (by kernel_rfl) (by kernel_rfl) (by kernel_rfl)
theorem ok133_ne : FnOk Tryz.prog 133 sp133_ne := fnOk (nv := 1) (h := h133) tok mix ctx_nil Tryz.func133 (by kernel_rfl) (by kernel_rfl) (by kernel_rfl) (by kernel_rfl) (by kernel_rfl)
set_option maxHeartbeats 2000000 in
theorem walk133 (p : Option Addr) (cap : Nat) (w : World) : Calls Tryz.prog 133 #[.slice p 0 cap] w fun e w' => ∃ p', e = .returned (.slice p' 0 0) ∧ RowKit.Below w.heap.size w w' ∧ w.drawn ≤ w'.drawn := by
  have q := q_nil (P := Tryz.prog) (t := 39) rowOk39.und
  cases p with
  | none =>
    go_enter Tryz.func133, Tryz.ntmps133
    go_wp2
    go_ret
    exact ⟨_, rfl, .refl _ _, Nat.le_refl _⟩
  | some p =>
    go_enter Tryz.func133, Tryz.ntmps133
    go_wp2
    go_ret
    exact ⟨_, rfl, (RowKit.Below.refl _ w).alloc (Nat.le_refl _) _, Nat.le_refl _⟩
theorem ok133 : FnOk Tryz.prog 133 sp133 := clone_ok ok133_ne walk133
theorem ok217_ne : FnOk Tryz.prog 217 sp217_ne := fnOk (nv := 1) (h := h217) tok mix ctx_nil Tryz.func217 (by kernel_rfl) (by kernel_rfl) (by kernel_rfl) (by kernel_rfl) (by kernel_rfl)
set_option maxHeartbeats 2000000 in
theorem walk217 (p : Option Addr) (cap : Nat) (w : World) : Calls Tryz.prog 217 #[.slice p 0 cap] w fun e w' => ∃ p', e = .returned (.slice p' 0 0) ∧ RowKit.Below w.heap.size w w' ∧ w.drawn ≤ w'.drawn := by
  have q := q_nil (P := Tryz.prog) (t := 27) rowOk27.und
  cases p with
  | none =>
    go_enter Tryz.func217, Tryz.ntmps217
    go_wp2
    go_ret
    exact ⟨_, rfl, .refl _ _, Nat.le_refl _⟩
  | some p =>
    go_enter Tryz.func217, Tryz.ntmps217
    go_wp2
    go_ret
    exact ⟨_, rfl, (RowKit.Below.refl _ w).alloc (Nat.le_refl _) _, Nat.le_refl _⟩
theorem ok217 : FnOk Tryz.prog 217 sp217 := clone_ok ok217_ne walk217
theorem ok218_ne : FnOk Tryz.prog 218 sp218_ne := fnOk (nv := 1) (h := h218) tok mix ctx_nil Tryz.func218 (by kernel_rfl) (by kernel_rfl) (by kernel_rfl) (by kernel_rfl) (by kernel_rfl)
set_option maxHeartbeats 2000000 in
theorem walk218 (p : Option Addr) (cap : Nat) (w : World) : Calls Tryz.prog 218 #[.slice p 0 cap] w fun e w' => ∃ p', e = .returned (.slice p' 0 0) ∧ RowKit.Below w.heap.size w w' ∧ w.drawn ≤ w'.drawn := by
  have q := q_nil (P := Tryz.prog) (t := 28) rowOk28.und
  cases p with
  | none =>
    go_enter Tryz.func218, Tryz.ntmps218
    go_wp2
    go_ret
    exact ⟨_, rfl, .refl _ _, Nat.le_refl _⟩
  | some p =>
    go_enter Tryz.func218, Tryz.ntmps218
    go_wp2
    go_ret
    exact ⟨_, rfl, (RowKit.Below.refl _ w).alloc (Nat.le_refl _) _, Nat.le_refl _⟩
theorem ok218 : FnOk Tryz.prog 218 sp218 := clone_ok ok218_ne walk218
theorem ok219_ne : FnOk Tryz.prog 219 sp219_ne := fnOk (nv := 1) (h := h219) tok mix ctx_nil Tryz.func219 (by kernel_rfl) (by kernel_rfl) (by kernel_rfl) (by kernel_rfl) (by kernel_rfl)
set_option maxHeartbeats 2000000 in
theorem walk219 (p : Option Addr) (cap : Nat) (w : World) : Calls Tryz.prog 219 #[.slice p 0 cap] w fun e w' => ∃ p', e = .returned (.slice p' 0 0) ∧ RowKit.Below w.heap.size w w' ∧ w.drawn ≤ w'.drawn := by
  have q := q_nil (P := Tryz.prog) (t := 31) rowOk31.und
  cases p with
  | none =>
    go_enter Tryz.func219, Tryz.ntmps219
    go_wp2
    go_ret
    exact ⟨_, rfl, .refl _ _, Nat.le_refl _⟩
  | some p =>
    go_enter Tryz.func219, Tryz.ntmps219
    go_wp2
    go_ret
    exact ⟨_, rfl, (RowKit.Below.refl _ w).alloc (Nat.le_refl _) _, Nat.le_refl _⟩
theorem ok219 : FnOk Tryz.prog 219 sp219 := clone_ok ok219_ne walk219
theorem ok220_ne : FnOk Tryz.prog 220 sp220_ne := fnOk (nv := 1) (h := h220) tok mix ctx_nil Tryz.func220 (by kernel_rfl) (by kernel_rfl) (by kernel_rfl) (by kernel_rfl) (by kernel_rfl)
set_option maxHeartbeats 2000000 in
theorem walk220 (p : Option Addr) (cap : Nat) (w : World) : Calls Tryz.prog 220 #[.slice p 0 cap] w fun e w' => ∃ p', e = .returned (.slice p' 0 0) ∧ RowKit.Below w.heap.size w w' ∧ w.drawn ≤ w'.drawn := by
  have q := q_nil (P := Tryz.prog) (t := 33) rowOk33.und
  cases p with
  | none =>
    go_enter Tryz.func220, Tryz.ntmps220
    go_wp2
    go_ret
    exact ⟨_, rfl, .refl _ _, Nat.le_refl _⟩
  | some p =>
    go_enter Tryz.func220, Tryz.ntmps220
    go_wp2
    go_ret
    exact ⟨_, rfl, (RowKit.Below.refl _ w).alloc (Nat.le_refl _) _, Nat.le_refl _⟩
theorem ok220 : FnOk Tryz.prog 220 sp220 := clone_ok ok220_ne walk220
theorem ok221_ne : FnOk Tryz.prog 221 sp221_ne := fnOk (nv := 1) (h := h221) tok mix ctx_nil Tryz.func221 (by kernel_rfl) (by kernel_rfl) (by kernel_rfl) (by kernel_rfl) (by kernel_rfl)
set_option maxHeartbeats 2000000 in
theorem walk221 (p : Option Addr) (cap : Nat) (w : World) : Calls Tryz.prog 221 #[.slice p 0 cap] w fun e w' => ∃ p', e = .returned (.slice p' 0 0) ∧ RowKit.Below w.heap.size w w' ∧ w.drawn ≤ w'.drawn := by
  have q := q_nil (P := Tryz.prog) (t := 34) rowOk34.und
  cases p with
  | none =>
    go_enter Tryz.func221, Tryz.ntmps221
    go_wp2
    go_ret
    exact ⟨_, rfl, .refl _ _, Nat.le_refl _⟩
  | some p =>
    go_enter Tryz.func221, Tryz.ntmps221
    go_wp2
    go_ret
    exact ⟨_, rfl, (RowKit.Below.refl _ w).alloc (Nat.le_refl _) _, Nat.le_refl _⟩
theorem ok221 : FnOk Tryz.prog 221 sp221 := clone_ok ok221_ne walk221
theorem ok222_ne : FnOk Tryz.prog 222 sp222_ne := fnOk (nv := 1) (h := h222) tok mix ctx_nil Tryz.func222 (by kernel_rfl) (by kernel_rfl) (by kernel_rfl) (by kernel_rfl) (by kernel_rfl)
set_option maxHeartbeats 2000000 in
theorem walk222 (p : Option Addr) (cap : Nat) (w : World) : Calls Tryz.prog 222 #[.slice p 0 cap] w fun e w' => ∃ p', e = .returned (.slice p' 0 0) ∧ RowKit.Below w.heap.size w w' ∧ w.drawn ≤ w'.drawn := by
  have q := q_nil (P := Tryz.prog) (t := 35) rowOk35.und
  cases p with
  | none =>
    go_enter Tryz.func222, Tryz.ntmps222
    go_wp2
    go_ret
    exact ⟨_, rfl, .refl _ _, Nat.le_refl _⟩
  | some p =>
    go_enter Tryz.func222, Tryz.ntmps222
    go_wp2
    go_ret
    exact ⟨_, rfl, (RowKit.Below.refl _ w).alloc (Nat.le_refl _) _, Nat.le_refl _⟩
theorem ok222 : FnOk Tryz.prog 222 sp222 := clone_ok ok222_ne walk222
theorem ok223_ne : FnOk Tryz.prog 223 sp223_ne := fnOk (nv := 1) (h := h223) tok mix ctx_nil Tryz.func223 (by kernel_rfl) (by kernel_rfl) (by kernel_rfl) (by kernel_rfl) (by kernel_rfl)
set_option maxHeartbeats 2000000 in
theorem walk223 (p : Option Addr) (cap : Nat) (w : World) : Calls Tryz.prog 223 #[.slice p 0 cap] w fun e w' => ∃ p', e = .returned (.slice p' 0 0) ∧ RowKit.Below w.heap.size w w' ∧ w.drawn ≤ w'.drawn := by
  have q := q_nil (P := Tryz.prog) (t := 32) rowOk32.und
  cases p with
  | none =>
    go_enter Tryz.func223, Tryz.ntmps223
    go_wp2
    go_ret
    exact ⟨_, rfl, .refl _ _, Nat.le_refl _⟩
  | some p =>
    go_enter Tryz.func223, Tryz.ntmps223
    go_wp2
    go_ret
    exact ⟨_, rfl, (RowKit.Below.refl _ w).alloc (Nat.le_refl _) _, Nat.le_refl _⟩
theorem ok223 : FnOk Tryz.prog 223 sp223 := clone_ok ok223_ne walk223
theorem ok268_ne : FnOk Tryz.prog 268 sp268_ne := fnOk (nv := 1) (h := h268) tok mix ctx_nil Tryz.func268 (by kernel_rfl) (by kernel_rfl) (by kernel_rfl) (by kernel_rfl) (by kernel_rfl)
set_option maxHeartbeats 2000000 in
theorem walk268 (p : Option Addr) (cap : Nat) (w : World) : Calls Tryz.prog 268 #[.slice p 0 cap] w fun e w' => ∃ p', e = .returned (.slice p' 0 0) ∧ RowKit.Below w.heap.size w w' ∧ w.drawn ≤ w'.drawn := by
  have q := q_nil (P := Tryz.prog) (t := 97) rowOk97.und
  cases p with
  | none =>
    go_enter Tryz.func268, Tryz.ntmps268
    go_wp2
    go_ret
    exact ⟨_, rfl, .refl _ _, Nat.le_refl _⟩
  | some p =>
    go_enter Tryz.func268, Tryz.ntmps268
    go_wp2
    go_ret
    exact ⟨_, rfl, (RowKit.Below.refl _ w).alloc (Nat.le_refl _) _, Nat.le_refl _⟩
theorem ok268 : FnOk Tryz.prog 268 sp268 := clone_ok ok268_ne walk268
theorem ok269 : FnOk Tryz.prog 269 sp269 := fnOk (nv := 4) (h := h269) tok mix ctx_nil Tryz.func269 (by kernel_rfl) (by kernel_rfl) (by kernel_rfl) (by kernel_rfl) (by kernel_rfl)
theorem ok224 : FnOk Tryz.prog 224 sp224 := fnOk (nv := 3) (h := h224) tok mix (ctx_cons ok268 (ctx_cons ok269 ctx_nil)) Tryz.func224 (by kernel_rfl) (by kernel_rfl) (by kernel_rfl) (by kernel_rfl) (by kernel_rfl)
theorem ok154 : FnOk Tryz.prog 154 sp154 := fnOk (nv := 62) (h := h154) tok mix (ctx_cons ok133 (ctx_cons ok217 (ctx_cons ok218 (ctx_cons ok219 (ctx_cons ok220 (ctx_cons ok221 (ctx_cons ok222 (ctx_cons ok223 (ctx_cons ok224 ctx_nil))))))))) Tryz.func154 (by kernel_rfl) (by kernel_rfl) (by kernel_rfl) (by kernel_rfl) (by kernel_rfl)
theorem ok155 : FnOk Tryz.prog 155 sp155 := fnOk (nv := 9) (h := h155) tok mix ctx_nil Tryz.func155 (by kernel_rfl) (by kernel_rfl) (by kernel_rfl) (by kernel_rfl) (by kernel_rfl)
theorem ok156 : FnOk Tryz.prog 156 sp156 := fnOk (nv := 3) (h := h156) tok mix ctx_nil Tryz.func156 (by kernel_rfl) (by kernel_rfl) (by kernel_rfl) (by kernel_rfl) (by kernel_rfl)
theorem ok225 : FnOk Tryz.prog 225 sp225 := fnOk (nv := 9) (h := h225) tok mix ctx_nil Tryz.func225 (by kernel_rfl) (by kernel_rfl) (by kernel_rfl) (by kernel_rfl) (by kernel_rfl)
theorem ok226 : FnOk Tryz.prog 226 sp226 := fnOk (nv := 3) (h := h226) tok mix ctx_nil Tryz.func226 (by kernel_rfl) (by kernel_rfl) (by kernel_rfl) (by kernel_rfl) (by kernel_rfl)
theorem ok157 : FnOk Tryz.prog 157 sp157 := fnOk (nv := 4) (h := h157) tok mix (ctx_cons ok225 (ctx_cons ok226 ctx_nil)) Tryz.func157 (by kernel_rfl) (by kernel_rfl) (by kernel_rfl) (by kernel_rfl) (by kernel_rfl)
theorem ok310 : FnOk Tryz.prog 310 sp310 := fnOk (nv := 9) (h := h310) tok mix ctx_nil Tryz.func310 (by kernel_rfl) (by kernel_rfl) (by kernel_rfl) (by kernel_rfl) (by kernel_rfl)
theorem ok295 : FnOk Tryz.prog 295 sp295 := fnOk (nv := 8) (h := h295) tok mix (ctx_cons ok310 ctx_nil) Tryz.func295 (by kernel_rfl) (by kernel_rfl) (by kernel_rfl) (by kernel_rfl) (by kernel_rfl)
theorem ok296 : FnOk Tryz.prog 296 sp296 := fnOk (nv := 4) (h := h296) tok mix ctx_nil Tryz.func296 (by kernel_rfl) (by kernel_rfl) (by kernel_rfl) (by kernel_rfl) (by kernel_rfl)
theorem ok297 : FnOk Tryz.prog 297 sp297 := fnOk (nv := 3) (h := h297) tok mix ctx_nil Tryz.func297 (by kernel_rfl) (by kernel_rfl) (by kernel_rfl) (by kernel_rfl) (by kernel_rfl)
theorem ok320 : FnOk Tryz.prog 320 sp320 := fnOk (nv := 4) (h := h320) tok mix ctx_nil Tryz.func320 (by kernel_rfl) (by kernel_rfl) (by kernel_rfl) (by kernel_rfl) (by kernel_rfl)
theorem ok319 : FnOk Tryz.prog 319 sp319 := fnOk (nv := 2) (h := h319) tok mix (ctx_cons ok320 ctx_nil) Tryz.func319 (by kernel_rfl) (by kernel_rfl) (by kernel_rfl) (by kernel_rfl) (by kernel_rfl)
theorem ok312 : FnOk Tryz.prog 312 sp312 := fnOk (nv := 2) (h := h312) tok mix (ctx_cons ok319 ctx_nil) Tryz.func312 (by kernel_rfl) (by kernel_rfl) (by kernel_rfl) (by kernel_rfl) (by kernel_rfl)
theorem ok298 : FnOk Tryz.prog 298 sp298 := fnOk (nv := 10) (h := h298) tok mix ctx_nil Tryz.func298 (by kernel_rfl) (by kernel_rfl) (by kernel_rfl) (by kernel_rfl) (by kernel_rfl)
theorem ok270 : FnOk Tryz.prog 270 sp270 := fnOk (nv := 8) (h := h270) tok mix (ctx_cons ok295 (ctx_cons ok296 (ctx_cons ok297 (ctx_cons ok298 ctx_nil)))) Tryz.func270 (by kernel_rfl) (by kernel_rfl) (by kernel_rfl) (by kernel_rfl) (by kernel_rfl)
theorem ok227 : FnOk Tryz.prog 227 sp227 := fnOk (nv := 4) (h := h227) tok mix (ctx_cons ok270 ctx_nil) Tryz.func227 (by kernel_rfl) (by kernel_rfl) (by kernel_rfl) (by kernel_rfl) (by kernel_rfl)
theorem ok271 : FnOk Tryz.prog 271 sp271 := fnOk (nv := 8) (h := h271) tok mix (ctx_cons ok155 ctx_nil) Tryz.func271 (by kernel_rfl) (by kernel_rfl) (by kernel_rfl) (by kernel_rfl) (by kernel_rfl)
theorem ok272 : FnOk Tryz.prog 272 sp272 := fnOk (nv := 4) (h := h272) tok mix ctx_nil Tryz.func272 (by kernel_rfl) (by kernel_rfl) (by kernel_rfl) (by kernel_rfl) (by kernel_rfl)
theorem ok299 : FnOk Tryz.prog 299 sp299 := fnOk (nv := 9) (h := h299) tok mix ctx_nil Tryz.func299 (by kernel_rfl) (by kernel_rfl) (by kernel_rfl) (by kernel_rfl) (by kernel_rfl)
theorem ok273 : FnOk Tryz.prog 273 sp273 := fnOk (nv := 8) (h := h273) tok mix (ctx_cons ok299 ctx_nil) Tryz.func273 (by kernel_rfl) (by kernel_rfl) (by kernel_rfl) (by kernel_rfl) (by kernel_rfl)
theorem ok274 : FnOk Tryz.prog 274 sp274 := fnOk (nv := 3) (h := h274) tok mix ctx_nil Tryz.func274 (by kernel_rfl) (by kernel_rfl) (by kernel_rfl) (by kernel_rfl) (by kernel_rfl)
theorem ok228 : FnOk Tryz.prog 228 sp228 := fnOk (nv := 7) (h := h228) tok mix (ctx_cons ok271 ctx_nil) Tryz.func228 (by kernel_rfl) (by kernel_rfl) (by kernel_rfl) (by kernel_rfl) (by kernel_rfl)
theorem ok158 : FnOk Tryz.prog 158 sp158 := fnOk (nv := 6) (h := h158) tok mix (ctx_cons ok227 (ctx_cons ok228 ctx_nil)) Tryz.func158 (by kernel_rfl) (by kernel_rfl) (by kernel_rfl) (by kernel_rfl) (by kernel_rfl)
set_option maxHeartbeats 4000000 in
set_option maxRecDepth 1000000 in
theorem dn159 : DelNone Tryz.prog 159 := by
  constructor
  · intro b n cap i w hn hj
    go_enter Tryz.func159, Tryz.ntmps159
    go_wp2
    all_goals (go_ret; exact ⟨rfl, rfl⟩)
  · intro p w
    cases p
    · go_enter Tryz.func159, Tryz.ntmps159
      go_wp2
      all_goals (go_ret; exact ⟨rfl, rfl⟩)
    · go_enter Tryz.func159, Tryz.ntmps159
      go_wp2
      all_goals (go_ret; exact ⟨rfl, rfl⟩)
set_option maxHeartbeats 4000000 in
set_option maxRecDepth 1000000 in
theorem dw159 : DelWalk Tryz.prog 159 33 61 9 := by
  intro b n cap i j w hn hm hlt hj i0 hi0 hz1 A hA news s1 hsrc s2 s3 W1 W2 hW hcl
  have hic : i ≤ cap := by omega
  have hjc : j ≤ cap := by omega
  have tS : Tryz.prog.underlying 33 = some (.slice 61) := by kernel_rfl
  have mixed : Tryz.prog.follows .mixedOrders = true := Checked.mixed Tryz.checked
  go_enter Tryz.func159, Tryz.ntmps159
  go_wp2_with fail
  go_region_law_o (refine step_append_room rfl (.tmp 22) (.tmp 25) 33 rfl 61 i0 9 tS hi0 hz1 b 0 i cap (by simp [Act.eval, Act.put]) A (n - j) (cap - j) news (by simp [Act.eval, Act.put]) s1.out hsrc.out s2.out (by omega) s3.out ?_; rw [← hW.out])
  go_wp2
  go_ret
  exact ⟨rfl, rfl⟩
theorem ok159 : FnOk Tryz.prog 159 sp159 := del_ok tok (te := row61) (by kernel_rfl) (by kernel_rfl) (sz := 9) (by kernel_rfl) (Nat.blt_eq.mp (by kernel_rfl)) (by kernel_rfl : Tryz.prog.underlying 33 = some (.slice 61)) ⟨Tryz.f159, by kernel_rfl, by kernel_rfl, by kernel_rfl⟩ dn159 dw159
theorem ok160 : FnOk Tryz.prog 160 sp160 := fnOk (nv := 9) (h := h160) tok mix ctx_nil Tryz.func160 (by kernel_rfl) (by kernel_rfl) (by kernel_rfl) (by kernel_rfl) (by kernel_rfl)
theorem ok161 : FnOk Tryz.prog 161 sp161 := fnOk (nv := 8) (h := h161) tok mix ctx_nil Tryz.func161 (by kernel_rfl) (by kernel_rfl) (by kernel_rfl) (by kernel_rfl) (by kernel_rfl)
theorem ok101 : FnOk Tryz.prog 101 sp101 := fnOk (nv := 17) (h := h101) tok mix (ctx_cons ok154 (ctx_cons ok155 (ctx_cons ok156 (ctx_cons ok157 (ctx_cons ok158 (ctx_cons ok159 (ctx_cons ok160 (ctx_cons ok161 ctx_nil)))))))) Tryz.func101 (by kernel_rfl) (by kernel_rfl) (by kernel_rfl) (by kernel_rfl) (by kernel_rfl)
theorem ok108 : FnOk Tryz.prog 108 sp108 := fnOk (nv := 9) (h := h108) tok mix ctx_nil Tryz.func108 (by kernel_rfl) (by kernel_rfl) (by kernel_rfl) (by kernel_rfl) (by kernel_rfl)
theorem ok103 : FnOk Tryz.prog 103 sp103 := fnOk (nv := 2) (h := h103) tok mix (ctx_cons ok108 ctx_nil) Tryz.func103 (by kernel_rfl) (by kernel_rfl) (by kernel_rfl) (by kernel_rfl) (by kernel_rfl)
theorem ok104 : FnOk Tryz.prog 104 sp104 := fnOk (nv := 3) (h := h104) tok mix ctx_nil Tryz.func104 (by kernel_rfl) (by kernel_rfl) (by kernel_rfl) (by kernel_rfl) (by kernel_rfl)
theorem ok55 : FnOk Tryz.prog 55 sp55 := fnOk (nv := 13) (h := h55) tok mix (ctx_cons ok23 (ctx_cons ok100 (ctx_cons ok101 (ctx_cons ok102 (ctx_cons ok103 (ctx_cons ok104 ctx_nil)))))) Tryz.func55 (by kernel_rfl) (by kernel_rfl) (by kernel_rfl) (by kernel_rfl) (by kernel_rfl)
theorem ok106 : FnOk Tryz.prog 106 sp106 := fnOk (nv := 10) (h := h106) tok mix ctx_nil Tryz.func106 (by kernel_rfl) (by kernel_rfl) (by kernel_rfl) (by kernel_rfl) (by kernel_rfl)
theorem ok164 : FnOk Tryz.prog 164 sp164 := fnOk (nv := 6) (h := h164) tok mix ctx_nil Tryz.func164 (by kernel_rfl) (by kernel_rfl) (by kernel_rfl) (by kernel_rfl) (by kernel_rfl)
theorem ok107 : FnOk Tryz.prog 107 sp107 := fnOk (nv := 6) (h := h107) tok mix (ctx_cons ok164 ctx_nil) Tryz.func107 (by kernel_rfl) (by kernel_rfl) (by kernel_rfl) (by kernel_rfl) (by kernel_rfl)
theorem ok57 : FnOk Tryz.prog 57 sp57 := fnOk (nv := 11) (h := h57) tok mix (ctx_cons ok106 (ctx_cons ok107 ctx_nil)) Tryz.func57 (by kernel_rfl) (by kernel_rfl) (by kernel_rfl) (by kernel_rfl) (by kernel_rfl)
theorem ok109 : FnOk Tryz.prog 109 sp109 := fnOk (nv := 3) (h := h109) tok mix ctx_nil Tryz.func109 (by kernel_rfl) (by kernel_rfl) (by kernel_rfl) (by kernel_rfl) (by kernel_rfl)
set_option maxHeartbeats 4000000 in
set_option maxRecDepth 1000000 in
theorem dn110 : DelNone Tryz.prog 110 := by
  constructor
  · intro b n cap i w hn hj
    go_enter Tryz.func110, Tryz.ntmps110
    go_wp2
    all_goals (go_ret; exact ⟨rfl, rfl⟩)
  · intro p w
    cases p
    · go_enter Tryz.func110, Tryz.ntmps110
      go_wp2
      all_goals (go_ret; exact ⟨rfl, rfl⟩)
    · go_enter Tryz.func110, Tryz.ntmps110
      go_wp2
      all_goals (go_ret; exact ⟨rfl, rfl⟩)
set_option maxHeartbeats 4000000 in
set_option maxRecDepth 1000000 in
theorem dw110 : DelWalk Tryz.prog 110 35 76 6 := by
  intro b n cap i j w hn hm hlt hj i0 hi0 hz1 A hA news s1 hsrc s2 s3 W1 W2 hW hcl
  have hic : i ≤ cap := by omega
  have hjc : j ≤ cap := by omega
  have tS : Tryz.prog.underlying 35 = some (.slice 76) := by kernel_rfl
  have mixed : Tryz.prog.follows .mixedOrders = true := Checked.mixed Tryz.checked
  go_enter Tryz.func110, Tryz.ntmps110
  go_wp2_with fail
  go_region_law_o (refine step_append_room rfl (.tmp 22) (.tmp 25) 35 rfl 76 i0 6 tS hi0 hz1 b 0 i cap (by simp [Act.eval, Act.put]) A (n - j) (cap - j) news (by simp [Act.eval, Act.put]) s1.out hsrc.out s2.out (by omega) s3.out ?_; rw [← hW.out])
  go_wp2
  go_ret
  exact ⟨rfl, rfl⟩
theorem ok110 : FnOk Tryz.prog 110 sp110 := del_ok tok (te := row76) (by kernel_rfl) (by kernel_rfl) (sz := 6) (by kernel_rfl) (Nat.blt_eq.mp (by kernel_rfl)) (by kernel_rfl : Tryz.prog.underlying 35 = some (.slice 76)) ⟨Tryz.f110, by kernel_rfl, by kernel_rfl, by kernel_rfl⟩ dn110 dw110
theorem ok58 : FnOk Tryz.prog 58 sp58 := fnOk (nv := 7) (h := h58) tok mix (ctx_cons ok101 (ctx_cons ok108 (ctx_cons ok109 (ctx_cons ok110 ctx_nil)))) Tryz.func58 (by kernel_rfl) (by kernel_rfl) (by kernel_rfl) (by kernel_rfl) (by kernel_rfl)
theorem ok13 : FnOk Tryz.prog 13 sp13 := fnOk (nv := 20) (h := h13) tok mix (ctx_cons ok16 (ctx_cons ok17 (ctx_cons ok52 (ctx_cons ok53 (ctx_cons ok54 (ctx_cons ok55 (ctx_cons ok56 (ctx_cons ok57 (ctx_cons ok58 (ctx_cons ok59 ctx_nil)))))))))) Tryz.func13 (by kernel_rfl) (by kernel_rfl) (by kernel_rfl) (by kernel_rfl) (by kernel_rfl)
end Go.Fx.D
