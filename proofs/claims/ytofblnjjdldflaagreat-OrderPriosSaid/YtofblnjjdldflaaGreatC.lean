/-
  Each of these functions does what its function over plain data says, where that gives an answer (printed by a program). Conditions: none.
-/
import Derived.Test.YtofblnjjdldflaaGreatFxC
import Derived.Ground.SlsfProg
import Derived.Shelf.Lay
import Derived.Test.YtofblnjjdldflaaGreatD
import Derived.Test.YtofblnjjdldflaaGreatFxB
import Derived.Test.YtofblnjjdldflaaGreatChecked
import Derived.WalkKit
namespace Go.Fx.D
open Go Go.Fx Go.Proofs Go.Shelf Go.RowKit Go.Lib Go.Sort
set_option linter.unusedVariables false
set_option maxRecDepth 100000

theorem rowOk3 : RowOk Tryz.prog 3 row3 := ⟨by kernel_rfl, ⟨Tryz.t3, (Tryz.t3.zero).getD .nilFunc, by kernel_rfl, by kernel_rfl, by kernel_rfl⟩, by kernel_rfl, by kernel_rfl⟩
theorem rowOk4 : RowOk Tryz.prog 4 row4 := ⟨by kernel_rfl, ⟨Tryz.t4, (Tryz.t4.zero).getD .nilFunc, by kernel_rfl, by kernel_rfl, by kernel_rfl⟩, by kernel_rfl, by kernel_rfl⟩
theorem rowOk5 : RowOk Tryz.prog 5 row5 := ⟨by kernel_rfl, ⟨Tryz.t5, (Tryz.t5.zero).getD .nilFunc, by kernel_rfl, by kernel_rfl, by kernel_rfl⟩, by kernel_rfl, by kernel_rfl⟩
theorem rowOk9 : RowOk Tryz.prog 9 row9 := ⟨by kernel_rfl, ⟨Tryz.t9, (Tryz.t9.zero).getD .nilFunc, by kernel_rfl, by kernel_rfl, by kernel_rfl⟩, by kernel_rfl, by kernel_rfl⟩
theorem rowOk22 : RowOk Tryz.prog 22 row22 := ⟨by kernel_rfl, ⟨Tryz.t22, (Tryz.t22.zero).getD .nilFunc, by kernel_rfl, by kernel_rfl, by kernel_rfl⟩, by kernel_rfl, by kernel_rfl⟩
theorem rowOk24 : RowOk Tryz.prog 24 row24 := ⟨by kernel_rfl, ⟨Tryz.t24, (Tryz.t24.zero).getD .nilFunc, by kernel_rfl, by kernel_rfl, by kernel_rfl⟩, by kernel_rfl, by kernel_rfl⟩
theorem rowOk25 : RowOk Tryz.prog 25 row25 := ⟨by kernel_rfl, ⟨Tryz.t25, (Tryz.t25.zero).getD .nilFunc, by kernel_rfl, by kernel_rfl, by kernel_rfl⟩, by kernel_rfl, by kernel_rfl⟩
theorem rowOk27 : RowOk Tryz.prog 27 row27 := ⟨by kernel_rfl, ⟨Tryz.t27, (Tryz.t27.zero).getD .nilFunc, by kernel_rfl, by kernel_rfl, by kernel_rfl⟩, by kernel_rfl, by kernel_rfl⟩
theorem rowOk28 : RowOk Tryz.prog 28 row28 := ⟨by kernel_rfl, ⟨Tryz.t28, (Tryz.t28.zero).getD .nilFunc, by kernel_rfl, by kernel_rfl, by kernel_rfl⟩, by kernel_rfl, by kernel_rfl⟩
theorem rowOk29 : RowOk Tryz.prog 29 row29 := ⟨by kernel_rfl, ⟨Tryz.t29, (Tryz.t29.zero).getD .nilFunc, by kernel_rfl, by kernel_rfl, by kernel_rfl⟩, by kernel_rfl, by kernel_rfl⟩
theorem rowOk30 : RowOk Tryz.prog 30 row30 := ⟨by kernel_rfl, ⟨Tryz.t30, (Tryz.t30.zero).getD .nilFunc, by kernel_rfl, by kernel_rfl, by kernel_rfl⟩, by kernel_rfl, by kernel_rfl⟩
theorem rowOk31 : RowOk Tryz.prog 31 row31 := ⟨by kernel_rfl, ⟨Tryz.t31, (Tryz.t31.zero).getD .nilFunc, by kernel_rfl, by kernel_rfl, by kernel_rfl⟩, by kernel_rfl, by kernel_rfl⟩
theorem rowOk32 : RowOk Tryz.prog 32 row32 := ⟨by kernel_rfl, ⟨Tryz.t32, (Tryz.t32.zero).getD .nilFunc, by kernel_rfl, by kernel_rfl, by kernel_rfl⟩, by kernel_rfl, by kernel_rfl⟩
theorem rowOk34 : RowOk Tryz.prog 34 row34 := ⟨by kernel_rfl, ⟨Tryz.t34, (Tryz.t34.zero).getD .nilFunc, by kernel_rfl, by kernel_rfl, by kernel_rfl⟩, by kernel_rfl, by kernel_rfl⟩
theorem rowOk36 : RowOk Tryz.prog 36 row36 := ⟨by kernel_rfl, ⟨Tryz.t36, (Tryz.t36.zero).getD .nilFunc, by kernel_rfl, by kernel_rfl, by kernel_rfl⟩, by kernel_rfl, by kernel_rfl⟩
theorem rowOk38 : RowOk Tryz.prog 38 row38 := ⟨by kernel_rfl, ⟨Tryz.t38, (Tryz.t38.zero).getD .nilFunc, by kernel_rfl, by kernel_rfl, by kernel_rfl⟩, by kernel_rfl, by kernel_rfl⟩
theorem rowOk40 : RowOk Tryz.prog 40 row40 := ⟨by kernel_rfl, ⟨Tryz.t40, (Tryz.t40.zero).getD .nilFunc, by kernel_rfl, by kernel_rfl, by kernel_rfl⟩, by kernel_rfl, by kernel_rfl⟩
theorem rowOk44 : RowOk Tryz.prog 44 row44 := ⟨by kernel_rfl, ⟨Tryz.t44, (Tryz.t44.zero).getD .nilFunc, by kernel_rfl, by kernel_rfl, by kernel_rfl⟩, by kernel_rfl, by kernel_rfl⟩
theorem rowOk45 : RowOk Tryz.prog 45 row45 := ⟨by kernel_rfl, ⟨Tryz.t45, (Tryz.t45.zero).getD .nilFunc, by kernel_rfl, by kernel_rfl, by kernel_rfl⟩, by kernel_rfl, by kernel_rfl⟩
theorem rowOk47 : RowOk Tryz.prog 47 row47 := ⟨by kernel_rfl, ⟨Tryz.t47, (Tryz.t47.zero).getD .nilFunc, by kernel_rfl, by kernel_rfl, by kernel_rfl⟩, by kernel_rfl, by kernel_rfl⟩
theorem rowOk49 : RowOk Tryz.prog 49 row49 := ⟨by kernel_rfl, ⟨Tryz.t49, (Tryz.t49.zero).getD .nilFunc, by kernel_rfl, by kernel_rfl, by kernel_rfl⟩, by kernel_rfl, by kernel_rfl⟩
theorem rowOk51 : RowOk Tryz.prog 51 row51 := ⟨by kernel_rfl, ⟨Tryz.t51, (Tryz.t51.zero).getD .nilFunc, by kernel_rfl, by kernel_rfl, by kernel_rfl⟩, by kernel_rfl, by kernel_rfl⟩
theorem rowOk53 : RowOk Tryz.prog 53 row53 := ⟨by kernel_rfl, ⟨Tryz.t53, (Tryz.t53.zero).getD .nilFunc, by kernel_rfl, by kernel_rfl, by kernel_rfl⟩, by kernel_rfl, by kernel_rfl⟩
theorem rowOk59 : RowOk Tryz.prog 59 row59 := ⟨by kernel_rfl, ⟨Tryz.t59, (Tryz.t59.zero).getD .nilFunc, by kernel_rfl, by kernel_rfl, by kernel_rfl⟩, by kernel_rfl, by kernel_rfl⟩
theorem rowOk60 : RowOk Tryz.prog 60 row60 := ⟨by kernel_rfl, ⟨Tryz.t60, (Tryz.t60.zero).getD .nilFunc, by kernel_rfl, by kernel_rfl, by kernel_rfl⟩, by kernel_rfl, by kernel_rfl⟩
theorem rowOk62 : RowOk Tryz.prog 62 row62 := ⟨by kernel_rfl, ⟨Tryz.t62, (Tryz.t62.zero).getD .nilFunc, by kernel_rfl, by kernel_rfl, by kernel_rfl⟩, by kernel_rfl, by kernel_rfl⟩
theorem rowOk77 : RowOk Tryz.prog 77 row77 := ⟨by kernel_rfl, ⟨Tryz.t77, (Tryz.t77.zero).getD .nilFunc, by kernel_rfl, by kernel_rfl, by kernel_rfl⟩, by kernel_rfl, by kernel_rfl⟩
theorem rowOk81 : RowOk Tryz.prog 81 row81 := ⟨by kernel_rfl, ⟨Tryz.t81, (Tryz.t81.zero).getD .nilFunc, by kernel_rfl, by kernel_rfl, by kernel_rfl⟩, by kernel_rfl, by kernel_rfl⟩
theorem rowOk96 : RowOk Tryz.prog 96 row96 := ⟨by kernel_rfl, ⟨Tryz.t96, (Tryz.t96.zero).getD .nilFunc, by kernel_rfl, by kernel_rfl, by kernel_rfl⟩, by kernel_rfl, by kernel_rfl⟩
theorem rowOk126 : RowOk Tryz.prog 126 row126 := ⟨by kernel_rfl, ⟨Tryz.t126, (Tryz.t126.zero).getD .nilFunc, by kernel_rfl, by kernel_rfl, by kernel_rfl⟩, by kernel_rfl, by kernel_rfl⟩
theorem rowOk131 : RowOk Tryz.prog 131 row131 := ⟨by kernel_rfl, ⟨Tryz.t131, (Tryz.t131.zero).getD .nilFunc, by kernel_rfl, by kernel_rfl, by kernel_rfl⟩, by kernel_rfl, by kernel_rfl⟩
theorem rowOk134 : RowOk Tryz.prog 134 row134 := ⟨by kernel_rfl, ⟨Tryz.t134, (Tryz.t134.zero).getD .nilFunc, by kernel_rfl, by kernel_rfl, by kernel_rfl⟩, by kernel_rfl, by kernel_rfl⟩
theorem rowOk148 : RowOk Tryz.prog 148 row148 := ⟨by kernel_rfl, ⟨Tryz.t148, (Tryz.t148.zero).getD .nilFunc, by kernel_rfl, by kernel_rfl, by kernel_rfl⟩, by kernel_rfl, by kernel_rfl⟩
theorem rowOk152 : RowOk Tryz.prog 152 row152 := ⟨by kernel_rfl, ⟨Tryz.t152, (Tryz.t152.zero).getD .nilFunc, by kernel_rfl, by kernel_rfl, by kernel_rfl⟩, by kernel_rfl, by kernel_rfl⟩
theorem rowOk171 : RowOk Tryz.prog 171 row171 := ⟨by kernel_rfl, ⟨Tryz.t171, (Tryz.t171.zero).getD .nilFunc, by kernel_rfl, by kernel_rfl, by kernel_rfl⟩, by kernel_rfl, by kernel_rfl⟩
theorem rowOk173 : RowOk Tryz.prog 173 row173 := ⟨by kernel_rfl, ⟨Tryz.t173, (Tryz.t173.zero).getD .nilFunc, by kernel_rfl, by kernel_rfl, by kernel_rfl⟩, by kernel_rfl, by kernel_rfl⟩
theorem rowOk174 : RowOk Tryz.prog 174 row174 := ⟨by kernel_rfl, ⟨Tryz.t174, (Tryz.t174.zero).getD .nilFunc, by kernel_rfl, by kernel_rfl, by kernel_rfl⟩, by kernel_rfl, by kernel_rfl⟩
theorem rowOk176 : RowOk Tryz.prog 176 row176 := ⟨by kernel_rfl, ⟨Tryz.t176, (Tryz.t176.zero).getD .nilFunc, by kernel_rfl, by kernel_rfl, by kernel_rfl⟩, by kernel_rfl, by kernel_rfl⟩
theorem rowOk192 : RowOk Tryz.prog 192 row192 := ⟨by kernel_rfl, ⟨Tryz.t192, (Tryz.t192.zero).getD .nilFunc, by kernel_rfl, by kernel_rfl, by kernel_rfl⟩, by kernel_rfl, by kernel_rfl⟩
theorem rowOk196 : RowOk Tryz.prog 196 row196 := ⟨by kernel_rfl, ⟨Tryz.t196, (Tryz.t196.zero).getD .nilFunc, by kernel_rfl, by kernel_rfl, by kernel_rfl⟩, by kernel_rfl, by kernel_rfl⟩
theorem rowOk207 : RowOk Tryz.prog 207 row207 := ⟨by kernel_rfl, ⟨Tryz.t207, (Tryz.t207.zero).getD .nilFunc, by kernel_rfl, by kernel_rfl, by kernel_rfl⟩, by kernel_rfl, by kernel_rfl⟩
theorem rowOk255 : RowOk Tryz.prog 255 row255 := ⟨by kernel_rfl, ⟨Tryz.t255, (Tryz.t255.zero).getD .nilFunc, by kernel_rfl, by kernel_rfl, by kernel_rfl⟩, by kernel_rfl, by kernel_rfl⟩
theorem tok : TblOk Tryz.prog (look tbl) := tblOk (all_cons rowOk3 (all_cons rowOk4 (all_cons rowOk5 (all_cons rowOk9 (all_cons rowOk22 (all_cons rowOk24 (all_cons rowOk25 (all_cons rowOk27 (all_cons rowOk28 (all_cons rowOk29 (all_cons rowOk30 (all_cons rowOk31 (all_cons rowOk32 (all_cons rowOk34 (all_cons rowOk36 (all_cons rowOk38 (all_cons rowOk40 (all_cons rowOk44 (all_cons rowOk45 (all_cons rowOk47 (all_cons rowOk49 (all_cons rowOk51 (all_cons rowOk53 (all_cons rowOk59 (all_cons rowOk60 (all_cons rowOk62 (all_cons rowOk77 (all_cons rowOk81 (all_cons rowOk96 (all_cons rowOk126 (all_cons rowOk131 (all_cons rowOk134 (all_cons rowOk148 (all_cons rowOk152 (all_cons rowOk171 (all_cons rowOk173 (all_cons rowOk174 (all_cons rowOk176 (all_cons rowOk192 (all_cons rowOk196 (all_cons rowOk207 (all_cons rowOk255 all_nil))))))))))))))))))))))))))))))))))))))))))
theorem mix : Tryz.prog.follows .mixedOrders = true := Checked.mixed Tryz.checked

theorem ok5 : FnOk Tryz.prog 5 sp5 := fnOk (nv := 1) (h := h5) tok mix ctx_nil Tryz.func5 (by kernel_rfl) (by kernel_rfl) (by kernel_rfl) (by kernel_rfl) (by kernel_rfl)
theorem ok136 : FnOk Tryz.prog 136 sp136 := fnOk (nv := 6) (h := h136) tok mix ctx_nil Tryz.func136 (by kernel_rfl) (by kernel_rfl) (by kernel_rfl) (by kernel_rfl) (by kernel_rfl)
theorem ok170 : FnOk Tryz.prog 170 sp170 := fnOk (nv := 9) (h := h170) tok mix ctx_nil Tryz.func170 (by kernel_rfl) (by kernel_rfl) (by kernel_rfl) (by kernel_rfl) (by kernel_rfl)
theorem ok137 : FnOk Tryz.prog 137 sp137 := fnOk (nv := 12) (h := h137) tok mix (ctx_cons ok170 ctx_nil) Tryz.func137 (by kernel_rfl) (by kernel_rfl) (by kernel_rfl) (by kernel_rfl) (by kernel_rfl)
theorem ok94 : FnOk Tryz.prog 94 sp94 := fnOk (nv := 6) (h := h94) tok mix (ctx_cons ok136 (ctx_cons ok137 ctx_nil)) Tryz.func94 (by kernel_rfl) (by kernel_rfl) (by kernel_rfl) (by kernel_rfl) (by kernel_rfl)
theorem ok66 : FnOk Tryz.prog 66 sp66 := fnOk (nv := 5) (h := h66) tok mix (ctx_cons ok94 ctx_nil) Tryz.func66 (by kernel_rfl) (by kernel_rfl) (by kernel_rfl) (by kernel_rfl) (by kernel_rfl)
theorem ok27 : FnOk Tryz.prog 27 sp27 := fnOk (nv := 14) (h := h27) tok mix (ctx_cons ok66 ctx_nil) Tryz.func27 (by kernel_rfl) (by kernel_rfl) (by kernel_rfl) (by kernel_rfl) (by kernel_rfl)
theorem ok95 : FnOk Tryz.prog 95 sp95 := fnOk (nv := 13) (h := h95) tok mix ctx_nil Tryz.func95 (by kernel_rfl) (by kernel_rfl) (by kernel_rfl) (by kernel_rfl) (by kernel_rfl)
theorem ok171 : FnOk Tryz.prog 171 sp171 := fnOk (nv := 2) (h := h171) tok mix ctx_nil Tryz.func171 (by kernel_rfl) (by kernel_rfl) (by kernel_rfl) (by kernel_rfl) (by kernel_rfl)
theorem ok138 : FnOk Tryz.prog 138 sp138 := fnOk (nv := 2) (h := h138) tok mix (ctx_cons ok171 ctx_nil) Tryz.func138 (by kernel_rfl) (by kernel_rfl) (by kernel_rfl) (by kernel_rfl) (by kernel_rfl)
theorem ok96 : FnOk Tryz.prog 96 sp96 := fnOk (nv := 4) (h := h96) tok mix (ctx_cons ok138 ctx_nil) Tryz.func96 (by kernel_rfl) (by kernel_rfl) (by kernel_rfl) (by kernel_rfl) (by kernel_rfl)
theorem ok112 : FnOk Tryz.prog 112 sp112 := fnOk (nv := 2) (h := h112) tok mix ctx_nil Tryz.func112 (by kernel_rfl) (by kernel_rfl) (by kernel_rfl) (by kernel_rfl) (by kernel_rfl)
theorem ok139 : FnOk Tryz.prog 139 sp139 := fnOk (nv := 3) (h := h139) tok mix (ctx_cons ok112 ctx_nil) Tryz.func139 (by kernel_rfl) (by kernel_rfl) (by kernel_rfl) (by kernel_rfl) (by kernel_rfl)
theorem ok97 : FnOk Tryz.prog 97 sp97 := fnOk (nv := 5) (h := h97) tok mix (ctx_cons ok112 (ctx_cons ok139 ctx_nil)) Tryz.func97 (by kernel_rfl) (by kernel_rfl) (by kernel_rfl) (by kernel_rfl) (by kernel_rfl)
theorem ok67 : FnOk Tryz.prog 67 sp67 := fnOk (nv := 16) (h := h67) tok mix (ctx_cons ok95 (ctx_cons ok96 (ctx_cons ok97 ctx_nil))) Tryz.func67 (by kernel_rfl) (by kernel_rfl) (by kernel_rfl) (by kernel_rfl) (by kernel_rfl)
theorem ok28 : FnOk Tryz.prog 28 sp28 := fnOk (nv := 7) (h := h28) tok mix (ctx_cons ok67 ctx_nil) Tryz.func28 (by kernel_rfl) (by kernel_rfl) (by kernel_rfl) (by kernel_rfl) (by kernel_rfl)
theorem ok98 : FnOk Tryz.prog 98 sp98 := fnOk (nv := 4) (h := h98) tok mix (ctx_cons ok66 ctx_nil) Tryz.func98 (by kernel_rfl) (by kernel_rfl) (by kernel_rfl) (by kernel_rfl) (by kernel_rfl)
theorem ok140 : FnOk Tryz.prog 140 sp140 := fnOk (nv := 9) (h := h140) tok mix ctx_nil Tryz.func140 (by kernel_rfl) (by kernel_rfl) (by kernel_rfl) (by kernel_rfl) (by kernel_rfl)
theorem ok141 : FnOk Tryz.prog 141 sp141 := fnOk (nv := 3) (h := h141) tok mix ctx_nil Tryz.func141 (by kernel_rfl) (by kernel_rfl) (by kernel_rfl) (by kernel_rfl) (by kernel_rfl)
theorem ok142_ne : FnOk Tryz.prog 142 sp142_ne := fnOk (nv := 1) (h := h142) tok mix ctx_nil Tryz.func142 (by kernel_rfl) (by kernel_rfl) (by kernel_rfl) (by kernel_rfl) (by kernel_rfl)
set_option maxHeartbeats 2000000 in
theorem walk142 (p : Option Addr) (cap : Nat) (w : World) : Calls Tryz.prog 142 #[.slice p 0 cap] w fun e w' => ∃ p', e = .returned (.slice p' 0 0) ∧ RowKit.Below w.heap.size w w' ∧ w.drawn ≤ w'.drawn := by
  have q := q_nil (P := Tryz.prog) (t := 60) rowOk60.und
  cases p with
  | none =>
    go_enter Tryz.func142, Tryz.ntmps142
    go_wp2
    go_ret
    exact ⟨_, rfl, .refl _ _, Nat.le_refl _⟩
  | some p =>
    go_enter Tryz.func142, Tryz.ntmps142
    go_wp2
    go_ret
    exact ⟨_, rfl, (RowKit.Below.refl _ w).alloc (Nat.le_refl _) _, Nat.le_refl _⟩
theorem ok142 : FnOk Tryz.prog 142 sp142 := clone_ok ok142_ne walk142
theorem ok99 : FnOk Tryz.prog 99 sp99 := fnOk (nv := 8) (h := h99) tok mix (ctx_cons ok140 (ctx_cons ok141 (ctx_cons ok142 ctx_nil))) Tryz.func99 (by kernel_rfl) (by kernel_rfl) (by kernel_rfl) (by kernel_rfl) (by kernel_rfl)
theorem ok143 : FnOk Tryz.prog 143 sp143 := fnOk (nv := 9) (h := h143) tok mix (ctx_cons ok97 ctx_nil) Tryz.func143 (by kernel_rfl) (by kernel_rfl) (by kernel_rfl) (by kernel_rfl) (by kernel_rfl)
theorem ok100 : FnOk Tryz.prog 100 sp100 := fnOk (nv := 12) (h := h100) tok mix (ctx_cons ok143 ctx_nil) Tryz.func100 (by kernel_rfl) (by kernel_rfl) (by kernel_rfl) (by kernel_rfl) (by kernel_rfl)
theorem ok153 : FnOk Tryz.prog 153 sp153 := fnOk (nv := 14) (h := h153) tok mix ctx_nil Tryz.func153 (by kernel_rfl) (by kernel_rfl) (by kernel_rfl) (by kernel_rfl) (by kernel_rfl)
theorem ok111 : FnOk Tryz.prog 111 sp111 := fnOk (nv := 3) (h := h111) tok mix ctx_nil Tryz.func111 (by kernel_rfl) (by kernel_rfl) (by kernel_rfl) (by kernel_rfl) (by kernel_rfl)
theorem ok191 : FnOk Tryz.prog 191 sp191 := fnOk (nv := 1) (h := h191) tok mix (ctx_cons ok111 ctx_nil) Tryz.func191 (by kernel_rfl) (by kernel_rfl) (by kernel_rfl) (by kernel_rfl) (by kernel_rfl)
theorem ok172 : FnOk Tryz.prog 172 sp172 := fnOk (nv := 19) (h := h172) tok mix (ctx_cons ok191 ctx_nil) Tryz.func172 (by kernel_rfl) (by kernel_rfl) (by kernel_rfl) (by kernel_rfl) (by kernel_rfl)
theorem ok144 : FnOk Tryz.prog 144 sp144 := fnOk (nv := 8) (h := h144) tok mix (ctx_cons ok153 (ctx_cons ok172 ctx_nil)) Tryz.func144 (by kernel_rfl) (by kernel_rfl) (by kernel_rfl) (by kernel_rfl) (by kernel_rfl)
theorem ok101 : FnOk Tryz.prog 101 sp101 := fnOk (nv := 5) (h := h101) tok mix (ctx_cons ok112 (ctx_cons ok139 (ctx_cons ok144 ctx_nil))) Tryz.func101 (by kernel_rfl) (by kernel_rfl) (by kernel_rfl) (by kernel_rfl) (by kernel_rfl)
theorem ok68 : FnOk Tryz.prog 68 sp68 := fnOk (nv := 15) (h := h68) tok mix (ctx_cons ok98 (ctx_cons ok99 (ctx_cons ok100 (ctx_cons ok101 ctx_nil)))) Tryz.func68 (by kernel_rfl) (by kernel_rfl) (by kernel_rfl) (by kernel_rfl) (by kernel_rfl)
theorem ok69 : FnOk Tryz.prog 69 sp69 := fnOk (nv := 2) (h := h69) tok mix ctx_nil Tryz.func69 (by kernel_rfl) (by kernel_rfl) (by kernel_rfl) (by kernel_rfl) (by kernel_rfl)
theorem ok29 : FnOk Tryz.prog 29 sp29 := fnOk (nv := 7) (h := h29) tok mix (ctx_cons ok68 (ctx_cons ok69 ctx_nil)) Tryz.func29 (by kernel_rfl) (by kernel_rfl) (by kernel_rfl) (by kernel_rfl) (by kernel_rfl)
shelf_lay_g Go.Proofs.SlLaysF0.n6 Slsf 6 at Tryz 30 as lay30
theorem ok30 : FnOk Tryz.prog 30 sp30 := sortG_ok (ρ := lay30_ren) (n := 12) lay30 (by intro w; kernel_rfl) (by intro w; kernel_rfl) (by kernel_rfl) (Nat.blt_eq.mp (by kernel_rfl)) ⟨Tryz.f30, by kernel_rfl, by kernel_rfl, by kernel_rfl⟩
theorem ok24 : FnOk Tryz.prog 24 sp24 := fnOk (nv := 9) (h := h24) tok mix ctx_nil Tryz.func24 (by kernel_rfl) (by kernel_rfl) (by kernel_rfl) (by kernel_rfl) (by kernel_rfl)
theorem ok114 : FnOk Tryz.prog 114 sp114 := fnOk (nv := 9) (h := h114) tok mix (ctx_cons ok153 ctx_nil) Tryz.func114 (by kernel_rfl) (by kernel_rfl) (by kernel_rfl) (by kernel_rfl) (by kernel_rfl)
theorem ok150 : FnOk Tryz.prog 150 sp150 := fnOk (nv := 9) (h := h150) tok mix ctx_nil Tryz.func150 (by kernel_rfl) (by kernel_rfl) (by kernel_rfl) (by kernel_rfl) (by kernel_rfl)
theorem ok151 : FnOk Tryz.prog 151 sp151 := fnOk (nv := 2) (h := h151) tok mix ctx_nil Tryz.func151 (by kernel_rfl) (by kernel_rfl) (by kernel_rfl) (by kernel_rfl) (by kernel_rfl)
theorem ok152 : FnOk Tryz.prog 152 sp152 := fnOk (nv := 2) (h := h152) tok mix ctx_nil Tryz.func152 (by kernel_rfl) (by kernel_rfl) (by kernel_rfl) (by kernel_rfl) (by kernel_rfl)
theorem ok113 : FnOk Tryz.prog 113 sp113 := fnOk (nv := 7) (h := h113) tok mix (ctx_cons ok114 (ctx_cons ok150 (ctx_cons ok151 (ctx_cons ok152 ctx_nil)))) Tryz.func113 (by kernel_rfl) (by kernel_rfl) (by kernel_rfl) (by kernel_rfl) (by kernel_rfl)
theorem ok72 : FnOk Tryz.prog 72 sp72 := fnOk (nv := 8) (h := h72) tok mix (ctx_cons ok112 (ctx_cons ok113 (ctx_cons ok114 ctx_nil))) Tryz.func72 (by kernel_rfl) (by kernel_rfl) (by kernel_rfl) (by kernel_rfl) (by kernel_rfl)
theorem ok115 : FnOk Tryz.prog 115 sp115 := fnOk (nv := 1) (h := h115) tok mix ctx_nil Tryz.func115 (by kernel_rfl) (by kernel_rfl) (by kernel_rfl) (by kernel_rfl) (by kernel_rfl)
theorem ok73 : FnOk Tryz.prog 73 sp73 := fnOk (nv := 7) (h := h73) tok mix (ctx_cons ok115 ctx_nil) Tryz.func73 (by kernel_rfl) (by kernel_rfl) (by kernel_rfl) (by kernel_rfl) (by kernel_rfl)
theorem ok31 : FnOk Tryz.prog 31 sp31 := fnOk (nv := 4) (h := h31) tok mix (ctx_cons ok24 (ctx_cons ok72 (ctx_cons ok73 ctx_nil))) Tryz.func31 (by kernel_rfl) (by kernel_rfl) (by kernel_rfl) (by kernel_rfl) (by kernel_rfl)
theorem ok10 : FnOk Tryz.prog 10 sp10 := fnOk (nv := 44) (h := h10) tok mix (ctx_cons ok27 (ctx_cons ok28 (ctx_cons ok29 (ctx_cons ok30 (ctx_cons ok31 ctx_nil))))) Tryz.func10 (by kernel_rfl) (by kernel_rfl) (by kernel_rfl) (by kernel_rfl) (by kernel_rfl)
theorem ok26_r : ∀ n, FnOk Tryz.prog 26 (sp26_r n)
  | 0 => ⟨⟨Tryz.f26, by kernel_rfl, by kernel_rfl, by kernel_rfl⟩, fun a r hr => nomatch (show (none : Option _) = some r from hr)⟩
  | n + 1 => fnOk (nv := 29) (h := h26) tok mix (ctx_cons (ok26_r n) (ctx_cons ok10 ctx_nil)) Tryz.func26 (by kernel_rfl) (by kernel_rfl) (by kernel_rfl) (by kernel_rfl) (by kernel_rfl)
theorem ok26 : FnOk Tryz.prog 26 sp26 := ok26_r 64
theorem ok9 : FnOk Tryz.prog 9 sp9 := fnOk (nv := 3) (h := h9) tok mix (ctx_cons ok26 ctx_nil) Tryz.func9 (by kernel_rfl) (by kernel_rfl) (by kernel_rfl) (by kernel_rfl) (by kernel_rfl)
theorem ok4 : FnOk Tryz.prog 4 sp4 := fnOk (nv := 0) (h := h4) tok mix (ctx_cons ok5 (ctx_cons ok9 (ctx_cons ok10 ctx_nil))) Tryz.func4 (by kernel_rfl) (by kernel_rfl) (by kernel_rfl) (by kernel_rfl) (by kernel_rfl)
theorem ok6 : FnOk Tryz.prog 6 sp6 := fnOk (nv := 6) (h := h6) tok mix ctx_nil Tryz.func6 (by kernel_rfl) (by kernel_rfl) (by kernel_rfl) (by kernel_rfl) (by kernel_rfl)
theorem ok20 : FnOk Tryz.prog 20 sp20 := fnOk (nv := 6) (h := h20) tok mix ctx_nil Tryz.func20 (by kernel_rfl) (by kernel_rfl) (by kernel_rfl) (by kernel_rfl) (by kernel_rfl)
theorem ok74 : FnOk Tryz.prog 74 sp74 := fnOk (nv := 8) (h := h74) tok mix ctx_nil Tryz.func74 (by kernel_rfl) (by kernel_rfl) (by kernel_rfl) (by kernel_rfl) (by kernel_rfl)
theorem ok75 : FnOk Tryz.prog 75 sp75 := fnOk (nv := 6) (h := h75) tok mix (ctx_cons ok74 ctx_nil) Tryz.func75 (by kernel_rfl) (by kernel_rfl) (by kernel_rfl) (by kernel_rfl) (by kernel_rfl)
theorem ok116 : FnOk Tryz.prog 116 sp116 := fnOk (nv := 6) (h := h116) tok mix ctx_nil Tryz.func116 (by kernel_rfl) (by kernel_rfl) (by kernel_rfl) (by kernel_rfl) (by kernel_rfl)
theorem ok117 : FnOk Tryz.prog 117 sp117 := fnOk (nv := 8) (h := h117) tok mix (ctx_cons ok116 ctx_nil) Tryz.func117 (by kernel_rfl) (by kernel_rfl) (by kernel_rfl) (by kernel_rfl) (by kernel_rfl)
theorem ok76 : FnOk Tryz.prog 76 sp76 := fnOk (nv := 11) (h := h76) tok mix (ctx_cons ok116 (ctx_cons ok117 ctx_nil)) Tryz.func76 (by kernel_rfl) (by kernel_rfl) (by kernel_rfl) (by kernel_rfl) (by kernel_rfl)
theorem ok32 : FnOk Tryz.prog 32 sp32 := fnOk (nv := 12) (h := h32) tok mix (ctx_cons ok74 (ctx_cons ok75 (ctx_cons ok76 ctx_nil))) Tryz.func32 (by kernel_rfl) (by kernel_rfl) (by kernel_rfl) (by kernel_rfl) (by kernel_rfl)
theorem ok118 : FnOk Tryz.prog 118 sp118 := fnOk (nv := 4) (h := h118) tok mix ctx_nil Tryz.func118 (by kernel_rfl) (by kernel_rfl) (by kernel_rfl) (by kernel_rfl) (by kernel_rfl)
theorem ok77 : FnOk Tryz.prog 77 sp77 := fnOk (nv := 6) (h := h77) tok mix (ctx_cons ok118 ctx_nil) Tryz.func77 (by kernel_rfl) (by kernel_rfl) (by kernel_rfl) (by kernel_rfl) (by kernel_rfl)
theorem ok80 : FnOk Tryz.prog 80 sp80 := fnOk (nv := 8) (h := h80) tok mix ctx_nil Tryz.func80 (by kernel_rfl) (by kernel_rfl) (by kernel_rfl) (by kernel_rfl) (by kernel_rfl)
theorem ok119 : FnOk Tryz.prog 119 sp119 := fnOk (nv := 6) (h := h119) tok mix (ctx_cons ok118 ctx_nil) Tryz.func119 (by kernel_rfl) (by kernel_rfl) (by kernel_rfl) (by kernel_rfl) (by kernel_rfl)
theorem ok120 : FnOk Tryz.prog 120 sp120 := fnOk (nv := 4) (h := h120) tok mix ctx_nil Tryz.func120 (by kernel_rfl) (by kernel_rfl) (by kernel_rfl) (by kernel_rfl) (by kernel_rfl)
theorem ok78 : FnOk Tryz.prog 78 sp78 := fnOk (nv := 10) (h := h78) tok mix (ctx_cons ok80 (ctx_cons ok119 (ctx_cons ok120 ctx_nil))) Tryz.func78 (by kernel_rfl) (by kernel_rfl) (by kernel_rfl) (by kernel_rfl) (by kernel_rfl)
theorem ok81 : FnOk Tryz.prog 81 sp81 := fnOk (nv := 7) (h := h81) tok mix (ctx_cons ok120 ctx_nil) Tryz.func81 (by kernel_rfl) (by kernel_rfl) (by kernel_rfl) (by kernel_rfl) (by kernel_rfl)
theorem ok79 : FnOk Tryz.prog 79 sp79 := fnOk (nv := 9) (h := h79) tok mix (ctx_cons ok80 (ctx_cons ok81 ctx_nil)) Tryz.func79 (by kernel_rfl) (by kernel_rfl) (by kernel_rfl) (by kernel_rfl) (by kernel_rfl)
theorem ok33 : FnOk Tryz.prog 33 sp33 := fnOk (nv := 5) (h := h33) tok mix (ctx_cons ok77 (ctx_cons ok78 (ctx_cons ok79 ctx_nil))) Tryz.func33 (by kernel_rfl) (by kernel_rfl) (by kernel_rfl) (by kernel_rfl) (by kernel_rfl)
theorem ok34 : FnOk Tryz.prog 34 sp34 := fnOk (nv := 2) (h := h34) tok mix ctx_nil Tryz.func34 (by kernel_rfl) (by kernel_rfl) (by kernel_rfl) (by kernel_rfl) (by kernel_rfl)
theorem ok35 : FnOk Tryz.prog 35 sp35 := fnOk (nv := 3) (h := h35) tok mix (ctx_cons ok80 (ctx_cons ok81 ctx_nil)) Tryz.func35 (by kernel_rfl) (by kernel_rfl) (by kernel_rfl) (by kernel_rfl) (by kernel_rfl)
theorem ok11 : FnOk Tryz.prog 11 sp11 := fnOk (nv := 10) (h := h11) tok mix (ctx_cons ok20 (ctx_cons ok32 (ctx_cons ok33 (ctx_cons ok34 (ctx_cons ok35 ctx_nil))))) Tryz.func11 (by kernel_rfl) (by kernel_rfl) (by kernel_rfl) (by kernel_rfl) (by kernel_rfl)
theorem ok36 : FnOk Tryz.prog 36 sp36 := fnOk (nv := 1) (h := h36) tok mix ctx_nil Tryz.func36 (by kernel_rfl) (by kernel_rfl) (by kernel_rfl) (by kernel_rfl) (by kernel_rfl)
theorem ok37 : FnOk Tryz.prog 37 sp37 := fnOk (nv := 7) (h := h37) tok mix ctx_nil Tryz.func37 (by kernel_rfl) (by kernel_rfl) (by kernel_rfl) (by kernel_rfl) (by kernel_rfl)
theorem ok38 : FnOk Tryz.prog 38 sp38 := fnOk (nv := 7) (h := h38) tok mix ctx_nil Tryz.func38 (by kernel_rfl) (by kernel_rfl) (by kernel_rfl) (by kernel_rfl) (by kernel_rfl)
theorem ok12 : FnOk Tryz.prog 12 sp12 := fnOk (nv := 8) (h := h12) tok mix (ctx_cons ok36 (ctx_cons ok37 (ctx_cons ok38 ctx_nil))) Tryz.func12 (by kernel_rfl) (by kernel_rfl) (by kernel_rfl) (by kernel_rfl) (by kernel_rfl)
theorem ok39 : FnOk Tryz.prog 39 sp39 := fnOk (nv := 7) (h := h39) tok mix ctx_nil Tryz.func39 (by kernel_rfl) (by kernel_rfl) (by kernel_rfl) (by kernel_rfl) (by kernel_rfl)
theorem ok40 : FnOk Tryz.prog 40 sp40 := fnOk (nv := 9) (h := h40) tok mix (ctx_cons ok37 (ctx_cons ok38 ctx_nil)) Tryz.func40 (by kernel_rfl) (by kernel_rfl) (by kernel_rfl) (by kernel_rfl) (by kernel_rfl)
theorem ok41 : FnOk Tryz.prog 41 sp41 := fnOk (nv := 7) (h := h41) tok mix ctx_nil Tryz.func41 (by kernel_rfl) (by kernel_rfl) (by kernel_rfl) (by kernel_rfl) (by kernel_rfl)
theorem ok45 : FnOk Tryz.prog 45 sp45 := fnOk (nv := 7) (h := h45) tok mix ctx_nil Tryz.func45 (by kernel_rfl) (by kernel_rfl) (by kernel_rfl) (by kernel_rfl) (by kernel_rfl)
theorem ok47 : FnOk Tryz.prog 47 sp47 := fnOk (nv := 7) (h := h47) tok mix ctx_nil Tryz.func47 (by kernel_rfl) (by kernel_rfl) (by kernel_rfl) (by kernel_rfl) (by kernel_rfl)
theorem ok48 : FnOk Tryz.prog 48 sp48 := fnOk (nv := 2) (h := h48) tok mix ctx_nil Tryz.func48 (by kernel_rfl) (by kernel_rfl) (by kernel_rfl) (by kernel_rfl) (by kernel_rfl)
theorem ok52 : FnOk Tryz.prog 52 sp52 := fnOk (nv := 7) (h := h52) tok mix ctx_nil Tryz.func52 (by kernel_rfl) (by kernel_rfl) (by kernel_rfl) (by kernel_rfl) (by kernel_rfl)
theorem ok53 : FnOk Tryz.prog 53 sp53 := fnOk (nv := 8) (h := h53) tok mix ctx_nil Tryz.func53 (by kernel_rfl) (by kernel_rfl) (by kernel_rfl) (by kernel_rfl) (by kernel_rfl)
theorem ok82 : FnOk Tryz.prog 82 sp82 := fnOk (nv := 11) (h := h82) tok mix ctx_nil Tryz.func82 (by kernel_rfl) (by kernel_rfl) (by kernel_rfl) (by kernel_rfl) (by kernel_rfl)
theorem ok42 : FnOk Tryz.prog 42 sp42 := fnOk (nv := 9) (h := h42) tok mix (ctx_cons ok41 (ctx_cons ok45 (ctx_cons ok47 (ctx_cons ok48 (ctx_cons ok52 (ctx_cons ok53 (ctx_cons ok82 ctx_nil))))))) Tryz.func42 (by kernel_rfl) (by kernel_rfl) (by kernel_rfl) (by kernel_rfl) (by kernel_rfl)
theorem ok121 : FnOk Tryz.prog 121 sp121 := fnOk (nv := 7) (h := h121) tok mix ctx_nil Tryz.func121 (by kernel_rfl) (by kernel_rfl) (by kernel_rfl) (by kernel_rfl) (by kernel_rfl)
theorem ok56 : FnOk Tryz.prog 56 sp56 := fnOk (nv := 7) (h := h56) tok mix ctx_nil Tryz.func56 (by kernel_rfl) (by kernel_rfl) (by kernel_rfl) (by kernel_rfl) (by kernel_rfl)
theorem ok133 : FnOk Tryz.prog 133 sp133 := fnOk (nv := 4) (h := h133) tok mix ctx_nil Tryz.func133 (by kernel_rfl) (by kernel_rfl) (by kernel_rfl) (by kernel_rfl) (by kernel_rfl)
theorem ok154 : FnOk Tryz.prog 154 sp154 := fnOk (nv := 7) (h := h154) tok mix ctx_nil Tryz.func154 (by kernel_rfl) (by kernel_rfl) (by kernel_rfl) (by kernel_rfl) (by kernel_rfl)
theorem ok174 : FnOk Tryz.prog 174 sp174 := fnOk (nv := 4) (h := h174) tok mix ctx_nil Tryz.func174 (by kernel_rfl) (by kernel_rfl) (by kernel_rfl) (by kernel_rfl) (by kernel_rfl)
theorem ok155 : FnOk Tryz.prog 155 sp155 := fnOk (nv := 8) (h := h155) tok mix (ctx_cons ok174 ctx_nil) Tryz.func155 (by kernel_rfl) (by kernel_rfl) (by kernel_rfl) (by kernel_rfl) (by kernel_rfl)
theorem ok91 : FnOk Tryz.prog 91 sp91 := fnOk (nv := 5) (h := h91) tok mix ctx_nil Tryz.func91 (by kernel_rfl) (by kernel_rfl) (by kernel_rfl) (by kernel_rfl) (by kernel_rfl)
theorem ok179 : FnOk Tryz.prog 179 sp179 := fnOk (nv := 4) (h := h179) tok mix (ctx_cons ok120 ctx_nil) Tryz.func179 (by kernel_rfl) (by kernel_rfl) (by kernel_rfl) (by kernel_rfl) (by kernel_rfl)
theorem ok187 : FnOk Tryz.prog 187 sp187 := fnOk (nv := 7) (h := h187) tok mix (ctx_cons ok179 ctx_nil) Tryz.func187 (by kernel_rfl) (by kernel_rfl) (by kernel_rfl) (by kernel_rfl) (by kernel_rfl)
theorem ok164 : FnOk Tryz.prog 164 sp164 := fnOk (nv := 14) (h := h164) tok mix (ctx_cons ok45 (ctx_cons ok91 (ctx_cons ok187 ctx_nil))) Tryz.func164 (by kernel_rfl) (by kernel_rfl) (by kernel_rfl) (by kernel_rfl) (by kernel_rfl)
theorem ok125 : FnOk Tryz.prog 125 sp125 := fnOk (nv := 7) (h := h125) tok mix (ctx_cons ok164 ctx_nil) Tryz.func125 (by kernel_rfl) (by kernel_rfl) (by kernel_rfl) (by kernel_rfl) (by kernel_rfl)
theorem ok63 : FnOk Tryz.prog 63 sp63 := fnOk (nv := 7) (h := h63) tok mix (ctx_cons ok91 ctx_nil) Tryz.func63 (by kernel_rfl) (by kernel_rfl) (by kernel_rfl) (by kernel_rfl) (by kernel_rfl)
theorem ok198 : FnOk Tryz.prog 198 sp198 := fnOk (nv := 1) (h := h198) tok mix ctx_nil Tryz.func198 (by kernel_rfl) (by kernel_rfl) (by kernel_rfl) (by kernel_rfl) (by kernel_rfl)
theorem ok195 : FnOk Tryz.prog 195 sp195 := fnOk (nv := 2) (h := h195) tok mix (ctx_cons ok198 ctx_nil) Tryz.func195 (by kernel_rfl) (by kernel_rfl) (by kernel_rfl) (by kernel_rfl) (by kernel_rfl)
theorem ok196 : FnOk Tryz.prog 196 sp196 := fnOk (nv := 2) (h := h196) tok mix ctx_nil Tryz.func196 (by kernel_rfl) (by kernel_rfl) (by kernel_rfl) (by kernel_rfl) (by kernel_rfl)
theorem ok192 : FnOk Tryz.prog 192 sp192 := fnOk (nv := 7) (h := h192) tok mix (ctx_cons ok195 (ctx_cons ok196 ctx_nil)) Tryz.func192 (by kernel_rfl) (by kernel_rfl) (by kernel_rfl) (by kernel_rfl) (by kernel_rfl)
theorem ok189 : FnOk Tryz.prog 189 sp189 := fnOk (nv := 17) (h := h189) tok mix (ctx_cons ok63 (ctx_cons ok80 (ctx_cons ok179 (ctx_cons ok192 ctx_nil)))) Tryz.func189 (by kernel_rfl) (by kernel_rfl) (by kernel_rfl) (by kernel_rfl) (by kernel_rfl)
theorem ok166 : FnOk Tryz.prog 166 sp166 := fnOk (nv := 7) (h := h166) tok mix (ctx_cons ok189 ctx_nil) Tryz.func166 (by kernel_rfl) (by kernel_rfl) (by kernel_rfl) (by kernel_rfl) (by kernel_rfl)
theorem ok156 : FnOk Tryz.prog 156 sp156 := fnOk (nv := 6) (h := h156) tok mix (ctx_cons ok91 (ctx_cons ok125 (ctx_cons ok133 (ctx_cons ok166 ctx_nil)))) Tryz.func156 (by kernel_rfl) (by kernel_rfl) (by kernel_rfl) (by kernel_rfl) (by kernel_rfl)
theorem ok175 : FnOk Tryz.prog 175 sp175 := fnOk (nv := 9) (h := h175) tok mix (ctx_cons ok164 ctx_nil) Tryz.func175 (by kernel_rfl) (by kernel_rfl) (by kernel_rfl) (by kernel_rfl) (by kernel_rfl)
theorem ok176 : FnOk Tryz.prog 176 sp176 := fnOk (nv := 10) (h := h176) tok mix (ctx_cons ok80 (ctx_cons ok166 (ctx_cons ok192 ctx_nil))) Tryz.func176 (by kernel_rfl) (by kernel_rfl) (by kernel_rfl) (by kernel_rfl) (by kernel_rfl)
theorem ok157 : FnOk Tryz.prog 157 sp157 := fnOk (nv := 5) (h := h157) tok mix (ctx_cons ok133 (ctx_cons ok175 (ctx_cons ok176 ctx_nil))) Tryz.func157 (by kernel_rfl) (by kernel_rfl) (by kernel_rfl) (by kernel_rfl) (by kernel_rfl)
theorem ok177 : FnOk Tryz.prog 177 sp177 := fnOk (nv := 5) (h := h177) tok mix ctx_nil Tryz.func177 (by kernel_rfl) (by kernel_rfl) (by kernel_rfl) (by kernel_rfl) (by kernel_rfl)
theorem ok178 : FnOk Tryz.prog 178 sp178 := fnOk (nv := 7) (h := h178) tok mix (ctx_cons ok91 ctx_nil) Tryz.func178 (by kernel_rfl) (by kernel_rfl) (by kernel_rfl) (by kernel_rfl) (by kernel_rfl)
theorem ok158 : FnOk Tryz.prog 158 sp158 := fnOk (nv := 6) (h := h158) tok mix (ctx_cons ok37 (ctx_cons ok177 (ctx_cons ok178 ctx_nil))) Tryz.func158 (by kernel_rfl) (by kernel_rfl) (by kernel_rfl) (by kernel_rfl) (by kernel_rfl)
theorem ok180 : FnOk Tryz.prog 180 sp180 := fnOk (nv := 7) (h := h180) tok mix (ctx_cons ok189 ctx_nil) Tryz.func180 (by kernel_rfl) (by kernel_rfl) (by kernel_rfl) (by kernel_rfl) (by kernel_rfl)
theorem ok181 : FnOk Tryz.prog 181 sp181 := fnOk (nv := 8) (h := h181) tok mix (ctx_cons ok91 ctx_nil) Tryz.func181 (by kernel_rfl) (by kernel_rfl) (by kernel_rfl) (by kernel_rfl) (by kernel_rfl)
theorem ok159 : FnOk Tryz.prog 159 sp159 := fnOk (nv := 12) (h := h159) tok mix (ctx_cons ok63 (ctx_cons ok91 (ctx_cons ok125 (ctx_cons ok133 (ctx_cons ok177 (ctx_cons ok179 (ctx_cons ok180 (ctx_cons ok181 ctx_nil)))))))) Tryz.func159 (by kernel_rfl) (by kernel_rfl) (by kernel_rfl) (by kernel_rfl) (by kernel_rfl)
theorem ok182 : FnOk Tryz.prog 182 sp182 := fnOk (nv := 10) (h := h182) tok mix ctx_nil Tryz.func182 (by kernel_rfl) (by kernel_rfl) (by kernel_rfl) (by kernel_rfl) (by kernel_rfl)
theorem ok160 : FnOk Tryz.prog 160 sp160 := fnOk (nv := 12) (h := h160) tok mix (ctx_cons ok47 (ctx_cons ok182 ctx_nil)) Tryz.func160 (by kernel_rfl) (by kernel_rfl) (by kernel_rfl) (by kernel_rfl) (by kernel_rfl)
theorem ok122 : FnOk Tryz.prog 122 sp122 := fnOk (nv := 16) (h := h122) tok mix (ctx_cons ok34 (ctx_cons ok45 (ctx_cons ok56 (ctx_cons ok133 (ctx_cons ok154 (ctx_cons ok155 (ctx_cons ok156 (ctx_cons ok157 (ctx_cons ok158 (ctx_cons ok159 (ctx_cons ok160 ctx_nil))))))))))) Tryz.func122 (by kernel_rfl) (by kernel_rfl) (by kernel_rfl) (by kernel_rfl) (by kernel_rfl)
theorem ok202 : FnOk Tryz.prog 202 sp202 := fnOk (nv := 12) (h := h202) tok mix ctx_nil Tryz.func202 (by kernel_rfl) (by kernel_rfl) (by kernel_rfl) (by kernel_rfl) (by kernel_rfl)
theorem ok200 : FnOk Tryz.prog 200 sp200 := fnOk (nv := 9) (h := h200) tok mix (ctx_cons ok202 ctx_nil) Tryz.func200 (by kernel_rfl) (by kernel_rfl) (by kernel_rfl) (by kernel_rfl) (by kernel_rfl)
theorem ok201 : FnOk Tryz.prog 201 sp201 := fnOk (nv := 7) (h := h201) tok mix (ctx_cons ok200 ctx_nil) Tryz.func201 (by kernel_rfl) (by kernel_rfl) (by kernel_rfl) (by kernel_rfl) (by kernel_rfl)
theorem ok199 : FnOk Tryz.prog 199 sp199 := fnOk (nv := 8) (h := h199) tok mix (ctx_cons ok195 (ctx_cons ok200 (ctx_cons ok201 ctx_nil))) Tryz.func199 (by kernel_rfl) (by kernel_rfl) (by kernel_rfl) (by kernel_rfl) (by kernel_rfl)
theorem ok197 : FnOk Tryz.prog 197 sp197 := fnOk (nv := 5) (h := h197) tok mix (ctx_cons ok125 (ctx_cons ok166 (ctx_cons ok199 ctx_nil))) Tryz.func197 (by kernel_rfl) (by kernel_rfl) (by kernel_rfl) (by kernel_rfl) (by kernel_rfl)
theorem ok193 : FnOk Tryz.prog 193 sp193 := fnOk (nv := 11) (h := h193) tok mix (ctx_cons ok81 ctx_nil) Tryz.func193 (by kernel_rfl) (by kernel_rfl) (by kernel_rfl) (by kernel_rfl) (by kernel_rfl)
theorem ok183_r : ∀ n, FnOk Tryz.prog 183 (sp183_r n)
  | 0 => ⟨⟨Tryz.f183, by kernel_rfl, by kernel_rfl, by kernel_rfl⟩, fun a r hr => nomatch (show (none : Option _) = some r from hr)⟩
  | n + 1 => fnOk (nv := 10) (h := h183) tok mix (ctx_cons (ok183_r n) (ctx_cons ok193 ctx_nil)) Tryz.func183 (by kernel_rfl) (by kernel_rfl) (by kernel_rfl) (by kernel_rfl) (by kernel_rfl)
theorem ok183 : FnOk Tryz.prog 183 sp183 := ok183_r 64
theorem ok161 : FnOk Tryz.prog 161 sp161 := fnOk (nv := 3) (h := h161) tok mix (ctx_cons ok183 ctx_nil) Tryz.func161 (by kernel_rfl) (by kernel_rfl) (by kernel_rfl) (by kernel_rfl) (by kernel_rfl)
theorem ok162 : FnOk Tryz.prog 162 sp162 := fnOk (nv := 12) (h := h162) tok mix (ctx_cons ok34 ctx_nil) Tryz.func162 (by kernel_rfl) (by kernel_rfl) (by kernel_rfl) (by kernel_rfl) (by kernel_rfl)
theorem ok184 : FnOk Tryz.prog 184 sp184 := fnOk (nv := 7) (h := h184) tok mix ctx_nil Tryz.func184 (by kernel_rfl) (by kernel_rfl) (by kernel_rfl) (by kernel_rfl) (by kernel_rfl)
theorem ok185 : FnOk Tryz.prog 185 sp185 := fnOk (nv := 8) (h := h185) tok mix ctx_nil Tryz.func185 (by kernel_rfl) (by kernel_rfl) (by kernel_rfl) (by kernel_rfl) (by kernel_rfl)
theorem ok186 : FnOk Tryz.prog 186 sp186 := fnOk (nv := 6) (h := h186) tok mix ctx_nil Tryz.func186 (by kernel_rfl) (by kernel_rfl) (by kernel_rfl) (by kernel_rfl) (by kernel_rfl)
theorem ok163 : FnOk Tryz.prog 163 sp163 := fnOk (nv := 16) (h := h163) tok mix (ctx_cons ok47 (ctx_cons ok133 (ctx_cons ok155 (ctx_cons ok156 (ctx_cons ok158 (ctx_cons ok159 (ctx_cons ok160 (ctx_cons ok174 (ctx_cons ok184 (ctx_cons ok185 (ctx_cons ok186 ctx_nil))))))))))) Tryz.func163 (by kernel_rfl) (by kernel_rfl) (by kernel_rfl) (by kernel_rfl) (by kernel_rfl)
theorem ok123 : FnOk Tryz.prog 123 sp123 := fnOk (nv := 21) (h := h123) tok mix (ctx_cons ok45 (ctx_cons ok157 (ctx_cons ok161 (ctx_cons ok162 (ctx_cons ok163 ctx_nil))))) Tryz.func123 (by kernel_rfl) (by kernel_rfl) (by kernel_rfl) (by kernel_rfl) (by kernel_rfl)
theorem ok83 : FnOk Tryz.prog 83 sp83 := fnOk (nv := 17) (h := h83) tok mix (ctx_cons ok37 (ctx_cons ok121 (ctx_cons ok122 (ctx_cons ok123 ctx_nil)))) Tryz.func83 (by kernel_rfl) (by kernel_rfl) (by kernel_rfl) (by kernel_rfl) (by kernel_rfl)
theorem ok43 : FnOk Tryz.prog 43 sp43 := fnOk (nv := 11) (h := h43) tok mix (ctx_cons ok83 ctx_nil) Tryz.func43 (by kernel_rfl) (by kernel_rfl) (by kernel_rfl) (by kernel_rfl) (by kernel_rfl)
theorem ok13 : FnOk Tryz.prog 13 sp13 := fnOk (nv := 13) (h := h13) tok mix (ctx_cons ok20 (ctx_cons ok37 (ctx_cons ok39 (ctx_cons ok40 (ctx_cons ok41 (ctx_cons ok42 (ctx_cons ok43 ctx_nil))))))) Tryz.func13 (by kernel_rfl) (by kernel_rfl) (by kernel_rfl) (by kernel_rfl) (by kernel_rfl)
theorem ok44 : FnOk Tryz.prog 44 sp44 := fnOk (nv := 1) (h := h44) tok mix ctx_nil Tryz.func44 (by kernel_rfl) (by kernel_rfl) (by kernel_rfl) (by kernel_rfl) (by kernel_rfl)
theorem ok46 : FnOk Tryz.prog 46 sp46 := fnOk (nv := 6) (h := h46) tok mix (ctx_cons ok34 ctx_nil) Tryz.func46 (by kernel_rfl) (by kernel_rfl) (by kernel_rfl) (by kernel_rfl) (by kernel_rfl)
theorem ok14 : FnOk Tryz.prog 14 sp14 := fnOk (nv := 10) (h := h14) tok mix (ctx_cons ok34 (ctx_cons ok35 (ctx_cons ok44 (ctx_cons ok45 (ctx_cons ok46 (ctx_cons ok47 (ctx_cons ok48 ctx_nil))))))) Tryz.func14 (by kernel_rfl) (by kernel_rfl) (by kernel_rfl) (by kernel_rfl) (by kernel_rfl)
theorem ok49 : FnOk Tryz.prog 49 sp49 := fnOk (nv := 8) (h := h49) tok mix (ctx_cons ok41 ctx_nil) Tryz.func49 (by kernel_rfl) (by kernel_rfl) (by kernel_rfl) (by kernel_rfl) (by kernel_rfl)
theorem ok50 : FnOk Tryz.prog 50 sp50 := fnOk (nv := 7) (h := h50) tok mix ctx_nil Tryz.func50 (by kernel_rfl) (by kernel_rfl) (by kernel_rfl) (by kernel_rfl) (by kernel_rfl)
theorem ok124 : FnOk Tryz.prog 124 sp124 := fnOk (nv := 1) (h := h124) tok mix ctx_nil Tryz.func124 (by kernel_rfl) (by kernel_rfl) (by kernel_rfl) (by kernel_rfl) (by kernel_rfl)
theorem ok84 : FnOk Tryz.prog 84 sp84 := fnOk (nv := 3) (h := h84) tok mix (ctx_cons ok124 ctx_nil) Tryz.func84 (by kernel_rfl) (by kernel_rfl) (by kernel_rfl) (by kernel_rfl) (by kernel_rfl)
theorem ok85 : FnOk Tryz.prog 85 sp85 := fnOk (nv := 9) (h := h85) tok mix ctx_nil Tryz.func85 (by kernel_rfl) (by kernel_rfl) (by kernel_rfl) (by kernel_rfl) (by kernel_rfl)
theorem ok51 : FnOk Tryz.prog 51 sp51 := fnOk (nv := 10) (h := h51) tok mix (ctx_cons ok84 (ctx_cons ok85 ctx_nil)) Tryz.func51 (by kernel_rfl) (by kernel_rfl) (by kernel_rfl) (by kernel_rfl) (by kernel_rfl)
theorem ok15 : FnOk Tryz.prog 15 sp15 := fnOk (nv := 14) (h := h15) tok mix (ctx_cons ok20 (ctx_cons ok41 (ctx_cons ok45 (ctx_cons ok47 (ctx_cons ok49 (ctx_cons ok50 (ctx_cons ok51 (ctx_cons ok52 (ctx_cons ok53 ctx_nil))))))))) Tryz.func15 (by kernel_rfl) (by kernel_rfl) (by kernel_rfl) (by kernel_rfl) (by kernel_rfl)
theorem ok54 : FnOk Tryz.prog 54 sp54 := fnOk (nv := 9) (h := h54) tok mix (ctx_cons ok34 (ctx_cons ok45 (ctx_cons ok47 (ctx_cons ok82 ctx_nil)))) Tryz.func54 (by kernel_rfl) (by kernel_rfl) (by kernel_rfl) (by kernel_rfl) (by kernel_rfl)
theorem ok16 : FnOk Tryz.prog 16 sp16 := fnOk (nv := 11) (h := h16) tok mix (ctx_cons ok20 (ctx_cons ok34 (ctx_cons ok45 (ctx_cons ok54 ctx_nil)))) Tryz.func16 (by kernel_rfl) (by kernel_rfl) (by kernel_rfl) (by kernel_rfl) (by kernel_rfl)
theorem ok55 : FnOk Tryz.prog 55 sp55 := fnOk (nv := 5) (h := h55) tok mix ctx_nil Tryz.func55 (by kernel_rfl) (by kernel_rfl) (by kernel_rfl) (by kernel_rfl) (by kernel_rfl)
theorem ok57 : FnOk Tryz.prog 57 sp57 := fnOk (nv := 6) (h := h57) tok mix (ctx_cons ok37 (ctx_cons ok38 ctx_nil)) Tryz.func57 (by kernel_rfl) (by kernel_rfl) (by kernel_rfl) (by kernel_rfl) (by kernel_rfl)
theorem ok58 : FnOk Tryz.prog 58 sp58 := fnOk (nv := 5) (h := h58) tok mix ctx_nil Tryz.func58 (by kernel_rfl) (by kernel_rfl) (by kernel_rfl) (by kernel_rfl) (by kernel_rfl)
theorem ok59 : FnOk Tryz.prog 59 sp59 := fnOk (nv := 6) (h := h59) tok mix ctx_nil Tryz.func59 (by kernel_rfl) (by kernel_rfl) (by kernel_rfl) (by kernel_rfl) (by kernel_rfl)
theorem ok61 : FnOk Tryz.prog 61 sp61 := fnOk (nv := 7) (h := h61) tok mix (ctx_cons ok41 ctx_nil) Tryz.func61 (by kernel_rfl) (by kernel_rfl) (by kernel_rfl) (by kernel_rfl) (by kernel_rfl)
theorem ok88 : FnOk Tryz.prog 88 sp88 := fnOk (nv := 9) (h := h88) tok mix ctx_nil Tryz.func88 (by kernel_rfl) (by kernel_rfl) (by kernel_rfl) (by kernel_rfl) (by kernel_rfl)
theorem ok126 : FnOk Tryz.prog 126 sp126 := fnOk (nv := 6) (h := h126) tok mix (ctx_cons ok45 ctx_nil) Tryz.func126 (by kernel_rfl) (by kernel_rfl) (by kernel_rfl) (by kernel_rfl) (by kernel_rfl)
theorem ok127 : FnOk Tryz.prog 127 sp127 := fnOk (nv := 7) (h := h127) tok mix ctx_nil Tryz.func127 (by kernel_rfl) (by kernel_rfl) (by kernel_rfl) (by kernel_rfl) (by kernel_rfl)
theorem ok190 : FnOk Tryz.prog 190 sp190 := fnOk (nv := 7) (h := h190) tok mix (ctx_cons ok91 ctx_nil) Tryz.func190 (by kernel_rfl) (by kernel_rfl) (by kernel_rfl) (by kernel_rfl) (by kernel_rfl)
theorem ok167 : FnOk Tryz.prog 167 sp167 := fnOk (nv := 9) (h := h167) tok mix (ctx_cons ok34 (ctx_cons ok91 (ctx_cons ok187 (ctx_cons ok190 ctx_nil)))) Tryz.func167 (by kernel_rfl) (by kernel_rfl) (by kernel_rfl) (by kernel_rfl) (by kernel_rfl)
theorem ok194 : FnOk Tryz.prog 194 sp194 := fnOk (nv := 1) (h := h194) tok mix ctx_nil Tryz.func194 (by kernel_rfl) (by kernel_rfl) (by kernel_rfl) (by kernel_rfl) (by kernel_rfl)
theorem ok188 : FnOk Tryz.prog 188 sp188 := fnOk (nv := 16) (h := h188) tok mix (ctx_cons ok194 ctx_nil) Tryz.func188 (by kernel_rfl) (by kernel_rfl) (by kernel_rfl) (by kernel_rfl) (by kernel_rfl)
theorem ok165_r : ∀ n, FnOk Tryz.prog 165 (sp165_r n)
  | 0 => ⟨⟨Tryz.f165, by kernel_rfl, by kernel_rfl, by kernel_rfl⟩, fun a r hr => nomatch (show (none : Option _) = some r from hr)⟩
  | n + 1 => fnOk (nv := 17) (h := h165) tok mix (ctx_cons (ok165_r n) (ctx_cons ok81 (ctx_cons ok125 (ctx_cons ok166 (ctx_cons ok167 (ctx_cons ok180 (ctx_cons ok188 ctx_nil))))))) Tryz.func165 (by kernel_rfl) (by kernel_rfl) (by kernel_rfl) (by kernel_rfl) (by kernel_rfl)
theorem ok165 : FnOk Tryz.prog 165 sp165 := ok165_r 64
theorem ok129 : FnOk Tryz.prog 129 sp129 := fnOk (nv := 9) (h := h129) tok mix (ctx_cons ok63 (ctx_cons ok165 ctx_nil)) Tryz.func129 (by kernel_rfl) (by kernel_rfl) (by kernel_rfl) (by kernel_rfl) (by kernel_rfl)
theorem ok128 : FnOk Tryz.prog 128 sp128 := fnOk (nv := 9) (h := h128) tok mix (ctx_cons ok129 ctx_nil) Tryz.func128 (by kernel_rfl) (by kernel_rfl) (by kernel_rfl) (by kernel_rfl) (by kernel_rfl)
theorem ok86 : FnOk Tryz.prog 86 sp86 := fnOk (nv := 10) (h := h86) tok mix (ctx_cons ok41 (ctx_cons ok42 (ctx_cons ok88 (ctx_cons ok125 (ctx_cons ok126 (ctx_cons ok127 (ctx_cons ok128 ctx_nil))))))) Tryz.func86 (by kernel_rfl) (by kernel_rfl) (by kernel_rfl) (by kernel_rfl) (by kernel_rfl)
theorem ok130 : FnOk Tryz.prog 130 sp130 := fnOk (nv := 12) (h := h130) tok mix (ctx_cons ok34 (ctx_cons ok125 (ctx_cons ok166 (ctx_cons ok167 ctx_nil)))) Tryz.func130 (by kernel_rfl) (by kernel_rfl) (by kernel_rfl) (by kernel_rfl) (by kernel_rfl)
theorem ok168 : FnOk Tryz.prog 168 sp168 := fnOk (nv := 6) (h := h168) tok mix ctx_nil Tryz.func168 (by kernel_rfl) (by kernel_rfl) (by kernel_rfl) (by kernel_rfl) (by kernel_rfl)
theorem ok131 : FnOk Tryz.prog 131 sp131 := fnOk (nv := 12) (h := h131) tok mix (ctx_cons ok126 (ctx_cons ok168 ctx_nil)) Tryz.func131 (by kernel_rfl) (by kernel_rfl) (by kernel_rfl) (by kernel_rfl) (by kernel_rfl)
theorem ok132 : FnOk Tryz.prog 132 sp132 := fnOk (nv := 14) (h := h132) tok mix (ctx_cons ok126 (ctx_cons ok168 ctx_nil)) Tryz.func132 (by kernel_rfl) (by kernel_rfl) (by kernel_rfl) (by kernel_rfl) (by kernel_rfl)
theorem ok87 : FnOk Tryz.prog 87 sp87 := fnOk (nv := 15) (h := h87) tok mix (ctx_cons ok63 (ctx_cons ok125 (ctx_cons ok129 (ctx_cons ok130 (ctx_cons ok131 (ctx_cons ok132 ctx_nil)))))) Tryz.func87 (by kernel_rfl) (by kernel_rfl) (by kernel_rfl) (by kernel_rfl) (by kernel_rfl)
theorem ok60 : FnOk Tryz.prog 60 sp60 := fnOk (nv := 8) (h := h60) tok mix (ctx_cons ok61 (ctx_cons ok86 (ctx_cons ok87 (ctx_cons ok88 ctx_nil)))) Tryz.func60 (by kernel_rfl) (by kernel_rfl) (by kernel_rfl) (by kernel_rfl) (by kernel_rfl)
theorem ok17 : FnOk Tryz.prog 17 sp17 := fnOk (nv := 12) (h := h17) tok mix (ctx_cons ok20 (ctx_cons ok39 (ctx_cons ok42 (ctx_cons ok55 (ctx_cons ok56 (ctx_cons ok57 (ctx_cons ok58 (ctx_cons ok59 (ctx_cons ok60 (ctx_cons ok61 ctx_nil)))))))))) Tryz.func17 (by kernel_rfl) (by kernel_rfl) (by kernel_rfl) (by kernel_rfl) (by kernel_rfl)
theorem ok89 : FnOk Tryz.prog 89 sp89 := fnOk (nv := 1) (h := h89) tok mix ctx_nil Tryz.func89 (by kernel_rfl) (by kernel_rfl) (by kernel_rfl) (by kernel_rfl) (by kernel_rfl)
theorem ok134 : FnOk Tryz.prog 134 sp134 := fnOk (nv := 9) (h := h134) tok mix (ctx_cons ok91 ctx_nil) Tryz.func134 (by kernel_rfl) (by kernel_rfl) (by kernel_rfl) (by kernel_rfl) (by kernel_rfl)
theorem ok90 : FnOk Tryz.prog 90 sp90 := fnOk (nv := 12) (h := h90) tok mix (ctx_cons ok91 (ctx_cons ok133 (ctx_cons ok134 ctx_nil))) Tryz.func90 (by kernel_rfl) (by kernel_rfl) (by kernel_rfl) (by kernel_rfl) (by kernel_rfl)
theorem ok62 : FnOk Tryz.prog 62 sp62 := fnOk (nv := 13) (h := h62) tok mix (ctx_cons ok89 (ctx_cons ok90 ctx_nil)) Tryz.func62 (by kernel_rfl) (by kernel_rfl) (by kernel_rfl) (by kernel_rfl) (by kernel_rfl)
theorem ok18 : FnOk Tryz.prog 18 sp18 := fnOk (nv := 13) (h := h18) tok mix (ctx_cons ok62 (ctx_cons ok63 ctx_nil)) Tryz.func18 (by kernel_rfl) (by kernel_rfl) (by kernel_rfl) (by kernel_rfl) (by kernel_rfl)
theorem ok19 : FnOk Tryz.prog 19 sp19 := fnOk (nv := 8) (h := h19) tok mix ctx_nil Tryz.func19 (by kernel_rfl) (by kernel_rfl) (by kernel_rfl) (by kernel_rfl) (by kernel_rfl)
theorem ok7 : FnOk Tryz.prog 7 sp7 := fnOk (nv := 17) (h := h7) tok mix (ctx_cons ok11 (ctx_cons ok12 (ctx_cons ok13 (ctx_cons ok14 (ctx_cons ok15 (ctx_cons ok16 (ctx_cons ok17 (ctx_cons ok18 (ctx_cons ok19 (ctx_cons ok20 ctx_nil)))))))))) Tryz.func7 (by kernel_rfl) (by kernel_rfl) (by kernel_rfl) (by kernel_rfl) (by kernel_rfl)
theorem ok21 : FnOk Tryz.prog 21 sp21 := fnOk (nv := 2) (h := h21) tok mix ctx_nil Tryz.func21 (by kernel_rfl) (by kernel_rfl) (by kernel_rfl) (by kernel_rfl) (by kernel_rfl)
theorem ok92 : FnOk Tryz.prog 92 sp92 := fnOk (nv := 10) (h := h92) tok mix ctx_nil Tryz.func92 (by kernel_rfl) (by kernel_rfl) (by kernel_rfl) (by kernel_rfl) (by kernel_rfl)
theorem ok169 : FnOk Tryz.prog 169 sp169 := fnOk (nv := 11) (h := h169) tok mix ctx_nil Tryz.func169 (by kernel_rfl) (by kernel_rfl) (by kernel_rfl) (by kernel_rfl) (by kernel_rfl)
theorem ok135 : FnOk Tryz.prog 135 sp135 := fnOk (nv := 12) (h := h135) tok mix (ctx_cons ok169 ctx_nil) Tryz.func135 (by kernel_rfl) (by kernel_rfl) (by kernel_rfl) (by kernel_rfl) (by kernel_rfl)
theorem ok93_r : ∀ n, FnOk Tryz.prog 93 (sp93_r n)
  | 0 => ⟨⟨Tryz.f93, by kernel_rfl, by kernel_rfl, by kernel_rfl⟩, fun a r hr => nomatch (show (none : Option _) = some r from hr)⟩
  | n + 1 => fnOk (nv := 25) (h := h93) tok mix (ctx_cons (ok93_r n) (ctx_cons ok135 ctx_nil)) Tryz.func93 (by kernel_rfl) (by kernel_rfl) (by kernel_rfl) (by kernel_rfl) (by kernel_rfl)
theorem ok93 : FnOk Tryz.prog 93 sp93 := ok93_r 64
theorem ok64 : FnOk Tryz.prog 64 sp64 := fnOk (nv := 10) (h := h64) tok mix (ctx_cons ok92 (ctx_cons ok93 ctx_nil)) Tryz.func64 (by kernel_rfl) (by kernel_rfl) (by kernel_rfl) (by kernel_rfl) (by kernel_rfl)
theorem ok22 : FnOk Tryz.prog 22 sp22 := fnOk (nv := 2) (h := h22) tok mix (ctx_cons ok64 ctx_nil) Tryz.func22 (by kernel_rfl) (by kernel_rfl) (by kernel_rfl) (by kernel_rfl) (by kernel_rfl)
theorem ok65 : FnOk Tryz.prog 65 sp65 := fnOk (nv := 1) (h := h65) tok mix ctx_nil Tryz.func65 (by kernel_rfl) (by kernel_rfl) (by kernel_rfl) (by kernel_rfl) (by kernel_rfl)
theorem ok25 : FnOk Tryz.prog 25 sp25 := fnOk (nv := 7) (h := h25) tok mix (ctx_cons ok65 ctx_nil) Tryz.func25 (by kernel_rfl) (by kernel_rfl) (by kernel_rfl) (by kernel_rfl) (by kernel_rfl)
theorem ok23 : FnOk Tryz.prog 23 sp23 := fnOk (nv := 4) (h := h23) tok mix (ctx_cons ok24 (ctx_cons ok25 ctx_nil)) Tryz.func23 (by kernel_rfl) (by kernel_rfl) (by kernel_rfl) (by kernel_rfl) (by kernel_rfl)
theorem ok8 : FnOk Tryz.prog 8 sp8 := fnOk (nv := 39) (h := h8) tok mix (ctx_cons ok21 (ctx_cons ok22 (ctx_cons ok23 ctx_nil))) Tryz.func8 (by kernel_rfl) (by kernel_rfl) (by kernel_rfl) (by kernel_rfl) (by kernel_rfl)
theorem ok3 : FnOk Tryz.prog 3 sp3 := fnOk (nv := 16) (h := h3) tok mix (ctx_cons ok4 (ctx_cons ok5 (ctx_cons ok6 (ctx_cons ok7 (ctx_cons ok8 ctx_nil))))) Tryz.func3 (by kernel_rfl) (by kernel_rfl) (by kernel_rfl) (by kernel_rfl) (by kernel_rfl)
end Go.Fx.D
