/-
  Each of these functions does what its function over plain data says, where that gives an answer (printed by a program). Conditions: none.
-/
import Derived.Test.YtofmfbgkkbionaaD
import Derived.Test.YtofmfbgkkbionaaFxC
import Derived.Test.YtofmfbgkkbionaaFxD
import Derived.Test.YtofmfbgkkbionaaChecked
import Derived.WalkKit
namespace Go.Fx.D
open Go Go.Fx Go.Proofs Go.RowKit Go.Lib
set_option linter.unusedVariables false
set_option maxRecDepth 100000
theorem rk {t : TypeId} {i : TI fam} (j : TypeInfo) (h1 : Try.prog.underlying t = some i.desc:=by kernel_rfl) (h2 : Try.prog.info? t = some j:=by kernel_rfl) (h3 : j.zero = some (j.zero.getD .nilFunc):=by kernel_rfl) (h4 : (Nat.beq j.size i.size && Nat.beq j.bytes i.bytes && Nat.beq (j.zero.getD .nilFunc).cells.size i.size && zok i.zero (j.zero.getD .nilFunc).cells.toList && (aggV (j.zero.getD .nilFunc) == cd i.desc)) = true:=by kernel_rfl) (h5 : tyOk i = true:=by kernel_rfl) (h6 : eqOkB Try.prog t i = true:=by kernel_rfl) : RowOk Try.prog t i:=⟨h1,⟨j,_,h2,h3,h4⟩,h5,h6⟩
theorem rt : RowOk Try.prog 3 row3:=rk Try.t3
theorem rv : RowOk Try.prog 4 row4:=rk Try.t4
theorem ro : RowOk Try.prog 5 row5:=rk Try.t5
theorem rq : RowOk Try.prog 9 row9:=rk Try.t9
theorem qU : RowOk Try.prog 22 row22:=rk Try.t22
theorem qZ : RowOk Try.prog 23 row23:=rk Try.t23
theorem qM : RowOk Try.prog 24 row24:=rk Try.t24
theorem qO : RowOk Try.prog 26 row26:=rk Try.t26
theorem qs : RowOk Try.prog 27 row27:=rk Try.t27
theorem rb : RowOk Try.prog 29 row29:=rk Try.t29
theorem qy : RowOk Try.prog 30 row30:=rk Try.t30
theorem qr : RowOk Try.prog 31 row31:=rk Try.t31
theorem qq : RowOk Try.prog 32 row32:=rk Try.t32
theorem qF : RowOk Try.prog 33 row33:=rk Try.t33
theorem qD : RowOk Try.prog 34 row34:=rk Try.t34
theorem qS : RowOk Try.prog 36 row36:=rk Try.t36
theorem nH : RowOk Try.prog 38 row38:=rk Try.t38
theorem ra : RowOk Try.prog 40 row40:=rk Try.t40
theorem qC : RowOk Try.prog 42 row42:=rk Try.t42
theorem qB : RowOk Try.prog 44 row44:=rk Try.t44
theorem qA : RowOk Try.prog 45 row45:=rk Try.t45
theorem qQ : RowOk Try.prog 48 row48:=rk Try.t48
theorem qz : RowOk Try.prog 57 row57:=rk Try.t57
theorem qW : RowOk Try.prog 58 row58:=rk Try.t58
theorem qw : RowOk Try.prog 65 row65:=rk Try.t65
theorem re : RowOk Try.prog 73 row73:=rk Try.t73
theorem qX : RowOk Try.prog 78 row78:=rk Try.t78
theorem qv : RowOk Try.prog 82 row82:=rk Try.t82
theorem pz : RowOk Try.prog 100 oK:=rk Try.t100
theorem p8 : RowOk Try.prog 102 pa:=rk Try.t102
theorem pH : RowOk Try.prog 104 pj:=rk Try.t104
theorem pT : RowOk Try.prog 106 oZ:=rk Try.t106
theorem qj : RowOk Try.prog 108 oT:=rk Try.t108
theorem p5 : RowOk Try.prog 113 oI:=rk Try.t113
theorem tok : TblOk Try.prog (look tbl):=tblOk (all_cons rt (all_cons rv (all_cons ro (all_cons rq (all_cons qU (all_cons qZ (all_cons qM (all_cons qO (all_cons qs (all_cons rb (all_cons qy (all_cons qr (all_cons qq (all_cons qF (all_cons qD (all_cons qS (all_cons nH (all_cons ra (all_cons qC (all_cons qB (all_cons qA (all_cons qQ (all_cons qz (all_cons qW (all_cons qw (all_cons re (all_cons qX (all_cons qv (all_cons pz (all_cons p8 (all_cons pH (all_cons pT (all_cons qj (all_cons p5 all_nil))))))))))))))))))))))))))))))))))
theorem mix : Try.prog.follows .mixedOrders = true:=Checked.mixed Try.checked
theorem fo {Γ : Ctx fam} {nv : Nat} {h : Hint} (hΓ : CtxOk Try.prog Γ) {f : FuncId} {fn : Func} {sp : Spec fam} (hf : Try.prog.funcs[f]? = some fn) (hnm : (fn.name == "runtime.NumGoroutine") = false:=by kernel_rfl) (hbn : fn.body.isNone = false:=by kernel_rfl) (hlen : Nat.ble sp.ks.length fn.ntmps = true:=by kernel_rfl) (hrs : sp.rs.all (fun k => !k.isBox) = true:=by kernel_rfl) (hD : (fun a => tFunc (look tbl) Γ nv fn h sp.ks sp.rs a) = sp.D:=by kernel_rfl) : FnOk Try.prog f sp:=fnOk tok mix hΓ hf hnm hbn hlen hrs hD
theorem ok19 : FnOk Try.prog 19 sp19:=fo (nv:=2) (h:=h19) aw Try.func19
theorem ok5 : FnOk Try.prog 5 sp5:=fo (nv:=1) (h:=h5) (ai ok19 (ai ok19 aw)) Try.func5
theorem ok20 : FnOk Try.prog 20 sp20:=fo (nv:=3) (h:=h20) (ai ok19 aw) Try.func20
theorem ok15 : FnOk Try.prog 15 sp15:=fo (nv:=5) (h:=h15) (ai ok19 (ai ok20 aw)) Try.func15
theorem ok11 : FnOk Try.prog 11 sp11:=fo (nv:=9) (h:=h11) (ai ok15 aw) Try.func11
theorem ok8 : FnOk Try.prog 8 sp8:=fo (nv:=12) (h:=h8) (ai ok11 aw) Try.func8
theorem ok29 : FnOk Try.prog 29 sp29:=fo (nv:=6) (h:=h29) aw Try.func29
theorem ok32 : FnOk Try.prog 32 sp32:=fo (nv:=9) (h:=h32) aw Try.func32
theorem ok30 : FnOk Try.prog 30 sp30:=fo (nv:=12) (h:=h30) (ai ok32 aw) Try.func30
theorem ok26 : FnOk Try.prog 26 sp26:=fo (nv:=6) (h:=h26) (ai ok29 (ai ok30 aw)) Try.func26
theorem ok21 : FnOk Try.prog 21 sp21:=fo (nv:=5) (h:=h21) (ai ok26 aw) Try.func21
theorem ok16 : FnOk Try.prog 16 sp16:=fo (nv:=4) (h:=h16) (ai ok21 aw) Try.func16
theorem ok22 : FnOk Try.prog 22 sp22:=fo (nv:=9) (h:=h22) aw Try.func22
theorem ok23 : FnOk Try.prog 23 sp23:=fo (nv:=3) (h:=h23) aw Try.func23
theorem q9 : FnOk Try.prog 24 qP:=fnOk (nv:=1) (h:=h24) tok mix aw Try.func24 (by kernel_rfl) (by kernel_rfl) (by kernel_rfl) (by kernel_rfl) (by kernel_rfl)
set_option maxHeartbeats 2000000 in
theorem rr (p : Option Addr) (cap : Nat) (w : World) : Calls Try.prog 24 #[.slice p 0 cap] w fun e w' => ∃ p',e = .returned (.slice p' 0 0) ∧ RowKit.Below w.heap.size w w' ∧ w.drawn ≤ w'.drawn:=by
 have q:=q_nil (P:=Try.prog) (t:=38) nH.und
 cases p with
 | none =>
  go_enter Try.func24,Try.ntmps24
  go_wp2
  go_ret
  exact ⟨_,rfl,.refl _ _,Nat.le_refl _⟩
 | some p =>
  go_enter Try.func24,Try.ntmps24
  go_wp2
  go_ret
  exact ⟨_,rfl,(RowKit.Below.refl _ w).alloc (Nat.le_refl _) _,Nat.le_refl _⟩
theorem ok24 : FnOk Try.prog 24 sp24:=p7 q9 rr
theorem ok17 : FnOk Try.prog 17 sp17:=fo (nv:=8) (h:=h17) (ai ok22 (ai ok23 (ai ok24 aw))) Try.func17
theorem ok27 : FnOk Try.prog 27 sp27:=fo (nv:=14) (h:=h27) aw Try.func27
theorem ok33 : FnOk Try.prog 33 sp33:=fo (nv:=3) (h:=h33) aw Try.func33
theorem ok31 : FnOk Try.prog 31 sp31:=fo (nv:=1) (h:=h31) (ai ok33 aw) Try.func31
theorem ok28 : FnOk Try.prog 28 sp28:=fo (nv:=19) (h:=h28) (ai ok31 aw) Try.func28
theorem ok25 : FnOk Try.prog 25 sp25:=fo (nv:=8) (h:=h25) (ai ok27 (ai ok28 aw)) Try.func25
theorem ok18 : FnOk Try.prog 18 sp18:=fo (nv:=5) (h:=h18) (ai ok19 (ai ok20 (ai ok25 aw))) Try.func18
theorem ok12 : FnOk Try.prog 12 sp12:=fo (nv:=15) (h:=h12) (ai ok8 (ai ok16 (ai ok17 (ai ok18 aw)))) Try.func12
theorem ok13 : FnOk Try.prog 13 sp13:=fo (nv:=2) (h:=h13) aw Try.func13
theorem ok9 : FnOk Try.prog 9 sp9:=fo (nv:=7) (h:=h9) (ai ok12 (ai ok13 aw)) Try.func9
theorem ok14 : FnOk Try.prog 14 sp14:=fo (nv:=2) (h:=h14) aw Try.func14
theorem ok10 : FnOk Try.prog 10 sp10:=fo (nv:=7) (h:=h10) (ai ok12 (ai ok14 aw)) Try.func10
theorem ok4 : FnOk Try.prog 4 sp4:=fo (nv:=3) (h:=h4) (ai ok5 (ai ok8 (ai ok9 (ai ok10 aw)))) Try.func4
theorem ok6 : FnOk Try.prog 6 sp6:=fo (nv:=6) (h:=h6) aw Try.func6
theorem ok7 : FnOk Try.prog 7 sp7:=fo (nv:=5) (h:=h7) aw Try.func7
theorem ok3 : FnOk Try.prog 3 sp3:=fo (nv:=11) (h:=h3) (ai ok4 (ai ok4 (ai ok5 (ai ok6 (ai ok7 (ai ok8 (ai ok9 (ai ok10 aw)))))))) Try.func3
end Go.Fx.D
