/-
  Each of these functions does what its function over plain data says, where that gives an answer (printed by a program). Conditions: none.
-/
import Derived.Test.YteodpoelbdakgaaGreatFxD
import Derived.Ground.SlsfProg
import Derived.Shelf.Lay
import Derived.Test.YteodpoelbdakgaaGreatD
import Derived.Test.YteodpoelbdakgaaGreatFxC
import Derived.Test.YteodpoelbdakgaaGreatChecked
import Derived.WalkKit
namespace Go.Fx.D
open Go Go.Fx Go.Proofs Go.Shelf Go.RowKit Go.Lib Go.Sort
set_option linter.unusedVariables false
set_option maxRecDepth 100000
theorem rk {t : TypeId} {i : TI fam} (j : TypeInfo) (h1 : Tryz.prog.underlying t = some i.desc := by kernel_rfl) (h2 : Tryz.prog.info? t = some j := by kernel_rfl) (h3 : j.zero = some (j.zero.getD .nilFunc) := by kernel_rfl) (h4 : (Nat.beq j.size i.size && Nat.beq j.bytes i.bytes && Nat.beq (j.zero.getD .nilFunc).cells.size i.size && zok i.zero (j.zero.getD .nilFunc).cells.toList) = true := by kernel_rfl) (h5 : tyOk i = true := by kernel_rfl) (h6 : eqOkB Tryz.prog t i = true := by kernel_rfl) : RowOk Tryz.prog t i := ⟨h1, ⟨j, _, h2, h3, h4⟩, h5, h6⟩
theorem A_ : RowOk Tryz.prog 3 row3 := rk Tryz.t3
theorem AJ : RowOk Tryz.prog 4 row4 := rk Tryz.t4
theorem A9 : RowOk Tryz.prog 5 row5 := rk Tryz.t5
theorem AU : RowOk Tryz.prog 9 row9 := rk Tryz.t9
theorem z9 : RowOk Tryz.prog 22 row22 := rk Tryz.t22
theorem uT : RowOk Tryz.prog 27 row27 := rk Tryz.t27
theorem vi : RowOk Tryz.prog 28 row28 := rk Tryz.t28
theorem Aj : RowOk Tryz.prog 30 row30 := rk Tryz.t30
theorem uy : RowOk Tryz.prog 31 row31 := rk Tryz.t31
theorem vf : RowOk Tryz.prog 32 row32 := rk Tryz.t32
theorem vp : RowOk Tryz.prog 33 row33 := rk Tryz.t33
theorem vm : RowOk Tryz.prog 34 row34 := rk Tryz.t34
theorem u3 : RowOk Tryz.prog 35 row35 := rk Tryz.t35
theorem zF : RowOk Tryz.prog 37 row37 := rk Tryz.t37
theorem zW : RowOk Tryz.prog 42 row42 := rk Tryz.t42
theorem vo : RowOk Tryz.prog 43 row43 := rk Tryz.t43
theorem As : RowOk Tryz.prog 45 row45 := rk Tryz.t45
theorem zI : RowOk Tryz.prog 59 row59 := rk Tryz.t59
theorem z8 : RowOk Tryz.prog 66 row66 := rk Tryz.t66
theorem AH : RowOk Tryz.prog 69 row69 := rk Tryz.t69
theorem uR : RowOk Tryz.prog 70 row70 := rk Tryz.t70
theorem Am : RowOk Tryz.prog 72 row72 := rk Tryz.t72
theorem Ay : RowOk Tryz.prog 74 row74 := rk Tryz.t74
theorem zH : RowOk Tryz.prog 88 row88 := rk Tryz.t88
theorem zG : RowOk Tryz.prog 91 row91 := rk Tryz.t91
theorem z6 : RowOk Tryz.prog 97 row97 := rk Tryz.t97
theorem xO : RowOk Tryz.prog 100 xD := rk Tryz.t100
theorem zr : RowOk Tryz.prog 108 xi := rk Tryz.t108
theorem yI : RowOk Tryz.prog 156 wj := rk Tryz.t156
theorem yp : RowOk Tryz.prog 158 xm := rk Tryz.t158
theorem zj : RowOk Tryz.prog 177 wR := rk Tryz.t177
theorem xK : RowOk Tryz.prog 180 xe := rk Tryz.t180
theorem xR : RowOk Tryz.prog 243 xj := rk Tryz.t243
theorem y_ : RowOk Tryz.prog 247 xl := rk Tryz.t247
theorem zi : RowOk Tryz.prog 261 wd := rk Tryz.t261
theorem xJ : RowOk Tryz.prog 289 wi := rk Tryz.t289
theorem xM : RowOk Tryz.prog 291 we := rk Tryz.t291
theorem yJ : RowOk Tryz.prog 294 wx := rk Tryz.t294
theorem yi : RowOk Tryz.prog 313 wr := rk Tryz.t313
theorem yd : RowOk Tryz.prog 315 wt := rk Tryz.t315
theorem tok : TblOk Tryz.prog (look tbl) := tblOk (all_cons A_ (all_cons AJ (all_cons A9 (all_cons AU (all_cons z9 (all_cons uT (all_cons vi (all_cons Aj (all_cons uy (all_cons vf (all_cons vp (all_cons vm (all_cons u3 (all_cons zF (all_cons zW (all_cons vo (all_cons As (all_cons zI (all_cons z8 (all_cons AH (all_cons uR (all_cons Am (all_cons Ay (all_cons zH (all_cons zG (all_cons z6 (all_cons xO (all_cons zr (all_cons yI (all_cons yp (all_cons zj (all_cons xK (all_cons xR (all_cons y_ (all_cons zi (all_cons xJ (all_cons xM (all_cons yJ (all_cons yi (all_cons yd all_nil))))))))))))))))))))))))))))))))))))))))
theorem mix : Tryz.prog.follows .mixedOrders = true := Checked.mixed Tryz.checked
theorem fo {Γ : Ctx fam} {nv : Nat} {h : Hint} (hΓ : CtxOk Tryz.prog Γ) {f : FuncId} {fn : Func} {sp : Spec fam} (hf : Tryz.prog.funcs[f]? = some fn) (hnm : (fn.name == "runtime.NumGoroutine") = false := by kernel_rfl) (hbn : fn.body.isNone = false := by kernel_rfl) (hlen : Nat.ble sp.ks.length fn.ntmps = true := by kernel_rfl) (hrs : sp.rs.all (fun k => !k.isBox) = true := by kernel_rfl) (hD : (fun a => tFunc (look tbl) Γ nv fn h sp.ks sp.rs a) = sp.D := by kernel_rfl) : FnOk Tryz.prog f sp := fnOk tok mix hΓ hf hnm hbn hlen hrs hD
theorem ok20 : FnOk Tryz.prog 20 sp20 := fo (nv := 7) (h := h20) ad Tryz.func20
theorem ok109 : FnOk Tryz.prog 109 sp109 := fo (nv := 5) (h := h109) ad Tryz.func109
theorem ok113 : FnOk Tryz.prog 113 sp113 := fo (nv := 4) (h := h113) ad Tryz.func113
theorem ok47 : FnOk Tryz.prog 47 sp47 := fo (nv := 4) (h := h47) (aa ok113 ad) Tryz.func47
theorem ok114 : FnOk Tryz.prog 114 sp114 := fo (nv := 7) (h := h114) (aa ok47 ad) Tryz.func114
theorem ok97 : FnOk Tryz.prog 97 sp97 := fo (nv := 14) (h := h97) (aa ok20 (aa ok109 (aa ok114 ad))) Tryz.func97
theorem ok32 : FnOk Tryz.prog 32 sp32 := fo (nv := 7) (h := h32) (aa ok97 ad) Tryz.func32
theorem ok37 : FnOk Tryz.prog 37 sp37 := fo (nv := 1) (h := h37) ad Tryz.func37
theorem ok81 : FnOk Tryz.prog 81 sp81 := ⟨⟨Tryz.f81, by kernel_rfl, by kernel_rfl, by kernel_rfl⟩, fun a r hr => nomatch (show (none : Option _) = some r from hr)⟩
theorem zn : FnOk Tryz.prog 158 xZ := fnOk (nv := 1) (h := h158) tok mix ad Tryz.func158 (by kernel_rfl) (by kernel_rfl) (by kernel_rfl) (by kernel_rfl) (by kernel_rfl)
set_option maxHeartbeats 2000000 in
theorem z4 (p : Option Addr) (cap : Nat) (w : World) : Calls Tryz.prog 158 #[.slice p 0 cap] w fun e w' => ∃ p', e = .returned (.slice p' 0 0) ∧ RowKit.Below w.heap.size w w' ∧ w.drawn ≤ w'.drawn := by
 have q := jS (P := Tryz.prog) (t := 33) vp.und
 cases p with
 | none =>
  go_enter Tryz.func158, Tryz.ntmps158
  go_wp2
  go_ret
  exact ⟨_, rfl, .refl _ _, Nat.le_refl _⟩
 | some p =>
  go_enter Tryz.func158, Tryz.ntmps158
  go_wp2
  go_ret
  exact ⟨_, rfl, (RowKit.Below.refl _ w).alloc (Nat.le_refl _) _, Nat.le_refl _⟩
theorem ok158 : FnOk Tryz.prog 158 sp158 := fu zn z4
theorem xQ : FnOk Tryz.prog 265 ye := fnOk (nv := 1) (h := h265) tok mix ad Tryz.func265 (by kernel_rfl) (by kernel_rfl) (by kernel_rfl) (by kernel_rfl) (by kernel_rfl)
set_option maxHeartbeats 2000000 in
theorem Ag (p : Option Addr) (cap : Nat) (w : World) : Calls Tryz.prog 265 #[.slice p 0 cap] w fun e w' => ∃ p', e = .returned (.slice p' 0 0) ∧ RowKit.Below w.heap.size w w' ∧ w.drawn ≤ w'.drawn := by
 have q := jS (P := Tryz.prog) (t := 43) vo.und
 cases p with
 | none =>
  go_enter Tryz.func265, Tryz.ntmps265
  go_wp2
  go_ret
  exact ⟨_, rfl, .refl _ _, Nat.le_refl _⟩
 | some p =>
  go_enter Tryz.func265, Tryz.ntmps265
  go_wp2
  go_ret
  exact ⟨_, rfl, (RowKit.Below.refl _ w).alloc (Nat.le_refl _) _, Nat.le_refl _⟩
theorem ok265 : FnOk Tryz.prog 265 sp265 := fu xQ Ag
theorem ok302 : FnOk Tryz.prog 302 sp302 := fo (nv := 4) (h := h302) ad Tryz.func302
theorem ok222 : FnOk Tryz.prog 222 sp222 := fo (nv := 3) (h := h222) (aa ok265 (aa ok302 ad)) Tryz.func222
theorem yo : FnOk Tryz.prog 227 xI := fnOk (nv := 1) (h := h227) tok mix ad Tryz.func227 (by kernel_rfl) (by kernel_rfl) (by kernel_rfl) (by kernel_rfl) (by kernel_rfl)
set_option maxHeartbeats 2000000 in
theorem AD (p : Option Addr) (cap : Nat) (w : World) : Calls Tryz.prog 227 #[.slice p 0 cap] w fun e w' => ∃ p', e = .returned (.slice p' 0 0) ∧ RowKit.Below w.heap.size w w' ∧ w.drawn ≤ w'.drawn := by
 have q := jS (P := Tryz.prog) (t := 27) uT.und
 cases p with
 | none =>
  go_enter Tryz.func227, Tryz.ntmps227
  go_wp2
  go_ret
  exact ⟨_, rfl, .refl _ _, Nat.le_refl _⟩
 | some p =>
  go_enter Tryz.func227, Tryz.ntmps227
  go_wp2
  go_ret
  exact ⟨_, rfl, (RowKit.Below.refl _ w).alloc (Nat.le_refl _) _, Nat.le_refl _⟩
theorem ok227 : FnOk Tryz.prog 227 sp227 := fu yo AD
theorem yL : FnOk Tryz.prog 228 yl := fnOk (nv := 1) (h := h228) tok mix ad Tryz.func228 (by kernel_rfl) (by kernel_rfl) (by kernel_rfl) (by kernel_rfl) (by kernel_rfl)
set_option maxHeartbeats 2000000 in
theorem zY (p : Option Addr) (cap : Nat) (w : World) : Calls Tryz.prog 228 #[.slice p 0 cap] w fun e w' => ∃ p', e = .returned (.slice p' 0 0) ∧ RowKit.Below w.heap.size w w' ∧ w.drawn ≤ w'.drawn := by
 have q := jS (P := Tryz.prog) (t := 28) vi.und
 cases p with
 | none =>
  go_enter Tryz.func228, Tryz.ntmps228
  go_wp2
  go_ret
  exact ⟨_, rfl, .refl _ _, Nat.le_refl _⟩
 | some p =>
  go_enter Tryz.func228, Tryz.ntmps228
  go_wp2
  go_ret
  exact ⟨_, rfl, (RowKit.Below.refl _ w).alloc (Nat.le_refl _) _, Nat.le_refl _⟩
theorem ok228 : FnOk Tryz.prog 228 sp228 := fu yL zY
theorem xL : FnOk Tryz.prog 229 zf := fnOk (nv := 1) (h := h229) tok mix ad Tryz.func229 (by kernel_rfl) (by kernel_rfl) (by kernel_rfl) (by kernel_rfl) (by kernel_rfl)
set_option maxHeartbeats 2000000 in
theorem Ao (p : Option Addr) (cap : Nat) (w : World) : Calls Tryz.prog 229 #[.slice p 0 cap] w fun e w' => ∃ p', e = .returned (.slice p' 0 0) ∧ RowKit.Below w.heap.size w w' ∧ w.drawn ≤ w'.drawn := by
 have q := jS (P := Tryz.prog) (t := 70) uR.und
 cases p with
 | none =>
  go_enter Tryz.func229, Tryz.ntmps229
  go_wp2
  go_ret
  exact ⟨_, rfl, .refl _ _, Nat.le_refl _⟩
 | some p =>
  go_enter Tryz.func229, Tryz.ntmps229
  go_wp2
  go_ret
  exact ⟨_, rfl, (RowKit.Below.refl _ w).alloc (Nat.le_refl _) _, Nat.le_refl _⟩
theorem ok229 : FnOk Tryz.prog 229 sp229 := fu xL Ao
theorem xW : FnOk Tryz.prog 230 xP := fnOk (nv := 1) (h := h230) tok mix ad Tryz.func230 (by kernel_rfl) (by kernel_rfl) (by kernel_rfl) (by kernel_rfl) (by kernel_rfl)
set_option maxHeartbeats 2000000 in
theorem Al (p : Option Addr) (cap : Nat) (w : World) : Calls Tryz.prog 230 #[.slice p 0 cap] w fun e w' => ∃ p', e = .returned (.slice p' 0 0) ∧ RowKit.Below w.heap.size w w' ∧ w.drawn ≤ w'.drawn := by
 have q := jS (P := Tryz.prog) (t := 31) uy.und
 cases p with
 | none =>
  go_enter Tryz.func230, Tryz.ntmps230
  go_wp2
  go_ret
  exact ⟨_, rfl, .refl _ _, Nat.le_refl _⟩
 | some p =>
  go_enter Tryz.func230, Tryz.ntmps230
  go_wp2
  go_ret
  exact ⟨_, rfl, (RowKit.Below.refl _ w).alloc (Nat.le_refl _) _, Nat.le_refl _⟩
theorem ok230 : FnOk Tryz.prog 230 sp230 := fu xW Al
theorem yO : FnOk Tryz.prog 231 yy := fnOk (nv := 1) (h := h231) tok mix ad Tryz.func231 (by kernel_rfl) (by kernel_rfl) (by kernel_rfl) (by kernel_rfl) (by kernel_rfl)
set_option maxHeartbeats 2000000 in
theorem Aq (p : Option Addr) (cap : Nat) (w : World) : Calls Tryz.prog 231 #[.slice p 0 cap] w fun e w' => ∃ p', e = .returned (.slice p' 0 0) ∧ RowKit.Below w.heap.size w w' ∧ w.drawn ≤ w'.drawn := by
 have q := jS (P := Tryz.prog) (t := 34) vm.und
 cases p with
 | none =>
  go_enter Tryz.func231, Tryz.ntmps231
  go_wp2
  go_ret
  exact ⟨_, rfl, .refl _ _, Nat.le_refl _⟩
 | some p =>
  go_enter Tryz.func231, Tryz.ntmps231
  go_wp2
  go_ret
  exact ⟨_, rfl, (RowKit.Below.refl _ w).alloc (Nat.le_refl _) _, Nat.le_refl _⟩
theorem ok231 : FnOk Tryz.prog 231 sp231 := fu yO Aq
theorem y9 : FnOk Tryz.prog 232 ym := fnOk (nv := 1) (h := h232) tok mix ad Tryz.func232 (by kernel_rfl) (by kernel_rfl) (by kernel_rfl) (by kernel_rfl) (by kernel_rfl)
set_option maxHeartbeats 2000000 in
theorem Ah (p : Option Addr) (cap : Nat) (w : World) : Calls Tryz.prog 232 #[.slice p 0 cap] w fun e w' => ∃ p', e = .returned (.slice p' 0 0) ∧ RowKit.Below w.heap.size w w' ∧ w.drawn ≤ w'.drawn := by
 have q := jS (P := Tryz.prog) (t := 35) u3.und
 cases p with
 | none =>
  go_enter Tryz.func232, Tryz.ntmps232
  go_wp2
  go_ret
  exact ⟨_, rfl, .refl _ _, Nat.le_refl _⟩
 | some p =>
  go_enter Tryz.func232, Tryz.ntmps232
  go_wp2
  go_ret
  exact ⟨_, rfl, (RowKit.Below.refl _ w).alloc (Nat.le_refl _) _, Nat.le_refl _⟩
theorem ok232 : FnOk Tryz.prog 232 sp232 := fu y9 Ah
theorem x_ : FnOk Tryz.prog 233 zp := fnOk (nv := 1) (h := h233) tok mix ad Tryz.func233 (by kernel_rfl) (by kernel_rfl) (by kernel_rfl) (by kernel_rfl) (by kernel_rfl)
set_option maxHeartbeats 2000000 in
theorem zP (p : Option Addr) (cap : Nat) (w : World) : Calls Tryz.prog 233 #[.slice p 0 cap] w fun e w' => ∃ p', e = .returned (.slice p' 0 0) ∧ RowKit.Below w.heap.size w w' ∧ w.drawn ≤ w'.drawn := by
 have q := jS (P := Tryz.prog) (t := 32) vf.und
 cases p with
 | none =>
  go_enter Tryz.func233, Tryz.ntmps233
  go_wp2
  go_ret
  exact ⟨_, rfl, .refl _ _, Nat.le_refl _⟩
 | some p =>
  go_enter Tryz.func233, Tryz.ntmps233
  go_wp2
  go_ret
  exact ⟨_, rfl, (RowKit.Below.refl _ w).alloc (Nat.le_refl _) _, Nat.le_refl _⟩
theorem ok233 : FnOk Tryz.prog 233 sp233 := fu x_ zP
theorem ok150 : FnOk Tryz.prog 150 sp150 := fo (nv := 62) (h := h150) (aa ok158 (aa ok222 (aa ok227 (aa ok228 (aa ok229 (aa ok230 (aa ok231 (aa ok232 (aa ok233 ad))))))))) Tryz.func150
theorem ok234 : FnOk Tryz.prog 234 sp234 := fo (nv := 9) (h := h234) ad Tryz.func234
theorem ok235 : FnOk Tryz.prog 235 sp235 := fo (nv := 3) (h := h235) ad Tryz.func235
theorem ok152 : FnOk Tryz.prog 152 sp152 := fo (nv := 4) (h := h152) (aa ok234 (aa ok235 ad)) Tryz.func152
theorem ok79 : FnOk Tryz.prog 79 sp79 := fo (nv := 17) (h := h79) (aa ok81 (aa ok150 ad)) Tryz.func79
theorem ok254 : FnOk Tryz.prog 254 sp254 := fo (nv := 9) (h := h254) ad Tryz.func254
theorem ok255 : FnOk Tryz.prog 255 sp255 := fo (nv := 4) (h := h255) ad Tryz.func255
theorem ok176 : FnOk Tryz.prog 176 sp176 := fo (nv := 3) (h := h176) (aa ok254 (aa ok255 ad)) Tryz.func176
theorem ok103 : FnOk Tryz.prog 103 sp103 := fo (nv := 7) (h := h103) (aa ok176 ad) Tryz.func103
theorem ok289 : FnOk Tryz.prog 289 sp289 := fo (nv := 2) (h := h289) ad Tryz.func289
theorem ok315 : FnOk Tryz.prog 315 sp315 := fo (nv := 3) (h := h315) (aa ok289 ad) Tryz.func315
theorem ok256 : FnOk Tryz.prog 256 sp256 := fo (nv := 5) (h := h256) (aa ok289 (aa ok315 ad)) Tryz.func256
theorem ok177 : FnOk Tryz.prog 177 sp177 := fo (nv := 12) (h := h177) (aa ok256 ad) Tryz.func177
theorem ok104 : FnOk Tryz.prog 104 sp104 := fo (nv := 8) (h := h104) (aa ok103 (aa ok177 ad)) Tryz.func104
theorem ok65 : FnOk Tryz.prog 65 sp65 := fo (nv := 2) (h := h65) ad Tryz.func65
theorem ok143 : FnOk Tryz.prog 143 sp143 := fo (nv := 7) (h := h143) (aa ok152 (aa ok222 ad)) Tryz.func143
theorem ok178 : FnOk Tryz.prog 178 sp178 := fo (nv := 9) (h := h178) ad Tryz.func178
theorem ok179 : FnOk Tryz.prog 179 sp179 := fo (nv := 3) (h := h179) ad Tryz.func179
theorem ok180 : FnOk Tryz.prog 180 sp180 := fo (nv := 12) (h := h180) ad Tryz.func180
theorem ok257 : FnOk Tryz.prog 257 sp257 := fo (nv := 4) (h := h257) ad Tryz.func257
theorem ok181 : FnOk Tryz.prog 181 sp181 := fo (nv := 8) (h := h181) (aa ok257 ad) Tryz.func181
theorem ok258 : FnOk Tryz.prog 258 sp258 := fo (nv := 4) (h := h258) ad Tryz.func258
theorem ok182 : FnOk Tryz.prog 182 sp182 := fo (nv := 4) (h := h182) (aa ok257 (aa ok258 ad)) Tryz.func182
theorem ok276 : FnOk Tryz.prog 276 sp276 := fo (nv := 13) (h := h276) ad Tryz.func276
theorem ok362 : FnOk Tryz.prog 362 sp362 := fo (nv := 2) (h := h362) ad Tryz.func362
theorem ok330 : FnOk Tryz.prog 330 sp330 := fo (nv := 2) (h := h330) (aa ok362 ad) Tryz.func330
theorem ok277 : FnOk Tryz.prog 277 sp277 := fo (nv := 4) (h := h277) (aa ok330 ad) Tryz.func277
theorem ok202 : FnOk Tryz.prog 202 sp202 := fo (nv := 16) (h := h202) (aa ok256 (aa ok276 (aa ok277 ad))) Tryz.func202
theorem ok121 : FnOk Tryz.prog 121 sp121 := fo (nv := 7) (h := h121) (aa ok202 ad) Tryz.func121
theorem ok224 : FnOk Tryz.prog 224 sp224 := fo (nv := 9) (h := h224) (aa ok256 ad) Tryz.func224
theorem ok145 : FnOk Tryz.prog 145 sp145 := fo (nv := 12) (h := h145) (aa ok224 ad) Tryz.func145
theorem ok328 : FnOk Tryz.prog 328 sp328 := fo (nv := 6) (h := h328) ad Tryz.func328
theorem ok361 : FnOk Tryz.prog 361 sp361 := fo (nv := 9) (h := h361) ad Tryz.func361
theorem ok329 : FnOk Tryz.prog 329 sp329 := fo (nv := 12) (h := h329) (aa ok361 ad) Tryz.func329
theorem ok275 : FnOk Tryz.prog 275 sp275 := fo (nv := 6) (h := h275) (aa ok328 (aa ok329 ad)) Tryz.func275
theorem ok201 : FnOk Tryz.prog 201 sp201 := fo (nv := 5) (h := h201) (aa ok275 ad) Tryz.func201
theorem ok278 : FnOk Tryz.prog 278 sp278 := fo (nv := 4) (h := h278) (aa ok201 ad) Tryz.func278
theorem ok331 : FnOk Tryz.prog 331 sp331 := fo (nv := 9) (h := h331) ad Tryz.func331
theorem ok332 : FnOk Tryz.prog 332 sp332 := fo (nv := 3) (h := h332) ad Tryz.func332
theorem ok279 : FnOk Tryz.prog 279 sp279 := fo (nv := 8) (h := h279) (aa ok229 (aa ok331 (aa ok332 ad))) Tryz.func279
theorem ok340 : FnOk Tryz.prog 340 sp340 := fo (nv := 14) (h := h340) ad Tryz.func340
theorem ok251 : FnOk Tryz.prog 251 sp251 := fo (nv := 3) (h := h251) ad Tryz.func251
theorem ok373 : FnOk Tryz.prog 373 sp373 := fo (nv := 1) (h := h373) (aa ok251 ad) Tryz.func373
theorem ok363 : FnOk Tryz.prog 363 sp363 := fo (nv := 19) (h := h363) (aa ok373 ad) Tryz.func363
theorem ok333 : FnOk Tryz.prog 333 sp333 := fo (nv := 8) (h := h333) (aa ok340 (aa ok363 ad)) Tryz.func333
theorem ok280 : FnOk Tryz.prog 280 sp280 := fo (nv := 5) (h := h280) (aa ok289 (aa ok315 (aa ok333 ad))) Tryz.func280
theorem ok203 : FnOk Tryz.prog 203 sp203 := fo (nv := 15) (h := h203) (aa ok145 (aa ok278 (aa ok279 (aa ok280 ad)))) Tryz.func203
theorem ok204 : FnOk Tryz.prog 204 sp204 := fo (nv := 2) (h := h204) ad Tryz.func204
theorem ok122 : FnOk Tryz.prog 122 sp122 := fo (nv := 7) (h := h122) (aa ok203 (aa ok204 ad)) Tryz.func122
theorem ok183 : FnOk Tryz.prog 183 sp183 := fo (nv := 8) (h := h183) (aa ok121 (aa ok122 (aa ok256 (aa ok258 ad)))) Tryz.func183
theorem ok259 : FnOk Tryz.prog 259 sp259 := fo (nv := 9) (h := h259) (aa ok202 ad) Tryz.func259
theorem ok260 : FnOk Tryz.prog 260 sp260 := fo (nv := 10) (h := h260) (aa ok122 (aa ok279 (aa ok280 ad))) Tryz.func260
theorem ok184 : FnOk Tryz.prog 184 sp184 := fo (nv := 4) (h := h184) (aa ok258 (aa ok259 (aa ok260 ad))) Tryz.func184
theorem ok185 : FnOk Tryz.prog 185 sp185 := fo (nv := 4) (h := h185) (aa ok258 ad) Tryz.func185
theorem ok346 : FnOk Tryz.prog 346 sp346 := fo (nv := 2) (h := h346) ad Tryz.func346
theorem ok300 : FnOk Tryz.prog 300 sp300 := fo (nv := 7) (h := h300) (aa ok203 (aa ok346 ad)) Tryz.func300
theorem ok316 : FnOk Tryz.prog 316 sp316 := fo (nv := 12) (h := h316) (aa ok224 ad) Tryz.func316
theorem ok261 : FnOk Tryz.prog 261 sp261 := fo (nv := 20) (h := h261) (aa ok121 (aa ok145 (aa ok256 (aa ok258 (aa ok278 (aa ok300 (aa ok316 ad))))))) Tryz.func261
theorem ok186 : FnOk Tryz.prog 186 sp186 := fo (nv := 6) (h := h186) (aa ok261 ad) Tryz.func186
set_option maxHeartbeats 4000000 in
set_option maxRecDepth 1000000 in
theorem dn187 : pR Tryz.prog 187 := by
 constructor
 ·intro b n cap i w hn hj
  go_enter Tryz.func187, Tryz.ntmps187
  go_wp2
  all_goals (go_ret; exact ⟨rfl, rfl⟩)
 ·intro p w
  cases p
  ·go_enter Tryz.func187, Tryz.ntmps187
   go_wp2
   all_goals (go_ret; exact ⟨rfl, rfl⟩)
  ·go_enter Tryz.func187, Tryz.ntmps187
   go_wp2
   all_goals (go_ret; exact ⟨rfl, rfl⟩)
set_option maxHeartbeats 4000000 in
set_option maxRecDepth 1000000 in
theorem dw187 : qf Tryz.prog 187 34 91 3 := by
 intro b n cap i j w hn hm hlt hj i0 hi0 hz1 A hA news s1 hsrc s2 s3 W1 W2 hW hcl
 have hic : i ≤ cap := by omega
 have hjc : j ≤ cap := by omega
 have tS : Tryz.prog.underlying 34 = some (.slice 91) := by kernel_rfl
 have mixed : Tryz.prog.follows .mixedOrders = true := Checked.mixed Tryz.checked
 go_enter Tryz.func187, Tryz.ntmps187
 go_wp2_with fail
 go_region_law_o (refine step_append_room rfl (.tmp 22) (.tmp 25) 34 rfl 91 i0 3 tS hi0 hz1 b 0 i cap (by simp [Act.eval, Act.put]) A (n - j) (cap - j) news (by simp [Act.eval, Act.put]) s1.out hsrc.out s2.out (by omega) s3.out ?_; rw [← hW.out])
 go_wp2
 go_ret
 exact ⟨rfl, rfl⟩
theorem ok187 : FnOk Tryz.prog 187 sp187 := xp tok (te := row91) (by kernel_rfl) (by kernel_rfl) (sz := 3) (by kernel_rfl) (Nat.blt_eq.mp (by kernel_rfl)) (by kernel_rfl : Tryz.prog.underlying 34 = some (.slice 91)) ⟨Tryz.f187, by kernel_rfl, by kernel_rfl, by kernel_rfl⟩ dn187 dw187
theorem ok317 : FnOk Tryz.prog 317 sp317 := fo (nv := 4) (h := h317) ad Tryz.func317
theorem ok354 : FnOk Tryz.prog 354 sp354 := fo (nv := 9) (h := h354) ad Tryz.func354
theorem ok355 : FnOk Tryz.prog 355 sp355 := fo (nv := 3) (h := h355) ad Tryz.func355
theorem ok318 : FnOk Tryz.prog 318 sp318 := fo (nv := 4) (h := h318) (aa ok354 (aa ok355 ad)) Tryz.func318
set_option maxHeartbeats 4000000 in
set_option maxRecDepth 1000000 in
theorem dn319 : pR Tryz.prog 319 := by
 constructor
 ·intro b n cap i w hn hj
  go_enter Tryz.func319, Tryz.ntmps319
  go_wp2
  all_goals (go_ret; exact ⟨rfl, rfl⟩)
 ·intro p w
  cases p
  ·go_enter Tryz.func319, Tryz.ntmps319
   go_wp2
   all_goals (go_ret; exact ⟨rfl, rfl⟩)
  ·go_enter Tryz.func319, Tryz.ntmps319
   go_wp2
   all_goals (go_ret; exact ⟨rfl, rfl⟩)
set_option maxHeartbeats 4000000 in
set_option maxRecDepth 1000000 in
theorem dw319 : qf Tryz.prog 319 43 66 8 := by
 intro b n cap i j w hn hm hlt hj i0 hi0 hz1 A hA news s1 hsrc s2 s3 W1 W2 hW hcl
 have hic : i ≤ cap := by omega
 have hjc : j ≤ cap := by omega
 have tS : Tryz.prog.underlying 43 = some (.slice 66) := by kernel_rfl
 have mixed : Tryz.prog.follows .mixedOrders = true := Checked.mixed Tryz.checked
 go_enter Tryz.func319, Tryz.ntmps319
 go_wp2_with fail
 go_region_law_o (refine step_append_room rfl (.tmp 22) (.tmp 25) 43 rfl 66 i0 8 tS hi0 hz1 b 0 i cap (by simp [Act.eval, Act.put]) A (n - j) (cap - j) news (by simp [Act.eval, Act.put]) s1.out hsrc.out s2.out (by omega) s3.out ?_; rw [← hW.out])
 go_wp2
 go_ret
 exact ⟨rfl, rfl⟩
theorem ok319 : FnOk Tryz.prog 319 sp319 := xp tok (te := row66) (by kernel_rfl) (by kernel_rfl) (sz := 8) (by kernel_rfl) (Nat.blt_eq.mp (by kernel_rfl)) (by kernel_rfl : Tryz.prog.underlying 43 = some (.slice 66)) ⟨Tryz.f319, by kernel_rfl, by kernel_rfl, by kernel_rfl⟩ dn319 dw319
theorem ok262 : FnOk Tryz.prog 262 sp262 := fo (nv := 8) (h := h262) (aa ok317 (aa ok318 (aa ok319 ad))) Tryz.func262
theorem ok356 : FnOk Tryz.prog 356 sp356 := ⟨⟨Tryz.f356, by kernel_rfl, by kernel_rfl, by kernel_rfl⟩, fun a r hr => nomatch (show (none : Option _) = some r from hr)⟩
theorem ok320 : FnOk Tryz.prog 320 sp320 := fo (nv := 7) (h := h320) (aa ok152 (aa ok356 ad)) Tryz.func320
theorem ok263 : FnOk Tryz.prog 263 sp263 := fo (nv := 5) (h := h263) (aa ok150 (aa ok222 (aa ok320 ad))) Tryz.func263
theorem zM : FnOk Tryz.prog 264 zL := fnOk (nv := 10) (h := h264) tok mix ad Tryz.func264 (by kernel_rfl) (by kernel_rfl) (by kernel_rfl) (by kernel_rfl) (by kernel_rfl)
theorem ov264 (w : World) (a b : Value) (h : (Extern.SlicesOverlaps.overlaps #[33, 33] #[4] #[a, b]).run Tryz.prog w = .ok (.bool false) w) : (callFunc 321 #[a, b]).run Tryz.prog w = .ok (.value (.bool false)) w := by
 rw [run_callFunc_extern Tryz.func321 (by kernel_rfl) (by kernel_rfl) (by kernel_rfl) (e := Extern.SlicesOverlaps.overlaps #[33, 33] #[4]) (by kernel_rfl), h]
 rfl
set_option maxHeartbeats 4000000 in
set_option maxRecDepth 1000000 in
theorem iw264 : oD Tryz.prog 264 33 9 321 := by
 intro b n c i vb vc w W1 W2 hi hroom hc63 hov hcp1 hcp2
 have tS : Tryz.prog.underlying 33 = some (.slice 59) := by kernel_rfl
 have mixed : Tryz.prog.follows .mixedOrders = true := Checked.mixed Tryz.checked
 have hz2 : ¬ ((i : Int) = (n : Int)) := by omega
 have hw1 : IntKind.i64.wrap ((i : Int) + 1) = (i : Int) + 1 := by rw [IntKind.wrap_i64]; omega
 have hw2 : IntKind.i64.wrap ((n : Int) + 1) = (n : Int) + 1 := by rw [IntKind.wrap_i64]; omega
 have hb1 : (0 : Int) ≤ (i : Int) + 1 := by omega
 have hb0 : (0 : Int) ≤ (n : Int) + 1 := by omega
 have hin : i ≤ n := by omega
 have htn : ((i : Int) + 1).toNat = i + 1 := by omega
 have htm : ((n : Int) + 1).toNat = n + 1 := by omega
 have hb2 : ¬ (c = i + 1) := by omega
 have hb3 : (i : Int) ≤ (n : Int) + 1 := by omega
 have hb4 : ¬ (c = i) := by omega
 go_enter Tryz.func264, Tryz.ntmps264
 go_wp2_with (simp only [hov])
 go_region_law_o (refine iy rfl _ _ 33 33 rfl _ _ (by simp [Act.eval, Act.put]) (by simp [Act.eval, Act.put]) (hcp1 _ _ _) ?_)
 go_wp2_with (at_builtin; refine gy _ rfl _ _ 33 33 rfl _ _ rfl rfl (hcp2 _ _) ?_)
 go_ret
 exact ⟨rfl, rfl⟩
set_option maxHeartbeats 4000000 in
set_option maxRecDepth 1000000 in
theorem ig264 : qk Tryz.prog 264 33 3 9 := by
 intro b n i vb vc nb G w W0 W1 W2 hi hn hG hG63 hap hcpA hcpB
 have tS : Tryz.prog.underlying 33 = some (.slice 59) := by kernel_rfl
 have mixed : Tryz.prog.follows .mixedOrders = true := Checked.mixed Tryz.checked
 have hz2 : ¬ ((i : Int) = (n : Int)) := by omega
 have hz3 : (n : Int) < (n : Int) + 1 := by omega
 have hw1 : IntKind.i64.wrap ((i : Int) + 1) = (i : Int) + 1 := by rw [IntKind.wrap_i64]; omega
 have hw2 : IntKind.i64.wrap ((n : Int) + 1) = (n : Int) + 1 := by rw [IntKind.wrap_i64]; omega
 have hw3 : IntKind.i64.wrap ((n : Int) + 1 - (i : Int)) = (n : Int) + 1 - (i : Int) := by rw [IntKind.wrap_i64]; omega
 have hb1 : (0 : Int) ≤ (i : Int) + 1 := by omega
 have hin : i ≤ n := by omega
 have htn : ((i : Int) + 1).toNat = i + 1 := by omega
 have hb3 : (i : Int) ≤ (n : Int) := by omega
 have hGi : ¬ (G = i) := by omega
 have hGim : ¬ (G = i + 1) := by omega
 have hci : ¬ (n = i) := by omega
 go_enter Tryz.func264, Tryz.ntmps264
 go_wp2_with (first
  | (at_builtin; refine Lib.wpList_append_run _ rfl _ _ _ _ rfl _ _ rfl rfl _ _ (hap _) ?_)
  | (at_builtin; refine gy _ rfl _ _ 33 33 rfl _ _ rfl rfl (hcpA _ _) ?_))
 go_region_law_o (refine iy rfl _ _ 33 33 rfl (.slice (some ⟨nb, (i + 1) * 9, none⟩) (n - i) (G - (i + 1))) (.slice (some ⟨b, i * 9, none⟩) (n - i) (n - i)) (by simp [Act.eval, Act.put]) (by simp [Act.eval, Act.put]) (hcpB _ _ _) ?_)
 go_wp2
 go_ret
 exact ⟨rfl, rfl⟩
theorem ok264 : FnOk Tryz.prog 264 sp264 := wB tok (te := row59) (tb := 4) (by kernel_rfl) (by kernel_rfl) (sz := 9) (by kernel_rfl) (Nat.blt_eq.mp (by kernel_rfl)) (Nat.ble_eq.mp (by kernel_rfl)) (by kernel_rfl : Tryz.prog.underlying 33 = some (.slice 59)) (by kernel_rfl : Tryz.prog.underlying 3 = some (.int .i64)) ⟨Tryz.f264, by kernel_rfl, by kernel_rfl, by kernel_rfl⟩ ov264 zM iw264 ig264
theorem ok188 : FnOk Tryz.prog 188 sp188 := fo (nv := 9) (h := h188) (aa ok262 (aa ok263 (aa ok264 ad))) Tryz.func188
theorem ok105 : FnOk Tryz.prog 105 sp105 := fo (nv := 12) (h := h105) (aa ok65 (aa ok143 (aa ok178 (aa ok179 (aa ok180 (aa ok181 (aa ok182 (aa ok183 (aa ok184 (aa ok185 (aa ok186 (aa ok187 (aa ok188 ad))))))))))))) Tryz.func105
theorem ok120 : FnOk Tryz.prog 120 sp120 := fo (nv := 14) (h := h120) (aa ok201 ad) Tryz.func120
shelf_lay_g Go.Proofs.SlLaysF0.n6 Slsf 6 at Tryz 123 as lay123
theorem ok123 : FnOk Tryz.prog 123 sp123 := yM (ρ := lay123_ren) (n := 18) lay123 (by intro w; kernel_rfl) (by intro w; kernel_rfl) (by kernel_rfl) (Nat.blt_eq.mp (by kernel_rfl)) ⟨Tryz.f123, by kernel_rfl, by kernel_rfl, by kernel_rfl⟩
theorem ok68 : FnOk Tryz.prog 68 sp68 := fo (nv := 9) (h := h68) ad Tryz.func68
theorem ok225 : FnOk Tryz.prog 225 sp225 := fo (nv := 1) (h := h225) ad Tryz.func225
theorem ok146 : FnOk Tryz.prog 146 sp146 := fo (nv := 7) (h := h146) (aa ok225 ad) Tryz.func146
theorem ok291 : FnOk Tryz.prog 291 sp291 := fo (nv := 9) (h := h291) (aa ok340 ad) Tryz.func291
theorem ok337 : FnOk Tryz.prog 337 sp337 := fo (nv := 9) (h := h337) ad Tryz.func337
theorem ok338 : FnOk Tryz.prog 338 sp338 := fo (nv := 2) (h := h338) ad Tryz.func338
theorem ok339 : FnOk Tryz.prog 339 sp339 := fo (nv := 2) (h := h339) ad Tryz.func339
theorem ok290 : FnOk Tryz.prog 290 sp290 := fo (nv := 7) (h := h290) (aa ok291 (aa ok337 (aa ok338 (aa ok339 ad)))) Tryz.func290
theorem ok206 : FnOk Tryz.prog 206 sp206 := fo (nv := 8) (h := h206) (aa ok289 (aa ok290 (aa ok291 ad))) Tryz.func206
theorem ok124 : FnOk Tryz.prog 124 sp124 := fo (nv := 4) (h := h124) (aa ok68 (aa ok146 (aa ok206 ad))) Tryz.func124
theorem ok59 : FnOk Tryz.prog 59 sp59 := fo (nv := 44) (h := h59) (aa ok120 (aa ok121 (aa ok122 (aa ok123 (aa ok124 ad))))) Tryz.func59
theorem uV : ∀ n, FnOk Tryz.prog 119 (z3 n)
 | 0 => ⟨⟨Tryz.f119, by kernel_rfl, by kernel_rfl, by kernel_rfl⟩, fun a r hr => nomatch (show (none : Option _) = some r from hr)⟩
 | n + 1 => fnOk (nv := 29) (h := h119) tok mix (aa (uV n) (aa ok59 ad)) Tryz.func119 (by kernel_rfl) (by kernel_rfl) (by kernel_rfl) (by kernel_rfl) (by kernel_rfl)
theorem ok119 : FnOk Tryz.prog 119 sp119 := uV 64
theorem ok58 : FnOk Tryz.prog 58 sp58 := fo (nv := 3) (h := h58) (aa ok119 ad) Tryz.func58
theorem ok219 : FnOk Tryz.prog 219 sp219 := fo (nv := 10) (h := h219) ad Tryz.func219
theorem ok345 : FnOk Tryz.prog 345 sp345 := fo (nv := 11) (h := h345) ad Tryz.func345
theorem ok299 : FnOk Tryz.prog 299 sp299 := fo (nv := 12) (h := h299) (aa ok345 ad) Tryz.func299
theorem uZ : ∀ n, FnOk Tryz.prog 220 (AA n)
 | 0 => ⟨⟨Tryz.f220, by kernel_rfl, by kernel_rfl, by kernel_rfl⟩, fun a r hr => nomatch (show (none : Option _) = some r from hr)⟩
 | n + 1 => fnOk (nv := 25) (h := h220) tok mix (aa (uZ n) (aa ok299 ad)) Tryz.func220 (by kernel_rfl) (by kernel_rfl) (by kernel_rfl) (by kernel_rfl) (by kernel_rfl)
theorem ok220 : FnOk Tryz.prog 220 sp220 := uZ 64
theorem ok140 : FnOk Tryz.prog 140 sp140 := fo (nv := 10) (h := h140) (aa ok219 (aa ok220 ad)) Tryz.func140
theorem ok66 : FnOk Tryz.prog 66 sp66 := fo (nv := 2) (h := h66) (aa ok140 ad) Tryz.func66
theorem ok141 : FnOk Tryz.prog 141 sp141 := fo (nv := 1) (h := h141) ad Tryz.func141
theorem ok69 : FnOk Tryz.prog 69 sp69 := fo (nv := 7) (h := h69) (aa ok141 ad) Tryz.func69
theorem ok67 : FnOk Tryz.prog 67 sp67 := fo (nv := 4) (h := h67) (aa ok68 (aa ok69 ad)) Tryz.func67
theorem ok19 : FnOk Tryz.prog 19 sp19 := fo (nv := 39) (h := h19) (aa ok65 (aa ok66 (aa ok67 ad))) Tryz.func19
theorem ok323 : FnOk Tryz.prog 323 sp323 := fo (nv := 7) (h := h323) (aa ok317 (aa ok318 ad)) Tryz.func323
theorem ok266 : FnOk Tryz.prog 266 sp266 := fo (nv := 7) (h := h266) (aa ok263 (aa ok323 ad)) Tryz.func266
theorem ok324 : FnOk Tryz.prog 324 sp324 := fo (nv := 2) (h := h324) (aa ok178 ad) Tryz.func324
theorem ok325 : FnOk Tryz.prog 325 sp325 := fo (nv := 4) (h := h325) ad Tryz.func325
theorem Ad : FnOk Tryz.prog 326 AG := fnOk (nv := 10) (h := h326) tok mix ad Tryz.func326 (by kernel_rfl) (by kernel_rfl) (by kernel_rfl) (by kernel_rfl) (by kernel_rfl)
theorem ov326 (w : World) (a b : Value) (h : (Extern.SlicesOverlaps.overlaps #[34, 34] #[4] #[a, b]).run Tryz.prog w = .ok (.bool false) w) : (callFunc 358 #[a, b]).run Tryz.prog w = .ok (.value (.bool false)) w := by
 rw [run_callFunc_extern Tryz.func358 (by kernel_rfl) (by kernel_rfl) (by kernel_rfl) (e := Extern.SlicesOverlaps.overlaps #[34, 34] #[4]) (by kernel_rfl), h]
 rfl
set_option maxHeartbeats 4000000 in
set_option maxRecDepth 1000000 in
theorem iw326 : oD Tryz.prog 326 34 3 358 := by
 intro b n c i vb vc w W1 W2 hi hroom hc63 hov hcp1 hcp2
 have tS : Tryz.prog.underlying 34 = some (.slice 91) := by kernel_rfl
 have mixed : Tryz.prog.follows .mixedOrders = true := Checked.mixed Tryz.checked
 have hz2 : ¬ ((i : Int) = (n : Int)) := by omega
 have hw1 : IntKind.i64.wrap ((i : Int) + 1) = (i : Int) + 1 := by rw [IntKind.wrap_i64]; omega
 have hw2 : IntKind.i64.wrap ((n : Int) + 1) = (n : Int) + 1 := by rw [IntKind.wrap_i64]; omega
 have hb1 : (0 : Int) ≤ (i : Int) + 1 := by omega
 have hb0 : (0 : Int) ≤ (n : Int) + 1 := by omega
 have hin : i ≤ n := by omega
 have htn : ((i : Int) + 1).toNat = i + 1 := by omega
 have htm : ((n : Int) + 1).toNat = n + 1 := by omega
 have hb2 : ¬ (c = i + 1) := by omega
 have hb3 : (i : Int) ≤ (n : Int) + 1 := by omega
 have hb4 : ¬ (c = i) := by omega
 go_enter Tryz.func326, Tryz.ntmps326
 go_wp2_with (simp only [hov])
 go_region_law_o (refine iy rfl _ _ 34 34 rfl _ _ (by simp [Act.eval, Act.put]) (by simp [Act.eval, Act.put]) (hcp1 _ _ _) ?_)
 go_wp2_with (at_builtin; refine gy _ rfl _ _ 34 34 rfl _ _ rfl rfl (hcp2 _ _) ?_)
 go_ret
 exact ⟨rfl, rfl⟩
set_option maxHeartbeats 4000000 in
set_option maxRecDepth 1000000 in
theorem ig326 : qk Tryz.prog 326 34 3 3 := by
 intro b n i vb vc nb G w W0 W1 W2 hi hn hG hG63 hap hcpA hcpB
 have tS : Tryz.prog.underlying 34 = some (.slice 91) := by kernel_rfl
 have mixed : Tryz.prog.follows .mixedOrders = true := Checked.mixed Tryz.checked
 have hz2 : ¬ ((i : Int) = (n : Int)) := by omega
 have hz3 : (n : Int) < (n : Int) + 1 := by omega
 have hw1 : IntKind.i64.wrap ((i : Int) + 1) = (i : Int) + 1 := by rw [IntKind.wrap_i64]; omega
 have hw2 : IntKind.i64.wrap ((n : Int) + 1) = (n : Int) + 1 := by rw [IntKind.wrap_i64]; omega
 have hw3 : IntKind.i64.wrap ((n : Int) + 1 - (i : Int)) = (n : Int) + 1 - (i : Int) := by rw [IntKind.wrap_i64]; omega
 have hb1 : (0 : Int) ≤ (i : Int) + 1 := by omega
 have hin : i ≤ n := by omega
 have htn : ((i : Int) + 1).toNat = i + 1 := by omega
 have hb3 : (i : Int) ≤ (n : Int) := by omega
 have hGi : ¬ (G = i) := by omega
 have hGim : ¬ (G = i + 1) := by omega
 have hci : ¬ (n = i) := by omega
 go_enter Tryz.func326, Tryz.ntmps326
 go_wp2_with (first
  | (at_builtin; refine Lib.wpList_append_run _ rfl _ _ _ _ rfl _ _ rfl rfl _ _ (hap _) ?_)
  | (at_builtin; refine gy _ rfl _ _ 34 34 rfl _ _ rfl rfl (hcpA _ _) ?_))
 go_region_law_o (refine iy rfl _ _ 34 34 rfl (.slice (some ⟨nb, (i + 1) * 3, none⟩) (n - i) (G - (i + 1))) (.slice (some ⟨b, i * 3, none⟩) (n - i) (n - i)) (by simp [Act.eval, Act.put]) (by simp [Act.eval, Act.put]) (hcpB _ _ _) ?_)
 go_wp2
 go_ret
 exact ⟨rfl, rfl⟩
theorem ok326 : FnOk Tryz.prog 326 sp326 := wB tok (te := row91) (tb := 4) (by kernel_rfl) (by kernel_rfl) (sz := 3) (by kernel_rfl) (Nat.blt_eq.mp (by kernel_rfl)) (Nat.ble_eq.mp (by kernel_rfl)) (by kernel_rfl : Tryz.prog.underlying 34 = some (.slice 91)) (by kernel_rfl : Tryz.prog.underlying 3 = some (.int .i64)) ⟨Tryz.f326, by kernel_rfl, by kernel_rfl, by kernel_rfl⟩ ov326 Ad iw326 ig326
theorem ok267 : FnOk Tryz.prog 267 sp267 := fo (nv := 8) (h := h267) (aa ok324 (aa ok325 (aa ok326 ad))) Tryz.func267
theorem ok189 : FnOk Tryz.prog 189 sp189 := fo (nv := 59) (h := h189) (aa ok19 (aa ok143 (aa ok182 (aa ok183 (aa ok184 (aa ok185 (aa ok186 (aa ok188 (aa ok265 (aa ok266 (aa ok267 ad))))))))))) Tryz.func189
theorem ok106 : FnOk Tryz.prog 106 sp106 := fo (nv := 8) (h := h106) (aa ok58 (aa ok181 (aa ok189 ad))) Tryz.func106
theorem ok41 : FnOk Tryz.prog 41 sp41 := fo (nv := 11) (h := h41) (aa ok79 (aa ok103 (aa ok104 (aa ok105 (aa ok106 ad))))) Tryz.func41
theorem ok95 : FnOk Tryz.prog 95 sp95 := fo (nv := 7) (h := h95) ad Tryz.func95
theorem ok171 : FnOk Tryz.prog 171 sp171 := fo (nv := 1) (h := h171) ad Tryz.func171
theorem ok172 : FnOk Tryz.prog 172 sp172 := fo (nv := 7) (h := h172) ad Tryz.func172
theorem ok101 : FnOk Tryz.prog 101 sp101 := fo (nv := 8) (h := h101) (aa ok95 (aa ok171 (aa ok172 ad))) Tryz.func101
theorem ok21 : FnOk Tryz.prog 21 sp21 := fo (nv := 2) (h := h21) ad Tryz.func21
theorem ok111 : FnOk Tryz.prog 111 sp111 := fo (nv := 8) (h := h111) ad Tryz.func111
theorem ok135 : FnOk Tryz.prog 135 sp135 := fo (nv := 7) (h := h135) (aa ok113 ad) Tryz.func135
theorem ok64 : FnOk Tryz.prog 64 sp64 := fo (nv := 3) (h := h64) (aa ok111 (aa ok135 ad)) Tryz.func64
theorem ok100 : FnOk Tryz.prog 100 sp100 := fo (nv := 7) (h := h100) ad Tryz.func100
theorem ok173 : FnOk Tryz.prog 173 sp173 := fo (nv := 1) (h := h173) ad Tryz.func173
theorem ok174 : FnOk Tryz.prog 174 sp174 := fo (nv := 6) (h := h174) (aa ok21 ad) Tryz.func174
theorem ok175 : FnOk Tryz.prog 175 sp175 := fo (nv := 2) (h := h175) ad Tryz.func175
theorem ok102 : FnOk Tryz.prog 102 sp102 := fo (nv := 10) (h := h102) (aa ok20 (aa ok21 (aa ok64 (aa ok100 (aa ok173 (aa ok174 (aa ok175 ad))))))) Tryz.func102
theorem ok40 : FnOk Tryz.prog 40 sp40 := fo (nv := 6) (h := h40) (aa ok20 (aa ok37 (aa ok41 (aa ok101 (aa ok102 ad))))) Tryz.func40
theorem ok107 : FnOk Tryz.prog 107 sp107 := fo (nv := 5) (h := h107) ad Tryz.func107
theorem ok108 : FnOk Tryz.prog 108 sp108 := fo (nv := 7) (h := h108) (aa ok109 ad) Tryz.func108
theorem ok43 : FnOk Tryz.prog 43 sp43 := fo (nv := 6) (h := h43) (aa ok95 (aa ok107 (aa ok108 ad))) Tryz.func43
theorem ok49 : FnOk Tryz.prog 49 sp49 := fo (nv := 6) (h := h49) ad Tryz.func49
theorem ok50 : FnOk Tryz.prog 50 sp50 := fo (nv := 13) (h := h50) (aa ok37 (aa ok101 ad)) Tryz.func50
theorem ok115 : FnOk Tryz.prog 115 sp115 := fo (nv := 7) (h := h115) (aa ok109 ad) Tryz.func115
theorem ok51 : FnOk Tryz.prog 51 sp51 := fo (nv := 9) (h := h51) (aa ok21 (aa ok109 (aa ok114 (aa ok115 ad)))) Tryz.func51
theorem ok11 : FnOk Tryz.prog 11 sp11 := fo (nv := 13) (h := h11) (aa ok32 (aa ok40 (aa ok41 (aa ok43 (aa ok49 (aa ok50 (aa ok51 ad))))))) Tryz.func11
end Go.Fx.D
