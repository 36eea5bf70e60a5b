/-
  Each of these functions does what its function over plain data says, where that gives an answer (printed by a program). Conditions: none.
-/
import Derived.Test.YtmpaebhomokjmaaGreatFxD
import Derived.Test.YtmpaebhomokjmaaGreatD
import Derived.Test.YtmpaebhomokjmaaGreatFxC
import Derived.Test.YtmpaebhomokjmaaGreatChecked
import Derived.WalkKit
namespace Go.Fx.D
open Go Go.Fx Go.Proofs Go.RowKit Go.Lib
set_option linter.unusedVariables false
set_option maxRecDepth 100000
theorem rk {t : TypeId} {i : TI fam} (j : TypeInfo) (h1 : Tryz.prog.underlying t = some i.desc:=by kernel_rfl) (h2 : Tryz.prog.info? t = some j:=by kernel_rfl) (h3 : j.zero = some (j.zero.getD .nilFunc):=by kernel_rfl) (h4 : (Nat.beq j.size i.size && Nat.beq j.bytes i.bytes && Nat.beq (j.zero.getD .nilFunc).cells.size i.size && zok i.zero (j.zero.getD .nilFunc).cells.toList && (aggV (j.zero.getD .nilFunc) == ii i.desc)) = true:=by kernel_rfl) (h5 : tyOk i = true:=by kernel_rfl) (h6 : eqOkB Tryz.prog t i = true:=by kernel_rfl) : RowOk Tryz.prog t i:=⟨h1,⟨j,_,h2,h3,h4⟩,h5,h6⟩
theorem C3 : RowOk Tryz.prog 3 row3:=rk Tryz.t3
theorem CT : RowOk Tryz.prog 4 row4:=rk Tryz.t4
theorem Di : RowOk Tryz.prog 5 row5:=rk Tryz.t5
theorem Df : RowOk Tryz.prog 9 row9:=rk Tryz.t9
theorem BJ : RowOk Tryz.prog 22 row22:=rk Tryz.t22
theorem yC : RowOk Tryz.prog 27 row27:=rk Tryz.t27
theorem yy : RowOk Tryz.prog 28 row28:=rk Tryz.t28
theorem BW : RowOk Tryz.prog 30 row30:=rk Tryz.t30
theorem yi : RowOk Tryz.prog 31 row31:=rk Tryz.t31
theorem yt : RowOk Tryz.prog 32 row32:=rk Tryz.t32
theorem yD : RowOk Tryz.prog 33 row33:=rk Tryz.t33
theorem yr : RowOk Tryz.prog 34 row34:=rk Tryz.t34
theorem ye : RowOk Tryz.prog 35 row35:=rk Tryz.t35
theorem BR : RowOk Tryz.prog 37 row37:=rk Tryz.t37
theorem CB : RowOk Tryz.prog 48 row48:=rk Tryz.t48
theorem Ct : RowOk Tryz.prog 50 row50:=rk Tryz.t50
theorem yb : RowOk Tryz.prog 53 row53:=rk Tryz.t53
theorem Cn : RowOk Tryz.prog 55 row55:=rk Tryz.t55
theorem Cy : RowOk Tryz.prog 63 row63:=rk Tryz.t63
theorem CM : RowOk Tryz.prog 67 row67:=rk Tryz.t67
theorem yv : RowOk Tryz.prog 68 row68:=rk Tryz.t68
theorem CG : RowOk Tryz.prog 70 row70:=rk Tryz.t70
theorem Cw : RowOk Tryz.prog 72 row72:=rk Tryz.t72
theorem BG : RowOk Tryz.prog 78 row78:=rk Tryz.t78
theorem Cz : RowOk Tryz.prog 86 row86:=rk Tryz.t86
theorem B_ : RowOk Tryz.prog 92 row92:=rk Tryz.t92
theorem CH : RowOk Tryz.prog 95 row95:=rk Tryz.t95
theorem Cb : RowOk Tryz.prog 96 row96:=rk Tryz.t96
theorem CO : RowOk Tryz.prog 97 row97:=rk Tryz.t97
theorem BT : RowOk Tryz.prog 99 row99:=rk Tryz.t99
theorem AK : RowOk Tryz.prog 121 zk:=rk Tryz.t121
theorem A5 : RowOk Tryz.prog 147 zL:=rk Tryz.t147
theorem Ay : RowOk Tryz.prog 149 z5:=rk Tryz.t149
theorem Bf : RowOk Tryz.prog 151 zu:=rk Tryz.t151
theorem A6 : RowOk Tryz.prog 171 zT:=rk Tryz.t171
theorem Aq : RowOk Tryz.prog 199 zp:=rk Tryz.t199
theorem Bo : RowOk Tryz.prog 202 zV:=rk Tryz.t202
theorem Aw : RowOk Tryz.prog 221 zS:=rk Tryz.t221
theorem Ak : RowOk Tryz.prog 229 zC:=rk Tryz.t229
theorem AW : RowOk Tryz.prog 231 zJ:=rk Tryz.t231
theorem AO : RowOk Tryz.prog 239 zA:=rk Tryz.t239
theorem Ax : RowOk Tryz.prog 247 zm:=rk Tryz.t247
theorem Bi : RowOk Tryz.prog 254 zK:=rk Tryz.t254
theorem Bm : RowOk Tryz.prog 258 zo:=rk Tryz.t258
theorem AN : RowOk Tryz.prog 272 zR:=rk Tryz.t272
theorem Bl : RowOk Tryz.prog 279 z7:=rk Tryz.t279
theorem tok : TblOk Tryz.prog (look tbl):=tblOk (all_cons C3 (all_cons CT (all_cons Di (all_cons Df (all_cons BJ (all_cons yC (all_cons yy (all_cons BW (all_cons yi (all_cons yt (all_cons yD (all_cons yr (all_cons ye (all_cons BR (all_cons CB (all_cons Ct (all_cons yb (all_cons Cn (all_cons Cy (all_cons CM (all_cons yv (all_cons CG (all_cons Cw (all_cons BG (all_cons Cz (all_cons B_ (all_cons CH (all_cons Cb (all_cons CO (all_cons BT (all_cons AK (all_cons A5 (all_cons Ay (all_cons Bf (all_cons A6 (all_cons Aq (all_cons Bo (all_cons Aw (all_cons Ak (all_cons AW (all_cons AO (all_cons Ax (all_cons Bi (all_cons Bm (all_cons AN (all_cons Bl all_nil))))))))))))))))))))))))))))))))))))))))))))))
theorem mix : Tryz.prog.follows .mixedOrders = true:=Checked.mixed Tryz.checked
theorem fo {Γ : Ctx fam} {nv : Nat} {h : Hint} (hΓ : CtxOk Tryz.prog Γ) {f : FuncId} {fn : Func} {sp : Spec fam} (hf : Tryz.prog.funcs[f]? = some fn) (hnm : (fn.name == "runtime.NumGoroutine") = false:=by kernel_rfl) (hbn : fn.body.isNone = false:=by kernel_rfl) (hlen : Nat.ble sp.ks.length fn.ntmps = true:=by kernel_rfl) (hrs : sp.rs.all (fun k => !k.isBox) = true:=by kernel_rfl) (hD : (fun a => tFunc (look tbl) Γ nv fn h sp.ks sp.rs a) = sp.D:=by kernel_rfl) : FnOk Tryz.prog f sp:=fnOk tok mix hΓ hf hnm hbn hlen hrs hD
theorem ok39 : FnOk Tryz.prog 39 sp39:=fo (nv:=4) (h:=h39) am Tryz.func39
theorem ok231 : FnOk Tryz.prog 231 sp231:=fo (nv:=2) (h:=h231) am Tryz.func231
theorem ok232 : FnOk Tryz.prog 232 sp232:=fo (nv:=3) (h:=h232) (ak ok231 am) Tryz.func232
theorem ok200 : FnOk Tryz.prog 200 sp200:=fo (nv:=5) (h:=h200) (ak ok231 (ak ok232 am)) Tryz.func200
theorem ok152 : FnOk Tryz.prog 152 sp152:=fo (nv:=9) (h:=h152) (ak ok200 am) Tryz.func152
theorem ok90 : FnOk Tryz.prog 90 sp90:=fo (nv:=12) (h:=h90) (ak ok152 am) Tryz.func90
theorem ok198 : FnOk Tryz.prog 198 sp198:=fo (nv:=13) (h:=h198) am Tryz.func198
theorem ok254 : FnOk Tryz.prog 254 sp254:=fo (nv:=2) (h:=h254) am Tryz.func254
theorem ok230 : FnOk Tryz.prog 230 sp230:=fo (nv:=2) (h:=h230) (ak ok254 am) Tryz.func230
theorem ok199 : FnOk Tryz.prog 199 sp199:=fo (nv:=4) (h:=h199) (ak ok230 am) Tryz.func199
theorem ok147 : FnOk Tryz.prog 147 sp147:=fo (nv:=16) (h:=h147) (ak ok198 (ak ok199 (ak ok200 am))) Tryz.func147
theorem ok87 : FnOk Tryz.prog 87 sp87:=fo (nv:=7) (h:=h87) (ak ok147 am) Tryz.func87
theorem ok272 : FnOk Tryz.prog 272 sp272:=fo (nv:=6) (h:=h272) am Tryz.func272
theorem ok280 : FnOk Tryz.prog 280 sp280:=fo (nv:=9) (h:=h280) am Tryz.func280
theorem ok273 : FnOk Tryz.prog 273 sp273:=fo (nv:=12) (h:=h273) (ak ok280 am) Tryz.func273
theorem ok253 : FnOk Tryz.prog 253 sp253:=fo (nv:=6) (h:=h253) (ak ok272 (ak ok273 am)) Tryz.func253
theorem ok226 : FnOk Tryz.prog 226 sp226:=fo (nv:=5) (h:=h226) (ak ok253 am) Tryz.func226
theorem ok233 : FnOk Tryz.prog 233 sp233:=fo (nv:=4) (h:=h233) (ak ok226 am) Tryz.func233
theorem Ai : FnOk Tryz.prog 160 A9:=fnOk (nv:=1) (h:=h160) tok mix am Tryz.func160 (by kernel_rfl) (by kernel_rfl) (by kernel_rfl) (by kernel_rfl) (by kernel_rfl)
set_option maxHeartbeats 2000000 in
theorem BH (p : Option Addr) (cap : Nat) (w : World) : Calls Tryz.prog 160 #[.slice p 0 cap] w fun e w' => ∃ p',e = .returned (.slice p' 0 0) ∧ RowKit.Below w.heap.size w w' ∧ w.drawn ≤ w'.drawn:=by
 have q:=ni (P:=Tryz.prog) (t:=68) yv.und
 cases p with
 | none =>
  go_enter Tryz.func160,Tryz.ntmps160
  go_wp2
  go_ret
  exact ⟨_,rfl,.refl _ _,Nat.le_refl _⟩
 | some p =>
  go_enter Tryz.func160,Tryz.ntmps160
  go_wp2
  go_ret
  exact ⟨_,rfl,(RowKit.Below.refl _ w).alloc (Nat.le_refl _) _,Nat.le_refl _⟩
theorem ok160 : FnOk Tryz.prog 160 sp160:=gW Ai BH
theorem ok255 : FnOk Tryz.prog 255 sp255:=fo (nv:=9) (h:=h255) am Tryz.func255
theorem ok256 : FnOk Tryz.prog 256 sp256:=fo (nv:=3) (h:=h256) am Tryz.func256
theorem ok234 : FnOk Tryz.prog 234 sp234:=fo (nv:=8) (h:=h234) (ak ok160 (ak ok255 (ak ok256 am))) Tryz.func234
theorem ok274 : FnOk Tryz.prog 274 sp274:=fo (nv:=14) (h:=h274) am Tryz.func274
theorem ok182 : FnOk Tryz.prog 182 sp182:=fo (nv:=3) (h:=h182) am Tryz.func182
theorem ok281 : FnOk Tryz.prog 281 sp281:=fo (nv:=1) (h:=h281) (ak ok182 am) Tryz.func281
theorem ok275 : FnOk Tryz.prog 275 sp275:=fo (nv:=19) (h:=h275) (ak ok281 am) Tryz.func275
theorem ok257 : FnOk Tryz.prog 257 sp257:=fo (nv:=8) (h:=h257) (ak ok274 (ak ok275 am)) Tryz.func257
theorem ok235 : FnOk Tryz.prog 235 sp235:=fo (nv:=5) (h:=h235) (ak ok231 (ak ok232 (ak ok257 am))) Tryz.func235
theorem ok203 : FnOk Tryz.prog 203 sp203:=fo (nv:=15) (h:=h203) (ak ok90 (ak ok233 (ak ok234 (ak ok235 am)))) Tryz.func203
theorem ok204 : FnOk Tryz.prog 204 sp204:=fo (nv:=2) (h:=h204) am Tryz.func204
theorem ok149 : FnOk Tryz.prog 149 sp149:=fo (nv:=7) (h:=h149) (ak ok203 (ak ok204 am)) Tryz.func149
theorem ok150 : FnOk Tryz.prog 150 sp150:=fo (nv:=2) (h:=h150) am Tryz.func150
theorem ok282 : FnOk Tryz.prog 282 sp282:=fo (nv:=9) (h:=h282) am Tryz.func282
theorem ok276 : FnOk Tryz.prog 276 sp276:=fo (nv:=2) (h:=h276) (ak ok282 am) Tryz.func276
theorem ok277 : FnOk Tryz.prog 277 sp277:=fo (nv:=3) (h:=h277) am Tryz.func277
theorem ok258 : FnOk Tryz.prog 258 sp258:=fo (nv:=5) (h:=h258) (ak ok276 (ak ok277 am)) Tryz.func258
theorem ok236 : FnOk Tryz.prog 236 sp236:=fo (nv:=11) (h:=h236) (ak ok258 am) Tryz.func236
theorem ok205 : FnOk Tryz.prog 205 sp205:=fo (nv:=11) (h:=h205) (ak ok150 (ak ok199 (ak ok200 (ak ok236 am)))) Tryz.func205
theorem ok151 : FnOk Tryz.prog 151 sp151:=fo (nv:=7) (h:=h151) (ak ok205 am) Tryz.func151
theorem ok195 : FnOk Tryz.prog 195 sp195:=fo (nv:=14) (h:=h195) (ak ok226 am) Tryz.func195
theorem ok227 : FnOk Tryz.prog 227 sp227:=fo (nv:=2) (h:=h227) am Tryz.func227
theorem ok196 : FnOk Tryz.prog 196 sp196:=fo (nv:=7) (h:=h196) (ak ok203 (ak ok227 am)) Tryz.func196
theorem ok228 : FnOk Tryz.prog 228 sp228:=fo (nv:=10) (h:=h228) am Tryz.func228
theorem ok229 : FnOk Tryz.prog 229 sp229:=fo (nv:=1) (h:=h229) am Tryz.func229
theorem ok197 : FnOk Tryz.prog 197 sp197:=fo (nv:=61) (h:=h197) (ak ok228 (ak ok229 am)) Tryz.func197
theorem BX : FnOk Tryz.prog 146 (qd 0):=⟨⟨Tryz.f146,by kernel_rfl,by kernel_rfl,by kernel_rfl⟩,fun a r hr => nomatch (show (none : Option _) = some r from hr)⟩
set_option maxHeartbeats 4000000 in
theorem BF (n : Nat) (ih : FnOk Tryz.prog 146 (qd n)) : FnOk Tryz.prog 146 (qd (n + 1)):=fnOk (nv:=110) (h:=h146) tok mix (ak ih (ak ih (ak ok87 (ak ok149 (ak ok151 (ak ok195 (ak ok196 (ak ok197 am)))))))) Tryz.func146 (by kernel_rfl) (by kernel_rfl) (by kernel_rfl) (by kernel_rfl) (by kernel_rfl)
theorem CK (n : Nat) : FnOk Tryz.prog 146 (qd n):=Nat.rec (motive:=fun n => FnOk Tryz.prog 146 (qd n)) BX (fun n ih => BF n ih) n
theorem ok146 : FnOk Tryz.prog 146 sp146:=CK 64
theorem ok86 : FnOk Tryz.prog 86 sp86:=fo (nv:=3) (h:=h86) (ak ok90 (ak ok146 am)) Tryz.func86
theorem ok165 : FnOk Tryz.prog 165 sp165:=fo (nv:=9) (h:=h165) am Tryz.func165
theorem ok166 : FnOk Tryz.prog 166 sp166:=fo (nv:=3) (h:=h166) am Tryz.func166
theorem ok101 : FnOk Tryz.prog 101 sp101:=fo (nv:=4) (h:=h101) (ak ok165 (ak ok166 am)) Tryz.func101
theorem AS : FnOk Tryz.prog 201 AC:=fnOk (nv:=1) (h:=h201) tok mix am Tryz.func201 (by kernel_rfl) (by kernel_rfl) (by kernel_rfl) (by kernel_rfl) (by kernel_rfl)
set_option maxHeartbeats 2000000 in
theorem BK (p : Option Addr) (cap : Nat) (w : World) : Calls Tryz.prog 201 #[.slice p 0 cap] w fun e w' => ∃ p',e = .returned (.slice p' 0 0) ∧ RowKit.Below w.heap.size w w' ∧ w.drawn ≤ w'.drawn:=by
 have q:=ni (P:=Tryz.prog) (t:=53) yb.und
 cases p with
 | none =>
  go_enter Tryz.func201,Tryz.ntmps201
  go_wp2
  go_ret
  exact ⟨_,rfl,.refl _ _,Nat.le_refl _⟩
 | some p =>
  go_enter Tryz.func201,Tryz.ntmps201
  go_wp2
  go_ret
  exact ⟨_,rfl,(RowKit.Below.refl _ w).alloc (Nat.le_refl _) _,Nat.le_refl _⟩
theorem ok201 : FnOk Tryz.prog 201 sp201:=gW AS BK
theorem ok202 : FnOk Tryz.prog 202 sp202:=fo (nv:=4) (h:=h202) am Tryz.func202
theorem ok148 : FnOk Tryz.prog 148 sp148:=fo (nv:=3) (h:=h148) (ak ok201 (ak ok202 am)) Tryz.func148
theorem ok88 : FnOk Tryz.prog 88 sp88:=fo (nv:=7) (h:=h88) (ak ok101 (ak ok148 am)) Tryz.func88
theorem ok36 : FnOk Tryz.prog 36 sp36:=fo (nv:=47) (h:=h36) (ak ok39 (ak ok86 (ak ok87 (ak ok88 am)))) Tryz.func36
theorem ok89 : FnOk Tryz.prog 89 sp89:=fo (nv:=54) (h:=h89) (ak ok87 (ak ok149 (ak ok150 (ak ok151 am)))) Tryz.func89
theorem ok37 : FnOk Tryz.prog 37 sp37:=fo (nv:=20) (h:=h37) (ak ok86 (ak ok87 (ak ok89 (ak ok90 am)))) Tryz.func37
theorem ok91 : FnOk Tryz.prog 91 sp91:=fo (nv:=9) (h:=h91) am Tryz.func91
theorem ok153 : FnOk Tryz.prog 153 sp153:=fo (nv:=1) (h:=h153) am Tryz.func153
theorem ok92 : FnOk Tryz.prog 92 sp92:=fo (nv:=7) (h:=h92) (ak ok153 am) Tryz.func92
theorem ok154 : FnOk Tryz.prog 154 sp154:=fo (nv:=1) (h:=h154) am Tryz.func154
theorem ok93 : FnOk Tryz.prog 93 sp93:=fo (nv:=7) (h:=h93) (ak ok154 am) Tryz.func93
theorem ok38 : FnOk Tryz.prog 38 sp38:=fo (nv:=94) (h:=h38) (ak ok91 (ak ok92 (ak ok93 am))) Tryz.func38
theorem ok15 : FnOk Tryz.prog 15 sp15:=fo (nv:=9) (h:=h15) (ak ok36 (ak ok37 (ak ok38 (ak ok39 am)))) Tryz.func15
theorem ok47 : FnOk Tryz.prog 47 sp47:=fo (nv:=9) (h:=h47) am Tryz.func47
theorem Bk : FnOk Tryz.prog 107 Bb:=fnOk (nv:=1) (h:=h107) tok mix am Tryz.func107 (by kernel_rfl) (by kernel_rfl) (by kernel_rfl) (by kernel_rfl) (by kernel_rfl)
set_option maxHeartbeats 2000000 in
theorem Cx (p : Option Addr) (cap : Nat) (w : World) : Calls Tryz.prog 107 #[.slice p 0 cap] w fun e w' => ∃ p',e = .returned (.slice p' 0 0) ∧ RowKit.Below w.heap.size w w' ∧ w.drawn ≤ w'.drawn:=by
 have q:=ni (P:=Tryz.prog) (t:=33) yD.und
 cases p with
 | none =>
  go_enter Tryz.func107,Tryz.ntmps107
  go_wp2
  go_ret
  exact ⟨_,rfl,.refl _ _,Nat.le_refl _⟩
 | some p =>
  go_enter Tryz.func107,Tryz.ntmps107
  go_wp2
  go_ret
  exact ⟨_,rfl,(RowKit.Below.refl _ w).alloc (Nat.le_refl _) _,Nat.le_refl _⟩
theorem ok107 : FnOk Tryz.prog 107 sp107:=gW Bk Cx
theorem A2 : FnOk Tryz.prog 158 A1:=fnOk (nv:=1) (h:=h158) tok mix am Tryz.func158 (by kernel_rfl) (by kernel_rfl) (by kernel_rfl) (by kernel_rfl) (by kernel_rfl)
set_option maxHeartbeats 2000000 in
theorem BN (p : Option Addr) (cap : Nat) (w : World) : Calls Tryz.prog 158 #[.slice p 0 cap] w fun e w' => ∃ p',e = .returned (.slice p' 0 0) ∧ RowKit.Below w.heap.size w w' ∧ w.drawn ≤ w'.drawn:=by
 have q:=ni (P:=Tryz.prog) (t:=27) yC.und
 cases p with
 | none =>
  go_enter Tryz.func158,Tryz.ntmps158
  go_wp2
  go_ret
  exact ⟨_,rfl,.refl _ _,Nat.le_refl _⟩
 | some p =>
  go_enter Tryz.func158,Tryz.ntmps158
  go_wp2
  go_ret
  exact ⟨_,rfl,(RowKit.Below.refl _ w).alloc (Nat.le_refl _) _,Nat.le_refl _⟩
theorem ok158 : FnOk Tryz.prog 158 sp158:=gW A2 BN
theorem A7 : FnOk Tryz.prog 159 Bq:=fnOk (nv:=1) (h:=h159) tok mix am Tryz.func159 (by kernel_rfl) (by kernel_rfl) (by kernel_rfl) (by kernel_rfl) (by kernel_rfl)
set_option maxHeartbeats 2000000 in
theorem Cl (p : Option Addr) (cap : Nat) (w : World) : Calls Tryz.prog 159 #[.slice p 0 cap] w fun e w' => ∃ p',e = .returned (.slice p' 0 0) ∧ RowKit.Below w.heap.size w w' ∧ w.drawn ≤ w'.drawn:=by
 have q:=ni (P:=Tryz.prog) (t:=28) yy.und
 cases p with
 | none =>
  go_enter Tryz.func159,Tryz.ntmps159
  go_wp2
  go_ret
  exact ⟨_,rfl,.refl _ _,Nat.le_refl _⟩
 | some p =>
  go_enter Tryz.func159,Tryz.ntmps159
  go_wp2
  go_ret
  exact ⟨_,rfl,(RowKit.Below.refl _ w).alloc (Nat.le_refl _) _,Nat.le_refl _⟩
theorem ok159 : FnOk Tryz.prog 159 sp159:=gW A7 Cl
theorem AD : FnOk Tryz.prog 161 Aj:=fnOk (nv:=1) (h:=h161) tok mix am Tryz.func161 (by kernel_rfl) (by kernel_rfl) (by kernel_rfl) (by kernel_rfl) (by kernel_rfl)
set_option maxHeartbeats 2000000 in
theorem Cm (p : Option Addr) (cap : Nat) (w : World) : Calls Tryz.prog 161 #[.slice p 0 cap] w fun e w' => ∃ p',e = .returned (.slice p' 0 0) ∧ RowKit.Below w.heap.size w w' ∧ w.drawn ≤ w'.drawn:=by
 have q:=ni (P:=Tryz.prog) (t:=31) yi.und
 cases p with
 | none =>
  go_enter Tryz.func161,Tryz.ntmps161
  go_wp2
  go_ret
  exact ⟨_,rfl,.refl _ _,Nat.le_refl _⟩
 | some p =>
  go_enter Tryz.func161,Tryz.ntmps161
  go_wp2
  go_ret
  exact ⟨_,rfl,(RowKit.Below.refl _ w).alloc (Nat.le_refl _) _,Nat.le_refl _⟩
theorem ok161 : FnOk Tryz.prog 161 sp161:=gW AD Cm
theorem AQ : FnOk Tryz.prog 162 At:=fnOk (nv:=1) (h:=h162) tok mix am Tryz.func162 (by kernel_rfl) (by kernel_rfl) (by kernel_rfl) (by kernel_rfl) (by kernel_rfl)
set_option maxHeartbeats 2000000 in
theorem Cp (p : Option Addr) (cap : Nat) (w : World) : Calls Tryz.prog 162 #[.slice p 0 cap] w fun e w' => ∃ p',e = .returned (.slice p' 0 0) ∧ RowKit.Below w.heap.size w w' ∧ w.drawn ≤ w'.drawn:=by
 have q:=ni (P:=Tryz.prog) (t:=34) yr.und
 cases p with
 | none =>
  go_enter Tryz.func162,Tryz.ntmps162
  go_wp2
  go_ret
  exact ⟨_,rfl,.refl _ _,Nat.le_refl _⟩
 | some p =>
  go_enter Tryz.func162,Tryz.ntmps162
  go_wp2
  go_ret
  exact ⟨_,rfl,(RowKit.Below.refl _ w).alloc (Nat.le_refl _) _,Nat.le_refl _⟩
theorem ok162 : FnOk Tryz.prog 162 sp162:=gW AQ Cp
theorem Bd : FnOk Tryz.prog 163 Bn:=fnOk (nv:=1) (h:=h163) tok mix am Tryz.func163 (by kernel_rfl) (by kernel_rfl) (by kernel_rfl) (by kernel_rfl) (by kernel_rfl)
set_option maxHeartbeats 2000000 in
theorem BS (p : Option Addr) (cap : Nat) (w : World) : Calls Tryz.prog 163 #[.slice p 0 cap] w fun e w' => ∃ p',e = .returned (.slice p' 0 0) ∧ RowKit.Below w.heap.size w w' ∧ w.drawn ≤ w'.drawn:=by
 have q:=ni (P:=Tryz.prog) (t:=35) ye.und
 cases p with
 | none =>
  go_enter Tryz.func163,Tryz.ntmps163
  go_wp2
  go_ret
  exact ⟨_,rfl,.refl _ _,Nat.le_refl _⟩
 | some p =>
  go_enter Tryz.func163,Tryz.ntmps163
  go_wp2
  go_ret
  exact ⟨_,rfl,(RowKit.Below.refl _ w).alloc (Nat.le_refl _) _,Nat.le_refl _⟩
theorem ok163 : FnOk Tryz.prog 163 sp163:=gW Bd BS
theorem Be : FnOk Tryz.prog 164 Ba:=fnOk (nv:=1) (h:=h164) tok mix am Tryz.func164 (by kernel_rfl) (by kernel_rfl) (by kernel_rfl) (by kernel_rfl) (by kernel_rfl)
set_option maxHeartbeats 2000000 in
theorem BZ (p : Option Addr) (cap : Nat) (w : World) : Calls Tryz.prog 164 #[.slice p 0 cap] w fun e w' => ∃ p',e = .returned (.slice p' 0 0) ∧ RowKit.Below w.heap.size w w' ∧ w.drawn ≤ w'.drawn:=by
 have q:=ni (P:=Tryz.prog) (t:=32) yt.und
 cases p with
 | none =>
  go_enter Tryz.func164,Tryz.ntmps164
  go_wp2
  go_ret
  exact ⟨_,rfl,.refl _ _,Nat.le_refl _⟩
 | some p =>
  go_enter Tryz.func164,Tryz.ntmps164
  go_wp2
  go_ret
  exact ⟨_,rfl,(RowKit.Below.refl _ w).alloc (Nat.le_refl _) _,Nat.le_refl _⟩
theorem ok164 : FnOk Tryz.prog 164 sp164:=gW Be BZ
theorem ok99 : FnOk Tryz.prog 99 sp99:=fo (nv:=62) (h:=h99) (ak ok107 (ak ok148 (ak ok158 (ak ok159 (ak ok160 (ak ok161 (ak ok162 (ak ok163 (ak ok164 am))))))))) Tryz.func99
theorem ok100 : FnOk Tryz.prog 100 sp100:=fo (nv:=3) (h:=h100) am Tryz.func100
theorem ok259 : FnOk Tryz.prog 259 sp259:=fo (nv:=9) (h:=h259) am Tryz.func259
theorem ok237 : FnOk Tryz.prog 237 sp237:=fo (nv:=8) (h:=h237) (ak ok259 am) Tryz.func237
theorem ok238 : FnOk Tryz.prog 238 sp238:=fo (nv:=4) (h:=h238) am Tryz.func238
theorem ok239 : FnOk Tryz.prog 239 sp239:=fo (nv:=3) (h:=h239) am Tryz.func239
theorem ok240 : FnOk Tryz.prog 240 sp240:=fo (nv:=10) (h:=h240) am Tryz.func240
theorem ok207 : FnOk Tryz.prog 207 sp207:=fo (nv:=8) (h:=h207) (ak ok237 (ak ok238 (ak ok239 (ak ok240 am)))) Tryz.func207
theorem ok167 : FnOk Tryz.prog 167 sp167:=fo (nv:=4) (h:=h167) (ak ok207 am) Tryz.func167
theorem ok208 : FnOk Tryz.prog 208 sp208:=fo (nv:=8) (h:=h208) (ak ok47 am) Tryz.func208
theorem ok168 : FnOk Tryz.prog 168 sp168:=fo (nv:=7) (h:=h168) (ak ok208 am) Tryz.func168
theorem ok102 : FnOk Tryz.prog 102 sp102:=fo (nv:=6) (h:=h102) (ak ok167 (ak ok168 am)) Tryz.func102
set_option maxHeartbeats 4000000 in
set_option maxRecDepth 1000000 in
theorem dn103 : yx Tryz.prog 103:=by
 constructor
 ·intro b n cap i w hn hj
  go_enter Tryz.func103,Tryz.ntmps103
  go_wp2
  all_goals (go_ret; exact ⟨rfl,rfl⟩)
 ·intro p w
  cases p
  ·go_enter Tryz.func103,Tryz.ntmps103
   go_wp2
   all_goals (go_ret; exact ⟨rfl,rfl⟩)
  ·go_enter Tryz.func103,Tryz.ntmps103
   go_wp2
   all_goals (go_ret; exact ⟨rfl,rfl⟩)
set_option maxHeartbeats 4000000 in
set_option maxRecDepth 1000000 in
theorem dw103 : xY Tryz.prog 103 33 50 9:=by
 intro b n cap i j w hn hm hlt hj i0 hi0 hz1 A hA news s1 hsrc s2 s3 W1 W2 hW hcl
 have hic : i ≤ cap:=by omega
 have hjc : j ≤ cap:=by omega
 have tS : Tryz.prog.underlying 33 = some (.slice 50):=by kernel_rfl
 have mixed : Tryz.prog.follows .mixedOrders = true:=Checked.mixed Tryz.checked
 go_enter Tryz.func103,Tryz.ntmps103
 go_wp2_with fail
 go_region_law_o (refine step_append_room rfl (.tmp 22) (.tmp 25) 33 rfl 50 i0 9 tS hi0 hz1 b 0 i cap (by simp [Act.eval,Act.put]) A (n - j) (cap - j) news (by simp [Act.eval,Act.put]) s1.out hsrc.out s2.out (by omega) s3.out ?_; rw [← hW.out])
 go_wp2
 go_ret
 exact ⟨rfl,rfl⟩
theorem ok103 : FnOk Tryz.prog 103 sp103:=CY tok (te:=row50) (by kernel_rfl) (by kernel_rfl) (sz:=9) (by kernel_rfl) (Nat.blt_eq.mp (by kernel_rfl)) (by kernel_rfl : Tryz.prog.underlying 33 = some (.slice 50)) ⟨Tryz.f103,by kernel_rfl,by kernel_rfl,by kernel_rfl⟩ dn103 dw103
theorem ok104 : FnOk Tryz.prog 104 sp104:=fo (nv:=9) (h:=h104) am Tryz.func104
theorem ok105 : FnOk Tryz.prog 105 sp105:=fo (nv:=8) (h:=h105) am Tryz.func105
theorem ok45 : FnOk Tryz.prog 45 sp45:=fo (nv:=17) (h:=h45) (ak ok47 (ak ok99 (ak ok100 (ak ok101 (ak ok102 (ak ok103 (ak ok104 (ak ok105 am)))))))) Tryz.func45
theorem hB46 (p : Option Addr) (cap : Nat) (w : World) : Calls Tryz.prog 106 #[.slice p 0 cap] w fun e w' => e = .returned (.func (.func 169) #[] #[.pointer (some ⟨w.heap.size,0,none⟩)]) ∧ w' = w.alloc (.cells #[.slice p 0 cap] 33 (0,0)):=by
 go_enter Tryz.func106,Tryz.ntmps106
 go_wp2
 go_ret
 exact ⟨rfl,rfl⟩
theorem hC46 (y : Value) (p : Option Addr) (cap b : Nat) (w : World) (h : w.heap[b]? = some (.cells #[.slice p 0 cap] 33 (0,0))) : Calls Tryz.prog 169 #[y,.pointer (some ⟨b,0,none⟩)] w fun e w' => (∃ v,e = .returned v) ∧ w' = w:=by
 have hcell : w.cell? ⟨b,0,none⟩ = some (.slice p 0 cap):=by simp [World.cell?,h]
 have hl : (Instr.loadAt 33 (.pointer (some ⟨b,0,none⟩))).run Tryz.prog w = .ok (.slice p 0 cap) w:=by simp [Instr.loadAt,go_sem,hcell]
 go_enter Tryz.func169,Tryz.ntmps169
 go_wp2_with (simp only [hl])
 refine wp_loop_once ?_
 go_wp2
 exact ⟨rfl,.tuple #[],pS (vs:=[]) (by kernel_rfl),⟨_,rfl⟩,rfl⟩
theorem ok46 : FnOk Tryz.prog 46 sp46:=C_ (nv:=48) (fB:=106) (fC:=169) (te:=33) tok (ak ok107 am) Tryz.func46 (by kernel_rfl) (by kernel_rfl) (by kernel_rfl) (by kernel_rfl) ⟨Tryz.f106,by kernel_rfl,by kernel_rfl,by kernel_rfl⟩ ⟨Tryz.f169,by kernel_rfl,by kernel_rfl,by kernel_rfl⟩ hB46 hC46 (by kernel_rfl)
theorem ok48 : FnOk Tryz.prog 48 sp48:=fo (nv:=3) (h:=h48) am Tryz.func48
theorem ok49 : FnOk Tryz.prog 49 sp49:=fo (nv:=2) (h:=h49) (ak ok47 am) Tryz.func49
theorem ok50 : FnOk Tryz.prog 50 sp50:=fo (nv:=3) (h:=h50) am Tryz.func50
theorem ok178 : FnOk Tryz.prog 178 sp178:=fo (nv:=2) (h:=h178) (ak ok153 am) Tryz.func178
theorem ok172 : FnOk Tryz.prog 172 sp172:=fo (nv:=8) (h:=h172) (ak ok178 am) Tryz.func172
theorem ok212 : FnOk Tryz.prog 212 sp212:=fo (nv:=10) (h:=h212) (ak ok178 am) Tryz.func212
theorem ok173 : FnOk Tryz.prog 173 sp173:=fo (nv:=11) (h:=h173) (ak ok212 am) Tryz.func173
theorem ok112 : FnOk Tryz.prog 112 sp112:=fo (nv:=1) (h:=h112) (ak ok182 am) Tryz.func112
theorem ok213 : FnOk Tryz.prog 213 sp213:=fo (nv:=1) (h:=h213) (ak ok112 am) Tryz.func213
theorem ok214 : FnOk Tryz.prog 214 sp214:=fo (nv:=1) (h:=h214) am Tryz.func214
theorem ok174 : FnOk Tryz.prog 174 sp174:=fo (nv:=11) (h:=h174) (ak ok213 (ak ok214 am)) Tryz.func174
theorem ok242 : FnOk Tryz.prog 242 sp242:=fo (nv:=9) (h:=h242) (ak ok178 am) Tryz.func242
theorem ok216 : FnOk Tryz.prog 216 sp216:=fo (nv:=5) (h:=h216) (ak ok242 am) Tryz.func216
theorem ok215 : FnOk Tryz.prog 215 sp215:=fo (nv:=3) (h:=h215) (ak ok216 am) Tryz.func215
theorem ok175 : FnOk Tryz.prog 175 sp175:=fo (nv:=50) (h:=h175) (ak ok215 (ak ok216 am)) Tryz.func175
theorem ok176 : FnOk Tryz.prog 176 sp176:=fo (nv:=8) (h:=h176) am Tryz.func176
theorem ok177 : FnOk Tryz.prog 177 sp177:=fo (nv:=11) (h:=h177) (ak ok178 am) Tryz.func177
theorem ok179 : FnOk Tryz.prog 179 sp179:=fo (nv:=11) (h:=h179) (ak ok178 am) Tryz.func179
theorem ok180 : FnOk Tryz.prog 180 sp180:=fo (nv:=12) (h:=h180) (ak ok178 am) Tryz.func180
theorem yp : ∀ n,FnOk Tryz.prog 111 (Cq n)
 | 0 => ⟨⟨Tryz.f111,by kernel_rfl,by kernel_rfl,by kernel_rfl⟩,fun a r hr => nomatch (show (none : Option _) = some r from hr)⟩
 | n + 1 => fnOk (nv:=19) (h:=h111) tok mix (ak (yp n) (ak ok172 (ak ok173 (ak ok174 (ak ok175 (ak ok176 (ak ok177 (ak ok178 (ak ok179 (ak ok180 am)))))))))) Tryz.func111 (by kernel_rfl) (by kernel_rfl) (by kernel_rfl) (by kernel_rfl) (by kernel_rfl)
theorem ok111 : FnOk Tryz.prog 111 sp111:=yp 64
theorem ok51 : FnOk Tryz.prog 51 sp51:=fo (nv:=1) (h:=h51) (ak ok111 (ak ok112 am)) Tryz.func51
theorem ok17 : FnOk Tryz.prog 17 sp17:=fo (nv:=48) (h:=h17) (ak ok15 (ak ok45 (ak ok46 (ak ok47 (ak ok48 (ak ok49 (ak ok50 (ak ok51 am)))))))) Tryz.func17
theorem ok55 : FnOk Tryz.prog 55 sp55:=fo (nv:=10) (h:=h55) am Tryz.func55
theorem ok115 : FnOk Tryz.prog 115 sp115:=fo (nv:=6) (h:=h115) am Tryz.func115
theorem ok56 : FnOk Tryz.prog 56 sp56:=fo (nv:=6) (h:=h56) (ak ok115 am) Tryz.func56
theorem ok19 : FnOk Tryz.prog 19 sp19:=fo (nv:=11) (h:=h19) (ak ok55 (ak ok56 am)) Tryz.func19
theorem ok29 : FnOk Tryz.prog 29 sp29:=fo (nv:=1) (h:=h29) am Tryz.func29
theorem ok10 : FnOk Tryz.prog 10 sp10:=fo (nv:=3) (h:=h10) (ak ok15 (ak ok17 (ak ok19 (ak ok29 am)))) Tryz.func10
theorem ok95 : FnOk Tryz.prog 95 sp95:=fo (nv:=5) (h:=h95) am Tryz.func95
theorem ok41 : FnOk Tryz.prog 41 sp41:=fo (nv:=7) (h:=h41) (ak ok95 am) Tryz.func41
theorem ok121 : FnOk Tryz.prog 121 sp121:=fo (nv:=8) (h:=h121) am Tryz.func121
theorem ok145 : FnOk Tryz.prog 145 sp145:=fo (nv:=4) (h:=h145) am Tryz.func145
theorem ok123 : FnOk Tryz.prog 123 sp123:=fo (nv:=4) (h:=h123) (ak ok145 am) Tryz.func123
theorem ok217 : FnOk Tryz.prog 217 sp217:=fo (nv:=1) (h:=h217) am Tryz.func217
theorem ok185 : FnOk Tryz.prog 185 sp185:=fo (nv:=2) (h:=h185) (ak ok217 am) Tryz.func185
theorem ok186 : FnOk Tryz.prog 186 sp186:=fo (nv:=2) (h:=h186) am Tryz.func186
theorem ok124 : FnOk Tryz.prog 124 sp124:=fo (nv:=7) (h:=h124) (ak ok185 (ak ok186 am)) Tryz.func124
theorem ok65 : FnOk Tryz.prog 65 sp65:=fo (nv:=17) (h:=h65) (ak ok41 (ak ok121 (ak ok123 (ak ok124 am)))) Tryz.func65
theorem ok27 : FnOk Tryz.prog 27 sp27:=fo (nv:=7) (h:=h27) (ak ok65 am) Tryz.func27
theorem ok28 : FnOk Tryz.prog 28 sp28:=fo (nv:=6) (h:=h28) am Tryz.func28
theorem ok31 : FnOk Tryz.prog 31 sp31:=fo (nv:=10) (h:=h31) (ak ok29 am) Tryz.func31
theorem ok7 : FnOk Tryz.prog 7 sp7:=fo (nv:=12) (h:=h7) (ak ok10 (ak ok15 (ak ok27 (ak ok28 (ak ok31 am))))) Tryz.func7
end Go.Fx.D
