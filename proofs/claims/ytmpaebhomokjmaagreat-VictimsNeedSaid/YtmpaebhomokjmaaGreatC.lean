/-
  Each of these functions does what its function over plain data says, where that gives an answer (printed by a program). Conditions: none.
-/
import Derived.Test.YtmpaebhomokjmaaGreatD
import Derived.Test.YtmpaebhomokjmaaGreatFxC
import Derived.Test.YtmpaebhomokjmaaGreatFxD
import Derived.Test.YtmpaebhomokjmaaGreatChecked
import Derived.WalkKit
namespace Go.Fx.D
open Go Go.Fx Go.Proofs Go.RowKit Go.Lib
set_option linter.unusedVariables false
set_option maxRecDepth 100000
theorem rk {t : TypeId} {i : TI fam} (j : TypeInfo) (h1 : Tryz.prog.underlying t = some i.desc:=by kernel_rfl) (h2 : Tryz.prog.info? t = some j:=by kernel_rfl) (h3 : j.zero = some (j.zero.getD .nilFunc):=by kernel_rfl) (h4 : (Nat.beq j.size i.size && Nat.beq j.bytes i.bytes && Nat.beq (j.zero.getD .nilFunc).cells.size i.size && zok i.zero (j.zero.getD .nilFunc).cells.toList && (aggV (j.zero.getD .nilFunc) == lH i.desc)) = true:=by kernel_rfl) (h5 : tyOk i = true:=by kernel_rfl) (h6 : eqOkB Tryz.prog t i = true:=by kernel_rfl) : RowOk Tryz.prog t i:=⟨h1,⟨j,_,h2,h3,h4⟩,h5,h6⟩
theorem Jl : RowOk Tryz.prog 3 row3:=rk Tryz.t3
theorem Jn : RowOk Tryz.prog 4 row4:=rk Tryz.t4
theorem Je : RowOk Tryz.prog 5 row5:=rk Tryz.t5
theorem Jd : RowOk Tryz.prog 9 row9:=rk Tryz.t9
theorem HP : RowOk Tryz.prog 22 row22:=rk Tryz.t22
theorem H2 : RowOk Tryz.prog 23 row23:=rk Tryz.t23
theorem HX : RowOk Tryz.prog 25 row25:=rk Tryz.t25
theorem B4 : RowOk Tryz.prog 27 row27:=rk Tryz.t27
theorem Ck : RowOk Tryz.prog 28 row28:=rk Tryz.t28
theorem Hz : RowOk Tryz.prog 30 row30:=rk Tryz.t30
theorem B7 : RowOk Tryz.prog 31 row31:=rk Tryz.t31
theorem BQ : RowOk Tryz.prog 32 row32:=rk Tryz.t32
theorem CI : RowOk Tryz.prog 33 row33:=rk Tryz.t33
theorem CL : RowOk Tryz.prog 34 row34:=rk Tryz.t34
theorem CH : RowOk Tryz.prog 35 row35:=rk Tryz.t35
theorem HY : RowOk Tryz.prog 37 row37:=rk Tryz.t37
theorem IB : RowOk Tryz.prog 48 row48:=rk Tryz.t48
theorem Iv : RowOk Tryz.prog 50 row50:=rk Tryz.t50
theorem Cl : RowOk Tryz.prog 53 row53:=rk Tryz.t53
theorem Ii : RowOk Tryz.prog 55 row55:=rk Tryz.t55
theorem IH : RowOk Tryz.prog 63 row63:=rk Tryz.t63
theorem Ia : RowOk Tryz.prog 67 row67:=rk Tryz.t67
theorem Cf : RowOk Tryz.prog 68 row68:=rk Tryz.t68
theorem Ie : RowOk Tryz.prog 70 row70:=rk Tryz.t70
theorem IP : RowOk Tryz.prog 72 row72:=rk Tryz.t72
theorem IE : RowOk Tryz.prog 78 row78:=rk Tryz.t78
theorem HO : RowOk Tryz.prog 80 row80:=rk Tryz.t80
theorem HE : RowOk Tryz.prog 86 row86:=rk Tryz.t86
theorem H1 : RowOk Tryz.prog 88 row88:=rk Tryz.t88
theorem HB : RowOk Tryz.prog 90 row90:=rk Tryz.t90
theorem IL : RowOk Tryz.prog 92 row92:=rk Tryz.t92
theorem HV : RowOk Tryz.prog 95 row95:=rk Tryz.t95
theorem HG : RowOk Tryz.prog 96 row96:=rk Tryz.t96
theorem H0 : RowOk Tryz.prog 97 row97:=rk Tryz.t97
theorem Io : RowOk Tryz.prog 99 row99:=rk Tryz.t99
theorem F4 : RowOk Tryz.prog 102 Eg:=rk Tryz.t102
theorem F_ : RowOk Tryz.prog 107 EN:=rk Tryz.t107
theorem Ha : RowOk Tryz.prog 121 Eb:=rk Tryz.t121
theorem F5 : RowOk Tryz.prog 142 Fd:=rk Tryz.t142
theorem G1 : RowOk Tryz.prog 147 Ep:=rk Tryz.t147
theorem Gc : RowOk Tryz.prog 149 DN:=rk Tryz.t149
theorem GL : RowOk Tryz.prog 151 Ee:=rk Tryz.t151
theorem FT : RowOk Tryz.prog 171 Fi:=rk Tryz.t171
theorem Fz : RowOk Tryz.prog 197 EA:=rk Tryz.t197
theorem G_ : RowOk Tryz.prog 199 ED:=rk Tryz.t199
theorem FF : RowOk Tryz.prog 202 E_:=rk Tryz.t202
theorem GT : RowOk Tryz.prog 221 ER:=rk Tryz.t221
theorem GJ : RowOk Tryz.prog 229 Fe:=rk Tryz.t229
theorem GM : RowOk Tryz.prog 231 D6:=rk Tryz.t231
theorem Gn : RowOk Tryz.prog 239 E4:=rk Tryz.t239
theorem GN : RowOk Tryz.prog 247 DT:=rk Tryz.t247
theorem Gm : RowOk Tryz.prog 254 D1:=rk Tryz.t254
theorem GP : RowOk Tryz.prog 258 Ec:=rk Tryz.t258
theorem GY : RowOk Tryz.prog 272 DX:=rk Tryz.t272
theorem FL : RowOk Tryz.prog 279 D7:=rk Tryz.t279
theorem Hc : RowOk Tryz.prog 321 EI:=rk Tryz.t321
theorem tok : TblOk Tryz.prog (look tbl):=tblOk (all_cons Jl (all_cons Jn (all_cons Je (all_cons Jd (all_cons HP (all_cons H2 (all_cons HX (all_cons B4 (all_cons Ck (all_cons Hz (all_cons B7 (all_cons BQ (all_cons CI (all_cons CL (all_cons CH (all_cons HY (all_cons IB (all_cons Iv (all_cons Cl (all_cons Ii (all_cons IH (all_cons Ia (all_cons Cf (all_cons Ie (all_cons IP (all_cons IE (all_cons HO (all_cons HE (all_cons H1 (all_cons HB (all_cons IL (all_cons HV (all_cons HG (all_cons H0 (all_cons Io (all_cons F4 (all_cons F_ (all_cons Ha (all_cons F5 (all_cons G1 (all_cons Gc (all_cons GL (all_cons FT (all_cons Fz (all_cons G_ (all_cons FF (all_cons GT (all_cons GJ (all_cons GM (all_cons Gn (all_cons GN (all_cons Gm (all_cons GP (all_cons GY (all_cons FL (all_cons Hc all_nil))))))))))))))))))))))))))))))))))))))))))))))))))))))))
theorem mix : Tryz.prog.follows .mixedOrders = true:=Checked.mixed Tryz.checked
theorem fo {Γ : Ctx fam} {nv : Nat} {h : Hint} (hΓ : CtxOk Tryz.prog Γ) {f : FuncId} {fn : Func} {sp : Spec fam} (hf : Tryz.prog.funcs[f]? = some fn) (hnm : (fn.name == "runtime.NumGoroutine") = false:=by kernel_rfl) (hbn : fn.body.isNone = false:=by kernel_rfl) (hlen : Nat.ble sp.ks.length fn.ntmps = true:=by kernel_rfl) (hrs : sp.rs.all (fun k => !k.isBox) = true:=by kernel_rfl) (hD : (fun a => tFunc (look tbl) Γ nv fn h sp.ks sp.rs a) = sp.D:=by kernel_rfl) : FnOk Tryz.prog f sp:=fnOk tok mix hΓ hf hnm hbn hlen hrs hD
theorem ok39 : FnOk Tryz.prog 39 sp39:=fo (nv:=4) (h:=h39) af Tryz.func39
theorem ok231 : FnOk Tryz.prog 231 sp231:=fo (nv:=2) (h:=h231) af Tryz.func231
theorem ok232 : FnOk Tryz.prog 232 sp232:=fo (nv:=3) (h:=h232) (ab ok231 af) Tryz.func232
theorem ok200 : FnOk Tryz.prog 200 sp200:=fo (nv:=5) (h:=h200) (ab ok231 (ab ok232 af)) Tryz.func200
theorem ok152 : FnOk Tryz.prog 152 sp152:=fo (nv:=9) (h:=h152) (ab ok200 af) Tryz.func152
theorem ok90 : FnOk Tryz.prog 90 sp90:=fo (nv:=12) (h:=h90) (ab ok152 af) Tryz.func90
theorem ok198 : FnOk Tryz.prog 198 sp198:=fo (nv:=13) (h:=h198) af Tryz.func198
theorem ok254 : FnOk Tryz.prog 254 sp254:=fo (nv:=2) (h:=h254) af Tryz.func254
theorem ok230 : FnOk Tryz.prog 230 sp230:=fo (nv:=2) (h:=h230) (ab ok254 af) Tryz.func230
theorem ok199 : FnOk Tryz.prog 199 sp199:=fo (nv:=4) (h:=h199) (ab ok230 af) Tryz.func199
theorem ok147 : FnOk Tryz.prog 147 sp147:=fo (nv:=16) (h:=h147) (ab ok198 (ab ok199 (ab ok200 af))) Tryz.func147
theorem ok87 : FnOk Tryz.prog 87 sp87:=fo (nv:=7) (h:=h87) (ab ok147 af) Tryz.func87
theorem ok272 : FnOk Tryz.prog 272 sp272:=fo (nv:=6) (h:=h272) af Tryz.func272
theorem ok280 : FnOk Tryz.prog 280 sp280:=fo (nv:=9) (h:=h280) af Tryz.func280
theorem ok273 : FnOk Tryz.prog 273 sp273:=fo (nv:=12) (h:=h273) (ab ok280 af) Tryz.func273
theorem ok253 : FnOk Tryz.prog 253 sp253:=fo (nv:=6) (h:=h253) (ab ok272 (ab ok273 af)) Tryz.func253
theorem ok226 : FnOk Tryz.prog 226 sp226:=fo (nv:=5) (h:=h226) (ab ok253 af) Tryz.func226
theorem ok233 : FnOk Tryz.prog 233 sp233:=fo (nv:=4) (h:=h233) (ab ok226 af) Tryz.func233
theorem Gb : FnOk Tryz.prog 160 Gg:=fnOk (nv:=1) (h:=h160) tok mix af Tryz.func160 (by kernel_rfl) (by kernel_rfl) (by kernel_rfl) (by kernel_rfl) (by kernel_rfl)
set_option maxHeartbeats 2000000 in
theorem It (p : Option Addr) (cap : Nat) (w : World) : Calls Tryz.prog 160 #[.slice p 0 cap] w fun e w' => ∃ p',e = .returned (.slice p' 0 0) ∧ RowKit.Below w.heap.size w w' ∧ w.drawn ≤ w'.drawn:=by
 have q:=qG (P:=Tryz.prog) (t:=68) Cf.und
 cases p with
 | none =>
  go_enter Tryz.func160,Tryz.ntmps160
  go_wp2
  go_ret
  exact ⟨_,rfl,.refl _ _,Nat.le_refl _⟩
 | some p =>
  go_enter Tryz.func160,Tryz.ntmps160
  go_wp2
  go_ret
  exact ⟨_,rfl,(RowKit.Below.refl _ w).alloc (Nat.le_refl _) _,Nat.le_refl _⟩
theorem ok160 : FnOk Tryz.prog 160 sp160:=ll Gb It
theorem ok255 : FnOk Tryz.prog 255 sp255:=fo (nv:=9) (h:=h255) af Tryz.func255
theorem ok256 : FnOk Tryz.prog 256 sp256:=fo (nv:=3) (h:=h256) af Tryz.func256
theorem ok234 : FnOk Tryz.prog 234 sp234:=fo (nv:=8) (h:=h234) (ab ok160 (ab ok255 (ab ok256 af))) Tryz.func234
theorem ok274 : FnOk Tryz.prog 274 sp274:=fo (nv:=14) (h:=h274) af Tryz.func274
theorem ok182 : FnOk Tryz.prog 182 sp182:=fo (nv:=3) (h:=h182) af Tryz.func182
theorem ok281 : FnOk Tryz.prog 281 sp281:=fo (nv:=1) (h:=h281) (ab ok182 af) Tryz.func281
theorem ok275 : FnOk Tryz.prog 275 sp275:=fo (nv:=19) (h:=h275) (ab ok281 af) Tryz.func275
theorem ok257 : FnOk Tryz.prog 257 sp257:=fo (nv:=8) (h:=h257) (ab ok274 (ab ok275 af)) Tryz.func257
theorem ok235 : FnOk Tryz.prog 235 sp235:=fo (nv:=5) (h:=h235) (ab ok231 (ab ok232 (ab ok257 af))) Tryz.func235
theorem ok203 : FnOk Tryz.prog 203 sp203:=fo (nv:=15) (h:=h203) (ab ok90 (ab ok233 (ab ok234 (ab ok235 af)))) Tryz.func203
theorem ok204 : FnOk Tryz.prog 204 sp204:=fo (nv:=2) (h:=h204) af Tryz.func204
theorem ok149 : FnOk Tryz.prog 149 sp149:=fo (nv:=7) (h:=h149) (ab ok203 (ab ok204 af)) Tryz.func149
theorem ok150 : FnOk Tryz.prog 150 sp150:=fo (nv:=2) (h:=h150) af Tryz.func150
theorem ok282 : FnOk Tryz.prog 282 sp282:=fo (nv:=9) (h:=h282) af Tryz.func282
theorem ok276 : FnOk Tryz.prog 276 sp276:=fo (nv:=2) (h:=h276) (ab ok282 af) Tryz.func276
theorem ok277 : FnOk Tryz.prog 277 sp277:=fo (nv:=3) (h:=h277) af Tryz.func277
theorem ok258 : FnOk Tryz.prog 258 sp258:=fo (nv:=5) (h:=h258) (ab ok276 (ab ok277 af)) Tryz.func258
theorem ok236 : FnOk Tryz.prog 236 sp236:=fo (nv:=11) (h:=h236) (ab ok258 af) Tryz.func236
theorem ok205 : FnOk Tryz.prog 205 sp205:=fo (nv:=11) (h:=h205) (ab ok150 (ab ok199 (ab ok200 (ab ok236 af)))) Tryz.func205
theorem ok151 : FnOk Tryz.prog 151 sp151:=fo (nv:=7) (h:=h151) (ab ok205 af) Tryz.func151
theorem ok195 : FnOk Tryz.prog 195 sp195:=fo (nv:=14) (h:=h195) (ab ok226 af) Tryz.func195
theorem ok227 : FnOk Tryz.prog 227 sp227:=fo (nv:=2) (h:=h227) af Tryz.func227
theorem ok196 : FnOk Tryz.prog 196 sp196:=fo (nv:=7) (h:=h196) (ab ok203 (ab ok227 af)) Tryz.func196
theorem ok228 : FnOk Tryz.prog 228 sp228:=fo (nv:=10) (h:=h228) af Tryz.func228
theorem ok229 : FnOk Tryz.prog 229 sp229:=fo (nv:=1) (h:=h229) af Tryz.func229
theorem ok197 : FnOk Tryz.prog 197 sp197:=fo (nv:=61) (h:=h197) (ab ok228 (ab ok229 af)) Tryz.func197
theorem IF : FnOk Tryz.prog 146 (sK 0):=⟨⟨Tryz.f146,by kernel_rfl,by kernel_rfl,by kernel_rfl⟩,fun a r hr => nomatch (show (none : Option _) = some r from hr)⟩
set_option maxHeartbeats 4000000 in
theorem H_ (n : Nat) (ih : FnOk Tryz.prog 146 (sK n)) : FnOk Tryz.prog 146 (sK (n + 1)):=fnOk (nv:=110) (h:=h146) tok mix (ab ih (ab ih (ab ok87 (ab ok149 (ab ok151 (ab ok195 (ab ok196 (ab ok197 af)))))))) Tryz.func146 (by kernel_rfl) (by kernel_rfl) (by kernel_rfl) (by kernel_rfl) (by kernel_rfl)
theorem Iy (n : Nat) : FnOk Tryz.prog 146 (sK n):=Nat.rec (motive:=fun n => FnOk Tryz.prog 146 (sK n)) IF (fun n ih => H_ n ih) n
theorem ok146 : FnOk Tryz.prog 146 sp146:=Iy 64
theorem ok86 : FnOk Tryz.prog 86 sp86:=fo (nv:=3) (h:=h86) (ab ok90 (ab ok146 af)) Tryz.func86
theorem ok165 : FnOk Tryz.prog 165 sp165:=fo (nv:=9) (h:=h165) af Tryz.func165
theorem ok166 : FnOk Tryz.prog 166 sp166:=fo (nv:=3) (h:=h166) af Tryz.func166
theorem ok101 : FnOk Tryz.prog 101 sp101:=fo (nv:=4) (h:=h101) (ab ok165 (ab ok166 af)) Tryz.func101
theorem Ft : FnOk Tryz.prog 201 GX:=fnOk (nv:=1) (h:=h201) tok mix af Tryz.func201 (by kernel_rfl) (by kernel_rfl) (by kernel_rfl) (by kernel_rfl) (by kernel_rfl)
set_option maxHeartbeats 2000000 in
theorem ID (p : Option Addr) (cap : Nat) (w : World) : Calls Tryz.prog 201 #[.slice p 0 cap] w fun e w' => ∃ p',e = .returned (.slice p' 0 0) ∧ RowKit.Below w.heap.size w w' ∧ w.drawn ≤ w'.drawn:=by
 have q:=qG (P:=Tryz.prog) (t:=53) Cl.und
 cases p with
 | none =>
  go_enter Tryz.func201,Tryz.ntmps201
  go_wp2
  go_ret
  exact ⟨_,rfl,.refl _ _,Nat.le_refl _⟩
 | some p =>
  go_enter Tryz.func201,Tryz.ntmps201
  go_wp2
  go_ret
  exact ⟨_,rfl,(RowKit.Below.refl _ w).alloc (Nat.le_refl _) _,Nat.le_refl _⟩
theorem ok201 : FnOk Tryz.prog 201 sp201:=ll Ft ID
theorem ok202 : FnOk Tryz.prog 202 sp202:=fo (nv:=4) (h:=h202) af Tryz.func202
theorem ok148 : FnOk Tryz.prog 148 sp148:=fo (nv:=3) (h:=h148) (ab ok201 (ab ok202 af)) Tryz.func148
theorem ok88 : FnOk Tryz.prog 88 sp88:=fo (nv:=7) (h:=h88) (ab ok101 (ab ok148 af)) Tryz.func88
theorem ok36 : FnOk Tryz.prog 36 sp36:=fo (nv:=47) (h:=h36) (ab ok39 (ab ok86 (ab ok87 (ab ok88 af)))) Tryz.func36
theorem ok89 : FnOk Tryz.prog 89 sp89:=fo (nv:=54) (h:=h89) (ab ok87 (ab ok149 (ab ok150 (ab ok151 af)))) Tryz.func89
theorem ok37 : FnOk Tryz.prog 37 sp37:=fo (nv:=20) (h:=h37) (ab ok86 (ab ok87 (ab ok89 (ab ok90 af)))) Tryz.func37
theorem ok91 : FnOk Tryz.prog 91 sp91:=fo (nv:=9) (h:=h91) af Tryz.func91
theorem ok153 : FnOk Tryz.prog 153 sp153:=fo (nv:=1) (h:=h153) af Tryz.func153
theorem ok92 : FnOk Tryz.prog 92 sp92:=fo (nv:=7) (h:=h92) (ab ok153 af) Tryz.func92
theorem ok154 : FnOk Tryz.prog 154 sp154:=fo (nv:=1) (h:=h154) af Tryz.func154
theorem ok93 : FnOk Tryz.prog 93 sp93:=fo (nv:=7) (h:=h93) (ab ok154 af) Tryz.func93
theorem ok38 : FnOk Tryz.prog 38 sp38:=fo (nv:=94) (h:=h38) (ab ok91 (ab ok92 (ab ok93 af))) Tryz.func38
theorem ok15 : FnOk Tryz.prog 15 sp15:=fo (nv:=9) (h:=h15) (ab ok36 (ab ok37 (ab ok38 (ab ok39 af)))) Tryz.func15
theorem ok47 : FnOk Tryz.prog 47 sp47:=fo (nv:=9) (h:=h47) af Tryz.func47
theorem G8 : FnOk Tryz.prog 107 G7:=fnOk (nv:=1) (h:=h107) tok mix af Tryz.func107 (by kernel_rfl) (by kernel_rfl) (by kernel_rfl) (by kernel_rfl) (by kernel_rfl)
set_option maxHeartbeats 2000000 in
theorem In (p : Option Addr) (cap : Nat) (w : World) : Calls Tryz.prog 107 #[.slice p 0 cap] w fun e w' => ∃ p',e = .returned (.slice p' 0 0) ∧ RowKit.Below w.heap.size w w' ∧ w.drawn ≤ w'.drawn:=by
 have q:=qG (P:=Tryz.prog) (t:=33) CI.und
 cases p with
 | none =>
  go_enter Tryz.func107,Tryz.ntmps107
  go_wp2
  go_ret
  exact ⟨_,rfl,.refl _ _,Nat.le_refl _⟩
 | some p =>
  go_enter Tryz.func107,Tryz.ntmps107
  go_wp2
  go_ret
  exact ⟨_,rfl,(RowKit.Below.refl _ w).alloc (Nat.le_refl _) _,Nat.le_refl _⟩
theorem ok107 : FnOk Tryz.prog 107 sp107:=ll G8 In
theorem Hn : FnOk Tryz.prog 158 FM:=fnOk (nv:=1) (h:=h158) tok mix af Tryz.func158 (by kernel_rfl) (by kernel_rfl) (by kernel_rfl) (by kernel_rfl) (by kernel_rfl)
set_option maxHeartbeats 2000000 in
theorem II (p : Option Addr) (cap : Nat) (w : World) : Calls Tryz.prog 158 #[.slice p 0 cap] w fun e w' => ∃ p',e = .returned (.slice p' 0 0) ∧ RowKit.Below w.heap.size w w' ∧ w.drawn ≤ w'.drawn:=by
 have q:=qG (P:=Tryz.prog) (t:=27) B4.und
 cases p with
 | none =>
  go_enter Tryz.func158,Tryz.ntmps158
  go_wp2
  go_ret
  exact ⟨_,rfl,.refl _ _,Nat.le_refl _⟩
 | some p =>
  go_enter Tryz.func158,Tryz.ntmps158
  go_wp2
  go_ret
  exact ⟨_,rfl,(RowKit.Below.refl _ w).alloc (Nat.le_refl _) _,Nat.le_refl _⟩
theorem ok158 : FnOk Tryz.prog 158 sp158:=ll Hn II
theorem GQ : FnOk Tryz.prog 159 Gx:=fnOk (nv:=1) (h:=h159) tok mix af Tryz.func159 (by kernel_rfl) (by kernel_rfl) (by kernel_rfl) (by kernel_rfl) (by kernel_rfl)
set_option maxHeartbeats 2000000 in
theorem Hv (p : Option Addr) (cap : Nat) (w : World) : Calls Tryz.prog 159 #[.slice p 0 cap] w fun e w' => ∃ p',e = .returned (.slice p' 0 0) ∧ RowKit.Below w.heap.size w w' ∧ w.drawn ≤ w'.drawn:=by
 have q:=qG (P:=Tryz.prog) (t:=28) Ck.und
 cases p with
 | none =>
  go_enter Tryz.func159,Tryz.ntmps159
  go_wp2
  go_ret
  exact ⟨_,rfl,.refl _ _,Nat.le_refl _⟩
 | some p =>
  go_enter Tryz.func159,Tryz.ntmps159
  go_wp2
  go_ret
  exact ⟨_,rfl,(RowKit.Below.refl _ w).alloc (Nat.le_refl _) _,Nat.le_refl _⟩
theorem ok159 : FnOk Tryz.prog 159 sp159:=ll GQ Hv
theorem FC : FnOk Tryz.prog 161 FW:=fnOk (nv:=1) (h:=h161) tok mix af Tryz.func161 (by kernel_rfl) (by kernel_rfl) (by kernel_rfl) (by kernel_rfl) (by kernel_rfl)
set_option maxHeartbeats 2000000 in
theorem H9 (p : Option Addr) (cap : Nat) (w : World) : Calls Tryz.prog 161 #[.slice p 0 cap] w fun e w' => ∃ p',e = .returned (.slice p' 0 0) ∧ RowKit.Below w.heap.size w w' ∧ w.drawn ≤ w'.drawn:=by
 have q:=qG (P:=Tryz.prog) (t:=31) B7.und
 cases p with
 | none =>
  go_enter Tryz.func161,Tryz.ntmps161
  go_wp2
  go_ret
  exact ⟨_,rfl,.refl _ _,Nat.le_refl _⟩
 | some p =>
  go_enter Tryz.func161,Tryz.ntmps161
  go_wp2
  go_ret
  exact ⟨_,rfl,(RowKit.Below.refl _ w).alloc (Nat.le_refl _) _,Nat.le_refl _⟩
theorem ok161 : FnOk Tryz.prog 161 sp161:=ll FC H9
theorem G9 : FnOk Tryz.prog 162 Gs:=fnOk (nv:=1) (h:=h162) tok mix af Tryz.func162 (by kernel_rfl) (by kernel_rfl) (by kernel_rfl) (by kernel_rfl) (by kernel_rfl)
set_option maxHeartbeats 2000000 in
theorem Im (p : Option Addr) (cap : Nat) (w : World) : Calls Tryz.prog 162 #[.slice p 0 cap] w fun e w' => ∃ p',e = .returned (.slice p' 0 0) ∧ RowKit.Below w.heap.size w w' ∧ w.drawn ≤ w'.drawn:=by
 have q:=qG (P:=Tryz.prog) (t:=34) CL.und
 cases p with
 | none =>
  go_enter Tryz.func162,Tryz.ntmps162
  go_wp2
  go_ret
  exact ⟨_,rfl,.refl _ _,Nat.le_refl _⟩
 | some p =>
  go_enter Tryz.func162,Tryz.ntmps162
  go_wp2
  go_ret
  exact ⟨_,rfl,(RowKit.Below.refl _ w).alloc (Nat.le_refl _) _,Nat.le_refl _⟩
theorem ok162 : FnOk Tryz.prog 162 sp162:=ll G9 Im
theorem Hl : FnOk Tryz.prog 163 Gt:=fnOk (nv:=1) (h:=h163) tok mix af Tryz.func163 (by kernel_rfl) (by kernel_rfl) (by kernel_rfl) (by kernel_rfl) (by kernel_rfl)
set_option maxHeartbeats 2000000 in
theorem IA (p : Option Addr) (cap : Nat) (w : World) : Calls Tryz.prog 163 #[.slice p 0 cap] w fun e w' => ∃ p',e = .returned (.slice p' 0 0) ∧ RowKit.Below w.heap.size w w' ∧ w.drawn ≤ w'.drawn:=by
 have q:=qG (P:=Tryz.prog) (t:=35) CH.und
 cases p with
 | none =>
  go_enter Tryz.func163,Tryz.ntmps163
  go_wp2
  go_ret
  exact ⟨_,rfl,.refl _ _,Nat.le_refl _⟩
 | some p =>
  go_enter Tryz.func163,Tryz.ntmps163
  go_wp2
  go_ret
  exact ⟨_,rfl,(RowKit.Below.refl _ w).alloc (Nat.le_refl _) _,Nat.le_refl _⟩
theorem ok163 : FnOk Tryz.prog 163 sp163:=ll Hl IA
theorem Hj : FnOk Tryz.prog 164 Fw:=fnOk (nv:=1) (h:=h164) tok mix af Tryz.func164 (by kernel_rfl) (by kernel_rfl) (by kernel_rfl) (by kernel_rfl) (by kernel_rfl)
set_option maxHeartbeats 2000000 in
theorem IU (p : Option Addr) (cap : Nat) (w : World) : Calls Tryz.prog 164 #[.slice p 0 cap] w fun e w' => ∃ p',e = .returned (.slice p' 0 0) ∧ RowKit.Below w.heap.size w w' ∧ w.drawn ≤ w'.drawn:=by
 have q:=qG (P:=Tryz.prog) (t:=32) BQ.und
 cases p with
 | none =>
  go_enter Tryz.func164,Tryz.ntmps164
  go_wp2
  go_ret
  exact ⟨_,rfl,.refl _ _,Nat.le_refl _⟩
 | some p =>
  go_enter Tryz.func164,Tryz.ntmps164
  go_wp2
  go_ret
  exact ⟨_,rfl,(RowKit.Below.refl _ w).alloc (Nat.le_refl _) _,Nat.le_refl _⟩
theorem ok164 : FnOk Tryz.prog 164 sp164:=ll Hj IU
theorem ok99 : FnOk Tryz.prog 99 sp99:=fo (nv:=62) (h:=h99) (ab ok107 (ab ok148 (ab ok158 (ab ok159 (ab ok160 (ab ok161 (ab ok162 (ab ok163 (ab ok164 af))))))))) Tryz.func99
theorem ok100 : FnOk Tryz.prog 100 sp100:=fo (nv:=3) (h:=h100) af Tryz.func100
theorem ok102 : FnOk Tryz.prog 102 sp102:=⟨⟨Tryz.f102,by kernel_rfl,by kernel_rfl,by kernel_rfl⟩,fun a r hr => nomatch (show (none : Option _) = some r from hr)⟩
theorem ok103 : FnOk Tryz.prog 103 sp103:=⟨⟨Tryz.f103,by kernel_rfl,by kernel_rfl,by kernel_rfl⟩,fun a r hr => nomatch (show (none : Option _) = some r from hr)⟩
theorem ok45 : FnOk Tryz.prog 45 sp45:=fo (nv:=17) (h:=h45) (ab ok47 (ab ok99 (ab ok100 (ab ok101 (ab ok102 (ab ok103 af)))))) Tryz.func45
theorem hB46 (p : Option Addr) (cap : Nat) (w : World) : Calls Tryz.prog 106 #[.slice p 0 cap] w fun e w' => e = .returned (.func (.func 169) #[] #[.pointer (some ⟨w.heap.size,0,none⟩)]) ∧ w' = w.alloc (.cells #[.slice p 0 cap] 33 (0,0)):=by
 go_enter Tryz.func106,Tryz.ntmps106
 go_wp2
 go_ret
 exact ⟨rfl,rfl⟩
theorem hC46 (y : Value) (p : Option Addr) (cap b : Nat) (w : World) (h : w.heap[b]? = some (.cells #[.slice p 0 cap] 33 (0,0))) : Calls Tryz.prog 169 #[y,.pointer (some ⟨b,0,none⟩)] w fun e w' => (∃ v,e = .returned v) ∧ w' = w:=by
 have hcell : w.cell? ⟨b,0,none⟩ = some (.slice p 0 cap):=by simp [World.cell?,h]
 have hl : (Instr.loadAt 33 (.pointer (some ⟨b,0,none⟩))).run Tryz.prog w = .ok (.slice p 0 cap) w:=by simp [Instr.loadAt,go_sem,hcell]
 go_enter Tryz.func169,Tryz.ntmps169
 go_wp2_with (simp only [hl])
 refine wp_loop_once ?_
 go_wp2
 exact ⟨rfl,.tuple #[],sj (vs:=[]) (by kernel_rfl),⟨_,rfl⟩,rfl⟩
theorem ok46 : FnOk Tryz.prog 46 sp46:=Jr (nv:=48) (fB:=106) (fC:=169) (te:=33) tok (ab ok107 af) Tryz.func46 (by kernel_rfl) (by kernel_rfl) (by kernel_rfl) (by kernel_rfl) ⟨Tryz.f106,by kernel_rfl,by kernel_rfl,by kernel_rfl⟩ ⟨Tryz.f169,by kernel_rfl,by kernel_rfl,by kernel_rfl⟩ hB46 hC46 (by kernel_rfl)
theorem ok48 : FnOk Tryz.prog 48 sp48:=fo (nv:=3) (h:=h48) af Tryz.func48
theorem ok49 : FnOk Tryz.prog 49 sp49:=fo (nv:=2) (h:=h49) (ab ok47 af) Tryz.func49
theorem ok50 : FnOk Tryz.prog 50 sp50:=fo (nv:=3) (h:=h50) af Tryz.func50
theorem ok178 : FnOk Tryz.prog 178 sp178:=fo (nv:=2) (h:=h178) (ab ok153 af) Tryz.func178
theorem ok172 : FnOk Tryz.prog 172 sp172:=fo (nv:=8) (h:=h172) (ab ok178 af) Tryz.func172
theorem ok212 : FnOk Tryz.prog 212 sp212:=fo (nv:=10) (h:=h212) (ab ok178 af) Tryz.func212
theorem ok173 : FnOk Tryz.prog 173 sp173:=fo (nv:=11) (h:=h173) (ab ok212 af) Tryz.func173
theorem ok112 : FnOk Tryz.prog 112 sp112:=fo (nv:=1) (h:=h112) (ab ok182 af) Tryz.func112
theorem ok213 : FnOk Tryz.prog 213 sp213:=fo (nv:=1) (h:=h213) (ab ok112 af) Tryz.func213
theorem ok214 : FnOk Tryz.prog 214 sp214:=fo (nv:=1) (h:=h214) af Tryz.func214
theorem ok174 : FnOk Tryz.prog 174 sp174:=fo (nv:=11) (h:=h174) (ab ok213 (ab ok214 af)) Tryz.func174
theorem ok242 : FnOk Tryz.prog 242 sp242:=fo (nv:=9) (h:=h242) (ab ok178 af) Tryz.func242
theorem ok216 : FnOk Tryz.prog 216 sp216:=fo (nv:=5) (h:=h216) (ab ok242 af) Tryz.func216
theorem ok215 : FnOk Tryz.prog 215 sp215:=fo (nv:=3) (h:=h215) (ab ok216 af) Tryz.func215
theorem ok175 : FnOk Tryz.prog 175 sp175:=fo (nv:=50) (h:=h175) (ab ok215 (ab ok216 af)) Tryz.func175
theorem ok176 : FnOk Tryz.prog 176 sp176:=fo (nv:=8) (h:=h176) af Tryz.func176
theorem ok177 : FnOk Tryz.prog 177 sp177:=fo (nv:=11) (h:=h177) (ab ok178 af) Tryz.func177
theorem ok179 : FnOk Tryz.prog 179 sp179:=fo (nv:=11) (h:=h179) (ab ok178 af) Tryz.func179
theorem ok180 : FnOk Tryz.prog 180 sp180:=fo (nv:=12) (h:=h180) (ab ok178 af) Tryz.func180
theorem CC : ∀ n,FnOk Tryz.prog 111 (H6 n)
 | 0 => ⟨⟨Tryz.f111,by kernel_rfl,by kernel_rfl,by kernel_rfl⟩,fun a r hr => nomatch (show (none : Option _) = some r from hr)⟩
 | n + 1 => fnOk (nv:=19) (h:=h111) tok mix (ab (CC n) (ab ok172 (ab ok173 (ab ok174 (ab ok175 (ab ok176 (ab ok177 (ab ok178 (ab ok179 (ab ok180 af)))))))))) Tryz.func111 (by kernel_rfl) (by kernel_rfl) (by kernel_rfl) (by kernel_rfl) (by kernel_rfl)
theorem ok111 : FnOk Tryz.prog 111 sp111:=CC 64
theorem ok51 : FnOk Tryz.prog 51 sp51:=fo (nv:=1) (h:=h51) (ab ok111 (ab ok112 af)) Tryz.func51
theorem ok17 : FnOk Tryz.prog 17 sp17:=fo (nv:=48) (h:=h17) (ab ok15 (ab ok45 (ab ok46 (ab ok47 (ab ok48 (ab ok49 (ab ok50 (ab ok51 af)))))))) Tryz.func17
theorem ok55 : FnOk Tryz.prog 55 sp55:=fo (nv:=10) (h:=h55) af Tryz.func55
theorem ok115 : FnOk Tryz.prog 115 sp115:=fo (nv:=6) (h:=h115) af Tryz.func115
theorem ok56 : FnOk Tryz.prog 56 sp56:=fo (nv:=6) (h:=h56) (ab ok115 af) Tryz.func56
theorem ok19 : FnOk Tryz.prog 19 sp19:=fo (nv:=11) (h:=h19) (ab ok55 (ab ok56 af)) Tryz.func19
theorem ok29 : FnOk Tryz.prog 29 sp29:=fo (nv:=1) (h:=h29) af Tryz.func29
theorem ok10 : FnOk Tryz.prog 10 sp10:=fo (nv:=3) (h:=h10) (ab ok15 (ab ok17 (ab ok19 (ab ok29 af)))) Tryz.func10
theorem ok11 : FnOk Tryz.prog 11 sp11:=fo (nv:=2) (h:=h11) af Tryz.func11
theorem ok26 : FnOk Tryz.prog 26 sp26:=fo (nv:=2) (h:=h26) af Tryz.func26
theorem ok183 : FnOk Tryz.prog 183 sp183:=fo (nv:=4) (h:=h183) af Tryz.func183
theorem ok116 : FnOk Tryz.prog 116 sp116:=fo (nv:=6) (h:=h116) (ab ok183 af) Tryz.func116
theorem ok121 : FnOk Tryz.prog 121 sp121:=fo (nv:=8) (h:=h121) af Tryz.func121
theorem ok145 : FnOk Tryz.prog 145 sp145:=fo (nv:=4) (h:=h145) af Tryz.func145
theorem ok184 : FnOk Tryz.prog 184 sp184:=fo (nv:=6) (h:=h184) (ab ok183 af) Tryz.func184
theorem ok117 : FnOk Tryz.prog 117 sp117:=fo (nv:=10) (h:=h117) (ab ok121 (ab ok145 (ab ok184 af))) Tryz.func117
theorem ok80 : FnOk Tryz.prog 80 sp80:=fo (nv:=7) (h:=h80) (ab ok145 af) Tryz.func80
theorem ok118 : FnOk Tryz.prog 118 sp118:=fo (nv:=9) (h:=h118) (ab ok80 (ab ok121 af)) Tryz.func118
theorem ok57 : FnOk Tryz.prog 57 sp57:=fo (nv:=5) (h:=h57) (ab ok116 (ab ok117 (ab ok118 af))) Tryz.func57
theorem ok63 : FnOk Tryz.prog 63 sp63:=fo (nv:=3) (h:=h63) (ab ok80 (ab ok121 af)) Tryz.func63
theorem ok77 : FnOk Tryz.prog 77 sp77:=fo (nv:=6) (h:=h77) af Tryz.func77
theorem ok187 : FnOk Tryz.prog 187 sp187:=fo (nv:=8) (h:=h187) af Tryz.func187
theorem ok188 : FnOk Tryz.prog 188 sp188:=fo (nv:=6) (h:=h188) (ab ok187 af) Tryz.func188
theorem ok218 : FnOk Tryz.prog 218 sp218:=fo (nv:=6) (h:=h218) af Tryz.func218
theorem ok219 : FnOk Tryz.prog 219 sp219:=fo (nv:=8) (h:=h219) (ab ok218 af) Tryz.func219
theorem ok189 : FnOk Tryz.prog 189 sp189:=fo (nv:=11) (h:=h189) (ab ok218 (ab ok219 af)) Tryz.func189
theorem ok125 : FnOk Tryz.prog 125 sp125:=fo (nv:=12) (h:=h125) (ab ok187 (ab ok188 (ab ok189 af))) Tryz.func125
theorem ok68 : FnOk Tryz.prog 68 sp68:=fo (nv:=10) (h:=h68) (ab ok26 (ab ok57 (ab ok63 (ab ok77 (ab ok125 af))))) Tryz.func68
theorem ok61 : FnOk Tryz.prog 61 sp61:=fo (nv:=7) (h:=h61) af Tryz.func61
theorem ok126 : FnOk Tryz.prog 126 sp126:=fo (nv:=1) (h:=h126) af Tryz.func126
theorem ok127 : FnOk Tryz.prog 127 sp127:=fo (nv:=7) (h:=h127) af Tryz.func127
theorem ok69 : FnOk Tryz.prog 69 sp69:=fo (nv:=8) (h:=h69) (ab ok61 (ab ok126 (ab ok127 af))) Tryz.func69
theorem ok21 : FnOk Tryz.prog 21 sp21:=fo (nv:=7) (h:=h21) af Tryz.func21
theorem ok22 : FnOk Tryz.prog 22 sp22:=fo (nv:=7) (h:=h22) af Tryz.func22
theorem ok66 : FnOk Tryz.prog 66 sp66:=fo (nv:=11) (h:=h66) af Tryz.func66
theorem ok67 : FnOk Tryz.prog 67 sp67:=fo (nv:=7) (h:=h67) af Tryz.func67
theorem ok133 : FnOk Tryz.prog 133 sp133:=fo (nv:=2) (h:=h133) af Tryz.func133
theorem ok137 : FnOk Tryz.prog 137 sp137:=fo (nv:=7) (h:=h137) af Tryz.func137
theorem ok138 : FnOk Tryz.prog 138 sp138:=fo (nv:=8) (h:=h138) af Tryz.func138
theorem ok114 : FnOk Tryz.prog 114 sp114:=fo (nv:=9) (h:=h114) (ab ok21 (ab ok22 (ab ok66 (ab ok67 (ab ok133 (ab ok137 (ab ok138 af))))))) Tryz.func114
theorem ok128 : FnOk Tryz.prog 128 sp128:=fo (nv:=7) (h:=h128) af Tryz.func128
theorem ok129 : FnOk Tryz.prog 129 sp129:=fo (nv:=9) (h:=h129) (ab ok61 (ab ok127 af)) Tryz.func129
theorem ok220 : FnOk Tryz.prog 220 sp220:=fo (nv:=7) (h:=h220) af Tryz.func220
theorem ok140 : FnOk Tryz.prog 140 sp140:=fo (nv:=7) (h:=h140) af Tryz.func140
theorem ok224 : FnOk Tryz.prog 224 sp224:=fo (nv:=4) (h:=h224) af Tryz.func224
theorem ok243 : FnOk Tryz.prog 243 sp243:=fo (nv:=7) (h:=h243) af Tryz.func243
theorem ok262 : FnOk Tryz.prog 262 sp262:=fo (nv:=4) (h:=h262) af Tryz.func262
theorem ok244 : FnOk Tryz.prog 244 sp244:=fo (nv:=8) (h:=h244) (ab ok262 af) Tryz.func244
theorem ok95 : FnOk Tryz.prog 95 sp95:=fo (nv:=5) (h:=h95) af Tryz.func95
theorem ok123 : FnOk Tryz.prog 123 sp123:=fo (nv:=4) (h:=h123) (ab ok145 af) Tryz.func123
theorem ok122 : FnOk Tryz.prog 122 sp122:=fo (nv:=7) (h:=h122) (ab ok123 af) Tryz.func122
theorem ok64 : FnOk Tryz.prog 64 sp64:=fo (nv:=14) (h:=h64) (ab ok22 (ab ok95 (ab ok122 af))) Tryz.func64
theorem ok23 : FnOk Tryz.prog 23 sp23:=fo (nv:=7) (h:=h23) (ab ok64 af) Tryz.func23
theorem ok41 : FnOk Tryz.prog 41 sp41:=fo (nv:=7) (h:=h41) (ab ok95 af) Tryz.func41
theorem ok217 : FnOk Tryz.prog 217 sp217:=fo (nv:=1) (h:=h217) af Tryz.func217
theorem ok185 : FnOk Tryz.prog 185 sp185:=fo (nv:=2) (h:=h185) (ab ok217 af) Tryz.func185
theorem ok186 : FnOk Tryz.prog 186 sp186:=fo (nv:=2) (h:=h186) af Tryz.func186
theorem ok124 : FnOk Tryz.prog 124 sp124:=fo (nv:=7) (h:=h124) (ab ok185 (ab ok186 af)) Tryz.func124
theorem ok65 : FnOk Tryz.prog 65 sp65:=fo (nv:=17) (h:=h65) (ab ok41 (ab ok121 (ab ok123 (ab ok124 af)))) Tryz.func65
theorem ok27 : FnOk Tryz.prog 27 sp27:=fo (nv:=7) (h:=h27) (ab ok65 af) Tryz.func27
theorem ok245 : FnOk Tryz.prog 245 sp245:=fo (nv:=6) (h:=h245) (ab ok23 (ab ok27 (ab ok95 (ab ok224 af)))) Tryz.func245
theorem ok263 : FnOk Tryz.prog 263 sp263:=fo (nv:=9) (h:=h263) (ab ok64 af) Tryz.func263
theorem ok264 : FnOk Tryz.prog 264 sp264:=fo (nv:=10) (h:=h264) (ab ok27 (ab ok121 (ab ok124 af))) Tryz.func264
theorem ok246 : FnOk Tryz.prog 246 sp246:=fo (nv:=5) (h:=h246) (ab ok224 (ab ok263 (ab ok264 af))) Tryz.func246
theorem ok120 : FnOk Tryz.prog 120 sp120:=fo (nv:=7) (h:=h120) (ab ok95 af) Tryz.func120
theorem ok265 : FnOk Tryz.prog 265 sp265:=fo (nv:=5) (h:=h265) af Tryz.func265
theorem ok247 : FnOk Tryz.prog 247 sp247:=fo (nv:=6) (h:=h247) (ab ok61 (ab ok120 (ab ok265 af))) Tryz.func247
theorem ok155 : FnOk Tryz.prog 155 sp155:=fo (nv:=7) (h:=h155) (ab ok65 af) Tryz.func155
theorem ok266 : FnOk Tryz.prog 266 sp266:=fo (nv:=8) (h:=h266) (ab ok95 af) Tryz.func266
theorem ok248 : FnOk Tryz.prog 248 sp248:=fo (nv:=12) (h:=h248) (ab ok23 (ab ok41 (ab ok95 (ab ok123 (ab ok155 (ab ok224 (ab ok265 (ab ok266 af)))))))) Tryz.func248
theorem ok267 : FnOk Tryz.prog 267 sp267:=fo (nv:=10) (h:=h267) af Tryz.func267
theorem ok249 : FnOk Tryz.prog 249 sp249:=fo (nv:=12) (h:=h249) (ab ok67 (ab ok267 af)) Tryz.func249
theorem ok221 : FnOk Tryz.prog 221 sp221:=fo (nv:=16) (h:=h221) (ab ok22 (ab ok26 (ab ok140 (ab ok224 (ab ok243 (ab ok244 (ab ok245 (ab ok246 (ab ok247 (ab ok248 (ab ok249 af))))))))))) Tryz.func221
theorem ok288 : FnOk Tryz.prog 288 sp288:=fo (nv:=12) (h:=h288) af Tryz.func288
theorem ok286 : FnOk Tryz.prog 286 sp286:=fo (nv:=9) (h:=h286) (ab ok288 af) Tryz.func286
theorem ok287 : FnOk Tryz.prog 287 sp287:=fo (nv:=7) (h:=h287) (ab ok286 af) Tryz.func287
theorem ok285 : FnOk Tryz.prog 285 sp285:=fo (nv:=8) (h:=h285) (ab ok185 (ab ok286 (ab ok287 af))) Tryz.func285
theorem ok284 : FnOk Tryz.prog 284 sp284:=fo (nv:=5) (h:=h284) (ab ok23 (ab ok27 (ab ok285 af))) Tryz.func284
theorem ok279 : FnOk Tryz.prog 279 sp279:=fo (nv:=11) (h:=h279) (ab ok80 (ab ok284 af)) Tryz.func279
theorem BS : ∀ n,FnOk Tryz.prog 268 (HH n)
 | 0 => ⟨⟨Tryz.f268,by kernel_rfl,by kernel_rfl,by kernel_rfl⟩,fun a r hr => nomatch (show (none : Option _) = some r from hr)⟩
 | n + 1 => fnOk (nv:=10) (h:=h268) tok mix (ab (BS n) (ab ok279 af)) Tryz.func268 (by kernel_rfl) (by kernel_rfl) (by kernel_rfl) (by kernel_rfl) (by kernel_rfl)
theorem ok268 : FnOk Tryz.prog 268 sp268:=BS 64
theorem ok250 : FnOk Tryz.prog 250 sp250:=fo (nv:=3) (h:=h250) (ab ok268 af) Tryz.func250
theorem ok251 : FnOk Tryz.prog 251 sp251:=fo (nv:=12) (h:=h251) (ab ok26 af) Tryz.func251
theorem ok269 : FnOk Tryz.prog 269 sp269:=fo (nv:=7) (h:=h269) af Tryz.func269
theorem ok270 : FnOk Tryz.prog 270 sp270:=fo (nv:=8) (h:=h270) af Tryz.func270
theorem ok271 : FnOk Tryz.prog 271 sp271:=fo (nv:=6) (h:=h271) af Tryz.func271
theorem ok252 : FnOk Tryz.prog 252 sp252:=fo (nv:=16) (h:=h252) (ab ok67 (ab ok224 (ab ok244 (ab ok245 (ab ok247 (ab ok248 (ab ok249 (ab ok262 (ab ok269 (ab ok270 (ab ok271 af))))))))))) Tryz.func252
theorem ok222 : FnOk Tryz.prog 222 sp222:=fo (nv:=21) (h:=h222) (ab ok22 (ab ok246 (ab ok250 (ab ok251 (ab ok252 af))))) Tryz.func222
theorem ok190 : FnOk Tryz.prog 190 sp190:=fo (nv:=17) (h:=h190) (ab ok61 (ab ok220 (ab ok221 (ab ok222 af)))) Tryz.func190
theorem ok130 : FnOk Tryz.prog 130 sp130:=fo (nv:=11) (h:=h130) (ab ok190 af) Tryz.func130
theorem ok70 : FnOk Tryz.prog 70 sp70:=fo (nv:=13) (h:=h70) (ab ok21 (ab ok61 (ab ok77 (ab ok114 (ab ok128 (ab ok129 (ab ok130 af))))))) Tryz.func70
theorem ok131 : FnOk Tryz.prog 131 sp131:=fo (nv:=1) (h:=h131) af Tryz.func131
theorem ok132 : FnOk Tryz.prog 132 sp132:=fo (nv:=6) (h:=h132) (ab ok26 af) Tryz.func132
theorem ok71 : FnOk Tryz.prog 71 sp71:=fo (nv:=10) (h:=h71) (ab ok22 (ab ok26 (ab ok63 (ab ok67 (ab ok131 (ab ok132 (ab ok133 af))))))) Tryz.func71
theorem ok134 : FnOk Tryz.prog 134 sp134:=fo (nv:=8) (h:=h134) (ab ok21 af) Tryz.func134
theorem ok135 : FnOk Tryz.prog 135 sp135:=fo (nv:=7) (h:=h135) af Tryz.func135
theorem ok223 : FnOk Tryz.prog 223 sp223:=fo (nv:=1) (h:=h223) af Tryz.func223
theorem ok191 : FnOk Tryz.prog 191 sp191:=fo (nv:=3) (h:=h191) (ab ok223 af) Tryz.func191
theorem ok192 : FnOk Tryz.prog 192 sp192:=fo (nv:=9) (h:=h192) af Tryz.func192
theorem ok136 : FnOk Tryz.prog 136 sp136:=fo (nv:=10) (h:=h136) (ab ok191 (ab ok192 af)) Tryz.func136
theorem ok72 : FnOk Tryz.prog 72 sp72:=fo (nv:=14) (h:=h72) (ab ok21 (ab ok22 (ab ok67 (ab ok77 (ab ok134 (ab ok135 (ab ok136 (ab ok137 (ab ok138 af))))))))) Tryz.func72
theorem ok30 : FnOk Tryz.prog 30 sp30:=fo (nv:=9) (h:=h30) (ab ok22 (ab ok26 (ab ok66 (ab ok67 af)))) Tryz.func30
theorem ok73 : FnOk Tryz.prog 73 sp73:=fo (nv:=11) (h:=h73) (ab ok22 (ab ok26 (ab ok30 (ab ok77 af)))) Tryz.func73
theorem ok157 : FnOk Tryz.prog 157 sp157:=fo (nv:=7) (h:=h157) (ab ok95 af) Tryz.func157
theorem ok96 : FnOk Tryz.prog 96 sp96:=fo (nv:=9) (h:=h96) (ab ok26 (ab ok95 (ab ok122 (ab ok157 af)))) Tryz.func96
theorem ok206 : FnOk Tryz.prog 206 sp206:=fo (nv:=1) (h:=h206) af Tryz.func206
theorem ok156 : FnOk Tryz.prog 156 sp156:=fo (nv:=16) (h:=h156) (ab ok206 af) Tryz.func156
theorem DO : ∀ n,FnOk Tryz.prog 94 (Ju n)
 | 0 => ⟨⟨Tryz.f94,by kernel_rfl,by kernel_rfl,by kernel_rfl⟩,fun a r hr => nomatch (show (none : Option _) = some r from hr)⟩
 | n + 1 => fnOk (nv:=17) (h:=h94) tok mix (ab (DO n) (ab ok23 (ab ok27 (ab ok80 (ab ok96 (ab ok155 (ab ok156 af))))))) Tryz.func94 (by kernel_rfl) (by kernel_rfl) (by kernel_rfl) (by kernel_rfl) (by kernel_rfl)
theorem ok94 : FnOk Tryz.prog 94 sp94:=DO 64
theorem ok40 : FnOk Tryz.prog 40 sp40:=fo (nv:=9) (h:=h40) (ab ok41 (ab ok94 af)) Tryz.func40
theorem ok42 : FnOk Tryz.prog 42 sp42:=fo (nv:=12) (h:=h42) (ab ok23 (ab ok26 (ab ok27 (ab ok96 af)))) Tryz.func42
theorem ok97 : FnOk Tryz.prog 97 sp97:=fo (nv:=6) (h:=h97) (ab ok22 af) Tryz.func97
theorem ok98 : FnOk Tryz.prog 98 sp98:=fo (nv:=6) (h:=h98) af Tryz.func98
theorem ok43 : FnOk Tryz.prog 43 sp43:=fo (nv:=12) (h:=h43) (ab ok97 (ab ok98 af)) Tryz.func43
theorem ok44 : FnOk Tryz.prog 44 sp44:=fo (nv:=14) (h:=h44) (ab ok97 (ab ok98 af)) Tryz.func44
theorem ok16 : FnOk Tryz.prog 16 sp16:=fo (nv:=15) (h:=h16) (ab ok23 (ab ok40 (ab ok41 (ab ok42 (ab ok43 (ab ok44 af)))))) Tryz.func16
theorem ok24 : FnOk Tryz.prog 24 sp24:=fo (nv:=9) (h:=h24) (ab ok40 af) Tryz.func24
theorem ok53 : FnOk Tryz.prog 53 sp53:=fo (nv:=9) (h:=h53) af Tryz.func53
theorem ok113 : FnOk Tryz.prog 113 sp113:=fo (nv:=7) (h:=h113) af Tryz.func113
theorem ok52 : FnOk Tryz.prog 52 sp52:=fo (nv:=10) (h:=h52) (ab ok21 (ab ok23 (ab ok24 (ab ok53 (ab ok97 (ab ok113 (ab ok114 af))))))) Tryz.func52
theorem ok54 : FnOk Tryz.prog 54 sp54:=fo (nv:=7) (h:=h54) (ab ok21 af) Tryz.func54
theorem ok18 : FnOk Tryz.prog 18 sp18:=fo (nv:=8) (h:=h18) (ab ok16 (ab ok52 (ab ok53 (ab ok54 af)))) Tryz.func18
theorem ok139 : FnOk Tryz.prog 139 sp139:=fo (nv:=5) (h:=h139) af Tryz.func139
theorem ok141 : FnOk Tryz.prog 141 sp141:=fo (nv:=6) (h:=h141) (ab ok61 (ab ok127 af)) Tryz.func141
theorem ok142 : FnOk Tryz.prog 142 sp142:=fo (nv:=5) (h:=h142) af Tryz.func142
theorem ok143 : FnOk Tryz.prog 143 sp143:=fo (nv:=6) (h:=h143) af Tryz.func143
theorem ok74 : FnOk Tryz.prog 74 sp74:=fo (nv:=12) (h:=h74) (ab ok18 (ab ok54 (ab ok77 (ab ok114 (ab ok128 (ab ok139 (ab ok140 (ab ok141 (ab ok142 (ab ok143 af)))))))))) Tryz.func74
theorem ok193 : FnOk Tryz.prog 193 sp193:=fo (nv:=1) (h:=h193) af Tryz.func193
theorem ok225 : FnOk Tryz.prog 225 sp225:=fo (nv:=9) (h:=h225) (ab ok95 af) Tryz.func225
theorem ok194 : FnOk Tryz.prog 194 sp194:=fo (nv:=12) (h:=h194) (ab ok95 (ab ok224 (ab ok225 af))) Tryz.func194
theorem ok144 : FnOk Tryz.prog 144 sp144:=fo (nv:=13) (h:=h144) (ab ok193 (ab ok194 af)) Tryz.func144
theorem ok75 : FnOk Tryz.prog 75 sp75:=fo (nv:=13) (h:=h75) (ab ok41 (ab ok144 af)) Tryz.func75
theorem ok76 : FnOk Tryz.prog 76 sp76:=fo (nv:=8) (h:=h76) af Tryz.func76
theorem ok32 : FnOk Tryz.prog 32 sp32:=fo (nv:=17) (h:=h32) (ab ok68 (ab ok69 (ab ok70 (ab ok71 (ab ok72 (ab ok73 (ab ok74 (ab ok75 (ab ok76 (ab ok77 af)))))))))) Tryz.func32
theorem E9 : ∀ n,FnOk Tryz.prog 78 (IY n)
 | 0 => ⟨⟨Tryz.f78,by kernel_rfl,by kernel_rfl,by kernel_rfl⟩,fun a r hr => nomatch (show (none : Option _) = some r from hr)⟩
 | n + 1 => fnOk (nv:=1) (h:=h78) tok mix (ab (E9 n) af) Tryz.func78 (by kernel_rfl) (by kernel_rfl) (by kernel_rfl) (by kernel_rfl) (by kernel_rfl)
theorem ok78 : FnOk Tryz.prog 78 sp78:=E9 64
theorem ok33 : FnOk Tryz.prog 33 sp33:=fo (nv:=8) (h:=h33) (ab ok78 af) Tryz.func33
theorem ok79 : FnOk Tryz.prog 79 sp79:=fo (nv:=6) (h:=h79) af Tryz.func79
theorem ok81 : FnOk Tryz.prog 81 sp81:=fo (nv:=2) (h:=h81) af Tryz.func81
theorem ok34 : FnOk Tryz.prog 34 sp34:=fo (nv:=19) (h:=h34) (ab ok79 (ab ok79 (ab ok80 (ab ok81 af)))) Tryz.func34
theorem ok82 : FnOk Tryz.prog 82 sp82:=fo (nv:=6) (h:=h82) af Tryz.func82
theorem ok83 : FnOk Tryz.prog 83 sp83:=fo (nv:=5) (h:=h83) (ab ok63 af) Tryz.func83
theorem ok84 : FnOk Tryz.prog 84 sp84:=fo (nv:=3) (h:=h84) (ab ok82 af) Tryz.func84
theorem ok85 : FnOk Tryz.prog 85 sp85:=fo (nv:=9) (h:=h85) (ab ok82 (ab ok84 af)) Tryz.func85
theorem ok35 : FnOk Tryz.prog 35 sp35:=fo (nv:=30) (h:=h35) (ab ok33 (ab ok34 (ab ok82 (ab ok83 (ab ok84 (ab ok85 af)))))) Tryz.func35
theorem ok13 : FnOk Tryz.prog 13 sp13:=fo (nv:=7) (h:=h13) (ab ok29 (ab ok32 (ab ok33 (ab ok34 (ab ok35 af))))) Tryz.func13
theorem ok5 : FnOk Tryz.prog 5 sp5:=fo (nv:=17) (h:=h5) (ab ok10 (ab ok11 (ab ok13 (ab ok15 (ab ok21 (ab ok22 (ab ok23 (ab ok24 (ab ok26 (ab ok27 af)))))))))) Tryz.func5
end Go.Fx.D
