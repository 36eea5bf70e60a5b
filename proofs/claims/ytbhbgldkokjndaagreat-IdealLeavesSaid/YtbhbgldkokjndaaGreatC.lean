/-
  Each of these functions does what its function over plain data says, where that gives an answer (printed by a program). Conditions: none.
-/
import Derived.Test.YtbhbgldkokjndaaGreatD
import Derived.Test.YtbhbgldkokjndaaGreatFxC
import Derived.Test.YtbhbgldkokjndaaGreatChecked
import Derived.WalkKit
namespace Go.Fx.D
open Go Go.Fx Go.Proofs Go.RowKit Go.Lib
set_option linter.unusedVariables false
set_option maxRecDepth 100000
theorem rk {t : TypeId} {i : TI fam} (j : TypeInfo) (h1 : Tryz.prog.underlying t = some i.desc:=by kernel_rfl) (h2 : Tryz.prog.info? t = some j:=by kernel_rfl) (h3 : j.zero = some (j.zero.getD .nilFunc):=by kernel_rfl) (h4 : (Nat.beq j.size i.size && Nat.beq j.bytes i.bytes && Nat.beq (j.zero.getD .nilFunc).cells.size i.size && zok i.zero (j.zero.getD .nilFunc).cells.toList) = true:=by kernel_rfl) (h5 : tyOk i = true:=by kernel_rfl) (h6 : eqOkB Tryz.prog t i = true:=by kernel_rfl) : RowOk Tryz.prog t i:=⟨h1,⟨j,_,h2,h3,h4⟩,h5,h6⟩
theorem z9 : RowOk Tryz.prog 3 row3:=rk Tryz.t3
theorem Ab : RowOk Tryz.prog 4 row4:=rk Tryz.t4
theorem Af : RowOk Tryz.prog 5 row5:=rk Tryz.t5
theorem z3 : RowOk Tryz.prog 9 row9:=rk Tryz.t9
theorem zo : RowOk Tryz.prog 22 row22:=rk Tryz.t22
theorem zh : RowOk Tryz.prog 23 row23:=rk Tryz.t23
theorem zu : RowOk Tryz.prog 25 row25:=rk Tryz.t25
theorem zH : RowOk Tryz.prog 27 row27:=rk Tryz.t27
theorem zS : RowOk Tryz.prog 28 row28:=rk Tryz.t28
theorem zL : RowOk Tryz.prog 30 row30:=rk Tryz.t30
theorem yE : RowOk Tryz.prog 31 row31:=rk Tryz.t31
theorem zk : RowOk Tryz.prog 32 row32:=rk Tryz.t32
theorem zj : RowOk Tryz.prog 33 row33:=rk Tryz.t33
theorem zn : RowOk Tryz.prog 34 row34:=rk Tryz.t34
theorem zK : RowOk Tryz.prog 35 row35:=rk Tryz.t35
theorem zx : RowOk Tryz.prog 37 row37:=rk Tryz.t37
theorem zM : RowOk Tryz.prog 39 row39:=rk Tryz.t39
theorem yS : RowOk Tryz.prog 41 row41:=rk Tryz.t41
theorem zF : RowOk Tryz.prog 44 row44:=rk Tryz.t44
theorem yH : RowOk Tryz.prog 45 row45:=rk Tryz.t45
theorem zP : RowOk Tryz.prog 47 row47:=rk Tryz.t47
theorem yQ : RowOk Tryz.prog 54 row54:=rk Tryz.t54
theorem zt : RowOk Tryz.prog 58 row58:=rk Tryz.t58
theorem zg : RowOk Tryz.prog 60 row60:=rk Tryz.t60
theorem zG : RowOk Tryz.prog 65 row65:=rk Tryz.t65
theorem yJ : RowOk Tryz.prog 67 row67:=rk Tryz.t67
theorem zl : RowOk Tryz.prog 69 row69:=rk Tryz.t69
theorem zy : RowOk Tryz.prog 71 row71:=rk Tryz.t71
theorem zc : RowOk Tryz.prog 73 row73:=rk Tryz.t73
theorem zr : RowOk Tryz.prog 86 row86:=rk Tryz.t86
theorem uk : RowOk Tryz.prog 87 row87:=rk Tryz.t87
theorem yW : RowOk Tryz.prog 89 row89:=rk Tryz.t89
theorem zN : RowOk Tryz.prog 91 row91:=rk Tryz.t91
theorem zf : RowOk Tryz.prog 93 row93:=rk Tryz.t93
theorem xz : RowOk Tryz.prog 118 wF:=rk Tryz.t118
theorem wU : RowOk Tryz.prog 123 vA:=rk Tryz.t123
theorem xN : RowOk Tryz.prog 124 vX:=rk Tryz.t124
theorem xW : RowOk Tryz.prog 138 vZ:=rk Tryz.t138
theorem yn : RowOk Tryz.prog 174 wa:=rk Tryz.t174
theorem yt : RowOk Tryz.prog 179 wE:=rk Tryz.t179
theorem xU : RowOk Tryz.prog 181 wd:=rk Tryz.t181
theorem xH : RowOk Tryz.prog 195 vo:=rk Tryz.t195
theorem xe : RowOk Tryz.prog 213 wk:=rk Tryz.t213
theorem wT : RowOk Tryz.prog 236 vE:=rk Tryz.t236
theorem xa : RowOk Tryz.prog 238 v9:=rk Tryz.t238
theorem x_ : RowOk Tryz.prog 315 vH:=rk Tryz.t315
theorem tok : TblOk Tryz.prog (look tbl):=tblOk (all_cons z9 (all_cons Ab (all_cons Af (all_cons z3 (all_cons zo (all_cons zh (all_cons zu (all_cons zH (all_cons zS (all_cons zL (all_cons yE (all_cons zk (all_cons zj (all_cons zn (all_cons zK (all_cons zx (all_cons zM (all_cons yS (all_cons zF (all_cons yH (all_cons zP (all_cons yQ (all_cons zt (all_cons zg (all_cons zG (all_cons yJ (all_cons zl (all_cons zy (all_cons zc (all_cons zr (all_cons uk (all_cons yW (all_cons zN (all_cons zf (all_cons xz (all_cons wU (all_cons xN (all_cons xW (all_cons yn (all_cons yt (all_cons xU (all_cons xH (all_cons xe (all_cons wT (all_cons xa (all_cons x_ all_nil))))))))))))))))))))))))))))))))))))))))))))))
theorem mix : Tryz.prog.follows .mixedOrders = true:=Checked.mixed Tryz.checked
theorem fo {Γ : Ctx fam} {nv : Nat} {h : Hint} (hΓ : CtxOk Tryz.prog Γ) {f : FuncId} {fn : Func} {sp : Spec fam} (hf : Tryz.prog.funcs[f]? = some fn) (hnm : (fn.name == "runtime.NumGoroutine") = false:=by kernel_rfl) (hbn : fn.body.isNone = false:=by kernel_rfl) (hlen : Nat.ble sp.ks.length fn.ntmps = true:=by kernel_rfl) (hrs : sp.rs.all (fun k => !k.isBox) = true:=by kernel_rfl) (hD : (fun a => tFunc (look tbl) Γ nv fn h sp.ks sp.rs a) = sp.D:=by kernel_rfl) : FnOk Tryz.prog f sp:=fnOk tok mix hΓ hf hnm hbn hlen hrs hD
theorem ok39 : FnOk Tryz.prog 39 sp39:=fo (nv:=10) (h:=h39) ag Tryz.func39
theorem ok40 : FnOk Tryz.prog 40 sp40:=fo (nv:=1) (h:=h40) ag Tryz.func40
theorem ok18 : FnOk Tryz.prog 18 sp18:=fo (nv:=61) (h:=h18) (ab ok39 (ab ok40 ag)) Tryz.func18
theorem ok5 : FnOk Tryz.prog 5 sp5:=fo (nv:=0) (h:=h5) (ab ok18 ag) Tryz.func5
theorem ok6 : FnOk Tryz.prog 6 sp6:=fo (nv:=2) (h:=h6) ag Tryz.func6
theorem ok19 : FnOk Tryz.prog 19 sp19:=fo (nv:=1) (h:=h19) ag Tryz.func19
theorem ok28 : FnOk Tryz.prog 28 sp28:=fo (nv:=2) (h:=h28) ag Tryz.func28
theorem ok50 : FnOk Tryz.prog 50 sp50:=fo (nv:=6) (h:=h50) ag Tryz.func50
theorem ok144 : FnOk Tryz.prog 144 sp144:=fo (nv:=8) (h:=h144) ag Tryz.func144
theorem ok145 : FnOk Tryz.prog 145 sp145:=fo (nv:=6) (h:=h145) (ab ok144 ag) Tryz.func145
theorem ok196 : FnOk Tryz.prog 196 sp196:=fo (nv:=6) (h:=h196) ag Tryz.func196
theorem ok197 : FnOk Tryz.prog 197 sp197:=fo (nv:=8) (h:=h197) (ab ok196 ag) Tryz.func197
theorem ok146 : FnOk Tryz.prog 146 sp146:=fo (nv:=11) (h:=h146) (ab ok196 (ab ok197 ag)) Tryz.func146
theorem ok85 : FnOk Tryz.prog 85 sp85:=fo (nv:=12) (h:=h85) (ab ok144 (ab ok145 (ab ok146 ag))) Tryz.func85
theorem ok198 : FnOk Tryz.prog 198 sp198:=fo (nv:=4) (h:=h198) ag Tryz.func198
theorem ok147 : FnOk Tryz.prog 147 sp147:=fo (nv:=6) (h:=h147) (ab ok198 ag) Tryz.func147
theorem ok78 : FnOk Tryz.prog 78 sp78:=fo (nv:=8) (h:=h78) ag Tryz.func78
theorem ok114 : FnOk Tryz.prog 114 sp114:=fo (nv:=4) (h:=h114) ag Tryz.func114
theorem ok199 : FnOk Tryz.prog 199 sp199:=fo (nv:=6) (h:=h199) (ab ok198 ag) Tryz.func199
theorem ok148 : FnOk Tryz.prog 148 sp148:=fo (nv:=10) (h:=h148) (ab ok78 (ab ok114 (ab ok199 ag))) Tryz.func148
theorem ok53 : FnOk Tryz.prog 53 sp53:=fo (nv:=7) (h:=h53) (ab ok114 ag) Tryz.func53
theorem ok149 : FnOk Tryz.prog 149 sp149:=fo (nv:=9) (h:=h149) (ab ok53 (ab ok78 ag)) Tryz.func149
theorem ok86 : FnOk Tryz.prog 86 sp86:=fo (nv:=5) (h:=h86) (ab ok147 (ab ok148 (ab ok149 ag))) Tryz.func86
theorem ok87 : FnOk Tryz.prog 87 sp87:=fo (nv:=3) (h:=h87) (ab ok53 (ab ok78 ag)) Tryz.func87
theorem ok41 : FnOk Tryz.prog 41 sp41:=fo (nv:=10) (h:=h41) (ab ok28 (ab ok50 (ab ok85 (ab ok86 (ab ok87 ag))))) Tryz.func41
theorem ok88 : FnOk Tryz.prog 88 sp88:=fo (nv:=1) (h:=h88) ag Tryz.func88
theorem ok89 : FnOk Tryz.prog 89 sp89:=fo (nv:=7) (h:=h89) ag Tryz.func89
theorem ok90 : FnOk Tryz.prog 90 sp90:=fo (nv:=7) (h:=h90) ag Tryz.func90
theorem ok42 : FnOk Tryz.prog 42 sp42:=fo (nv:=8) (h:=h42) (ab ok88 (ab ok89 (ab ok90 ag))) Tryz.func42
theorem ok91 : FnOk Tryz.prog 91 sp91:=fo (nv:=7) (h:=h91) ag Tryz.func91
theorem ok92 : FnOk Tryz.prog 92 sp92:=fo (nv:=9) (h:=h92) (ab ok89 (ab ok90 ag)) Tryz.func92
theorem ok93 : FnOk Tryz.prog 93 sp93:=fo (nv:=7) (h:=h93) ag Tryz.func93
theorem ok67 : FnOk Tryz.prog 67 sp67:=fo (nv:=7) (h:=h67) ag Tryz.func67
theorem ok98 : FnOk Tryz.prog 98 sp98:=fo (nv:=7) (h:=h98) ag Tryz.func98
theorem ok99 : FnOk Tryz.prog 99 sp99:=fo (nv:=2) (h:=h99) ag Tryz.func99
theorem ok103 : FnOk Tryz.prog 103 sp103:=fo (nv:=7) (h:=h103) ag Tryz.func103
theorem ok104 : FnOk Tryz.prog 104 sp104:=fo (nv:=8) (h:=h104) ag Tryz.func104
theorem ok150 : FnOk Tryz.prog 150 sp150:=fo (nv:=11) (h:=h150) ag Tryz.func150
theorem ok94 : FnOk Tryz.prog 94 sp94:=fo (nv:=9) (h:=h94) (ab ok67 (ab ok93 (ab ok98 (ab ok99 (ab ok103 (ab ok104 (ab ok150 ag))))))) Tryz.func94
theorem ok200 : FnOk Tryz.prog 200 sp200:=fo (nv:=7) (h:=h200) ag Tryz.func200
theorem ok107 : FnOk Tryz.prog 107 sp107:=fo (nv:=7) (h:=h107) ag Tryz.func107
theorem ok210 : FnOk Tryz.prog 210 sp210:=fo (nv:=4) (h:=h210) ag Tryz.func210
theorem ok229 : FnOk Tryz.prog 229 sp229:=fo (nv:=7) (h:=h229) ag Tryz.func229
theorem ok252 : FnOk Tryz.prog 252 sp252:=fo (nv:=4) (h:=h252) ag Tryz.func252
theorem ok230 : FnOk Tryz.prog 230 sp230:=fo (nv:=8) (h:=h230) (ab ok252 ag) Tryz.func230
theorem ok68 : FnOk Tryz.prog 68 sp68:=fo (nv:=4) (h:=h68) (ab ok114 ag) Tryz.func68
theorem ok29 : FnOk Tryz.prog 29 sp29:=fo (nv:=7) (h:=h29) (ab ok68 ag) Tryz.func29
theorem ok30 : FnOk Tryz.prog 30 sp30:=fo (nv:=5) (h:=h30) ag Tryz.func30
theorem ok27 : FnOk Tryz.prog 27 sp27:=fo (nv:=14) (h:=h27) (ab ok29 (ab ok30 (ab ok67 ag))) Tryz.func27
theorem ok10 : FnOk Tryz.prog 10 sp10:=fo (nv:=7) (h:=h10) (ab ok27 ag) Tryz.func10
theorem ok12 : FnOk Tryz.prog 12 sp12:=fo (nv:=7) (h:=h12) (ab ok30 ag) Tryz.func12
theorem ok193 : FnOk Tryz.prog 193 sp193:=fo (nv:=1) (h:=h193) ag Tryz.func193
theorem ok138 : FnOk Tryz.prog 138 sp138:=fo (nv:=2) (h:=h138) (ab ok193 ag) Tryz.func138
theorem ok139 : FnOk Tryz.prog 139 sp139:=fo (nv:=2) (h:=h139) ag Tryz.func139
theorem ok79 : FnOk Tryz.prog 79 sp79:=fo (nv:=7) (h:=h79) (ab ok138 (ab ok139 ag)) Tryz.func79
theorem ok34 : FnOk Tryz.prog 34 sp34:=fo (nv:=17) (h:=h34) (ab ok12 (ab ok68 (ab ok78 (ab ok79 ag)))) Tryz.func34
theorem ok16 : FnOk Tryz.prog 16 sp16:=fo (nv:=7) (h:=h16) (ab ok34 ag) Tryz.func16
theorem ok231 : FnOk Tryz.prog 231 sp231:=fo (nv:=6) (h:=h231) (ab ok10 (ab ok16 (ab ok30 (ab ok210 ag)))) Tryz.func231
theorem ok253 : FnOk Tryz.prog 253 sp253:=fo (nv:=9) (h:=h253) (ab ok27 ag) Tryz.func253
theorem ok254 : FnOk Tryz.prog 254 sp254:=fo (nv:=10) (h:=h254) (ab ok16 (ab ok78 (ab ok79 ag))) Tryz.func254
theorem ok232 : FnOk Tryz.prog 232 sp232:=fo (nv:=5) (h:=h232) (ab ok210 (ab ok253 (ab ok254 ag))) Tryz.func232
theorem ok255 : FnOk Tryz.prog 255 sp255:=fo (nv:=5) (h:=h255) ag Tryz.func255
theorem ok256 : FnOk Tryz.prog 256 sp256:=fo (nv:=7) (h:=h256) (ab ok30 ag) Tryz.func256
theorem ok233 : FnOk Tryz.prog 233 sp233:=fo (nv:=6) (h:=h233) (ab ok89 (ab ok255 (ab ok256 ag))) Tryz.func233
theorem ok65 : FnOk Tryz.prog 65 sp65:=fo (nv:=7) (h:=h65) (ab ok34 ag) Tryz.func65
theorem ok257 : FnOk Tryz.prog 257 sp257:=fo (nv:=8) (h:=h257) (ab ok30 ag) Tryz.func257
theorem ok234 : FnOk Tryz.prog 234 sp234:=fo (nv:=12) (h:=h234) (ab ok10 (ab ok12 (ab ok30 (ab ok65 (ab ok68 (ab ok210 (ab ok255 (ab ok257 ag)))))))) Tryz.func234
theorem ok258 : FnOk Tryz.prog 258 sp258:=fo (nv:=10) (h:=h258) ag Tryz.func258
theorem ok235 : FnOk Tryz.prog 235 sp235:=fo (nv:=12) (h:=h235) (ab ok98 (ab ok258 ag)) Tryz.func235
theorem ok201 : FnOk Tryz.prog 201 sp201:=fo (nv:=16) (h:=h201) (ab ok28 (ab ok67 (ab ok107 (ab ok210 (ab ok229 (ab ok230 (ab ok231 (ab ok232 (ab ok233 (ab ok234 (ab ok235 ag))))))))))) Tryz.func201
theorem ok275 : FnOk Tryz.prog 275 sp275:=fo (nv:=12) (h:=h275) ag Tryz.func275
theorem ok273 : FnOk Tryz.prog 273 sp273:=fo (nv:=9) (h:=h273) (ab ok275 ag) Tryz.func273
theorem ok274 : FnOk Tryz.prog 274 sp274:=fo (nv:=7) (h:=h274) (ab ok273 ag) Tryz.func274
theorem ok272 : FnOk Tryz.prog 272 sp272:=fo (nv:=8) (h:=h272) (ab ok138 (ab ok273 (ab ok274 ag))) Tryz.func272
theorem ok270 : FnOk Tryz.prog 270 sp270:=fo (nv:=5) (h:=h270) (ab ok10 (ab ok16 (ab ok272 ag))) Tryz.func270
theorem ok268 : FnOk Tryz.prog 268 sp268:=fo (nv:=11) (h:=h268) (ab ok53 (ab ok270 ag)) Tryz.func268
theorem ui : ∀ n,FnOk Tryz.prog 259 (yF n)
 | 0 => ⟨⟨Tryz.f259,by kernel_rfl,by kernel_rfl,by kernel_rfl⟩,fun a r hr => nomatch (show (none : Option _) = some r from hr)⟩
 | n + 1 => fnOk (nv:=10) (h:=h259) tok mix (ab (ui n) (ab ok268 ag)) Tryz.func259 (by kernel_rfl) (by kernel_rfl) (by kernel_rfl) (by kernel_rfl) (by kernel_rfl)
theorem ok259 : FnOk Tryz.prog 259 sp259:=ui 64
theorem ok236 : FnOk Tryz.prog 236 sp236:=fo (nv:=3) (h:=h236) (ab ok259 ag) Tryz.func236
theorem ok237 : FnOk Tryz.prog 237 sp237:=fo (nv:=12) (h:=h237) (ab ok28 ag) Tryz.func237
theorem ok260 : FnOk Tryz.prog 260 sp260:=fo (nv:=7) (h:=h260) ag Tryz.func260
theorem ok261 : FnOk Tryz.prog 261 sp261:=fo (nv:=8) (h:=h261) ag Tryz.func261
theorem ok262 : FnOk Tryz.prog 262 sp262:=fo (nv:=6) (h:=h262) ag Tryz.func262
theorem ok238 : FnOk Tryz.prog 238 sp238:=fo (nv:=16) (h:=h238) (ab ok98 (ab ok210 (ab ok230 (ab ok231 (ab ok233 (ab ok234 (ab ok235 (ab ok252 (ab ok260 (ab ok261 (ab ok262 ag))))))))))) Tryz.func238
theorem ok202 : FnOk Tryz.prog 202 sp202:=fo (nv:=21) (h:=h202) (ab ok67 (ab ok232 (ab ok236 (ab ok237 (ab ok238 ag))))) Tryz.func202
theorem ok151 : FnOk Tryz.prog 151 sp151:=fo (nv:=17) (h:=h151) (ab ok89 (ab ok200 (ab ok201 (ab ok202 ag)))) Tryz.func151
theorem ok95 : FnOk Tryz.prog 95 sp95:=fo (nv:=11) (h:=h95) (ab ok151 ag) Tryz.func95
theorem ok43 : FnOk Tryz.prog 43 sp43:=fo (nv:=13) (h:=h43) (ab ok50 (ab ok89 (ab ok91 (ab ok92 (ab ok93 (ab ok94 (ab ok95 ag))))))) Tryz.func43
theorem ok96 : FnOk Tryz.prog 96 sp96:=fo (nv:=1) (h:=h96) ag Tryz.func96
theorem ok97 : FnOk Tryz.prog 97 sp97:=fo (nv:=6) (h:=h97) (ab ok28 ag) Tryz.func97
theorem ok44 : FnOk Tryz.prog 44 sp44:=fo (nv:=10) (h:=h44) (ab ok28 (ab ok67 (ab ok87 (ab ok96 (ab ok97 (ab ok98 (ab ok99 ag))))))) Tryz.func44
theorem ok100 : FnOk Tryz.prog 100 sp100:=fo (nv:=8) (h:=h100) (ab ok93 ag) Tryz.func100
theorem ok101 : FnOk Tryz.prog 101 sp101:=fo (nv:=7) (h:=h101) ag Tryz.func101
theorem ok203 : FnOk Tryz.prog 203 sp203:=fo (nv:=1) (h:=h203) ag Tryz.func203
theorem ok152 : FnOk Tryz.prog 152 sp152:=fo (nv:=3) (h:=h152) (ab ok203 ag) Tryz.func152
theorem ok153 : FnOk Tryz.prog 153 sp153:=fo (nv:=9) (h:=h153) ag Tryz.func153
theorem ok102 : FnOk Tryz.prog 102 sp102:=fo (nv:=10) (h:=h102) (ab ok152 (ab ok153 ag)) Tryz.func102
theorem ok45 : FnOk Tryz.prog 45 sp45:=fo (nv:=14) (h:=h45) (ab ok50 (ab ok67 (ab ok93 (ab ok98 (ab ok100 (ab ok101 (ab ok102 (ab ok103 (ab ok104 ag))))))))) Tryz.func45
theorem ok105 : FnOk Tryz.prog 105 sp105:=fo (nv:=9) (h:=h105) (ab ok28 (ab ok67 (ab ok98 (ab ok150 ag)))) Tryz.func105
theorem ok46 : FnOk Tryz.prog 46 sp46:=fo (nv:=11) (h:=h46) (ab ok28 (ab ok50 (ab ok67 (ab ok105 ag)))) Tryz.func46
theorem ok106 : FnOk Tryz.prog 106 sp106:=fo (nv:=5) (h:=h106) ag Tryz.func106
theorem ok108 : FnOk Tryz.prog 108 sp108:=fo (nv:=6) (h:=h108) (ab ok89 (ab ok90 ag)) Tryz.func108
theorem ok109 : FnOk Tryz.prog 109 sp109:=fo (nv:=5) (h:=h109) ag Tryz.func109
theorem ok110 : FnOk Tryz.prog 110 sp110:=fo (nv:=6) (h:=h110) ag Tryz.func110
theorem ok112 : FnOk Tryz.prog 112 sp112:=fo (nv:=7) (h:=h112) (ab ok93 ag) Tryz.func112
theorem ok156 : FnOk Tryz.prog 156 sp156:=fo (nv:=9) (h:=h156) ag Tryz.func156
theorem ok204 : FnOk Tryz.prog 204 sp204:=fo (nv:=6) (h:=h204) (ab ok67 ag) Tryz.func204
theorem ok205 : FnOk Tryz.prog 205 sp205:=fo (nv:=7) (h:=h205) ag Tryz.func205
theorem ok31 : FnOk Tryz.prog 31 sp31:=fo (nv:=7) (h:=h31) (ab ok30 ag) Tryz.func31
theorem ok11 : FnOk Tryz.prog 11 sp11:=fo (nv:=9) (h:=h11) (ab ok28 (ab ok29 (ab ok30 (ab ok31 ag)))) Tryz.func11
theorem ok122 : FnOk Tryz.prog 122 sp122:=fo (nv:=1) (h:=h122) ag Tryz.func122
theorem ok66 : FnOk Tryz.prog 66 sp66:=fo (nv:=16) (h:=h66) (ab ok122 ag) Tryz.func66
theorem vw : ∀ n,FnOk Tryz.prog 26 (Ai n)
 | 0 => ⟨⟨Tryz.f26,by kernel_rfl,by kernel_rfl,by kernel_rfl⟩,fun a r hr => nomatch (show (none : Option _) = some r from hr)⟩
 | n + 1 => fnOk (nv:=17) (h:=h26) tok mix (ab (vw n) (ab ok10 (ab ok11 (ab ok16 (ab ok53 (ab ok65 (ab ok66 ag))))))) Tryz.func26 (by kernel_rfl) (by kernel_rfl) (by kernel_rfl) (by kernel_rfl) (by kernel_rfl)
theorem ok26 : FnOk Tryz.prog 26 sp26:=vw 64
theorem ok9 : FnOk Tryz.prog 9 sp9:=fo (nv:=9) (h:=h9) (ab ok12 (ab ok26 ag)) Tryz.func9
theorem ok206 : FnOk Tryz.prog 206 sp206:=fo (nv:=9) (h:=h206) (ab ok9 ag) Tryz.func206
theorem ok154 : FnOk Tryz.prog 154 sp154:=fo (nv:=10) (h:=h154) (ab ok10 (ab ok93 (ab ok94 (ab ok156 (ab ok204 (ab ok205 (ab ok206 ag))))))) Tryz.func154
theorem ok207 : FnOk Tryz.prog 207 sp207:=fo (nv:=12) (h:=h207) (ab ok10 (ab ok11 (ab ok16 (ab ok28 ag)))) Tryz.func207
theorem ok239 : FnOk Tryz.prog 239 sp239:=fo (nv:=6) (h:=h239) ag Tryz.func239
theorem ok208 : FnOk Tryz.prog 208 sp208:=fo (nv:=12) (h:=h208) (ab ok204 (ab ok239 ag)) Tryz.func208
theorem ok209 : FnOk Tryz.prog 209 sp209:=fo (nv:=14) (h:=h209) (ab ok204 (ab ok239 ag)) Tryz.func209
theorem ok155 : FnOk Tryz.prog 155 sp155:=fo (nv:=15) (h:=h155) (ab ok9 (ab ok10 (ab ok12 (ab ok207 (ab ok208 (ab ok209 ag)))))) Tryz.func155
theorem ok111 : FnOk Tryz.prog 111 sp111:=fo (nv:=8) (h:=h111) (ab ok112 (ab ok154 (ab ok155 (ab ok156 ag)))) Tryz.func111
theorem ok47 : FnOk Tryz.prog 47 sp47:=fo (nv:=12) (h:=h47) (ab ok50 (ab ok91 (ab ok94 (ab ok106 (ab ok107 (ab ok108 (ab ok109 (ab ok110 (ab ok111 (ab ok112 ag)))))))))) Tryz.func47
theorem ok157 : FnOk Tryz.prog 157 sp157:=fo (nv:=1) (h:=h157) ag Tryz.func157
theorem ok211 : FnOk Tryz.prog 211 sp211:=fo (nv:=9) (h:=h211) (ab ok30 ag) Tryz.func211
theorem ok158 : FnOk Tryz.prog 158 sp158:=fo (nv:=12) (h:=h158) (ab ok30 (ab ok210 (ab ok211 ag))) Tryz.func158
theorem ok113 : FnOk Tryz.prog 113 sp113:=fo (nv:=13) (h:=h113) (ab ok157 (ab ok158 ag)) Tryz.func113
theorem ok48 : FnOk Tryz.prog 48 sp48:=fo (nv:=13) (h:=h48) (ab ok12 (ab ok113 ag)) Tryz.func48
theorem ok49 : FnOk Tryz.prog 49 sp49:=fo (nv:=8) (h:=h49) ag Tryz.func49
theorem ok20 : FnOk Tryz.prog 20 sp20:=fo (nv:=17) (h:=h20) (ab ok41 (ab ok42 (ab ok43 (ab ok44 (ab ok45 (ab ok46 (ab ok47 (ab ok48 (ab ok49 (ab ok50 ag)))))))))) Tryz.func20
theorem wj : ∀ n,FnOk Tryz.prog 51 (An n)
 | 0 => ⟨⟨Tryz.f51,by kernel_rfl,by kernel_rfl,by kernel_rfl⟩,fun a r hr => nomatch (show (none : Option _) = some r from hr)⟩
 | n + 1 => fnOk (nv:=1) (h:=h51) tok mix (ab (wj n) ag) Tryz.func51 (by kernel_rfl) (by kernel_rfl) (by kernel_rfl) (by kernel_rfl) (by kernel_rfl)
theorem ok51 : FnOk Tryz.prog 51 sp51:=wj 64
theorem ok21 : FnOk Tryz.prog 21 sp21:=fo (nv:=8) (h:=h21) (ab ok51 ag) Tryz.func21
theorem ok52 : FnOk Tryz.prog 52 sp52:=fo (nv:=6) (h:=h52) ag Tryz.func52
theorem ok54 : FnOk Tryz.prog 54 sp54:=fo (nv:=2) (h:=h54) ag Tryz.func54
theorem ok22 : FnOk Tryz.prog 22 sp22:=fo (nv:=19) (h:=h22) (ab ok52 (ab ok52 (ab ok53 (ab ok54 ag)))) Tryz.func22
theorem ok55 : FnOk Tryz.prog 55 sp55:=fo (nv:=6) (h:=h55) ag Tryz.func55
theorem ok56 : FnOk Tryz.prog 56 sp56:=fo (nv:=5) (h:=h56) (ab ok87 ag) Tryz.func56
theorem ok57 : FnOk Tryz.prog 57 sp57:=fo (nv:=3) (h:=h57) (ab ok55 ag) Tryz.func57
theorem ok58 : FnOk Tryz.prog 58 sp58:=fo (nv:=9) (h:=h58) (ab ok55 (ab ok57 ag)) Tryz.func58
theorem ok23 : FnOk Tryz.prog 23 sp23:=fo (nv:=30) (h:=h23) (ab ok21 (ab ok22 (ab ok55 (ab ok56 (ab ok57 (ab ok58 ag)))))) Tryz.func23
theorem ok7 : FnOk Tryz.prog 7 sp7:=fo (nv:=7) (h:=h7) (ab ok19 (ab ok20 (ab ok21 (ab ok22 (ab ok23 ag))))) Tryz.func7
theorem ok212 : FnOk Tryz.prog 212 sp212:=fo (nv:=6) (h:=h212) ag Tryz.func212
theorem ok240 : FnOk Tryz.prog 240 sp240:=fo (nv:=9) (h:=h240) ag Tryz.func240
theorem ok213 : FnOk Tryz.prog 213 sp213:=fo (nv:=12) (h:=h213) (ab ok240 ag) Tryz.func213
theorem ok159 : FnOk Tryz.prog 159 sp159:=fo (nv:=6) (h:=h159) (ab ok212 (ab ok213 ag)) Tryz.func159
theorem ok115 : FnOk Tryz.prog 115 sp115:=fo (nv:=5) (h:=h115) (ab ok159 ag) Tryz.func115
theorem ok59 : FnOk Tryz.prog 59 sp59:=fo (nv:=14) (h:=h59) (ab ok115 ag) Tryz.func59
theorem ok166 : FnOk Tryz.prog 166 sp166:=fo (nv:=2) (h:=h166) ag Tryz.func166
theorem ok167 : FnOk Tryz.prog 167 sp167:=fo (nv:=3) (h:=h167) (ab ok166 ag) Tryz.func167
theorem ok121 : FnOk Tryz.prog 121 sp121:=fo (nv:=5) (h:=h121) (ab ok166 (ab ok167 ag)) Tryz.func121
theorem ok64 : FnOk Tryz.prog 64 sp64:=fo (nv:=9) (h:=h64) (ab ok121 ag) Tryz.func64
theorem ok25 : FnOk Tryz.prog 25 sp25:=fo (nv:=12) (h:=h25) (ab ok64 ag) Tryz.func25
theorem ok160 : FnOk Tryz.prog 160 sp160:=fo (nv:=4) (h:=h160) (ab ok115 ag) Tryz.func160
theorem yi : FnOk Tryz.prog 170 xD:=fnOk (nv:=1) (h:=h170) tok mix ag Tryz.func170 (by kernel_rfl) (by kernel_rfl) (by kernel_rfl) (by kernel_rfl) (by kernel_rfl)
set_option maxHeartbeats 2000000 in
theorem yI (p : Option Addr) (cap : Nat) (w : World) : Calls Tryz.prog 170 #[.slice p 0 cap] w fun e w' => ∃ p',e = .returned (.slice p' 0 0) ∧ RowKit.Below w.heap.size w w' ∧ w.drawn ≤ w'.drawn:=by
 have q:=q_nil (P:=Tryz.prog) (t:=87) uk.und
 cases p with
 | none =>
  go_enter Tryz.func170,Tryz.ntmps170
  go_wp2
  go_ret
  exact ⟨_,rfl,.refl _ _,Nat.le_refl _⟩
 | some p =>
  go_enter Tryz.func170,Tryz.ntmps170
  go_wp2
  go_ret
  exact ⟨_,rfl,(RowKit.Below.refl _ w).alloc (Nat.le_refl _) _,Nat.le_refl _⟩
theorem ok170 : FnOk Tryz.prog 170 sp170:=ym yi yI
theorem ok214 : FnOk Tryz.prog 214 sp214:=fo (nv:=9) (h:=h214) ag Tryz.func214
theorem ok215 : FnOk Tryz.prog 215 sp215:=fo (nv:=3) (h:=h215) ag Tryz.func215
theorem ok161 : FnOk Tryz.prog 161 sp161:=fo (nv:=8) (h:=h161) (ab ok170 (ab ok214 (ab ok215 ag))) Tryz.func161
theorem ok241 : FnOk Tryz.prog 241 sp241:=fo (nv:=14) (h:=h241) ag Tryz.func241
theorem ok192 : FnOk Tryz.prog 192 sp192:=fo (nv:=3) (h:=h192) ag Tryz.func192
theorem ok263 : FnOk Tryz.prog 263 sp263:=fo (nv:=1) (h:=h263) (ab ok192 ag) Tryz.func263
theorem ok242 : FnOk Tryz.prog 242 sp242:=fo (nv:=19) (h:=h242) (ab ok263 ag) Tryz.func242
theorem ok216 : FnOk Tryz.prog 216 sp216:=fo (nv:=8) (h:=h216) (ab ok241 (ab ok242 ag)) Tryz.func216
theorem ok162 : FnOk Tryz.prog 162 sp162:=fo (nv:=5) (h:=h162) (ab ok166 (ab ok167 (ab ok216 ag))) Tryz.func162
theorem ok116 : FnOk Tryz.prog 116 sp116:=fo (nv:=15) (h:=h116) (ab ok25 (ab ok160 (ab ok161 (ab ok162 ag)))) Tryz.func116
theorem ok117 : FnOk Tryz.prog 117 sp117:=fo (nv:=2) (h:=h117) ag Tryz.func117
theorem ok60 : FnOk Tryz.prog 60 sp60:=fo (nv:=7) (h:=h60) (ab ok116 (ab ok117 ag)) Tryz.func60
theorem ok163 : FnOk Tryz.prog 163 sp163:=fo (nv:=13) (h:=h163) ag Tryz.func163
theorem ok243 : FnOk Tryz.prog 243 sp243:=fo (nv:=2) (h:=h243) ag Tryz.func243
theorem ok217 : FnOk Tryz.prog 217 sp217:=fo (nv:=2) (h:=h217) (ab ok243 ag) Tryz.func217
theorem ok164 : FnOk Tryz.prog 164 sp164:=fo (nv:=4) (h:=h164) (ab ok217 ag) Tryz.func164
theorem ok118 : FnOk Tryz.prog 118 sp118:=fo (nv:=16) (h:=h118) (ab ok121 (ab ok163 (ab ok164 ag))) Tryz.func118
theorem ok61 : FnOk Tryz.prog 61 sp61:=fo (nv:=7) (h:=h61) (ab ok118 ag) Tryz.func61
theorem ok141 : FnOk Tryz.prog 141 sp141:=fo (nv:=2) (h:=h141) ag Tryz.func141
theorem ok264 : FnOk Tryz.prog 264 sp264:=fo (nv:=9) (h:=h264) ag Tryz.func264
theorem ok244 : FnOk Tryz.prog 244 sp244:=fo (nv:=2) (h:=h244) (ab ok264 ag) Tryz.func244
theorem ok245 : FnOk Tryz.prog 245 sp245:=fo (nv:=3) (h:=h245) ag Tryz.func245
theorem ok218 : FnOk Tryz.prog 218 sp218:=fo (nv:=5) (h:=h218) (ab ok244 (ab ok245 ag)) Tryz.func218
theorem ok165 : FnOk Tryz.prog 165 sp165:=fo (nv:=11) (h:=h165) (ab ok218 ag) Tryz.func165
theorem ok119 : FnOk Tryz.prog 119 sp119:=fo (nv:=11) (h:=h119) (ab ok121 (ab ok141 (ab ok164 (ab ok165 ag)))) Tryz.func119
theorem ok62 : FnOk Tryz.prog 62 sp62:=fo (nv:=7) (h:=h62) (ab ok119 ag) Tryz.func62
theorem ok120 : FnOk Tryz.prog 120 sp120:=fo (nv:=2) (h:=h120) ag Tryz.func120
theorem ok63 : FnOk Tryz.prog 63 sp63:=fo (nv:=7) (h:=h63) (ab ok116 (ab ok120 ag)) Tryz.func63
theorem Aj : FnOk Tryz.prog 24 (nK 0):=⟨⟨Tryz.f24,by kernel_rfl,by kernel_rfl,by kernel_rfl⟩,fun a r hr => nomatch (show (none : Option _) = some r from hr)⟩
set_option maxHeartbeats 4000000 in
theorem Ac (n : Nat) (ih : FnOk Tryz.prog 24 (nK n)) : FnOk Tryz.prog 24 (nK (n + 1)):=fnOk (nv:=110) (h:=h24) tok mix (ab ih (ab ih (ab ok18 (ab ok59 (ab ok60 (ab ok61 (ab ok62 (ab ok63 ag)))))))) Tryz.func24 (by kernel_rfl) (by kernel_rfl) (by kernel_rfl) (by kernel_rfl) (by kernel_rfl)
theorem Aq (n : Nat) : FnOk Tryz.prog 24 (nK n):=Nat.rec (motive:=fun n => FnOk Tryz.prog 24 (nK n)) Aj (fun n ih => Ac n ih) n
theorem ok24 : FnOk Tryz.prog 24 sp24:=Aq 64
theorem ok8 : FnOk Tryz.prog 8 sp8:=fo (nv:=3) (h:=h8) (ab ok24 (ab ok25 ag)) Tryz.func8
theorem ok3 : FnOk Tryz.prog 3 sp3:=fo (nv:=9) (h:=h3) (ab ok5 (ab ok6 (ab ok7 (ab ok8 (ab ok9 (ab ok10 (ab ok11 (ab ok12 ag)))))))) Tryz.func3
end Go.Fx.D
