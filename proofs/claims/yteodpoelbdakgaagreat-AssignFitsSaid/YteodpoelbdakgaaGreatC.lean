/-
  Each of these functions does what its function over plain data says, where that gives an answer (printed by a program). Conditions: none.
-/
import Derived.Test.YteodpoelbdakgaaGreatFxD
import Derived.Ground.SlsfProg
import Derived.Shelf.Lay
import Derived.Test.YteodpoelbdakgaaGreatD
import Derived.Test.YteodpoelbdakgaaGreatFxC
import Derived.Test.YteodpoelbdakgaaGreatChecked
import Derived.WalkKit
namespace Go.Fx.D
open Go Go.Fx Go.Proofs Go.Shelf Go.RowKit Go.Lib Go.Sort
set_option linter.unusedVariables false
set_option maxRecDepth 100000
theorem rk {t : TypeId} {i : TI fam} (j : TypeInfo) (h1 : Tryz.prog.underlying t = some i.desc:=by kernel_rfl) (h2 : Tryz.prog.info? t = some j:=by kernel_rfl) (h3 : j.zero = some (j.zero.getD .nilFunc):=by kernel_rfl) (h4 : (Nat.beq j.size i.size && Nat.beq j.bytes i.bytes && Nat.beq (j.zero.getD .nilFunc).cells.size i.size && zok i.zero (j.zero.getD .nilFunc).cells.toList) = true:=by kernel_rfl) (h5 : tyOk i = true:=by kernel_rfl) (h6 : eqOkB Tryz.prog t i = true:=by kernel_rfl) : RowOk Tryz.prog t i:=⟨h1,⟨j,_,h2,h3,h4⟩,h5,h6⟩
theorem Gg : RowOk Tryz.prog 3 row3:=rk Tryz.t3
theorem FX : RowOk Tryz.prog 4 row4:=rk Tryz.t4
theorem F9 : RowOk Tryz.prog 5 row5:=rk Tryz.t5
theorem FZ : RowOk Tryz.prog 9 row9:=rk Tryz.t9
theorem FE : RowOk Tryz.prog 22 row22:=rk Tryz.t22
theorem Ff : RowOk Tryz.prog 23 row23:=rk Tryz.t23
theorem Fm : RowOk Tryz.prog 25 row25:=rk Tryz.t25
theorem zC : RowOk Tryz.prog 27 row27:=rk Tryz.t27
theorem zq : RowOk Tryz.prog 28 row28:=rk Tryz.t28
theorem Fo : RowOk Tryz.prog 30 row30:=rk Tryz.t30
theorem yV : RowOk Tryz.prog 31 row31:=rk Tryz.t31
theorem zf : RowOk Tryz.prog 32 row32:=rk Tryz.t32
theorem zt : RowOk Tryz.prog 33 row33:=rk Tryz.t33
theorem zM : RowOk Tryz.prog 34 row34:=rk Tryz.t34
theorem zG : RowOk Tryz.prog 35 row35:=rk Tryz.t35
theorem FN : RowOk Tryz.prog 37 row37:=rk Tryz.t37
theorem Fq : RowOk Tryz.prog 42 row42:=rk Tryz.t42
theorem zw : RowOk Tryz.prog 43 row43:=rk Tryz.t43
theorem FH : RowOk Tryz.prog 45 row45:=rk Tryz.t45
theorem FO : RowOk Tryz.prog 59 row59:=rk Tryz.t59
theorem FQ : RowOk Tryz.prog 66 row66:=rk Tryz.t66
theorem EQ : RowOk Tryz.prog 69 row69:=rk Tryz.t69
theorem zb : RowOk Tryz.prog 70 row70:=rk Tryz.t70
theorem E4 : RowOk Tryz.prog 72 row72:=rk Tryz.t72
theorem Fv : RowOk Tryz.prog 74 row74:=rk Tryz.t74
theorem EO : RowOk Tryz.prog 91 row91:=rk Tryz.t91
theorem Fw : RowOk Tryz.prog 97 row97:=rk Tryz.t97
theorem Dn : RowOk Tryz.prog 100 BI:=rk Tryz.t100
theorem Ed : RowOk Tryz.prog 102 Bd:=rk Tryz.t102
theorem C5 : RowOk Tryz.prog 108 BJ:=rk Tryz.t108
theorem CX : RowOk Tryz.prog 110 BC:=rk Tryz.t110
theorem D_ : RowOk Tryz.prog 112 Bj:=rk Tryz.t112
theorem Df : RowOk Tryz.prog 128 BT:=rk Tryz.t128
theorem Ec : RowOk Tryz.prog 132 Co:=rk Tryz.t132
theorem Em : RowOk Tryz.prog 156 B5:=rk Tryz.t156
theorem EC : RowOk Tryz.prog 158 A7:=rk Tryz.t158
theorem D1 : RowOk Tryz.prog 177 Bb:=rk Tryz.t177
theorem Eo : RowOk Tryz.prog 180 CE:=rk Tryz.t180
theorem Dw : RowOk Tryz.prog 191 B9:=rk Tryz.t191
theorem Ds : RowOk Tryz.prog 243 Cl:=rk Tryz.t243
theorem DL : RowOk Tryz.prog 247 A8:=rk Tryz.t247
theorem Dj : RowOk Tryz.prog 260 A4:=rk Tryz.t260
theorem Dd : RowOk Tryz.prog 261 CC:=rk Tryz.t261
theorem DD : RowOk Tryz.prog 289 A5:=rk Tryz.t289
theorem Dm : RowOk Tryz.prog 291 BB:=rk Tryz.t291
theorem DK : RowOk Tryz.prog 294 Cd:=rk Tryz.t294
theorem DT : RowOk Tryz.prog 313 Bz:=rk Tryz.t313
theorem Dq : RowOk Tryz.prog 315 AX:=rk Tryz.t315
theorem DA : RowOk Tryz.prog 381 Bf:=rk Tryz.t381
theorem tok : TblOk Tryz.prog (look tbl):=tblOk (all_cons Gg (all_cons FX (all_cons F9 (all_cons FZ (all_cons FE (all_cons Ff (all_cons Fm (all_cons zC (all_cons zq (all_cons Fo (all_cons yV (all_cons zf (all_cons zt (all_cons zM (all_cons zG (all_cons FN (all_cons Fq (all_cons zw (all_cons FH (all_cons FO (all_cons FQ (all_cons EQ (all_cons zb (all_cons E4 (all_cons Fv (all_cons EO (all_cons Fw (all_cons Dn (all_cons Ed (all_cons C5 (all_cons CX (all_cons D_ (all_cons Df (all_cons Ec (all_cons Em (all_cons EC (all_cons D1 (all_cons Eo (all_cons Dw (all_cons Ds (all_cons DL (all_cons Dj (all_cons Dd (all_cons DD (all_cons Dm (all_cons DK (all_cons DT (all_cons Dq (all_cons DA all_nil)))))))))))))))))))))))))))))))))))))))))))))))))
theorem mix : Tryz.prog.follows .mixedOrders = true:=Checked.mixed Tryz.checked
theorem fo {Γ : Ctx fam} {nv : Nat} {h : Hint} (hΓ : CtxOk Tryz.prog Γ) {f : FuncId} {fn : Func} {sp : Spec fam} (hf : Tryz.prog.funcs[f]? = some fn) (hnm : (fn.name == "runtime.NumGoroutine") = false:=by kernel_rfl) (hbn : fn.body.isNone = false:=by kernel_rfl) (hlen : Nat.ble sp.ks.length fn.ntmps = true:=by kernel_rfl) (hrs : sp.rs.all (fun k => !k.isBox) = true:=by kernel_rfl) (hD : (fun a => tFunc (look tbl) Γ nv fn h sp.ks sp.rs a) = sp.D:=by kernel_rfl) : FnOk Tryz.prog f sp:=fnOk tok mix hΓ hf hnm hbn hlen hrs hD
theorem ok16 : FnOk Tryz.prog 16 sp16:=fo (nv:=2) (h:=h16) af Tryz.func16
theorem ok37 : FnOk Tryz.prog 37 sp37:=fo (nv:=1) (h:=h37) af Tryz.func37
theorem ok95 : FnOk Tryz.prog 95 sp95:=fo (nv:=7) (h:=h95) af Tryz.func95
theorem ok171 : FnOk Tryz.prog 171 sp171:=fo (nv:=1) (h:=h171) af Tryz.func171
theorem ok172 : FnOk Tryz.prog 172 sp172:=fo (nv:=7) (h:=h172) af Tryz.func172
theorem ok101 : FnOk Tryz.prog 101 sp101:=fo (nv:=8) (h:=h101) (ab ok95 (ab ok171 (ab ok172 af))) Tryz.func101
theorem ok20 : FnOk Tryz.prog 20 sp20:=fo (nv:=7) (h:=h20) af Tryz.func20
theorem ok21 : FnOk Tryz.prog 21 sp21:=fo (nv:=2) (h:=h21) af Tryz.func21
theorem ok111 : FnOk Tryz.prog 111 sp111:=fo (nv:=8) (h:=h111) af Tryz.func111
theorem ok113 : FnOk Tryz.prog 113 sp113:=fo (nv:=4) (h:=h113) af Tryz.func113
theorem ok135 : FnOk Tryz.prog 135 sp135:=fo (nv:=7) (h:=h135) (ab ok113 af) Tryz.func135
theorem ok64 : FnOk Tryz.prog 64 sp64:=fo (nv:=3) (h:=h64) (ab ok111 (ab ok135 af)) Tryz.func64
theorem ok100 : FnOk Tryz.prog 100 sp100:=fo (nv:=7) (h:=h100) af Tryz.func100
theorem ok173 : FnOk Tryz.prog 173 sp173:=fo (nv:=1) (h:=h173) af Tryz.func173
theorem ok174 : FnOk Tryz.prog 174 sp174:=fo (nv:=6) (h:=h174) (ab ok21 af) Tryz.func174
theorem ok175 : FnOk Tryz.prog 175 sp175:=fo (nv:=2) (h:=h175) af Tryz.func175
theorem ok102 : FnOk Tryz.prog 102 sp102:=fo (nv:=10) (h:=h102) (ab ok20 (ab ok21 (ab ok64 (ab ok100 (ab ok173 (ab ok174 (ab ok175 af))))))) Tryz.func102
theorem ok252 : FnOk Tryz.prog 252 sp252:=fo (nv:=4) (h:=h252) af Tryz.func252
theorem ok167 : FnOk Tryz.prog 167 sp167:=fo (nv:=6) (h:=h167) (ab ok252 af) Tryz.func167
theorem ok253 : FnOk Tryz.prog 253 sp253:=fo (nv:=6) (h:=h253) (ab ok252 af) Tryz.func253
theorem ok168 : FnOk Tryz.prog 168 sp168:=fo (nv:=10) (h:=h168) (ab ok111 (ab ok113 (ab ok253 af))) Tryz.func168
theorem ok169 : FnOk Tryz.prog 169 sp169:=fo (nv:=9) (h:=h169) (ab ok111 (ab ok135 af)) Tryz.func169
theorem ok91 : FnOk Tryz.prog 91 sp91:=fo (nv:=5) (h:=h91) (ab ok167 (ab ok168 (ab ok169 af))) Tryz.func91
theorem ok132 : FnOk Tryz.prog 132 sp132:=fo (nv:=6) (h:=h132) af Tryz.func132
theorem ok292 : FnOk Tryz.prog 292 sp292:=fo (nv:=8) (h:=h292) af Tryz.func292
theorem ok293 : FnOk Tryz.prog 293 sp293:=fo (nv:=6) (h:=h293) (ab ok292 af) Tryz.func293
theorem ok341 : FnOk Tryz.prog 341 sp341:=fo (nv:=6) (h:=h341) af Tryz.func341
theorem ok342 : FnOk Tryz.prog 342 sp342:=fo (nv:=8) (h:=h342) (ab ok341 af) Tryz.func342
theorem ok294 : FnOk Tryz.prog 294 sp294:=fo (nv:=11) (h:=h294) (ab ok341 (ab ok342 af)) Tryz.func294
theorem ok207 : FnOk Tryz.prog 207 sp207:=fo (nv:=12) (h:=h207) (ab ok292 (ab ok293 (ab ok294 af))) Tryz.func207
theorem ok125 : FnOk Tryz.prog 125 sp125:=fo (nv:=10) (h:=h125) (ab ok21 (ab ok64 (ab ok91 (ab ok132 (ab ok207 af))))) Tryz.func125
theorem ok31 : FnOk Tryz.prog 31 sp31:=fo (nv:=7) (h:=h31) af Tryz.func31
theorem ok116 : FnOk Tryz.prog 116 sp116:=fo (nv:=7) (h:=h116) af Tryz.func116
theorem ok42 : FnOk Tryz.prog 42 sp42:=fo (nv:=4) (h:=h42) af Tryz.func42
theorem ok107 : FnOk Tryz.prog 107 sp107:=fo (nv:=5) (h:=h107) af Tryz.func107
theorem ok109 : FnOk Tryz.prog 109 sp109:=fo (nv:=5) (h:=h109) af Tryz.func109
theorem ok108 : FnOk Tryz.prog 108 sp108:=fo (nv:=7) (h:=h108) (ab ok109 af) Tryz.func108
theorem ok43 : FnOk Tryz.prog 43 sp43:=fo (nv:=6) (h:=h43) (ab ok95 (ab ok107 (ab ok108 af))) Tryz.func43
theorem ok47 : FnOk Tryz.prog 47 sp47:=fo (nv:=4) (h:=h47) (ab ok113 af) Tryz.func47
theorem ok114 : FnOk Tryz.prog 114 sp114:=fo (nv:=7) (h:=h114) (ab ok47 af) Tryz.func114
theorem ok97 : FnOk Tryz.prog 97 sp97:=fo (nv:=14) (h:=h97) (ab ok20 (ab ok109 (ab ok114 af))) Tryz.func97
theorem ok32 : FnOk Tryz.prog 32 sp32:=fo (nv:=7) (h:=h32) (ab ok97 af) Tryz.func32
theorem ok75 : FnOk Tryz.prog 75 sp75:=fo (nv:=7) (h:=h75) (ab ok109 af) Tryz.func75
theorem ok268 : FnOk Tryz.prog 268 sp268:=fo (nv:=1) (h:=h268) af Tryz.func268
theorem ok190 : FnOk Tryz.prog 190 sp190:=fo (nv:=2) (h:=h190) (ab ok268 af) Tryz.func190
theorem ok191 : FnOk Tryz.prog 191 sp191:=fo (nv:=2) (h:=h191) af Tryz.func191
theorem ok112 : FnOk Tryz.prog 112 sp112:=fo (nv:=7) (h:=h112) (ab ok190 (ab ok191 af)) Tryz.func112
theorem ok98 : FnOk Tryz.prog 98 sp98:=fo (nv:=17) (h:=h98) (ab ok47 (ab ok75 (ab ok111 (ab ok112 af)))) Tryz.func98
theorem ok48 : FnOk Tryz.prog 48 sp48:=fo (nv:=7) (h:=h48) (ab ok98 af) Tryz.func48
theorem ok110 : FnOk Tryz.prog 110 sp110:=fo (nv:=8) (h:=h110) (ab ok109 af) Tryz.func110
theorem ok44 : FnOk Tryz.prog 44 sp44:=fo (nv:=12) (h:=h44) (ab ok32 (ab ok42 (ab ok47 (ab ok48 (ab ok75 (ab ok107 (ab ok109 (ab ok110 af)))))))) Tryz.func44
theorem ok192 : FnOk Tryz.prog 192 sp192:=fo (nv:=7) (h:=h192) af Tryz.func192
theorem ok269 : FnOk Tryz.prog 269 sp269:=fo (nv:=4) (h:=h269) af Tryz.func269
theorem ok193 : FnOk Tryz.prog 193 sp193:=fo (nv:=8) (h:=h193) (ab ok269 af) Tryz.func193
theorem ok35 : FnOk Tryz.prog 35 sp35:=fo (nv:=7) (h:=h35) (ab ok98 af) Tryz.func35
theorem ok194 : FnOk Tryz.prog 194 sp194:=fo (nv:=6) (h:=h194) (ab ok32 (ab ok35 (ab ok42 (ab ok109 af)))) Tryz.func194
theorem ok45 : FnOk Tryz.prog 45 sp45:=fo (nv:=9) (h:=h45) (ab ok97 af) Tryz.func45
theorem ok46 : FnOk Tryz.prog 46 sp46:=fo (nv:=10) (h:=h46) (ab ok35 (ab ok111 (ab ok112 af))) Tryz.func46
theorem ok195 : FnOk Tryz.prog 195 sp195:=fo (nv:=5) (h:=h195) (ab ok42 (ab ok45 (ab ok46 af))) Tryz.func195
theorem ok196 : FnOk Tryz.prog 196 sp196:=fo (nv:=7) (h:=h196) af Tryz.func196
theorem ok270 : FnOk Tryz.prog 270 sp270:=fo (nv:=10) (h:=h270) af Tryz.func270
theorem ok197 : FnOk Tryz.prog 197 sp197:=fo (nv:=12) (h:=h197) (ab ok100 (ab ok270 af)) Tryz.func197
theorem ok117 : FnOk Tryz.prog 117 sp117:=fo (nv:=16) (h:=h117) (ab ok20 (ab ok21 (ab ok42 (ab ok43 (ab ok44 (ab ok192 (ab ok193 (ab ok194 (ab ok195 (ab ok196 (ab ok197 af))))))))))) Tryz.func117
theorem ok384 : FnOk Tryz.prog 384 sp384:=fo (nv:=12) (h:=h384) af Tryz.func384
theorem ok379 : FnOk Tryz.prog 379 sp379:=fo (nv:=9) (h:=h379) (ab ok384 af) Tryz.func379
theorem ok380 : FnOk Tryz.prog 380 sp380:=fo (nv:=7) (h:=h380) (ab ok379 af) Tryz.func380
theorem ok372 : FnOk Tryz.prog 372 sp372:=fo (nv:=8) (h:=h372) (ab ok190 (ab ok379 (ab ok380 af))) Tryz.func372
theorem ok360 : FnOk Tryz.prog 360 sp360:=fo (nv:=5) (h:=h360) (ab ok32 (ab ok35 (ab ok372 af))) Tryz.func360
theorem ok327 : FnOk Tryz.prog 327 sp327:=fo (nv:=11) (h:=h327) (ab ok135 (ab ok360 af)) Tryz.func327
theorem yH : ∀ n,FnOk Tryz.prog 271 (E2 n)
 | 0 => ⟨⟨Tryz.f271,by kernel_rfl,by kernel_rfl,by kernel_rfl⟩,fun a r hr => nomatch (show (none : Option _) = some r from hr)⟩
 | n + 1 => fnOk (nv:=10) (h:=h271) tok mix (ab (yH n) (ab ok327 af)) Tryz.func271 (by kernel_rfl) (by kernel_rfl) (by kernel_rfl) (by kernel_rfl) (by kernel_rfl)
theorem ok271 : FnOk Tryz.prog 271 sp271:=yH 64
theorem ok198 : FnOk Tryz.prog 198 sp198:=fo (nv:=3) (h:=h198) (ab ok271 af) Tryz.func198
theorem ok199 : FnOk Tryz.prog 199 sp199:=fo (nv:=12) (h:=h199) (ab ok21 af) Tryz.func199
theorem ok272 : FnOk Tryz.prog 272 sp272:=fo (nv:=7) (h:=h272) af Tryz.func272
theorem ok273 : FnOk Tryz.prog 273 sp273:=fo (nv:=8) (h:=h273) af Tryz.func273
theorem ok274 : FnOk Tryz.prog 274 sp274:=fo (nv:=6) (h:=h274) af Tryz.func274
theorem ok200 : FnOk Tryz.prog 200 sp200:=fo (nv:=16) (h:=h200) (ab ok42 (ab ok43 (ab ok44 (ab ok100 (ab ok193 (ab ok194 (ab ok197 (ab ok269 (ab ok272 (ab ok273 (ab ok274 af))))))))))) Tryz.func200
theorem ok118 : FnOk Tryz.prog 118 sp118:=fo (nv:=21) (h:=h118) (ab ok20 (ab ok195 (ab ok198 (ab ok199 (ab ok200 af))))) Tryz.func118
theorem ok54 : FnOk Tryz.prog 54 sp54:=fo (nv:=17) (h:=h54) (ab ok95 (ab ok116 (ab ok117 (ab ok118 af)))) Tryz.func54
theorem ok56 : FnOk Tryz.prog 56 sp56:=fo (nv:=11) (h:=h56) (ab ok54 af) Tryz.func56
theorem ok53 : FnOk Tryz.prog 53 sp53:=fo (nv:=7) (h:=h53) af Tryz.func53
theorem ok99 : FnOk Tryz.prog 99 sp99:=fo (nv:=11) (h:=h99) af Tryz.func99
theorem ok213 : FnOk Tryz.prog 213 sp213:=fo (nv:=8) (h:=h213) af Tryz.func213
theorem ok165 : FnOk Tryz.prog 165 sp165:=fo (nv:=9) (h:=h165) (ab ok20 (ab ok31 (ab ok53 (ab ok99 (ab ok100 (ab ok175 (ab ok213 af))))))) Tryz.func165
theorem ok208 : FnOk Tryz.prog 208 sp208:=fo (nv:=7) (h:=h208) af Tryz.func208
theorem ok209 : FnOk Tryz.prog 209 sp209:=fo (nv:=9) (h:=h209) (ab ok95 (ab ok172 af)) Tryz.func209
theorem ok126 : FnOk Tryz.prog 126 sp126:=fo (nv:=13) (h:=h126) (ab ok31 (ab ok56 (ab ok95 (ab ok132 (ab ok165 (ab ok208 (ab ok209 af))))))) Tryz.func126
theorem ok210 : FnOk Tryz.prog 210 sp210:=fo (nv:=8) (h:=h210) (ab ok31 af) Tryz.func210
theorem ok211 : FnOk Tryz.prog 211 sp211:=fo (nv:=7) (h:=h211) af Tryz.func211
theorem ok343 : FnOk Tryz.prog 343 sp343:=fo (nv:=1) (h:=h343) af Tryz.func343
theorem ok295 : FnOk Tryz.prog 295 sp295:=fo (nv:=3) (h:=h295) (ab ok343 af) Tryz.func295
theorem ok296 : FnOk Tryz.prog 296 sp296:=fo (nv:=9) (h:=h296) af Tryz.func296
theorem ok212 : FnOk Tryz.prog 212 sp212:=fo (nv:=10) (h:=h212) (ab ok295 (ab ok296 af)) Tryz.func212
theorem ok127 : FnOk Tryz.prog 127 sp127:=fo (nv:=14) (h:=h127) (ab ok20 (ab ok31 (ab ok53 (ab ok100 (ab ok132 (ab ok210 (ab ok211 (ab ok212 (ab ok213 af))))))))) Tryz.func127
theorem ok38 : FnOk Tryz.prog 38 sp38:=fo (nv:=9) (h:=h38) (ab ok20 (ab ok21 (ab ok99 (ab ok100 af)))) Tryz.func38
theorem ok128 : FnOk Tryz.prog 128 sp128:=fo (nv:=11) (h:=h128) (ab ok20 (ab ok21 (ab ok38 (ab ok132 af)))) Tryz.func128
theorem ok115 : FnOk Tryz.prog 115 sp115:=fo (nv:=7) (h:=h115) (ab ok109 af) Tryz.func115
theorem ok51 : FnOk Tryz.prog 51 sp51:=fo (nv:=9) (h:=h51) (ab ok21 (ab ok109 (ab ok114 (ab ok115 af)))) Tryz.func51
theorem ok304 : FnOk Tryz.prog 304 sp304:=fo (nv:=1) (h:=h304) af Tryz.func304
theorem ok226 : FnOk Tryz.prog 226 sp226:=fo (nv:=16) (h:=h226) (ab ok304 af) Tryz.func226
theorem z6 : ∀ n,FnOk Tryz.prog 147 (FG n)
 | 0 => ⟨⟨Tryz.f147,by kernel_rfl,by kernel_rfl,by kernel_rfl⟩,fun a r hr => nomatch (show (none : Option _) = some r from hr)⟩
 | n + 1 => fnOk (nv:=17) (h:=h147) tok mix (ab (z6 n) (ab ok32 (ab ok35 (ab ok48 (ab ok51 (ab ok135 (ab ok226 af))))))) Tryz.func147 (by kernel_rfl) (by kernel_rfl) (by kernel_rfl) (by kernel_rfl) (by kernel_rfl)
theorem ok147 : FnOk Tryz.prog 147 sp147:=z6 64
theorem ok74 : FnOk Tryz.prog 74 sp74:=fo (nv:=9) (h:=h74) (ab ok75 (ab ok147 af)) Tryz.func74
theorem ok76 : FnOk Tryz.prog 76 sp76:=fo (nv:=12) (h:=h76) (ab ok21 (ab ok32 (ab ok35 (ab ok51 af)))) Tryz.func76
theorem ok148 : FnOk Tryz.prog 148 sp148:=fo (nv:=6) (h:=h148) (ab ok20 af) Tryz.func148
theorem ok149 : FnOk Tryz.prog 149 sp149:=fo (nv:=6) (h:=h149) af Tryz.func149
theorem ok77 : FnOk Tryz.prog 77 sp77:=fo (nv:=12) (h:=h77) (ab ok148 (ab ok149 af)) Tryz.func77
theorem ok78 : FnOk Tryz.prog 78 sp78:=fo (nv:=14) (h:=h78) (ab ok148 (ab ok149 af)) Tryz.func78
theorem ok26 : FnOk Tryz.prog 26 sp26:=fo (nv:=15) (h:=h26) (ab ok32 (ab ok74 (ab ok75 (ab ok76 (ab ok77 (ab ok78 af)))))) Tryz.func26
theorem ok33 : FnOk Tryz.prog 33 sp33:=fo (nv:=9) (h:=h33) (ab ok74 af) Tryz.func33
theorem ok87 : FnOk Tryz.prog 87 sp87:=fo (nv:=9) (h:=h87) af Tryz.func87
theorem ok164 : FnOk Tryz.prog 164 sp164:=fo (nv:=7) (h:=h164) af Tryz.func164
theorem ok86 : FnOk Tryz.prog 86 sp86:=fo (nv:=10) (h:=h86) (ab ok31 (ab ok32 (ab ok33 (ab ok87 (ab ok148 (ab ok164 (ab ok165 af))))))) Tryz.func86
theorem ok88 : FnOk Tryz.prog 88 sp88:=fo (nv:=7) (h:=h88) (ab ok31 af) Tryz.func88
theorem ok28 : FnOk Tryz.prog 28 sp28:=fo (nv:=8) (h:=h28) (ab ok26 (ab ok86 (ab ok87 (ab ok88 af)))) Tryz.func28
theorem ok214 : FnOk Tryz.prog 214 sp214:=fo (nv:=5) (h:=h214) af Tryz.func214
theorem ok215 : FnOk Tryz.prog 215 sp215:=fo (nv:=6) (h:=h215) (ab ok95 (ab ok172 af)) Tryz.func215
theorem ok216 : FnOk Tryz.prog 216 sp216:=fo (nv:=5) (h:=h216) af Tryz.func216
theorem ok217 : FnOk Tryz.prog 217 sp217:=fo (nv:=6) (h:=h217) af Tryz.func217
theorem ok129 : FnOk Tryz.prog 129 sp129:=fo (nv:=12) (h:=h129) (ab ok28 (ab ok88 (ab ok132 (ab ok165 (ab ok196 (ab ok208 (ab ok214 (ab ok215 (ab ok216 (ab ok217 af)))))))))) Tryz.func129
theorem ok297 : FnOk Tryz.prog 297 sp297:=fo (nv:=1) (h:=h297) af Tryz.func297
theorem ok344 : FnOk Tryz.prog 344 sp344:=fo (nv:=9) (h:=h344) (ab ok109 af) Tryz.func344
theorem ok298 : FnOk Tryz.prog 298 sp298:=fo (nv:=12) (h:=h298) (ab ok42 (ab ok109 (ab ok344 af))) Tryz.func298
theorem ok218 : FnOk Tryz.prog 218 sp218:=fo (nv:=13) (h:=h218) (ab ok297 (ab ok298 af)) Tryz.func218
theorem ok130 : FnOk Tryz.prog 130 sp130:=fo (nv:=13) (h:=h130) (ab ok75 (ab ok218 af)) Tryz.func130
theorem ok131 : FnOk Tryz.prog 131 sp131:=fo (nv:=8) (h:=h131) af Tryz.func131
theorem ok60 : FnOk Tryz.prog 60 sp60:=fo (nv:=17) (h:=h60) (ab ok101 (ab ok102 (ab ok125 (ab ok126 (ab ok127 (ab ok128 (ab ok129 (ab ok130 (ab ok131 (ab ok132 af)))))))))) Tryz.func60
theorem zn : ∀ n,FnOk Tryz.prog 133 (EV n)
 | 0 => ⟨⟨Tryz.f133,by kernel_rfl,by kernel_rfl,by kernel_rfl⟩,fun a r hr => nomatch (show (none : Option _) = some r from hr)⟩
 | n + 1 => fnOk (nv:=1) (h:=h133) tok mix (ab (zn n) af) Tryz.func133 (by kernel_rfl) (by kernel_rfl) (by kernel_rfl) (by kernel_rfl) (by kernel_rfl)
theorem ok133 : FnOk Tryz.prog 133 sp133:=zn 64
theorem ok61 : FnOk Tryz.prog 61 sp61:=fo (nv:=8) (h:=h61) (ab ok133 af) Tryz.func61
theorem ok134 : FnOk Tryz.prog 134 sp134:=fo (nv:=6) (h:=h134) af Tryz.func134
theorem ok136 : FnOk Tryz.prog 136 sp136:=fo (nv:=2) (h:=h136) af Tryz.func136
theorem ok62 : FnOk Tryz.prog 62 sp62:=fo (nv:=19) (h:=h62) (ab ok134 (ab ok134 (ab ok135 (ab ok136 af)))) Tryz.func62
theorem ok18 : FnOk Tryz.prog 18 sp18:=fo (nv:=5) (h:=h18) (ab ok64 af) Tryz.func18
theorem ok137 : FnOk Tryz.prog 137 sp137:=fo (nv:=6) (h:=h137) af Tryz.func137
theorem ok138 : FnOk Tryz.prog 138 sp138:=fo (nv:=3) (h:=h138) (ab ok137 af) Tryz.func138
theorem ok139 : FnOk Tryz.prog 139 sp139:=fo (nv:=9) (h:=h139) (ab ok137 (ab ok138 af)) Tryz.func139
theorem ok63 : FnOk Tryz.prog 63 sp63:=fo (nv:=30) (h:=h63) (ab ok18 (ab ok61 (ab ok62 (ab ok137 (ab ok138 (ab ok139 af)))))) Tryz.func63
theorem ok17 : FnOk Tryz.prog 17 sp17:=fo (nv:=7) (h:=h17) (ab ok37 (ab ok60 (ab ok61 (ab ok62 (ab ok63 af))))) Tryz.func17
theorem ok170 : FnOk Tryz.prog 170 sp170:=fo (nv:=2) (h:=h170) af Tryz.func170
theorem ok92 : FnOk Tryz.prog 92 sp92:=fo (nv:=9) (h:=h92) (ab ok170 af) Tryz.func92
theorem ok93 : FnOk Tryz.prog 93 sp93:=fo (nv:=9) (h:=h93) af Tryz.func93
theorem ok94 : FnOk Tryz.prog 94 sp94:=fo (nv:=5) (h:=h94) (ab ok108 af) Tryz.func94
theorem ok96 : FnOk Tryz.prog 96 sp96:=fo (nv:=9) (h:=h96) af Tryz.func96
theorem ok30 : FnOk Tryz.prog 30 sp30:=fo (nv:=15) (h:=h30) (ab ok20 (ab ok21 (ab ok64 (ab ok91 (ab ok92 (ab ok93 (ab ok94 (ab ok95 (ab ok96 af))))))))) Tryz.func30
theorem ok81 : FnOk Tryz.prog 81 sp81:=⟨⟨Tryz.f81,by kernel_rfl,by kernel_rfl,by kernel_rfl⟩,fun a r hr => nomatch (show (none : Option _) = some r from hr)⟩
theorem D7 : FnOk Tryz.prog 158 CO:=fnOk (nv:=1) (h:=h158) tok mix af Tryz.func158 (by kernel_rfl) (by kernel_rfl) (by kernel_rfl) (by kernel_rfl) (by kernel_rfl)
set_option maxHeartbeats 2000000 in
theorem E_ (p : Option Addr) (cap : Nat) (w : World) : Calls Tryz.prog 158 #[.slice p 0 cap] w fun e w' => ∃ p',e = .returned (.slice p' 0 0) ∧ RowKit.Below w.heap.size w w' ∧ w.drawn ≤ w'.drawn:=by
 have q:=n4 (P:=Tryz.prog) (t:=33) zt.und
 cases p with
 | none =>
  go_enter Tryz.func158,Tryz.ntmps158
  go_wp2
  go_ret
  exact ⟨_,rfl,.refl _ _,Nat.le_refl _⟩
 | some p =>
  go_enter Tryz.func158,Tryz.ntmps158
  go_wp2
  go_ret
  exact ⟨_,rfl,(RowKit.Below.refl _ w).alloc (Nat.le_refl _) _,Nat.le_refl _⟩
theorem ok158 : FnOk Tryz.prog 158 sp158:=j2 D7 E_
theorem Dv : FnOk Tryz.prog 265 C8:=fnOk (nv:=1) (h:=h265) tok mix af Tryz.func265 (by kernel_rfl) (by kernel_rfl) (by kernel_rfl) (by kernel_rfl) (by kernel_rfl)
set_option maxHeartbeats 2000000 in
theorem FR (p : Option Addr) (cap : Nat) (w : World) : Calls Tryz.prog 265 #[.slice p 0 cap] w fun e w' => ∃ p',e = .returned (.slice p' 0 0) ∧ RowKit.Below w.heap.size w w' ∧ w.drawn ≤ w'.drawn:=by
 have q:=n4 (P:=Tryz.prog) (t:=43) zw.und
 cases p with
 | none =>
  go_enter Tryz.func265,Tryz.ntmps265
  go_wp2
  go_ret
  exact ⟨_,rfl,.refl _ _,Nat.le_refl _⟩
 | some p =>
  go_enter Tryz.func265,Tryz.ntmps265
  go_wp2
  go_ret
  exact ⟨_,rfl,(RowKit.Below.refl _ w).alloc (Nat.le_refl _) _,Nat.le_refl _⟩
theorem ok265 : FnOk Tryz.prog 265 sp265:=j2 Dv FR
theorem ok302 : FnOk Tryz.prog 302 sp302:=fo (nv:=4) (h:=h302) af Tryz.func302
theorem ok222 : FnOk Tryz.prog 222 sp222:=fo (nv:=3) (h:=h222) (ab ok265 (ab ok302 af)) Tryz.func222
theorem De : FnOk Tryz.prog 227 Dz:=fnOk (nv:=1) (h:=h227) tok mix af Tryz.func227 (by kernel_rfl) (by kernel_rfl) (by kernel_rfl) (by kernel_rfl) (by kernel_rfl)
set_option maxHeartbeats 2000000 in
theorem FP (p : Option Addr) (cap : Nat) (w : World) : Calls Tryz.prog 227 #[.slice p 0 cap] w fun e w' => ∃ p',e = .returned (.slice p' 0 0) ∧ RowKit.Below w.heap.size w w' ∧ w.drawn ≤ w'.drawn:=by
 have q:=n4 (P:=Tryz.prog) (t:=27) zC.und
 cases p with
 | none =>
  go_enter Tryz.func227,Tryz.ntmps227
  go_wp2
  go_ret
  exact ⟨_,rfl,.refl _ _,Nat.le_refl _⟩
 | some p =>
  go_enter Tryz.func227,Tryz.ntmps227
  go_wp2
  go_ret
  exact ⟨_,rfl,(RowKit.Below.refl _ w).alloc (Nat.le_refl _) _,Nat.le_refl _⟩
theorem ok227 : FnOk Tryz.prog 227 sp227:=j2 De FP
theorem D5 : FnOk Tryz.prog 228 Ew:=fnOk (nv:=1) (h:=h228) tok mix af Tryz.func228 (by kernel_rfl) (by kernel_rfl) (by kernel_rfl) (by kernel_rfl) (by kernel_rfl)
set_option maxHeartbeats 2000000 in
theorem FT (p : Option Addr) (cap : Nat) (w : World) : Calls Tryz.prog 228 #[.slice p 0 cap] w fun e w' => ∃ p',e = .returned (.slice p' 0 0) ∧ RowKit.Below w.heap.size w w' ∧ w.drawn ≤ w'.drawn:=by
 have q:=n4 (P:=Tryz.prog) (t:=28) zq.und
 cases p with
 | none =>
  go_enter Tryz.func228,Tryz.ntmps228
  go_wp2
  go_ret
  exact ⟨_,rfl,.refl _ _,Nat.le_refl _⟩
 | some p =>
  go_enter Tryz.func228,Tryz.ntmps228
  go_wp2
  go_ret
  exact ⟨_,rfl,(RowKit.Below.refl _ w).alloc (Nat.le_refl _) _,Nat.le_refl _⟩
theorem ok228 : FnOk Tryz.prog 228 sp228:=j2 D5 FT
theorem Ex : FnOk Tryz.prog 229 DO:=fnOk (nv:=1) (h:=h229) tok mix af Tryz.func229 (by kernel_rfl) (by kernel_rfl) (by kernel_rfl) (by kernel_rfl) (by kernel_rfl)
set_option maxHeartbeats 2000000 in
theorem EP (p : Option Addr) (cap : Nat) (w : World) : Calls Tryz.prog 229 #[.slice p 0 cap] w fun e w' => ∃ p',e = .returned (.slice p' 0 0) ∧ RowKit.Below w.heap.size w w' ∧ w.drawn ≤ w'.drawn:=by
 have q:=n4 (P:=Tryz.prog) (t:=70) zb.und
 cases p with
 | none =>
  go_enter Tryz.func229,Tryz.ntmps229
  go_wp2
  go_ret
  exact ⟨_,rfl,.refl _ _,Nat.le_refl _⟩
 | some p =>
  go_enter Tryz.func229,Tryz.ntmps229
  go_wp2
  go_ret
  exact ⟨_,rfl,(RowKit.Below.refl _ w).alloc (Nat.le_refl _) _,Nat.le_refl _⟩
theorem ok229 : FnOk Tryz.prog 229 sp229:=j2 Ex EP
theorem CL : FnOk Tryz.prog 230 CP:=fnOk (nv:=1) (h:=h230) tok mix af Tryz.func230 (by kernel_rfl) (by kernel_rfl) (by kernel_rfl) (by kernel_rfl) (by kernel_rfl)
set_option maxHeartbeats 2000000 in
theorem FJ (p : Option Addr) (cap : Nat) (w : World) : Calls Tryz.prog 230 #[.slice p 0 cap] w fun e w' => ∃ p',e = .returned (.slice p' 0 0) ∧ RowKit.Below w.heap.size w w' ∧ w.drawn ≤ w'.drawn:=by
 have q:=n4 (P:=Tryz.prog) (t:=31) yV.und
 cases p with
 | none =>
  go_enter Tryz.func230,Tryz.ntmps230
  go_wp2
  go_ret
  exact ⟨_,rfl,.refl _ _,Nat.le_refl _⟩
 | some p =>
  go_enter Tryz.func230,Tryz.ntmps230
  go_wp2
  go_ret
  exact ⟨_,rfl,(RowKit.Below.refl _ w).alloc (Nat.le_refl _) _,Nat.le_refl _⟩
theorem ok230 : FnOk Tryz.prog 230 sp230:=j2 CL FJ
theorem Eg : FnOk Tryz.prog 231 Db:=fnOk (nv:=1) (h:=h231) tok mix af Tryz.func231 (by kernel_rfl) (by kernel_rfl) (by kernel_rfl) (by kernel_rfl) (by kernel_rfl)
set_option maxHeartbeats 2000000 in
theorem EX (p : Option Addr) (cap : Nat) (w : World) : Calls Tryz.prog 231 #[.slice p 0 cap] w fun e w' => ∃ p',e = .returned (.slice p' 0 0) ∧ RowKit.Below w.heap.size w w' ∧ w.drawn ≤ w'.drawn:=by
 have q:=n4 (P:=Tryz.prog) (t:=34) zM.und
 cases p with
 | none =>
  go_enter Tryz.func231,Tryz.ntmps231
  go_wp2
  go_ret
  exact ⟨_,rfl,.refl _ _,Nat.le_refl _⟩
 | some p =>
  go_enter Tryz.func231,Tryz.ntmps231
  go_wp2
  go_ret
  exact ⟨_,rfl,(RowKit.Below.refl _ w).alloc (Nat.le_refl _) _,Nat.le_refl _⟩
theorem ok231 : FnOk Tryz.prog 231 sp231:=j2 Eg EX
theorem Dr : FnOk Tryz.prog 232 C9:=fnOk (nv:=1) (h:=h232) tok mix af Tryz.func232 (by kernel_rfl) (by kernel_rfl) (by kernel_rfl) (by kernel_rfl) (by kernel_rfl)
set_option maxHeartbeats 2000000 in
theorem Fk (p : Option Addr) (cap : Nat) (w : World) : Calls Tryz.prog 232 #[.slice p 0 cap] w fun e w' => ∃ p',e = .returned (.slice p' 0 0) ∧ RowKit.Below w.heap.size w w' ∧ w.drawn ≤ w'.drawn:=by
 have q:=n4 (P:=Tryz.prog) (t:=35) zG.und
 cases p with
 | none =>
  go_enter Tryz.func232,Tryz.ntmps232
  go_wp2
  go_ret
  exact ⟨_,rfl,.refl _ _,Nat.le_refl _⟩
 | some p =>
  go_enter Tryz.func232,Tryz.ntmps232
  go_wp2
  go_ret
  exact ⟨_,rfl,(RowKit.Below.refl _ w).alloc (Nat.le_refl _) _,Nat.le_refl _⟩
theorem ok232 : FnOk Tryz.prog 232 sp232:=j2 Dr Fk
theorem Dl : FnOk Tryz.prog 233 D9:=fnOk (nv:=1) (h:=h233) tok mix af Tryz.func233 (by kernel_rfl) (by kernel_rfl) (by kernel_rfl) (by kernel_rfl) (by kernel_rfl)
set_option maxHeartbeats 2000000 in
theorem E7 (p : Option Addr) (cap : Nat) (w : World) : Calls Tryz.prog 233 #[.slice p 0 cap] w fun e w' => ∃ p',e = .returned (.slice p' 0 0) ∧ RowKit.Below w.heap.size w w' ∧ w.drawn ≤ w'.drawn:=by
 have q:=n4 (P:=Tryz.prog) (t:=32) zf.und
 cases p with
 | none =>
  go_enter Tryz.func233,Tryz.ntmps233
  go_wp2
  go_ret
  exact ⟨_,rfl,.refl _ _,Nat.le_refl _⟩
 | some p =>
  go_enter Tryz.func233,Tryz.ntmps233
  go_wp2
  go_ret
  exact ⟨_,rfl,(RowKit.Below.refl _ w).alloc (Nat.le_refl _) _,Nat.le_refl _⟩
theorem ok233 : FnOk Tryz.prog 233 sp233:=j2 Dl E7
theorem ok150 : FnOk Tryz.prog 150 sp150:=fo (nv:=62) (h:=h150) (ab ok158 (ab ok222 (ab ok227 (ab ok228 (ab ok229 (ab ok230 (ab ok231 (ab ok232 (ab ok233 af))))))))) Tryz.func150
theorem ok234 : FnOk Tryz.prog 234 sp234:=fo (nv:=9) (h:=h234) af Tryz.func234
theorem ok235 : FnOk Tryz.prog 235 sp235:=fo (nv:=3) (h:=h235) af Tryz.func235
theorem ok152 : FnOk Tryz.prog 152 sp152:=fo (nv:=4) (h:=h152) (ab ok234 (ab ok235 af)) Tryz.func152
theorem ok79 : FnOk Tryz.prog 79 sp79:=fo (nv:=17) (h:=h79) (ab ok81 (ab ok150 af)) Tryz.func79
theorem ok254 : FnOk Tryz.prog 254 sp254:=fo (nv:=9) (h:=h254) af Tryz.func254
theorem ok255 : FnOk Tryz.prog 255 sp255:=fo (nv:=4) (h:=h255) af Tryz.func255
theorem ok176 : FnOk Tryz.prog 176 sp176:=fo (nv:=3) (h:=h176) (ab ok254 (ab ok255 af)) Tryz.func176
theorem ok103 : FnOk Tryz.prog 103 sp103:=fo (nv:=7) (h:=h103) (ab ok176 af) Tryz.func103
theorem ok289 : FnOk Tryz.prog 289 sp289:=fo (nv:=2) (h:=h289) af Tryz.func289
theorem ok315 : FnOk Tryz.prog 315 sp315:=fo (nv:=3) (h:=h315) (ab ok289 af) Tryz.func315
theorem ok256 : FnOk Tryz.prog 256 sp256:=fo (nv:=5) (h:=h256) (ab ok289 (ab ok315 af)) Tryz.func256
theorem ok177 : FnOk Tryz.prog 177 sp177:=fo (nv:=12) (h:=h177) (ab ok256 af) Tryz.func177
theorem ok104 : FnOk Tryz.prog 104 sp104:=fo (nv:=8) (h:=h104) (ab ok103 (ab ok177 af)) Tryz.func104
theorem ok65 : FnOk Tryz.prog 65 sp65:=fo (nv:=2) (h:=h65) af Tryz.func65
theorem ok143 : FnOk Tryz.prog 143 sp143:=fo (nv:=7) (h:=h143) (ab ok152 (ab ok222 af)) Tryz.func143
theorem ok178 : FnOk Tryz.prog 178 sp178:=fo (nv:=9) (h:=h178) af Tryz.func178
theorem ok179 : FnOk Tryz.prog 179 sp179:=fo (nv:=3) (h:=h179) af Tryz.func179
theorem ok180 : FnOk Tryz.prog 180 sp180:=fo (nv:=12) (h:=h180) af Tryz.func180
theorem ok257 : FnOk Tryz.prog 257 sp257:=fo (nv:=4) (h:=h257) af Tryz.func257
theorem ok181 : FnOk Tryz.prog 181 sp181:=fo (nv:=8) (h:=h181) (ab ok257 af) Tryz.func181
theorem ok258 : FnOk Tryz.prog 258 sp258:=fo (nv:=4) (h:=h258) af Tryz.func258
theorem ok182 : FnOk Tryz.prog 182 sp182:=fo (nv:=4) (h:=h182) (ab ok257 (ab ok258 af)) Tryz.func182
theorem ok276 : FnOk Tryz.prog 276 sp276:=fo (nv:=13) (h:=h276) af Tryz.func276
theorem ok362 : FnOk Tryz.prog 362 sp362:=fo (nv:=2) (h:=h362) af Tryz.func362
theorem ok330 : FnOk Tryz.prog 330 sp330:=fo (nv:=2) (h:=h330) (ab ok362 af) Tryz.func330
theorem ok277 : FnOk Tryz.prog 277 sp277:=fo (nv:=4) (h:=h277) (ab ok330 af) Tryz.func277
theorem ok202 : FnOk Tryz.prog 202 sp202:=fo (nv:=16) (h:=h202) (ab ok256 (ab ok276 (ab ok277 af))) Tryz.func202
theorem ok121 : FnOk Tryz.prog 121 sp121:=fo (nv:=7) (h:=h121) (ab ok202 af) Tryz.func121
theorem ok224 : FnOk Tryz.prog 224 sp224:=fo (nv:=9) (h:=h224) (ab ok256 af) Tryz.func224
theorem ok145 : FnOk Tryz.prog 145 sp145:=fo (nv:=12) (h:=h145) (ab ok224 af) Tryz.func145
theorem ok328 : FnOk Tryz.prog 328 sp328:=fo (nv:=6) (h:=h328) af Tryz.func328
theorem ok361 : FnOk Tryz.prog 361 sp361:=fo (nv:=9) (h:=h361) af Tryz.func361
theorem ok329 : FnOk Tryz.prog 329 sp329:=fo (nv:=12) (h:=h329) (ab ok361 af) Tryz.func329
theorem ok275 : FnOk Tryz.prog 275 sp275:=fo (nv:=6) (h:=h275) (ab ok328 (ab ok329 af)) Tryz.func275
theorem ok201 : FnOk Tryz.prog 201 sp201:=fo (nv:=5) (h:=h201) (ab ok275 af) Tryz.func201
theorem ok278 : FnOk Tryz.prog 278 sp278:=fo (nv:=4) (h:=h278) (ab ok201 af) Tryz.func278
theorem ok331 : FnOk Tryz.prog 331 sp331:=fo (nv:=9) (h:=h331) af Tryz.func331
theorem ok332 : FnOk Tryz.prog 332 sp332:=fo (nv:=3) (h:=h332) af Tryz.func332
theorem ok279 : FnOk Tryz.prog 279 sp279:=fo (nv:=8) (h:=h279) (ab ok229 (ab ok331 (ab ok332 af))) Tryz.func279
theorem ok340 : FnOk Tryz.prog 340 sp340:=fo (nv:=14) (h:=h340) af Tryz.func340
theorem ok251 : FnOk Tryz.prog 251 sp251:=fo (nv:=3) (h:=h251) af Tryz.func251
theorem ok373 : FnOk Tryz.prog 373 sp373:=fo (nv:=1) (h:=h373) (ab ok251 af) Tryz.func373
theorem ok363 : FnOk Tryz.prog 363 sp363:=fo (nv:=19) (h:=h363) (ab ok373 af) Tryz.func363
theorem ok333 : FnOk Tryz.prog 333 sp333:=fo (nv:=8) (h:=h333) (ab ok340 (ab ok363 af)) Tryz.func333
theorem ok280 : FnOk Tryz.prog 280 sp280:=fo (nv:=5) (h:=h280) (ab ok289 (ab ok315 (ab ok333 af))) Tryz.func280
theorem ok203 : FnOk Tryz.prog 203 sp203:=fo (nv:=15) (h:=h203) (ab ok145 (ab ok278 (ab ok279 (ab ok280 af)))) Tryz.func203
theorem ok204 : FnOk Tryz.prog 204 sp204:=fo (nv:=2) (h:=h204) af Tryz.func204
theorem ok122 : FnOk Tryz.prog 122 sp122:=fo (nv:=7) (h:=h122) (ab ok203 (ab ok204 af)) Tryz.func122
theorem ok183 : FnOk Tryz.prog 183 sp183:=fo (nv:=8) (h:=h183) (ab ok121 (ab ok122 (ab ok256 (ab ok258 af)))) Tryz.func183
theorem ok259 : FnOk Tryz.prog 259 sp259:=fo (nv:=9) (h:=h259) (ab ok202 af) Tryz.func259
theorem ok260 : FnOk Tryz.prog 260 sp260:=fo (nv:=10) (h:=h260) (ab ok122 (ab ok279 (ab ok280 af))) Tryz.func260
theorem ok184 : FnOk Tryz.prog 184 sp184:=fo (nv:=4) (h:=h184) (ab ok258 (ab ok259 (ab ok260 af))) Tryz.func184
theorem ok185 : FnOk Tryz.prog 185 sp185:=fo (nv:=4) (h:=h185) (ab ok258 af) Tryz.func185
theorem ok346 : FnOk Tryz.prog 346 sp346:=fo (nv:=2) (h:=h346) af Tryz.func346
theorem ok300 : FnOk Tryz.prog 300 sp300:=fo (nv:=7) (h:=h300) (ab ok203 (ab ok346 af)) Tryz.func300
theorem ok316 : FnOk Tryz.prog 316 sp316:=fo (nv:=12) (h:=h316) (ab ok224 af) Tryz.func316
theorem ok261 : FnOk Tryz.prog 261 sp261:=fo (nv:=20) (h:=h261) (ab ok121 (ab ok145 (ab ok256 (ab ok258 (ab ok278 (ab ok300 (ab ok316 af))))))) Tryz.func261
theorem ok186 : FnOk Tryz.prog 186 sp186:=fo (nv:=6) (h:=h186) (ab ok261 af) Tryz.func186
set_option maxHeartbeats 4000000 in
set_option maxRecDepth 1000000 in
theorem dn187 : uF Tryz.prog 187:=by
 constructor
 ·intro b n cap i w hn hj
  go_enter Tryz.func187,Tryz.ntmps187
  go_wp2
  all_goals (go_ret; exact ⟨rfl,rfl⟩)
 ·intro p w
  cases p
  ·go_enter Tryz.func187,Tryz.ntmps187
   go_wp2
   all_goals (go_ret; exact ⟨rfl,rfl⟩)
  ·go_enter Tryz.func187,Tryz.ntmps187
   go_wp2
   all_goals (go_ret; exact ⟨rfl,rfl⟩)
set_option maxHeartbeats 4000000 in
set_option maxRecDepth 1000000 in
theorem dw187 : uX Tryz.prog 187 34 91 3:=by
 intro b n cap i j w hn hm hlt hj i0 hi0 hz1 A hA news s1 hsrc s2 s3 W1 W2 hW hcl
 have hic : i ≤ cap:=by omega
 have hjc : j ≤ cap:=by omega
 have tS : Tryz.prog.underlying 34 = some (.slice 91):=by kernel_rfl
 have mixed : Tryz.prog.follows .mixedOrders = true:=Checked.mixed Tryz.checked
 go_enter Tryz.func187,Tryz.ntmps187
 go_wp2_with fail
 go_region_law_o (refine step_append_room rfl (.tmp 22) (.tmp 25) 34 rfl 91 i0 3 tS hi0 hz1 b 0 i cap (by simp [Act.eval,Act.put]) A (n - j) (cap - j) news (by simp [Act.eval,Act.put]) s1.out hsrc.out s2.out (by omega) s3.out ?_; rw [← hW.out])
 go_wp2
 go_ret
 exact ⟨rfl,rfl⟩
theorem ok187 : FnOk Tryz.prog 187 sp187:=Bi tok (te:=row91) (by kernel_rfl) (by kernel_rfl) (sz:=3) (by kernel_rfl) (Nat.blt_eq.mp (by kernel_rfl)) (by kernel_rfl : Tryz.prog.underlying 34 = some (.slice 91)) ⟨Tryz.f187,by kernel_rfl,by kernel_rfl,by kernel_rfl⟩ dn187 dw187
theorem ok317 : FnOk Tryz.prog 317 sp317:=fo (nv:=4) (h:=h317) af Tryz.func317
theorem ok354 : FnOk Tryz.prog 354 sp354:=fo (nv:=9) (h:=h354) af Tryz.func354
theorem ok355 : FnOk Tryz.prog 355 sp355:=fo (nv:=3) (h:=h355) af Tryz.func355
theorem ok318 : FnOk Tryz.prog 318 sp318:=fo (nv:=4) (h:=h318) (ab ok354 (ab ok355 af)) Tryz.func318
set_option maxHeartbeats 4000000 in
set_option maxRecDepth 1000000 in
theorem dn319 : uF Tryz.prog 319:=by
 constructor
 ·intro b n cap i w hn hj
  go_enter Tryz.func319,Tryz.ntmps319
  go_wp2
  all_goals (go_ret; exact ⟨rfl,rfl⟩)
 ·intro p w
  cases p
  ·go_enter Tryz.func319,Tryz.ntmps319
   go_wp2
   all_goals (go_ret; exact ⟨rfl,rfl⟩)
  ·go_enter Tryz.func319,Tryz.ntmps319
   go_wp2
   all_goals (go_ret; exact ⟨rfl,rfl⟩)
set_option maxHeartbeats 4000000 in
set_option maxRecDepth 1000000 in
theorem dw319 : uX Tryz.prog 319 43 66 8:=by
 intro b n cap i j w hn hm hlt hj i0 hi0 hz1 A hA news s1 hsrc s2 s3 W1 W2 hW hcl
 have hic : i ≤ cap:=by omega
 have hjc : j ≤ cap:=by omega
 have tS : Tryz.prog.underlying 43 = some (.slice 66):=by kernel_rfl
 have mixed : Tryz.prog.follows .mixedOrders = true:=Checked.mixed Tryz.checked
 go_enter Tryz.func319,Tryz.ntmps319
 go_wp2_with fail
 go_region_law_o (refine step_append_room rfl (.tmp 22) (.tmp 25) 43 rfl 66 i0 8 tS hi0 hz1 b 0 i cap (by simp [Act.eval,Act.put]) A (n - j) (cap - j) news (by simp [Act.eval,Act.put]) s1.out hsrc.out s2.out (by omega) s3.out ?_; rw [← hW.out])
 go_wp2
 go_ret
 exact ⟨rfl,rfl⟩
theorem ok319 : FnOk Tryz.prog 319 sp319:=Bi tok (te:=row66) (by kernel_rfl) (by kernel_rfl) (sz:=8) (by kernel_rfl) (Nat.blt_eq.mp (by kernel_rfl)) (by kernel_rfl : Tryz.prog.underlying 43 = some (.slice 66)) ⟨Tryz.f319,by kernel_rfl,by kernel_rfl,by kernel_rfl⟩ dn319 dw319
theorem ok262 : FnOk Tryz.prog 262 sp262:=fo (nv:=8) (h:=h262) (ab ok317 (ab ok318 (ab ok319 af))) Tryz.func262
theorem ok356 : FnOk Tryz.prog 356 sp356:=⟨⟨Tryz.f356,by kernel_rfl,by kernel_rfl,by kernel_rfl⟩,fun a r hr => nomatch (show (none : Option _) = some r from hr)⟩
theorem ok320 : FnOk Tryz.prog 320 sp320:=fo (nv:=7) (h:=h320) (ab ok152 (ab ok356 af)) Tryz.func320
theorem ok263 : FnOk Tryz.prog 263 sp263:=fo (nv:=5) (h:=h263) (ab ok150 (ab ok222 (ab ok320 af))) Tryz.func263
theorem Fz : FnOk Tryz.prog 264 Fc:=fnOk (nv:=10) (h:=h264) tok mix af Tryz.func264 (by kernel_rfl) (by kernel_rfl) (by kernel_rfl) (by kernel_rfl) (by kernel_rfl)
theorem ov264 (w : World) (a b : Value) (h : (Extern.SlicesOverlaps.overlaps #[33,33] #[4] #[a,b]).run Tryz.prog w = .ok (.bool false) w) : (callFunc 321 #[a,b]).run Tryz.prog w = .ok (.value (.bool false)) w:=by
 rw [run_callFunc_extern Tryz.func321 (by kernel_rfl) (by kernel_rfl) (by kernel_rfl) (e:=Extern.SlicesOverlaps.overlaps #[33,33] #[4]) (by kernel_rfl),h]
 rfl
set_option maxHeartbeats 4000000 in
set_option maxRecDepth 1000000 in
theorem iw264 : th Tryz.prog 264 33 9 321:=by
 intro b n c i vb vc w W1 W2 hi hroom hc63 hov hcp1 hcp2
 have tS : Tryz.prog.underlying 33 = some (.slice 59):=by kernel_rfl
 have mixed : Tryz.prog.follows .mixedOrders = true:=Checked.mixed Tryz.checked
 have hz2 : ¬ ((i : Int) = (n : Int)):=by omega
 have hw1 : IntKind.i64.wrap ((i : Int) + 1) = (i : Int) + 1:=by rw [IntKind.wrap_i64]; omega
 have hw2 : IntKind.i64.wrap ((n : Int) + 1) = (n : Int) + 1:=by rw [IntKind.wrap_i64]; omega
 have hb1 : (0 : Int) ≤ (i : Int) + 1:=by omega
 have hb0 : (0 : Int) ≤ (n : Int) + 1:=by omega
 have hin : i ≤ n:=by omega
 have htn : ((i : Int) + 1).toNat = i + 1:=by omega
 have htm : ((n : Int) + 1).toNat = n + 1:=by omega
 have hb2 : ¬ (c = i + 1):=by omega
 have hb3 : (i : Int) ≤ (n : Int) + 1:=by omega
 have hb4 : ¬ (c = i):=by omega
 go_enter Tryz.func264,Tryz.ntmps264
 go_wp2_with (simp only [hov])
 go_region_law_o (refine mG rfl _ _ 33 33 rfl _ _ (by simp [Act.eval,Act.put]) (by simp [Act.eval,Act.put]) (hcp1 _ _ _) ?_)
 go_wp2_with (at_builtin; refine lv _ rfl _ _ 33 33 rfl _ _ rfl rfl (hcp2 _ _) ?_)
 go_ret
 exact ⟨rfl,rfl⟩
set_option maxHeartbeats 4000000 in
set_option maxRecDepth 1000000 in
theorem ig264 : uU Tryz.prog 264 33 3 9:=by
 intro b n i vb vc nb G w W0 W1 W2 hi hn hG hG63 hap hcpA hcpB
 have tS : Tryz.prog.underlying 33 = some (.slice 59):=by kernel_rfl
 have mixed : Tryz.prog.follows .mixedOrders = true:=Checked.mixed Tryz.checked
 have hz2 : ¬ ((i : Int) = (n : Int)):=by omega
 have hz3 : (n : Int) < (n : Int) + 1:=by omega
 have hw1 : IntKind.i64.wrap ((i : Int) + 1) = (i : Int) + 1:=by rw [IntKind.wrap_i64]; omega
 have hw2 : IntKind.i64.wrap ((n : Int) + 1) = (n : Int) + 1:=by rw [IntKind.wrap_i64]; omega
 have hw3 : IntKind.i64.wrap ((n : Int) + 1 - (i : Int)) = (n : Int) + 1 - (i : Int):=by rw [IntKind.wrap_i64]; omega
 have hb1 : (0 : Int) ≤ (i : Int) + 1:=by omega
 have hin : i ≤ n:=by omega
 have htn : ((i : Int) + 1).toNat = i + 1:=by omega
 have hb3 : (i : Int) ≤ (n : Int):=by omega
 have hGi : ¬ (G = i):=by omega
 have hGim : ¬ (G = i + 1):=by omega
 have hci : ¬ (n = i):=by omega
 go_enter Tryz.func264,Tryz.ntmps264
 go_wp2_with (first
  | (at_builtin; refine Lib.wpList_append_run _ rfl _ _ _ _ rfl _ _ rfl rfl _ _ (hap _) ?_)
  | (at_builtin; refine lv _ rfl _ _ 33 33 rfl _ _ rfl rfl (hcpA _ _) ?_))
 go_region_law_o (refine mG rfl _ _ 33 33 rfl (.slice (some ⟨nb,(i + 1) * 9,none⟩) (n - i) (G - (i + 1))) (.slice (some ⟨b,i * 9,none⟩) (n - i) (n - i)) (by simp [Act.eval,Act.put]) (by simp [Act.eval,Act.put]) (hcpB _ _ _) ?_)
 go_wp2
 go_ret
 exact ⟨rfl,rfl⟩
theorem ok264 : FnOk Tryz.prog 264 sp264:=AW tok (te:=row59) (tb:=4) (by kernel_rfl) (by kernel_rfl) (sz:=9) (by kernel_rfl) (Nat.blt_eq.mp (by kernel_rfl)) (Nat.ble_eq.mp (by kernel_rfl)) (by kernel_rfl : Tryz.prog.underlying 33 = some (.slice 59)) (by kernel_rfl : Tryz.prog.underlying 3 = some (.int .i64)) ⟨Tryz.f264,by kernel_rfl,by kernel_rfl,by kernel_rfl⟩ ov264 Fz iw264 ig264
theorem ok188 : FnOk Tryz.prog 188 sp188:=fo (nv:=9) (h:=h188) (ab ok262 (ab ok263 (ab ok264 af))) Tryz.func188
theorem ok105 : FnOk Tryz.prog 105 sp105:=fo (nv:=12) (h:=h105) (ab ok65 (ab ok143 (ab ok178 (ab ok179 (ab ok180 (ab ok181 (ab ok182 (ab ok183 (ab ok184 (ab ok185 (ab ok186 (ab ok187 (ab ok188 af))))))))))))) Tryz.func105
theorem ok120 : FnOk Tryz.prog 120 sp120:=fo (nv:=14) (h:=h120) (ab ok201 af) Tryz.func120
shelf_lay_g Go.Proofs.SlLaysF0.n6 Slsf 6 at Tryz 123 as lay123
theorem ok123 : FnOk Tryz.prog 123 sp123:=EA (ρ:=lay123_ren) (n:=18) lay123 (by intro w; kernel_rfl) (by intro w; kernel_rfl) (by kernel_rfl) (Nat.blt_eq.mp (by kernel_rfl)) ⟨Tryz.f123,by kernel_rfl,by kernel_rfl,by kernel_rfl⟩
theorem ok68 : FnOk Tryz.prog 68 sp68:=fo (nv:=9) (h:=h68) af Tryz.func68
theorem ok225 : FnOk Tryz.prog 225 sp225:=fo (nv:=1) (h:=h225) af Tryz.func225
theorem ok146 : FnOk Tryz.prog 146 sp146:=fo (nv:=7) (h:=h146) (ab ok225 af) Tryz.func146
theorem ok291 : FnOk Tryz.prog 291 sp291:=fo (nv:=9) (h:=h291) (ab ok340 af) Tryz.func291
theorem ok337 : FnOk Tryz.prog 337 sp337:=fo (nv:=9) (h:=h337) af Tryz.func337
theorem ok338 : FnOk Tryz.prog 338 sp338:=fo (nv:=2) (h:=h338) af Tryz.func338
theorem ok339 : FnOk Tryz.prog 339 sp339:=fo (nv:=2) (h:=h339) af Tryz.func339
theorem ok290 : FnOk Tryz.prog 290 sp290:=fo (nv:=7) (h:=h290) (ab ok291 (ab ok337 (ab ok338 (ab ok339 af)))) Tryz.func290
theorem ok206 : FnOk Tryz.prog 206 sp206:=fo (nv:=8) (h:=h206) (ab ok289 (ab ok290 (ab ok291 af))) Tryz.func206
theorem ok124 : FnOk Tryz.prog 124 sp124:=fo (nv:=4) (h:=h124) (ab ok68 (ab ok146 (ab ok206 af))) Tryz.func124
theorem ok59 : FnOk Tryz.prog 59 sp59:=fo (nv:=44) (h:=h59) (ab ok120 (ab ok121 (ab ok122 (ab ok123 (ab ok124 af))))) Tryz.func59
theorem y9 : ∀ n,FnOk Tryz.prog 119 (E6 n)
 | 0 => ⟨⟨Tryz.f119,by kernel_rfl,by kernel_rfl,by kernel_rfl⟩,fun a r hr => nomatch (show (none : Option _) = some r from hr)⟩
 | n + 1 => fnOk (nv:=29) (h:=h119) tok mix (ab (y9 n) (ab ok59 af)) Tryz.func119 (by kernel_rfl) (by kernel_rfl) (by kernel_rfl) (by kernel_rfl) (by kernel_rfl)
theorem ok119 : FnOk Tryz.prog 119 sp119:=y9 64
theorem ok58 : FnOk Tryz.prog 58 sp58:=fo (nv:=3) (h:=h58) (ab ok119 af) Tryz.func58
theorem ok219 : FnOk Tryz.prog 219 sp219:=fo (nv:=10) (h:=h219) af Tryz.func219
theorem ok345 : FnOk Tryz.prog 345 sp345:=fo (nv:=11) (h:=h345) af Tryz.func345
theorem ok299 : FnOk Tryz.prog 299 sp299:=fo (nv:=12) (h:=h299) (ab ok345 af) Tryz.func299
theorem yY : ∀ n,FnOk Tryz.prog 220 (FB n)
 | 0 => ⟨⟨Tryz.f220,by kernel_rfl,by kernel_rfl,by kernel_rfl⟩,fun a r hr => nomatch (show (none : Option _) = some r from hr)⟩
 | n + 1 => fnOk (nv:=25) (h:=h220) tok mix (ab (yY n) (ab ok299 af)) Tryz.func220 (by kernel_rfl) (by kernel_rfl) (by kernel_rfl) (by kernel_rfl) (by kernel_rfl)
theorem ok220 : FnOk Tryz.prog 220 sp220:=yY 64
theorem ok140 : FnOk Tryz.prog 140 sp140:=fo (nv:=10) (h:=h140) (ab ok219 (ab ok220 af)) Tryz.func140
theorem ok66 : FnOk Tryz.prog 66 sp66:=fo (nv:=2) (h:=h66) (ab ok140 af) Tryz.func66
theorem ok141 : FnOk Tryz.prog 141 sp141:=fo (nv:=1) (h:=h141) af Tryz.func141
theorem ok69 : FnOk Tryz.prog 69 sp69:=fo (nv:=7) (h:=h69) (ab ok141 af) Tryz.func69
theorem ok67 : FnOk Tryz.prog 67 sp67:=fo (nv:=4) (h:=h67) (ab ok68 (ab ok69 af)) Tryz.func67
theorem ok19 : FnOk Tryz.prog 19 sp19:=fo (nv:=39) (h:=h19) (ab ok65 (ab ok66 (ab ok67 af))) Tryz.func19
theorem ok323 : FnOk Tryz.prog 323 sp323:=fo (nv:=7) (h:=h323) (ab ok317 (ab ok318 af)) Tryz.func323
theorem ok266 : FnOk Tryz.prog 266 sp266:=fo (nv:=7) (h:=h266) (ab ok263 (ab ok323 af)) Tryz.func266
theorem ok324 : FnOk Tryz.prog 324 sp324:=fo (nv:=2) (h:=h324) (ab ok178 af) Tryz.func324
theorem ok325 : FnOk Tryz.prog 325 sp325:=fo (nv:=4) (h:=h325) af Tryz.func325
theorem ER : FnOk Tryz.prog 326 FD:=fnOk (nv:=10) (h:=h326) tok mix af Tryz.func326 (by kernel_rfl) (by kernel_rfl) (by kernel_rfl) (by kernel_rfl) (by kernel_rfl)
theorem ov326 (w : World) (a b : Value) (h : (Extern.SlicesOverlaps.overlaps #[34,34] #[4] #[a,b]).run Tryz.prog w = .ok (.bool false) w) : (callFunc 358 #[a,b]).run Tryz.prog w = .ok (.value (.bool false)) w:=by
 rw [run_callFunc_extern Tryz.func358 (by kernel_rfl) (by kernel_rfl) (by kernel_rfl) (e:=Extern.SlicesOverlaps.overlaps #[34,34] #[4]) (by kernel_rfl),h]
 rfl
set_option maxHeartbeats 4000000 in
set_option maxRecDepth 1000000 in
theorem iw326 : th Tryz.prog 326 34 3 358:=by
 intro b n c i vb vc w W1 W2 hi hroom hc63 hov hcp1 hcp2
 have tS : Tryz.prog.underlying 34 = some (.slice 91):=by kernel_rfl
 have mixed : Tryz.prog.follows .mixedOrders = true:=Checked.mixed Tryz.checked
 have hz2 : ¬ ((i : Int) = (n : Int)):=by omega
 have hw1 : IntKind.i64.wrap ((i : Int) + 1) = (i : Int) + 1:=by rw [IntKind.wrap_i64]; omega
 have hw2 : IntKind.i64.wrap ((n : Int) + 1) = (n : Int) + 1:=by rw [IntKind.wrap_i64]; omega
 have hb1 : (0 : Int) ≤ (i : Int) + 1:=by omega
 have hb0 : (0 : Int) ≤ (n : Int) + 1:=by omega
 have hin : i ≤ n:=by omega
 have htn : ((i : Int) + 1).toNat = i + 1:=by omega
 have htm : ((n : Int) + 1).toNat = n + 1:=by omega
 have hb2 : ¬ (c = i + 1):=by omega
 have hb3 : (i : Int) ≤ (n : Int) + 1:=by omega
 have hb4 : ¬ (c = i):=by omega
 go_enter Tryz.func326,Tryz.ntmps326
 go_wp2_with (simp only [hov])
 go_region_law_o (refine mG rfl _ _ 34 34 rfl _ _ (by simp [Act.eval,Act.put]) (by simp [Act.eval,Act.put]) (hcp1 _ _ _) ?_)
 go_wp2_with (at_builtin; refine lv _ rfl _ _ 34 34 rfl _ _ rfl rfl (hcp2 _ _) ?_)
 go_ret
 exact ⟨rfl,rfl⟩
set_option maxHeartbeats 4000000 in
set_option maxRecDepth 1000000 in
theorem ig326 : uU Tryz.prog 326 34 3 3:=by
 intro b n i vb vc nb G w W0 W1 W2 hi hn hG hG63 hap hcpA hcpB
 have tS : Tryz.prog.underlying 34 = some (.slice 91):=by kernel_rfl
 have mixed : Tryz.prog.follows .mixedOrders = true:=Checked.mixed Tryz.checked
 have hz2 : ¬ ((i : Int) = (n : Int)):=by omega
 have hz3 : (n : Int) < (n : Int) + 1:=by omega
 have hw1 : IntKind.i64.wrap ((i : Int) + 1) = (i : Int) + 1:=by rw [IntKind.wrap_i64]; omega
 have hw2 : IntKind.i64.wrap ((n : Int) + 1) = (n : Int) + 1:=by rw [IntKind.wrap_i64]; omega
 have hw3 : IntKind.i64.wrap ((n : Int) + 1 - (i : Int)) = (n : Int) + 1 - (i : Int):=by rw [IntKind.wrap_i64]; omega
 have hb1 : (0 : Int) ≤ (i : Int) + 1:=by omega
 have hin : i ≤ n:=by omega
 have htn : ((i : Int) + 1).toNat = i + 1:=by omega
 have hb3 : (i : Int) ≤ (n : Int):=by omega
 have hGi : ¬ (G = i):=by omega
 have hGim : ¬ (G = i + 1):=by omega
 have hci : ¬ (n = i):=by omega
 go_enter Tryz.func326,Tryz.ntmps326
 go_wp2_with (first
  | (at_builtin; refine Lib.wpList_append_run _ rfl _ _ _ _ rfl _ _ rfl rfl _ _ (hap _) ?_)
  | (at_builtin; refine lv _ rfl _ _ 34 34 rfl _ _ rfl rfl (hcpA _ _) ?_))
 go_region_law_o (refine mG rfl _ _ 34 34 rfl (.slice (some ⟨nb,(i + 1) * 3,none⟩) (n - i) (G - (i + 1))) (.slice (some ⟨b,i * 3,none⟩) (n - i) (n - i)) (by simp [Act.eval,Act.put]) (by simp [Act.eval,Act.put]) (hcpB _ _ _) ?_)
 go_wp2
 go_ret
 exact ⟨rfl,rfl⟩
theorem ok326 : FnOk Tryz.prog 326 sp326:=AW tok (te:=row91) (tb:=4) (by kernel_rfl) (by kernel_rfl) (sz:=3) (by kernel_rfl) (Nat.blt_eq.mp (by kernel_rfl)) (Nat.ble_eq.mp (by kernel_rfl)) (by kernel_rfl : Tryz.prog.underlying 34 = some (.slice 91)) (by kernel_rfl : Tryz.prog.underlying 3 = some (.int .i64)) ⟨Tryz.f326,by kernel_rfl,by kernel_rfl,by kernel_rfl⟩ ov326 ER iw326 ig326
theorem ok267 : FnOk Tryz.prog 267 sp267:=fo (nv:=8) (h:=h267) (ab ok324 (ab ok325 (ab ok326 af))) Tryz.func267
theorem ok189 : FnOk Tryz.prog 189 sp189:=fo (nv:=59) (h:=h189) (ab ok19 (ab ok143 (ab ok182 (ab ok183 (ab ok184 (ab ok185 (ab ok186 (ab ok188 (ab ok265 (ab ok266 (ab ok267 af))))))))))) Tryz.func189
theorem ok106 : FnOk Tryz.prog 106 sp106:=fo (nv:=8) (h:=h106) (ab ok58 (ab ok181 (ab ok189 af))) Tryz.func106
theorem ok41 : FnOk Tryz.prog 41 sp41:=fo (nv:=11) (h:=h41) (ab ok79 (ab ok103 (ab ok104 (ab ok105 (ab ok106 af))))) Tryz.func41
theorem ok40 : FnOk Tryz.prog 40 sp40:=fo (nv:=6) (h:=h40) (ab ok20 (ab ok37 (ab ok41 (ab ok101 (ab ok102 af))))) Tryz.func40
theorem ok10 : FnOk Tryz.prog 10 sp10:=fo (nv:=13) (h:=h10) (ab ok16 (ab ok17 (ab ok20 (ab ok30 (ab ok32 (ab ok40 (ab ok41 (ab ok42 (ab ok43 (ab ok44 (ab ok45 (ab ok46 (ab ok47 (ab ok48 af)))))))))))))) Tryz.func10
end Go.Fx.D
