/-
  Each of these functions does what its function over plain data says, where that gives an answer (printed by a program). Conditions: none.
-/
import Derived.Test.YtkhnjoehenkmcaaGreatFxD
import Derived.Test.YtkhnjoehenkmcaaGreatD
import Derived.Test.YtkhnjoehenkmcaaGreatFxC
import Derived.Test.YtkhnjoehenkmcaaGreatChecked
import Derived.WalkKit
import Derived.TacticsInMore
import Derived.LoopNIn
import Derived.LoopIn
namespace Go.Fx.D
open Go Go.Fx Go.Proofs Go.RowKit Go.Lib
set_option linter.unusedVariables false
set_option maxRecDepth 100000
theorem rk {t : TypeId} {i : TI fam} (j : TypeInfo) (h1 : Tryz.prog.underlying t = some i.desc:=by kernel_rfl) (h2 : Tryz.prog.info? t = some j:=by kernel_rfl) (h3 : j.zero = some (j.zero.getD .nilFunc):=by kernel_rfl) (h4 : (Nat.beq j.size i.size && Nat.beq j.bytes i.bytes && Nat.beq (j.zero.getD .nilFunc).cells.size i.size && zok i.zero (j.zero.getD .nilFunc).cells.toList && (aggV (j.zero.getD .nilFunc) == ea i.desc)) = true:=by kernel_rfl) (h5 : tyOk i = true:=by kernel_rfl) (h6 : eqOkB Tryz.prog t i = true:=by kernel_rfl) : RowOk Tryz.prog t i:=⟨h1,⟨j,_,h2,h3,h4⟩,h5,h6⟩
theorem GM : RowOk Tryz.prog 3 row3:=rk Tryz.t3
theorem GG : RowOk Tryz.prog 4 row4:=rk Tryz.t4
theorem GU : RowOk Tryz.prog 5 row5:=rk Tryz.t5
theorem GN : RowOk Tryz.prog 9 row9:=rk Tryz.t9
theorem Gz : RowOk Tryz.prog 22 row22:=rk Tryz.t22
theorem Cw : RowOk Tryz.prog 27 row27:=rk Tryz.t27
theorem CH : RowOk Tryz.prog 28 row28:=rk Tryz.t28
theorem F4 : RowOk Tryz.prog 30 row30:=rk Tryz.t30
theorem Cy : RowOk Tryz.prog 31 row31:=rk Tryz.t31
theorem Cr : RowOk Tryz.prog 32 row32:=rk Tryz.t32
theorem Cl : RowOk Tryz.prog 33 row33:=rk Tryz.t33
theorem CK : RowOk Tryz.prog 34 row34:=rk Tryz.t34
theorem CG : RowOk Tryz.prog 35 row35:=rk Tryz.t35
theorem Gf : RowOk Tryz.prog 37 row37:=rk Tryz.t37
theorem FU : RowOk Tryz.prog 48 row48:=rk Tryz.t48
theorem FZ : RowOk Tryz.prog 50 row50:=rk Tryz.t50
theorem CO : RowOk Tryz.prog 53 row53:=rk Tryz.t53
theorem Gp : RowOk Tryz.prog 55 row55:=rk Tryz.t55
theorem FV : RowOk Tryz.prog 63 row63:=rk Tryz.t63
theorem CN : RowOk Tryz.prog 64 row64:=rk Tryz.t64
theorem Gq : RowOk Tryz.prog 66 row66:=rk Tryz.t66
theorem Gw : RowOk Tryz.prog 68 row68:=rk Tryz.t68
theorem Gr : RowOk Tryz.prog 70 row70:=rk Tryz.t70
theorem FW : RowOk Tryz.prog 75 row75:=rk Tryz.t75
theorem F6 : RowOk Tryz.prog 83 row83:=rk Tryz.t83
theorem Gj : RowOk Tryz.prog 89 row89:=rk Tryz.t89
theorem Ga : RowOk Tryz.prog 92 row92:=rk Tryz.t92
theorem F_ : RowOk Tryz.prog 93 row93:=rk Tryz.t93
theorem FP : RowOk Tryz.prog 94 row94:=rk Tryz.t94
theorem F8 : RowOk Tryz.prog 96 row96:=rk Tryz.t96
theorem EX : RowOk Tryz.prog 118 D3:=rk Tryz.t118
theorem EL : RowOk Tryz.prog 144 D1:=rk Tryz.t144
theorem Fs : RowOk Tryz.prog 146 DZ:=rk Tryz.t146
theorem EU : RowOk Tryz.prog 148 Ed:=rk Tryz.t148
theorem FG : RowOk Tryz.prog 168 DM:=rk Tryz.t168
theorem EV : RowOk Tryz.prog 193 DU:=rk Tryz.t193
theorem Es : RowOk Tryz.prog 196 Dv:=rk Tryz.t196
theorem Ev : RowOk Tryz.prog 216 DG:=rk Tryz.t216
theorem EN : RowOk Tryz.prog 224 D5:=rk Tryz.t224
theorem EQ : RowOk Tryz.prog 226 DV:=rk Tryz.t226
theorem Fd : RowOk Tryz.prog 235 D_:=rk Tryz.t235
theorem Fw : RowOk Tryz.prog 243 Dx:=rk Tryz.t243
theorem FB : RowOk Tryz.prog 252 Ef:=rk Tryz.t252
theorem EY : RowOk Tryz.prog 256 Dw:=rk Tryz.t256
theorem Fo : RowOk Tryz.prog 270 D4:=rk Tryz.t270
theorem EW : RowOk Tryz.prog 277 Dt:=rk Tryz.t277
theorem tok : TblOk Tryz.prog (look tbl):=tblOk (all_cons GM (all_cons GG (all_cons GU (all_cons GN (all_cons Gz (all_cons Cw (all_cons CH (all_cons F4 (all_cons Cy (all_cons Cr (all_cons Cl (all_cons CK (all_cons CG (all_cons Gf (all_cons FU (all_cons FZ (all_cons CO (all_cons Gp (all_cons FV (all_cons CN (all_cons Gq (all_cons Gw (all_cons Gr (all_cons FW (all_cons F6 (all_cons Gj (all_cons Ga (all_cons F_ (all_cons FP (all_cons F8 (all_cons EX (all_cons EL (all_cons Fs (all_cons EU (all_cons FG (all_cons EV (all_cons Es (all_cons Ev (all_cons EN (all_cons EQ (all_cons Fd (all_cons Fw (all_cons FB (all_cons EY (all_cons Fo (all_cons EW all_nil))))))))))))))))))))))))))))))))))))))))))))))
theorem mix : Tryz.prog.follows .mixedOrders = true:=Checked.mixed Tryz.checked
theorem fo {Γ : Ctx fam} {nv : Nat} {h : Hint} (hΓ : CtxOk Tryz.prog Γ) {f : FuncId} {fn : Func} {sp : Spec fam} (hf : Tryz.prog.funcs[f]? = some fn) (hnm : (fn.name == "runtime.NumGoroutine") = false:=by kernel_rfl) (hbn : fn.body.isNone = false:=by kernel_rfl) (hlen : Nat.ble sp.ks.length fn.ntmps = true:=by kernel_rfl) (hrs : sp.rs.all (fun k => !k.isBox) = true:=by kernel_rfl) (hD : (fun a => tFunc (look tbl) Γ nv fn h sp.ks sp.rs a) = sp.D:=by kernel_rfl) : FnOk Tryz.prog f sp:=fnOk tok mix hΓ hf hnm hbn hlen hrs hD
theorem ok34 : FnOk Tryz.prog 34 sp34:=fo (nv:=4) (h:=h34) am Tryz.func34
theorem ok225 : FnOk Tryz.prog 225 sp225:=fo (nv:=2) (h:=h225) am Tryz.func225
theorem ok226 : FnOk Tryz.prog 226 sp226:=fo (nv:=3) (h:=h226) (ak ok225 am) Tryz.func226
theorem ok194 : FnOk Tryz.prog 194 sp194:=fo (nv:=5) (h:=h194) (ak ok225 (ak ok226 am)) Tryz.func194
theorem ok146 : FnOk Tryz.prog 146 sp146:=fo (nv:=9) (h:=h146) (ak ok194 am) Tryz.func146
theorem ok85 : FnOk Tryz.prog 85 sp85:=fo (nv:=12) (h:=h85) (ak ok146 am) Tryz.func85
theorem ok192 : FnOk Tryz.prog 192 sp192:=fo (nv:=13) (h:=h192) am Tryz.func192
theorem ok250 : FnOk Tryz.prog 250 sp250:=fo (nv:=2) (h:=h250) am Tryz.func250
theorem ok224 : FnOk Tryz.prog 224 sp224:=fo (nv:=2) (h:=h224) (ak ok250 am) Tryz.func224
theorem ok193 : FnOk Tryz.prog 193 sp193:=fo (nv:=4) (h:=h193) (ak ok224 am) Tryz.func193
theorem ok141 : FnOk Tryz.prog 141 sp141:=fo (nv:=16) (h:=h141) (ak ok192 (ak ok193 (ak ok194 am))) Tryz.func141
theorem ok82 : FnOk Tryz.prog 82 sp82:=fo (nv:=7) (h:=h82) (ak ok141 am) Tryz.func82
theorem ok269 : FnOk Tryz.prog 269 sp269:=fo (nv:=6) (h:=h269) am Tryz.func269
theorem ok277 : FnOk Tryz.prog 277 sp277:=fo (nv:=9) (h:=h277) am Tryz.func277
theorem ok270 : FnOk Tryz.prog 270 sp270:=fo (nv:=12) (h:=h270) (ak ok277 am) Tryz.func270
theorem ok249 : FnOk Tryz.prog 249 sp249:=fo (nv:=6) (h:=h249) (ak ok269 (ak ok270 am)) Tryz.func249
theorem ok220 : FnOk Tryz.prog 220 sp220:=fo (nv:=5) (h:=h220) (ak ok249 am) Tryz.func220
theorem ok227 : FnOk Tryz.prog 227 sp227:=fo (nv:=4) (h:=h227) (ak ok220 am) Tryz.func227
theorem Ff : FnOk Tryz.prog 155 Fb:=fnOk (nv:=1) (h:=h155) tok mix am Tryz.func155 (by kernel_rfl) (by kernel_rfl) (by kernel_rfl) (by kernel_rfl) (by kernel_rfl)
set_option maxHeartbeats 2000000 in
theorem Gy (p : Option Addr) (cap : Nat) (w : World) : Calls Tryz.prog 155 #[.slice p 0 cap] w fun e w' => ∃ p',e = .returned (.slice p' 0 0) ∧ RowKit.Below w.heap.size w w' ∧ w.drawn ≤ w'.drawn:=by
 have q:=qG (P:=Tryz.prog) (t:=64) CN.und
 cases p with
 | none =>
  go_enter Tryz.func155,Tryz.ntmps155
  go_wp2
  go_ret
  exact ⟨_,rfl,.refl _ _,Nat.le_refl _⟩
 | some p =>
  go_enter Tryz.func155,Tryz.ntmps155
  go_wp2
  go_ret
  exact ⟨_,rfl,(RowKit.Below.refl _ w).alloc (Nat.le_refl _) _,Nat.le_refl _⟩
theorem ok155 : FnOk Tryz.prog 155 sp155:=jM Ff Gy
theorem ok251 : FnOk Tryz.prog 251 sp251:=fo (nv:=9) (h:=h251) am Tryz.func251
theorem ok252 : FnOk Tryz.prog 252 sp252:=fo (nv:=3) (h:=h252) am Tryz.func252
theorem ok228 : FnOk Tryz.prog 228 sp228:=fo (nv:=8) (h:=h228) (ak ok155 (ak ok251 (ak ok252 am))) Tryz.func228
theorem ok271 : FnOk Tryz.prog 271 sp271:=fo (nv:=14) (h:=h271) am Tryz.func271
theorem ok177 : FnOk Tryz.prog 177 sp177:=fo (nv:=3) (h:=h177) am Tryz.func177
theorem ok278 : FnOk Tryz.prog 278 sp278:=fo (nv:=1) (h:=h278) (ak ok177 am) Tryz.func278
theorem ok272 : FnOk Tryz.prog 272 sp272:=fo (nv:=19) (h:=h272) (ak ok278 am) Tryz.func272
theorem ok253 : FnOk Tryz.prog 253 sp253:=fo (nv:=8) (h:=h253) (ak ok271 (ak ok272 am)) Tryz.func253
theorem ok229 : FnOk Tryz.prog 229 sp229:=fo (nv:=5) (h:=h229) (ak ok225 (ak ok226 (ak ok253 am))) Tryz.func229
theorem ok197 : FnOk Tryz.prog 197 sp197:=fo (nv:=15) (h:=h197) (ak ok85 (ak ok227 (ak ok228 (ak ok229 am)))) Tryz.func197
theorem ok198 : FnOk Tryz.prog 198 sp198:=fo (nv:=2) (h:=h198) am Tryz.func198
theorem ok143 : FnOk Tryz.prog 143 sp143:=fo (nv:=7) (h:=h143) (ak ok197 (ak ok198 am)) Tryz.func143
theorem ok144 : FnOk Tryz.prog 144 sp144:=fo (nv:=2) (h:=h144) am Tryz.func144
theorem ok279 : FnOk Tryz.prog 279 sp279:=fo (nv:=9) (h:=h279) am Tryz.func279
theorem ok273 : FnOk Tryz.prog 273 sp273:=fo (nv:=2) (h:=h273) (ak ok279 am) Tryz.func273
theorem ok274 : FnOk Tryz.prog 274 sp274:=fo (nv:=3) (h:=h274) am Tryz.func274
theorem ok254 : FnOk Tryz.prog 254 sp254:=fo (nv:=5) (h:=h254) (ak ok273 (ak ok274 am)) Tryz.func254
theorem ok230 : FnOk Tryz.prog 230 sp230:=fo (nv:=11) (h:=h230) (ak ok254 am) Tryz.func230
theorem ok199 : FnOk Tryz.prog 199 sp199:=fo (nv:=11) (h:=h199) (ak ok144 (ak ok193 (ak ok194 (ak ok230 am)))) Tryz.func199
theorem ok145 : FnOk Tryz.prog 145 sp145:=fo (nv:=7) (h:=h145) (ak ok199 am) Tryz.func145
theorem ok189 : FnOk Tryz.prog 189 sp189:=fo (nv:=14) (h:=h189) (ak ok220 am) Tryz.func189
theorem ok221 : FnOk Tryz.prog 221 sp221:=fo (nv:=2) (h:=h221) am Tryz.func221
theorem ok190 : FnOk Tryz.prog 190 sp190:=fo (nv:=7) (h:=h190) (ak ok197 (ak ok221 am)) Tryz.func190
theorem ok222 : FnOk Tryz.prog 222 sp222:=fo (nv:=10) (h:=h222) am Tryz.func222
theorem ok223 : FnOk Tryz.prog 223 sp223:=fo (nv:=1) (h:=h223) am Tryz.func223
theorem ok191 : FnOk Tryz.prog 191 sp191:=fo (nv:=61) (h:=h191) (ak ok222 (ak ok223 am)) Tryz.func191
theorem F3 : FnOk Tryz.prog 140 (ub 0):=⟨⟨Tryz.f140,by kernel_rfl,by kernel_rfl,by kernel_rfl⟩,fun a r hr => nomatch (show (none : Option _) = some r from hr)⟩
set_option maxHeartbeats 4000000 in
theorem Gm (n : Nat) (ih : FnOk Tryz.prog 140 (ub n)) : FnOk Tryz.prog 140 (ub (n + 1)):=fnOk (nv:=110) (h:=h140) tok mix (ak ih (ak ih (ak ok82 (ak ok143 (ak ok145 (ak ok189 (ak ok190 (ak ok191 am)))))))) Tryz.func140 (by kernel_rfl) (by kernel_rfl) (by kernel_rfl) (by kernel_rfl) (by kernel_rfl)
theorem Gi (n : Nat) : FnOk Tryz.prog 140 (ub n):=Nat.rec (motive:=fun n => FnOk Tryz.prog 140 (ub n)) F3 (fun n ih => Gm n ih) n
theorem ok140 : FnOk Tryz.prog 140 sp140:=Gi 64
theorem ok81 : FnOk Tryz.prog 81 sp81:=fo (nv:=3) (h:=h81) (ak ok85 (ak ok140 am)) Tryz.func81
theorem ok160 : FnOk Tryz.prog 160 sp160:=fo (nv:=9) (h:=h160) am Tryz.func160
theorem ok161 : FnOk Tryz.prog 161 sp161:=fo (nv:=3) (h:=h161) am Tryz.func161
theorem ok97 : FnOk Tryz.prog 97 sp97:=fo (nv:=4) (h:=h97) (ak ok160 (ak ok161 am)) Tryz.func97
theorem EI : FnOk Tryz.prog 195 Fl:=fnOk (nv:=1) (h:=h195) tok mix am Tryz.func195 (by kernel_rfl) (by kernel_rfl) (by kernel_rfl) (by kernel_rfl) (by kernel_rfl)
set_option maxHeartbeats 2000000 in
theorem F2 (p : Option Addr) (cap : Nat) (w : World) : Calls Tryz.prog 195 #[.slice p 0 cap] w fun e w' => ∃ p',e = .returned (.slice p' 0 0) ∧ RowKit.Below w.heap.size w w' ∧ w.drawn ≤ w'.drawn:=by
 have q:=qG (P:=Tryz.prog) (t:=53) CO.und
 cases p with
 | none =>
  go_enter Tryz.func195,Tryz.ntmps195
  go_wp2
  go_ret
  exact ⟨_,rfl,.refl _ _,Nat.le_refl _⟩
 | some p =>
  go_enter Tryz.func195,Tryz.ntmps195
  go_wp2
  go_ret
  exact ⟨_,rfl,(RowKit.Below.refl _ w).alloc (Nat.le_refl _) _,Nat.le_refl _⟩
theorem ok195 : FnOk Tryz.prog 195 sp195:=jM EI F2
theorem ok196 : FnOk Tryz.prog 196 sp196:=fo (nv:=4) (h:=h196) am Tryz.func196
theorem ok142 : FnOk Tryz.prog 142 sp142:=fo (nv:=3) (h:=h142) (ak ok195 (ak ok196 am)) Tryz.func142
theorem ok83 : FnOk Tryz.prog 83 sp83:=fo (nv:=7) (h:=h83) (ak ok97 (ak ok142 am)) Tryz.func83
theorem ok31 : FnOk Tryz.prog 31 sp31:=fo (nv:=47) (h:=h31) (ak ok34 (ak ok81 (ak ok82 (ak ok83 am)))) Tryz.func31
theorem ok84 : FnOk Tryz.prog 84 sp84:=fo (nv:=54) (h:=h84) (ak ok82 (ak ok143 (ak ok144 (ak ok145 am)))) Tryz.func84
theorem ok32 : FnOk Tryz.prog 32 sp32:=fo (nv:=20) (h:=h32) (ak ok81 (ak ok82 (ak ok84 (ak ok85 am)))) Tryz.func32
theorem ok86 : FnOk Tryz.prog 86 sp86:=fo (nv:=9) (h:=h86) am Tryz.func86
theorem ok147 : FnOk Tryz.prog 147 sp147:=fo (nv:=1) (h:=h147) am Tryz.func147
theorem ok87 : FnOk Tryz.prog 87 sp87:=fo (nv:=7) (h:=h87) (ak ok147 am) Tryz.func87
theorem ok148 : FnOk Tryz.prog 148 sp148:=fo (nv:=1) (h:=h148) am Tryz.func148
theorem ok88 : FnOk Tryz.prog 88 sp88:=fo (nv:=7) (h:=h88) (ak ok148 am) Tryz.func88
theorem ok33 : FnOk Tryz.prog 33 sp33:=fo (nv:=94) (h:=h33) (ak ok86 (ak ok87 (ak ok88 am))) Tryz.func33
theorem ok12 : FnOk Tryz.prog 12 sp12:=fo (nv:=9) (h:=h12) (ak ok31 (ak ok32 (ak ok33 (ak ok34 am)))) Tryz.func12
theorem ok42 : FnOk Tryz.prog 42 sp42:=fo (nv:=9) (h:=h42) am Tryz.func42
theorem ES : FnOk Tryz.prog 103 EO:=fnOk (nv:=1) (h:=h103) tok mix am Tryz.func103 (by kernel_rfl) (by kernel_rfl) (by kernel_rfl) (by kernel_rfl) (by kernel_rfl)
set_option maxHeartbeats 2000000 in
theorem Gb (p : Option Addr) (cap : Nat) (w : World) : Calls Tryz.prog 103 #[.slice p 0 cap] w fun e w' => ∃ p',e = .returned (.slice p' 0 0) ∧ RowKit.Below w.heap.size w w' ∧ w.drawn ≤ w'.drawn:=by
 have q:=qG (P:=Tryz.prog) (t:=33) Cl.und
 cases p with
 | none =>
  go_enter Tryz.func103,Tryz.ntmps103
  go_wp2
  go_ret
  exact ⟨_,rfl,.refl _ _,Nat.le_refl _⟩
 | some p =>
  go_enter Tryz.func103,Tryz.ntmps103
  go_wp2
  go_ret
  exact ⟨_,rfl,(RowKit.Below.refl _ w).alloc (Nat.le_refl _) _,Nat.le_refl _⟩
theorem ok103 : FnOk Tryz.prog 103 sp103:=jM ES Gb
theorem Eu : FnOk Tryz.prog 153 E_:=fnOk (nv:=1) (h:=h153) tok mix am Tryz.func153 (by kernel_rfl) (by kernel_rfl) (by kernel_rfl) (by kernel_rfl) (by kernel_rfl)
set_option maxHeartbeats 2000000 in
theorem Gn (p : Option Addr) (cap : Nat) (w : World) : Calls Tryz.prog 153 #[.slice p 0 cap] w fun e w' => ∃ p',e = .returned (.slice p' 0 0) ∧ RowKit.Below w.heap.size w w' ∧ w.drawn ≤ w'.drawn:=by
 have q:=qG (P:=Tryz.prog) (t:=27) Cw.und
 cases p with
 | none =>
  go_enter Tryz.func153,Tryz.ntmps153
  go_wp2
  go_ret
  exact ⟨_,rfl,.refl _ _,Nat.le_refl _⟩
 | some p =>
  go_enter Tryz.func153,Tryz.ntmps153
  go_wp2
  go_ret
  exact ⟨_,rfl,(RowKit.Below.refl _ w).alloc (Nat.le_refl _) _,Nat.le_refl _⟩
theorem ok153 : FnOk Tryz.prog 153 sp153:=jM Eu Gn
theorem Fu : FnOk Tryz.prog 154 E3:=fnOk (nv:=1) (h:=h154) tok mix am Tryz.func154 (by kernel_rfl) (by kernel_rfl) (by kernel_rfl) (by kernel_rfl) (by kernel_rfl)
set_option maxHeartbeats 2000000 in
theorem F5 (p : Option Addr) (cap : Nat) (w : World) : Calls Tryz.prog 154 #[.slice p 0 cap] w fun e w' => ∃ p',e = .returned (.slice p' 0 0) ∧ RowKit.Below w.heap.size w w' ∧ w.drawn ≤ w'.drawn:=by
 have q:=qG (P:=Tryz.prog) (t:=28) CH.und
 cases p with
 | none =>
  go_enter Tryz.func154,Tryz.ntmps154
  go_wp2
  go_ret
  exact ⟨_,rfl,.refl _ _,Nat.le_refl _⟩
 | some p =>
  go_enter Tryz.func154,Tryz.ntmps154
  go_wp2
  go_ret
  exact ⟨_,rfl,(RowKit.Below.refl _ w).alloc (Nat.le_refl _) _,Nat.le_refl _⟩
theorem ok154 : FnOk Tryz.prog 154 sp154:=jM Fu F5
theorem FK : FnOk Tryz.prog 156 EH:=fnOk (nv:=1) (h:=h156) tok mix am Tryz.func156 (by kernel_rfl) (by kernel_rfl) (by kernel_rfl) (by kernel_rfl) (by kernel_rfl)
set_option maxHeartbeats 2000000 in
theorem Gs (p : Option Addr) (cap : Nat) (w : World) : Calls Tryz.prog 156 #[.slice p 0 cap] w fun e w' => ∃ p',e = .returned (.slice p' 0 0) ∧ RowKit.Below w.heap.size w w' ∧ w.drawn ≤ w'.drawn:=by
 have q:=qG (P:=Tryz.prog) (t:=31) Cy.und
 cases p with
 | none =>
  go_enter Tryz.func156,Tryz.ntmps156
  go_wp2
  go_ret
  exact ⟨_,rfl,.refl _ _,Nat.le_refl _⟩
 | some p =>
  go_enter Tryz.func156,Tryz.ntmps156
  go_wp2
  go_ret
  exact ⟨_,rfl,(RowKit.Below.refl _ w).alloc (Nat.le_refl _) _,Nat.le_refl _⟩
theorem ok156 : FnOk Tryz.prog 156 sp156:=jM FK Gs
theorem Fk : FnOk Tryz.prog 157 FH:=fnOk (nv:=1) (h:=h157) tok mix am Tryz.func157 (by kernel_rfl) (by kernel_rfl) (by kernel_rfl) (by kernel_rfl) (by kernel_rfl)
set_option maxHeartbeats 2000000 in
theorem F1 (p : Option Addr) (cap : Nat) (w : World) : Calls Tryz.prog 157 #[.slice p 0 cap] w fun e w' => ∃ p',e = .returned (.slice p' 0 0) ∧ RowKit.Below w.heap.size w w' ∧ w.drawn ≤ w'.drawn:=by
 have q:=qG (P:=Tryz.prog) (t:=34) CK.und
 cases p with
 | none =>
  go_enter Tryz.func157,Tryz.ntmps157
  go_wp2
  go_ret
  exact ⟨_,rfl,.refl _ _,Nat.le_refl _⟩
 | some p =>
  go_enter Tryz.func157,Tryz.ntmps157
  go_wp2
  go_ret
  exact ⟨_,rfl,(RowKit.Below.refl _ w).alloc (Nat.le_refl _) _,Nat.le_refl _⟩
theorem ok157 : FnOk Tryz.prog 157 sp157:=jM Fk F1
theorem EB : FnOk Tryz.prog 158 Fz:=fnOk (nv:=1) (h:=h158) tok mix am Tryz.func158 (by kernel_rfl) (by kernel_rfl) (by kernel_rfl) (by kernel_rfl) (by kernel_rfl)
set_option maxHeartbeats 2000000 in
theorem FQ (p : Option Addr) (cap : Nat) (w : World) : Calls Tryz.prog 158 #[.slice p 0 cap] w fun e w' => ∃ p',e = .returned (.slice p' 0 0) ∧ RowKit.Below w.heap.size w w' ∧ w.drawn ≤ w'.drawn:=by
 have q:=qG (P:=Tryz.prog) (t:=35) CG.und
 cases p with
 | none =>
  go_enter Tryz.func158,Tryz.ntmps158
  go_wp2
  go_ret
  exact ⟨_,rfl,.refl _ _,Nat.le_refl _⟩
 | some p =>
  go_enter Tryz.func158,Tryz.ntmps158
  go_wp2
  go_ret
  exact ⟨_,rfl,(RowKit.Below.refl _ w).alloc (Nat.le_refl _) _,Nat.le_refl _⟩
theorem ok158 : FnOk Tryz.prog 158 sp158:=jM EB FQ
theorem Er : FnOk Tryz.prog 159 EJ:=fnOk (nv:=1) (h:=h159) tok mix am Tryz.func159 (by kernel_rfl) (by kernel_rfl) (by kernel_rfl) (by kernel_rfl) (by kernel_rfl)
set_option maxHeartbeats 2000000 in
theorem Gh (p : Option Addr) (cap : Nat) (w : World) : Calls Tryz.prog 159 #[.slice p 0 cap] w fun e w' => ∃ p',e = .returned (.slice p' 0 0) ∧ RowKit.Below w.heap.size w w' ∧ w.drawn ≤ w'.drawn:=by
 have q:=qG (P:=Tryz.prog) (t:=32) Cr.und
 cases p with
 | none =>
  go_enter Tryz.func159,Tryz.ntmps159
  go_wp2
  go_ret
  exact ⟨_,rfl,.refl _ _,Nat.le_refl _⟩
 | some p =>
  go_enter Tryz.func159,Tryz.ntmps159
  go_wp2
  go_ret
  exact ⟨_,rfl,(RowKit.Below.refl _ w).alloc (Nat.le_refl _) _,Nat.le_refl _⟩
theorem ok159 : FnOk Tryz.prog 159 sp159:=jM Er Gh
theorem ok95 : FnOk Tryz.prog 95 sp95:=fo (nv:=62) (h:=h95) (ak ok103 (ak ok142 (ak ok153 (ak ok154 (ak ok155 (ak ok156 (ak ok157 (ak ok158 (ak ok159 am))))))))) Tryz.func95
theorem ok96 : FnOk Tryz.prog 96 sp96:=fo (nv:=3) (h:=h96) am Tryz.func96
theorem ok256 : FnOk Tryz.prog 256 sp256:=fo (nv:=9) (h:=h256) am Tryz.func256
theorem ok233 : FnOk Tryz.prog 233 sp233:=fo (nv:=8) (h:=h233) (ak ok256 am) Tryz.func233
theorem ok234 : FnOk Tryz.prog 234 sp234:=fo (nv:=4) (h:=h234) am Tryz.func234
theorem ok235 : FnOk Tryz.prog 235 sp235:=fo (nv:=3) (h:=h235) am Tryz.func235
theorem ok236 : FnOk Tryz.prog 236 sp236:=fo (nv:=10) (h:=h236) am Tryz.func236
theorem ok202 : FnOk Tryz.prog 202 sp202:=fo (nv:=8) (h:=h202) (ak ok233 (ak ok234 (ak ok235 (ak ok236 am)))) Tryz.func202
theorem ok162 : FnOk Tryz.prog 162 sp162:=fo (nv:=4) (h:=h162) (ak ok202 am) Tryz.func162
theorem ok203 : FnOk Tryz.prog 203 sp203:=fo (nv:=8) (h:=h203) (ak ok42 am) Tryz.func203
theorem ok204 : FnOk Tryz.prog 204 sp204:=fo (nv:=4) (h:=h204) am Tryz.func204
theorem ok237 : FnOk Tryz.prog 237 sp237:=fo (nv:=9) (h:=h237) am Tryz.func237
theorem ok205 : FnOk Tryz.prog 205 sp205:=fo (nv:=8) (h:=h205) (ak ok237 am) Tryz.func205
theorem ok206 : FnOk Tryz.prog 206 sp206:=fo (nv:=3) (h:=h206) am Tryz.func206
theorem ok163 : FnOk Tryz.prog 163 sp163:=fo (nv:=7) (h:=h163) (ak ok203 (ak ok204 (ak ok205 (ak ok206 am)))) Tryz.func163
theorem ok98 : FnOk Tryz.prog 98 sp98:=fo (nv:=6) (h:=h98) (ak ok162 (ak ok163 am)) Tryz.func98
set_option maxHeartbeats 4000000 in
set_option maxRecDepth 1000000 in
theorem dn99 : zn Tryz.prog 99:=by
 constructor
 ·intro b n cap i w hn hj
  go_enter Tryz.func99,Tryz.ntmps99
  go_wp2
  all_goals (go_ret; exact ⟨rfl,rfl⟩)
 ·intro p w
  cases p
  ·go_enter Tryz.func99,Tryz.ntmps99
   go_wp2
   all_goals (go_ret; exact ⟨rfl,rfl⟩)
  ·go_enter Tryz.func99,Tryz.ntmps99
   go_wp2
   all_goals (go_ret; exact ⟨rfl,rfl⟩)
set_option maxHeartbeats 4000000 in
set_option maxRecDepth 1000000 in
theorem dw99 : zC Tryz.prog 99 33 50 9:=by
 intro b n cap i j w hn hm hlt hj i0 hi0 hz1 A hA news s1 hsrc s2 s3 W1 W2 hW hcl
 have hic : i ≤ cap:=by omega
 have hjc : j ≤ cap:=by omega
 have tS : Tryz.prog.underlying 33 = some (.slice 50):=by kernel_rfl
 have mixed : Tryz.prog.follows .mixedOrders = true:=Checked.mixed Tryz.checked
 go_enter Tryz.func99,Tryz.ntmps99
 go_wp2_with fail
 go_region_law_o (refine step_append_room rfl (.tmp 22) (.tmp 25) 33 rfl 50 i0 9 tS hi0 hz1 b 0 i cap (by simp [Act.eval,Act.put]) A (n - j) (cap - j) news (by simp [Act.eval,Act.put]) s1.out hsrc.out s2.out (by omega) s3.out ?_; rw [← hW.out])
 go_wp2
 go_ret
 exact ⟨rfl,rfl⟩
theorem ok99 : FnOk Tryz.prog 99 sp99:=D7 tok (te:=row50) (by kernel_rfl) (by kernel_rfl) (sz:=9) (by kernel_rfl) (Nat.blt_eq.mp (by kernel_rfl)) (by kernel_rfl : Tryz.prog.underlying 33 = some (.slice 50)) ⟨Tryz.f99,by kernel_rfl,by kernel_rfl,by kernel_rfl⟩ dn99 dw99
theorem ok100 : FnOk Tryz.prog 100 sp100:=fo (nv:=9) (h:=h100) am Tryz.func100
set_option maxHeartbeats 4000000 in
set_option maxRecDepth 1000000 in
theorem dn101 : zn Tryz.prog 101:=by
 constructor
 ·intro b n cap i w hn hj
  go_enter Tryz.func101,Tryz.ntmps101
  go_wp2
  all_goals (go_ret; exact ⟨rfl,rfl⟩)
 ·intro p w
  cases p
  ·go_enter Tryz.func101,Tryz.ntmps101
   go_wp2
   all_goals (go_ret; exact ⟨rfl,rfl⟩)
  ·go_enter Tryz.func101,Tryz.ntmps101
   go_wp2
   all_goals (go_ret; exact ⟨rfl,rfl⟩)
set_option maxHeartbeats 4000000 in
set_option maxRecDepth 1000000 in
theorem dw101 : zC Tryz.prog 101 22 3 1:=by
 intro b n cap i j w hn hm hlt hj i0 hi0 hz1 A hA news s1 hsrc s2 s3 W1 W2 hW hcl
 have hic : i ≤ cap:=by omega
 have hjc : j ≤ cap:=by omega
 have hA2:=hA
 rw [Nat.mul_one] at hA2
 have hcl2:=hcl
 simp only [Nat.mul_one] at hcl2
 have tS : Tryz.prog.underlying 22 = some (.slice 3):=by kernel_rfl
 have mixed : Tryz.prog.follows .mixedOrders = true:=Checked.mixed Tryz.checked
 go_enter Tryz.func101,Tryz.ntmps101
 go_wp2_with fail
 go_region_law_o (refine step_append_room rfl (.tmp 22) (.tmp 25) 22 rfl 3 i0 1 tS hi0 hz1 b 0 i cap (by simp [Act.eval,Act.put]) A (n - j) (cap - j) news (by simp [Act.eval,Act.put]) s1.out hsrc.out s2.out (by omega) s3.out ?_; rw [← hW.out])
 go_wp2
 go_ret
 exact ⟨rfl,rfl⟩
theorem ok101 : FnOk Tryz.prog 101 sp101:=D7 tok (te:=row3) (by kernel_rfl) (by kernel_rfl) (sz:=1) (by kernel_rfl) (Nat.blt_eq.mp (by kernel_rfl)) (by kernel_rfl : Tryz.prog.underlying 22 = some (.slice 3)) ⟨Tryz.f101,by kernel_rfl,by kernel_rfl,by kernel_rfl⟩ dn101 dw101
theorem ok40 : FnOk Tryz.prog 40 sp40:=fo (nv:=17) (h:=h40) (ak ok42 (ak ok95 (ak ok96 (ak ok97 (ak ok98 (ak ok99 (ak ok100 (ak ok101 am)))))))) Tryz.func40
theorem ok104 : FnOk Tryz.prog 104 sp104:=fo (nv:=3) (h:=h104) am Tryz.func104
theorem ok105 : FnOk Tryz.prog 105 sp105:=fo (nv:=4) (h:=h105) am Tryz.func105
theorem ok165 : FnOk Tryz.prog 165 sp165:=fo (nv:=9) (h:=h165) am Tryz.func165
theorem ok166 : FnOk Tryz.prog 166 sp166:=fo (nv:=3) (h:=h166) am Tryz.func166
theorem ok106 : FnOk Tryz.prog 106 sp106:=fo (nv:=30) (h:=h106) (ak ok81 (ak ok82 (ak ok83 (ak ok165 (ak ok166 am))))) Tryz.func106
theorem hB41 (p : Option Addr) (n cap : Nat) (w : World) : Calls Tryz.prog 102 #[.slice p n cap] w fun e w' => e = .returned (.func (.func 164) #[] #[.pointer (some ⟨w.heap.size,0,none⟩)]) ∧ w' = w.alloc (.cells #[.slice p n cap] 33 (0,0)):=by
 go_enter Tryz.func102,Tryz.ntmps102
 go_wp2
 go_ret
 exact ⟨rfl,rfl⟩
set_option maxHeartbeats 4000000 in
set_option maxRecDepth 1000000 in
theorem hC41 : AW Tryz.prog 164 50 9:=by
 intro l bx n cap p J W hn hp hbx hcell hY h0
 refine callsIn_of_wp Tryz.func164 rfl trivial ?_ rfl
 simp only [Tryz.ntmps164,List.size_toArray,List.length_cons,List.length_nil,Nat.reduceAdd,Nat.reduceSub,Array.replicate_succ,Array.replicate_zero,List.push_toArray,List.append_toArray,List.nil_append,List.cons_append]
 gi_wp2
 gi_loopw [3] (fun i wr => ∃ k : Nat,k ≤ n ∧ i = .int .i64 ((k : Int) - 1) ∧ J k wr) (fun i _ => (Go.RowKit.intOf i + 1).toNat)
 case atStart => exact ⟨n,Nat.le_refl _,by rw [show wrap64 ((n : Int) - 1) = (n : Int) - 1 by unfold maxLen at hn; simp only [wrap64]; omega],h0⟩
 case round =>
  obtain ⟨k,hk,rfl,hJ⟩:=hrel
  have hcw : wr.cell? ⟨bx,0,none⟩ = some (.slice p n cap):=by rw [← hcell]; simp [World.cell?,hbx k wr hJ]
  cases k with
  | zero =>
   gi_wp2
   go_end0
   exact ⟨⟨_,rfl⟩,hJ⟩
  | succ k =>
   have e1 : (((k + 1 : Nat) : Int) - 1) = (k : Int):=by omega
   rw [e1]
   have hlt : k < n:=hk
   rcases hp with hp | ⟨b,rfl⟩
   ·omega
   obtain ⟨f,hf,fn,tmps,assign,body,hy,hR⟩:=hY k wr hJ hlt b rfl
   have c0:=hf 0 (by decide)
   rw [Nat.add_zero] at c0
   have c1:=hf 1 (by decide)
   have c2:=hf 2 (by decide)
   have c3:=hf 3 (by decide)
   have c4:=hf 4 (by decide)
   have c5:=hf 5 (by decide)
   have c6:=hf 6 (by decide)
   have c7:=hf 7 (by decide)
   have c8:=hf 8 (by decide)
   rw [show (⟨(List.range 9).map f⟩ : Array Value) = #[f 0,f 1,f 2,f 3,f 4,f 5,f 6,f 7,f 8] from rfl] at hy
   gi_wp2
   refine hR.mono ?_
   rintro e W3 ⟨rfl,hJ3⟩
   gi_wp2
   go_roundw
   case rel => exact ⟨k,by omega,by rw [show wrap64 ((k : Int) - 1) = (k : Int) - 1 by unfold maxLen at hn; simp only [wrap64]; omega],hJ3⟩
   case measure => simp [Go.RowKit.intOf,wrap64]; unfold maxLen at hn; omega
theorem ok41 : FnOk Tryz.prog 41 sp41:=fnOkR (nv:=48) (fB:=102) (fC:=164) (te:=50) (tsl:=33) (ks0:=k41) (dr0:=dr41) (h:=h41) tok (ak ok40 (ak ok42 (ak ok103 (ak ok104 (ak ok105 (ak ok106 am)))))) mix Tryz.func41 (by kernel_rfl) (by kernel_rfl) (by kernel_rfl) (by kernel_rfl) ⟨Tryz.f102,by kernel_rfl,by kernel_rfl,by kernel_rfl⟩ ⟨Tryz.f164,by kernel_rfl,by kernel_rfl,by kernel_rfl⟩ hB41 (fun ti h => by cases h; exact hC41) (by kernel_rfl)
theorem ok43 : FnOk Tryz.prog 43 sp43:=fo (nv:=3) (h:=h43) am Tryz.func43
theorem ok44 : FnOk Tryz.prog 44 sp44:=fo (nv:=2) (h:=h44) (ak ok42 am) Tryz.func44
theorem ok45 : FnOk Tryz.prog 45 sp45:=fo (nv:=3) (h:=h45) am Tryz.func45
theorem ok173 : FnOk Tryz.prog 173 sp173:=fo (nv:=2) (h:=h173) (ak ok147 am) Tryz.func173
theorem ok167 : FnOk Tryz.prog 167 sp167:=fo (nv:=8) (h:=h167) (ak ok173 am) Tryz.func167
theorem ok207 : FnOk Tryz.prog 207 sp207:=fo (nv:=10) (h:=h207) (ak ok173 am) Tryz.func207
theorem ok168 : FnOk Tryz.prog 168 sp168:=fo (nv:=11) (h:=h168) (ak ok207 am) Tryz.func168
theorem ok108 : FnOk Tryz.prog 108 sp108:=fo (nv:=1) (h:=h108) (ak ok177 am) Tryz.func108
theorem ok208 : FnOk Tryz.prog 208 sp208:=fo (nv:=1) (h:=h208) (ak ok108 am) Tryz.func208
theorem ok209 : FnOk Tryz.prog 209 sp209:=fo (nv:=1) (h:=h209) am Tryz.func209
theorem ok169 : FnOk Tryz.prog 169 sp169:=fo (nv:=11) (h:=h169) (ak ok208 (ak ok209 am)) Tryz.func169
theorem ok238 : FnOk Tryz.prog 238 sp238:=fo (nv:=9) (h:=h238) (ak ok173 am) Tryz.func238
theorem ok211 : FnOk Tryz.prog 211 sp211:=fo (nv:=5) (h:=h211) (ak ok238 am) Tryz.func211
theorem ok210 : FnOk Tryz.prog 210 sp210:=fo (nv:=3) (h:=h210) (ak ok211 am) Tryz.func210
theorem ok170 : FnOk Tryz.prog 170 sp170:=fo (nv:=50) (h:=h170) (ak ok210 (ak ok211 am)) Tryz.func170
theorem ok171 : FnOk Tryz.prog 171 sp171:=fo (nv:=8) (h:=h171) am Tryz.func171
theorem ok172 : FnOk Tryz.prog 172 sp172:=fo (nv:=11) (h:=h172) (ak ok173 am) Tryz.func172
theorem ok174 : FnOk Tryz.prog 174 sp174:=fo (nv:=11) (h:=h174) (ak ok173 am) Tryz.func174
theorem ok175 : FnOk Tryz.prog 175 sp175:=fo (nv:=12) (h:=h175) (ak ok173 am) Tryz.func175
theorem Cx : ∀ n,FnOk Tryz.prog 107 (Gv n)
 | 0 => ⟨⟨Tryz.f107,by kernel_rfl,by kernel_rfl,by kernel_rfl⟩,fun a r hr => nomatch (show (none : Option _) = some r from hr)⟩
 | n + 1 => fnOk (nv:=19) (h:=h107) tok mix (ak (Cx n) (ak ok167 (ak ok168 (ak ok169 (ak ok170 (ak ok171 (ak ok172 (ak ok173 (ak ok174 (ak ok175 am)))))))))) Tryz.func107 (by kernel_rfl) (by kernel_rfl) (by kernel_rfl) (by kernel_rfl) (by kernel_rfl)
theorem ok107 : FnOk Tryz.prog 107 sp107:=Cx 64
theorem ok46 : FnOk Tryz.prog 46 sp46:=fo (nv:=1) (h:=h46) (ak ok107 (ak ok108 am)) Tryz.func46
theorem ok14 : FnOk Tryz.prog 14 sp14:=fo (nv:=48) (h:=h14) (ak ok12 (ak ok40 (ak ok41 (ak ok42 (ak ok43 (ak ok44 (ak ok45 (ak ok46 am)))))))) Tryz.func14
theorem ok50 : FnOk Tryz.prog 50 sp50:=fo (nv:=10) (h:=h50) am Tryz.func50
theorem ok111 : FnOk Tryz.prog 111 sp111:=fo (nv:=6) (h:=h111) am Tryz.func111
theorem ok51 : FnOk Tryz.prog 51 sp51:=fo (nv:=6) (h:=h51) (ak ok111 am) Tryz.func51
theorem ok16 : FnOk Tryz.prog 16 sp16:=fo (nv:=11) (h:=h16) (ak ok50 (ak ok51 am)) Tryz.func16
theorem ok24 : FnOk Tryz.prog 24 sp24:=fo (nv:=1) (h:=h24) am Tryz.func24
theorem ok7 : FnOk Tryz.prog 7 sp7:=fo (nv:=3) (h:=h7) (ak ok12 (ak ok14 (ak ok16 (ak ok24 am)))) Tryz.func7
theorem ok23 : FnOk Tryz.prog 23 sp23:=fo (nv:=6) (h:=h23) am Tryz.func23
theorem ok19 : FnOk Tryz.prog 19 sp19:=fo (nv:=7) (h:=h19) am Tryz.func19
theorem ok57 : FnOk Tryz.prog 57 sp57:=fo (nv:=2) (h:=h57) am Tryz.func57
theorem ok61 : FnOk Tryz.prog 61 sp61:=fo (nv:=11) (h:=h61) am Tryz.func61
theorem ok62 : FnOk Tryz.prog 62 sp62:=fo (nv:=7) (h:=h62) am Tryz.func62
theorem ok25 : FnOk Tryz.prog 25 sp25:=fo (nv:=9) (h:=h25) (ak ok19 (ak ok57 (ak ok61 (ak ok62 am)))) Tryz.func25
theorem ok5 : FnOk Tryz.prog 5 sp5:=fo (nv:=15) (h:=h5) (ak ok7 (ak ok14 (ak ok23 (ak ok24 (ak ok25 am))))) Tryz.func5
theorem ok178 : FnOk Tryz.prog 178 sp178:=fo (nv:=4) (h:=h178) am Tryz.func178
theorem ok112 : FnOk Tryz.prog 112 sp112:=fo (nv:=6) (h:=h112) (ak ok178 am) Tryz.func112
theorem ok117 : FnOk Tryz.prog 117 sp117:=fo (nv:=8) (h:=h117) am Tryz.func117
theorem ok139 : FnOk Tryz.prog 139 sp139:=fo (nv:=4) (h:=h139) am Tryz.func139
theorem ok179 : FnOk Tryz.prog 179 sp179:=fo (nv:=6) (h:=h179) (ak ok178 am) Tryz.func179
theorem ok113 : FnOk Tryz.prog 113 sp113:=fo (nv:=10) (h:=h113) (ak ok117 (ak ok139 (ak ok179 am))) Tryz.func113
theorem ok75 : FnOk Tryz.prog 75 sp75:=fo (nv:=7) (h:=h75) (ak ok139 am) Tryz.func75
theorem ok114 : FnOk Tryz.prog 114 sp114:=fo (nv:=9) (h:=h114) (ak ok75 (ak ok117 am)) Tryz.func114
theorem ok52 : FnOk Tryz.prog 52 sp52:=fo (nv:=5) (h:=h52) (ak ok112 (ak ok113 (ak ok114 am))) Tryz.func52
theorem ok115 : FnOk Tryz.prog 115 sp115:=fo (nv:=2) (h:=h115) am Tryz.func115
theorem ok53 : FnOk Tryz.prog 53 sp53:=fo (nv:=9) (h:=h53) (ak ok115 am) Tryz.func53
theorem ok54 : FnOk Tryz.prog 54 sp54:=fo (nv:=9) (h:=h54) am Tryz.func54
theorem ok90 : FnOk Tryz.prog 90 sp90:=fo (nv:=5) (h:=h90) am Tryz.func90
theorem ok116 : FnOk Tryz.prog 116 sp116:=fo (nv:=7) (h:=h116) (ak ok90 am) Tryz.func116
theorem ok55 : FnOk Tryz.prog 55 sp55:=fo (nv:=5) (h:=h55) (ak ok116 am) Tryz.func55
theorem ok56 : FnOk Tryz.prog 56 sp56:=fo (nv:=7) (h:=h56) am Tryz.func56
theorem ok58 : FnOk Tryz.prog 58 sp58:=fo (nv:=9) (h:=h58) am Tryz.func58
theorem ok59 : FnOk Tryz.prog 59 sp59:=fo (nv:=3) (h:=h59) (ak ok75 (ak ok117 am)) Tryz.func59
theorem ok17 : FnOk Tryz.prog 17 sp17:=fo (nv:=15) (h:=h17) (ak ok19 (ak ok52 (ak ok53 (ak ok54 (ak ok55 (ak ok56 (ak ok57 (ak ok58 (ak ok59 am))))))))) Tryz.func17
theorem ok180 : FnOk Tryz.prog 180 sp180:=fo (nv:=4) (h:=h180) (ak ok139 am) Tryz.func180
theorem ok118 : FnOk Tryz.prog 118 sp118:=fo (nv:=7) (h:=h118) (ak ok180 am) Tryz.func118
theorem ok60 : FnOk Tryz.prog 60 sp60:=fo (nv:=14) (h:=h60) (ak ok19 (ak ok90 (ak ok118 am))) Tryz.func60
theorem ok20 : FnOk Tryz.prog 20 sp20:=fo (nv:=7) (h:=h20) (ak ok60 am) Tryz.func20
theorem ok26 : FnOk Tryz.prog 26 sp26:=fo (nv:=10) (h:=h26) (ak ok24 am) Tryz.func26
theorem ok6 : FnOk Tryz.prog 6 sp6:=fo (nv:=11) (h:=h6) (ak ok7 (ak ok14 (ak ok17 (ak ok19 (ak ok20 (ak ok23 (ak ok26 am))))))) Tryz.func6
end Go.Fx.D
