/-
  Each of these functions does what its function over plain data says, where that gives an answer (printed by a program). Conditions: none.
-/
import Derived.Test.YtdickabkndfjhaaGreatFxD
import Derived.Ground.NamesProg
import Derived.Shelf.Lay
import Derived.Test.YtdickabkndfjhaaGreatD
import Derived.Test.YtdickabkndfjhaaGreatFxC
import Derived.Test.YtdickabkndfjhaaGreatChecked
import Derived.WalkKit
import Derived.TacticsInMore
import Derived.Lib.IndexBytes
import Derived.Deep.LoopGhost
import Derived.Shelf.RegionOpenPlain
import Derived.Lib.Walk
import Derived.LoopNIn
import Derived.LoopIn
namespace Go.Fx.D
open Go Go.Fx Go.Proofs Go.Shelf Go.RowKit Go.Lib Go.Sort
set_option linter.unusedVariables false
set_option maxRecDepth 100000
theorem rk{t:TypeId}{i:TI fam}(j:TypeInfo)(h1:Tryz.prog.underlying t=some i.desc:=by kernel_rfl)(h2:Tryz.prog.info? t=some j:=by kernel_rfl)(h3:j.zero=some (j.zero.getD .nilFunc):=by kernel_rfl)(h4:(Nat.beq j.size i.size&&Nat.beq j.bytes i.bytes&&Nat.beq (j.zero.getD .nilFunc).cells.size i.size&&zok i.zero (j.zero.getD .nilFunc).cells.toList&&(adv (j.zero.getD .nilFunc) == fM i.desc))=true:=by kernel_rfl)(h5:acN i=true:=by kernel_rfl)(h6:ZB Tryz.prog t i=true:=by kernel_rfl):Mt Tryz.prog t i:=⟨h1,⟨j,_,h2,h3,h4⟩,h5,h6⟩
theorem KD:Mt Tryz.prog 3 acR:=rk Tryz.t3
theorem K2:Mt Tryz.prog 4 ae8:=rk Tryz.t4
theorem KP:Mt Tryz.prog 5 ae7:=rk Tryz.t5
theorem KZ:Mt Tryz.prog 9 ae6:=rk Tryz.t9
theorem Jh:Mt Tryz.prog 22 abp:=rk Tryz.t22
theorem JJ:Mt Tryz.prog 23 abo:=rk Tryz.t23
theorem Jn:Mt Tryz.prog 25 abn:=rk Tryz.t25
theorem Cd:Mt Tryz.prog 27 abm:=rk Tryz.t27
theorem CX:Mt Tryz.prog 28 abl:=rk Tryz.t28
theorem Ki:Mt Tryz.prog 30 abk:=rk Tryz.t30
theorem CL:Mt Tryz.prog 31 abj:=rk Tryz.t31
theorem CF:Mt Tryz.prog 32 abh:=rk Tryz.t32
theorem CI:Mt Tryz.prog 33 abg:=rk Tryz.t33
theorem Co:Mt Tryz.prog 34 abf:=rk Tryz.t34
theorem BZ:Mt Tryz.prog 35 abe:=rk Tryz.t35
theorem I6:Mt Tryz.prog 37 abd:=rk Tryz.t37
theorem Jw:Mt Tryz.prog 48 abb:=rk Tryz.t48
theorem JV:Mt Tryz.prog 50 Y6:=rk Tryz.t50
theorem Ce:Mt Tryz.prog 53 aa_:=rk Tryz.t53
theorem Kb:Mt Tryz.prog 55 aa9:=rk Tryz.t55
theorem JR:Mt Tryz.prog 62 aa8:=rk Tryz.t62
theorem Kj:Mt Tryz.prog 64 aa7:=rk Tryz.t64
theorem Ko:Mt Tryz.prog 70 aa6:=rk Tryz.t70
theorem JI:Mt Tryz.prog 72 aa5:=rk Tryz.t72
theorem I5:Mt Tryz.prog 74 aa4:=rk Tryz.t74
theorem JO:Mt Tryz.prog 76 aa3:=rk Tryz.t76
theorem I1:Mt Tryz.prog 78 aa2:=rk Tryz.t78
theorem Ju:Mt Tryz.prog 81 aa1:=rk Tryz.t81
theorem JG:Mt Tryz.prog 82 aa0:=rk Tryz.t82
theorem Jc:Mt Tryz.prog 83 aaZ:=rk Tryz.t83
theorem IW:Mt Tryz.prog 85 aaY:=rk Tryz.t85
theorem JL:Mt Tryz.prog 88 aaX:=rk Tryz.t88
theorem JA:Mt Tryz.prog 93 aaW:=rk Tryz.t93
theorem G8:Mt Tryz.prog 107 FG:=rk Tryz.t107
theorem Hb:Mt Tryz.prog 117 F6:=rk Tryz.t117
theorem zW:Mt Tryz.prog 118 Et:=rk Tryz.t118
theorem Il:Mt Tryz.prog 120 ES:=rk Tryz.t120
theorem G6:Mt Tryz.prog 131 FO:=rk Tryz.t131
theorem GI:Mt Tryz.prog 136 Fb:=rk Tryz.t136
theorem G1:Mt Tryz.prog 138 En:=rk Tryz.t138
theorem HJ:Mt Tryz.prog 140 D6:=rk Tryz.t140
theorem G5:Mt Tryz.prog 147 Fc:=rk Tryz.t147
theorem HY:Mt Tryz.prog 162 EZ:=rk Tryz.t162
theorem Ii:Mt Tryz.prog 187 E4:=rk Tryz.t187
theorem IF:Mt Tryz.prog 189 E1:=rk Tryz.t189
theorem H0:Mt Tryz.prog 192 EG:=rk Tryz.t192
theorem G9:Mt Tryz.prog 222 EV:=rk Tryz.t222
theorem Gb:Mt Tryz.prog 224 Ed:=rk Tryz.t224
theorem Gq:Mt Tryz.prog 233 F4:=rk Tryz.t233
theorem Hd:Mt Tryz.prog 241 EW:=rk Tryz.t241
theorem Hy:Mt Tryz.prog 268 FS:=rk Tryz.t268
theorem HO:Mt Tryz.prog 317 Ei:=rk Tryz.t317
theorem tok:Mc Tryz.prog (look tbl):=afQ (all_cons KD (all_cons K2 (all_cons KP (all_cons KZ (all_cons Jh (all_cons JJ (all_cons Jn (all_cons Cd (all_cons CX (all_cons Ki (all_cons CL (all_cons CF (all_cons CI (all_cons Co (all_cons BZ (all_cons I6 (all_cons Jw (all_cons JV (all_cons Ce (all_cons Kb (all_cons JR (all_cons Kj (all_cons Ko (all_cons JI (all_cons I5 (all_cons JO (all_cons I1 (all_cons Ju (all_cons JG (all_cons Jc (all_cons IW (all_cons JL (all_cons JA (all_cons G8 (all_cons Hb (all_cons zW (all_cons Il (all_cons G6 (all_cons GI (all_cons G1 (all_cons HJ (all_cons G5 (all_cons HY (all_cons Ii (all_cons IF (all_cons H0 (all_cons G9 (all_cons Gb (all_cons Gq (all_cons Hd (all_cons Hy (all_cons HO all_nil))))))))))))))))))))))))))))))))))))))))))))))))))))
theorem mix:Tryz.prog.follows .mixedOrders=true:=Checked.mixed Tryz.checked
abbrev FOz (i:Nat)(s:Spec fam):=O6 Tryz.prog i s
theorem fo {Γ : Ctx fam} (nv : Nat) (h : Hint) (hΓ : ML Tryz.prog Γ) {f : FuncId} {fn : Func} {sp : Spec fam} (hf : Tryz.prog.funcs[f]? = some fn) (hnm : (fn.name == "runtime.NumGoroutine") = false:=by kernel_rfl) (hbn : fn.body.isNone = false:=by kernel_rfl) (hlen : Nat.ble sp.ks.length fn.ntmps = true:=by kernel_rfl) (hrs : sp.rs.all (fun k => !k.Ni) = true:=by kernel_rfl) (hD : (fun a => WY (look tbl) Γ nv fn h sp.ks sp.rs a) = sp.D:=by kernel_rfl) : O6 Tryz.prog f sp:=SA tok mix hΓ hf hnm hbn hlen hrs hD
theorem afl:FOz 30 anx:=fo 4 .z ag Tryz.func30
theorem Y_:FOz 222 agN:=fo 2 .z ag Tryz.func222
theorem abE:FOz 223 agM:=fo 3 .z (ab Y_ ag) Tryz.func223
theorem Za:FOz 191 ahb:=fo 5 (Qf (.s (.s (.j [] [(0,[(13,gt)])] .z) .z) .z)) (ab Y_ (ab abE ag)) Tryz.func191
theorem aj3:FOz 142 ahN:=fo 9 (Qf (.s .z (.s (Qf ((Qg [(3,t8),(8,ge)] [3,5,8] [(2,[(3,t8)])] .z))) .z))) (ab Za ag) Tryz.func142
theorem acV:FOz 79 amL:=fo 12 (Qf (.s .z (.s (Qf ((Qg [(5,Q7),(11,ge)] [5,7,11,22] [(2,[(5,Q7)])] (Qf (.s .z (.s (.j [5,7,22] [(0,[(5,Q7)])] (.b (Qf Qv))) .z)))))) .z))) (ab aj3 ag) Tryz.func79
theorem ajA:FOz 189 ahd:=fo 13 (Qf (.s (Qf ((Qg [(4,QR),(12,ge)] [4,5,7,12] [(1,[(4,Q6),(5,gt)]),(2,[(4,QR)])] .z))) .z)) ag Tryz.func189
theorem ai3:FOz 247 agp:=fo 2 .z ag Tryz.func247
theorem aji:FOz 221 agO:=fo 2 .z (ab ai3 ag) Tryz.func221
theorem abK:FOz 190 ahc:=fo 4 (Qf (.s (.j [] [(0,[(5,gt)])] .z) .z)) (ab aji ag) Tryz.func190
theorem aj4:FOz 137 ahS:=fo 16 (Qf (.s .z (Qf (.s (Qf ((Qg [(3,t8),(15,ge)] [3,6,7,8,15,37] [(2,[(3,t8)])] (Qf (.s .z (.s (.j [3,6,7,8,37] [(0,[(3,t8)])] (.b (Qf (.s .z XU)))) .z)))))) .z)))) (ab ajA (ab abK (ab Za ag))) Tryz.func137
theorem YL:FOz 76 amO:=fo 7 .z (ab aj4 ag) Tryz.func76
theorem aiO:FOz 266 af6:=fo 6 (Qf (.s (Qf ((Qg [(5,ge)] [4,5] [(1,[(4,ge)]),(2,[])] .z))) .z)) ag Tryz.func266
theorem aiH:FOz 274 afY:=fo 9 (Qf (.s .z (.s (Qf ((Qg [(4,QH),(5,ge)] [4,5] [(2,[(4,QH)])] .z))) (Qf (.s (Qf ((Qg [(6,QH),(7,QH),(8,ge)] [6,7,8] [(4,[(6,QH)])] (Qf (.s (.b (.s (.j [6] [(0,[(6,QH)])] .z) .z)) .z))))) .z))))) ag Tryz.func274
theorem aiN:FOz 267 af5:=fo 12 (Qf (.s .z (Qf (.s .z (Qf (.s (Qf ((Qg [(9,QH),(10,ge)] [9,10] [(2,[(9,QH)])] .z))) (.s (.s (.j [] [(0,[(47,gt)])] .z) .z) (.s (Qf ((Qg [(9,QH),(11,ge)] [4,9,11,85] [(1,[(4,ge)]),(4,[])] (Qf (.s (.b (Qf (.s .z (Qf XG)))) .z))))) .z)))))))) (ab aiH ag) Tryz.func267
theorem ai4:FOz 246 agq:=fo 6 .z (ab aiO (ab aiN ag)) Tryz.func246
theorem abF:FOz 217 agS:=fo 5 .z (ab ai4 ag) Tryz.func217
theorem ajh:FOz 224 agL:=fo 4 Qt (ab abF ag) Tryz.func224
theorem F_:FOz 151 Iy:=SA (nv:=1) (h:=apx) tok mix ag Tryz.func151 (by kernel_rfl) (by kernel_rfl) (by kernel_rfl) (by kernel_rfl) (by kernel_rfl)
set_option maxHeartbeats 2000000 in
theorem Kg(p:Option Addr)(cap:Nat)(w:World):Calls Tryz.prog 151 #[.slice p 0 cap] w λe w'=>∃p',e = .returned (.slice p' 0 0)∧RowKit.Below w.heap.size w w'∧w.drawn≤w'.drawn:=by
 have q:=pU (P:=Tryz.prog) (t:=118) zW.und
 cases p with
 | none=>
  go_enter Tryz.func151,Tryz.ntmps151
  go_wp2
  go_ret
  exact⟨_,rfl,.refl _ _,MN _⟩
 | some p=>
  go_enter Tryz.func151,Tryz.ntmps151
  go_wp2
  go_ret
  exact⟨_,rfl,(RowKit.Below.refl _ w).alloc (MN _) _,MN _⟩
theorem abO:FOz 151 ahE:=lB F_ Kg
theorem ai2:FOz 248 agn:=fo 9 Qh ag Tryz.func248
theorem ai1:FOz 249 agm:=fo 3 .z ag Tryz.func249
theorem ajg:FOz 225 agK:=fo 8 .z (ab abO (ab ai2 (ab ai1 ag))) Tryz.func225
theorem aiM:FOz 268 af4:=fo 14 .z ag Tryz.func268
theorem ajM:FOz 173 aht:=fo 3 (Qf (.s Qu (.s Qu (.s Qu .z)))) ag Tryz.func173
theorem aiG:FOz 275 afX:=fo 1 .z (ab ajM ag) Tryz.func275
theorem aiL:FOz 269 af3:=fo 19 (Qf (.s .z (Qf (.s .z (Qf (.s .z (Qf (.s .z (Qf (.s .z (Qf (.s .z (Qf (.s .z (.s ((Qg [(15,QW),(16,QW)] [15,16,78] [(2,[(15,QW)])] XZ)) (Qf (.s .z (Qf (.s ((Qg [(16,QW),(18,QW)] [16,18,113] [(4,[(18,QW)])] (.s (.s (.j [] [(0,[(113,gt)])] .z) .z) .z))) .z))))))))))))))))))) (ab aiG ag) Tryz.func269
theorem ai0:FOz 250 agl:=fo 8 .z (ab aiM (ab aiL ag)) Tryz.func250
theorem ajf:FOz 226 agJ:=fo 5 (Qf (.s XK .z)) (ab Y_ (ab abE (ab ai0 ag))) Tryz.func226
theorem abJ:FOz 194 ag9:=fo 15 (Qf (.s .z (Qf (.s .z (.s (Qf ((Qg [(8,t8),(12,t8),(13,ge)] [8,12,13,14,60] [(1,[(8,t8)]),(2,[(8,t8),(12,t8)])] (Qf (.s (.b (Qf (.s (.s (.j [] [(0,[(60,gt)])] .z) .z) .z))) .z))))) .z))))) (ab acV (ab ajh (ab ajg (ab ajf ag)))) Tryz.func194
theorem ajx:FOz 195 ag8:=fo 2 .z ag Tryz.func195
theorem abT:FOz 139 ahQ:=fo 7 .z (ab abJ (ab ajx ag)) Tryz.func139
theorem abS:FOz 140 ahP:=fo 2 .z ag Tryz.func140
theorem aiF:FOz 276 afW:=fo 9 Qh ag Tryz.func276
theorem aiK:FOz 270 af2:=fo 2 .z (ab aiF ag) Tryz.func270
theorem aiJ:FOz 271 af0:=fo 3 .z ag Tryz.func271
theorem aiZ:FOz 251 agk:=fo 5 .z (ab aiK (ab aiJ ag)) Tryz.func251
theorem aje:FOz 227 agI:=fo 11 (Qf (.s .z (.s (Qf ((Qg [(5,t8),(10,ge)] [5,7,10,33] [(2,[(5,t8)])] (Qf (.s .z (.s (.j [5,7,33] [(0,[(5,t8)])] (.b (Qf XB))) .z)))))) .z))) (ab aiZ ag) Tryz.func227
theorem ajw:FOz 196 ag7:=fo 11 (Qf (.s .z (.s (Qf ((Qg [(3,t8),(10,ge)] [3,5,10,20] [(2,[(3,t8)])] (Qf (.s .z (.s (.j [3,5,20] [(0,[(3,t8)])] (.b (Qf (.s (.j [] [(0,[(20,gt)])] .z) .z)))) .z)))))) .z))) (ab abS (ab abK (ab Za (ab aje ag)))) Tryz.func196
theorem abR:FOz 141 ahO:=fo 7 .z (ab ajw ag) Tryz.func141
theorem ajD:FOz 186 ahg:=fo 14 (Qf (.s .z (.s (Qf ((Qg [(5,f9),(13,ge)] [5,7,8,9,13,28] [(2,[(5,f9)])] (Qf (.s .z (.s (.j [5,7,8,9,28] [(0,[(5,f9)])] (.b (Qf (.s .z XC)))) .z)))))) .z))) (ab abF ag) Tryz.func186
theorem ajl:FOz 218 agR:=fo 2 .z ag Tryz.func218
theorem ajC:FOz 187 ahf:=fo 7 .z (ab abJ (ab ajl ag)) Tryz.func187
theorem ajk:FOz 219 agQ:=fo 10 (Qf (.s (Qf ((Qg [(0,ge),(9,ge)] [0,6,9] [(2,[(0,ge)])] .z))) .z)) ag Tryz.func219
theorem ajj:FOz 220 agP:=fo 1 XX ag Tryz.func220
theorem ajB:FOz 188 ahe:=fo 61 (Qf (.s .z (Qf (.s .z (.s (Qf ((Qg [(10,QO),(11,ge),(28,ge)] [10,11,12,28,29,30,31,32,33,34,35,36,37,38,39,40,41,42,43,44,45,46,47,48,49,50,51,52,53,54,55,56,57,58] [(2,[(10,QO),(11,ge)])] .z))) (.s (Qf ((Qg [(10,QO),(11,ge),(60,ge)] [10,11,13,14,60] [(4,[(10,QO)])] .z))) .z)))))) (ab ajk (ab ajj ag)) Tryz.func188
theorem Kn:O6 Tryz.prog 136 (rq 0):=⟨⟨Tryz.f136,by kernel_rfl,by kernel_rfl,by kernel_rfl⟩,λa r hr=>nomatch (show(none:Option _)=some r from hr)⟩
set_option maxHeartbeats 4000000 in
theorem IU(n:Nat)(ih:O6 Tryz.prog 136 (rq n)):O6 Tryz.prog 136 (rq (n+1)):=SA (nv:=110) (h:=apA) tok mix (ab ih (ab ih (ab YL (ab abT (ab abR (ab ajD (ab ajC (ab ajB ag)))))))) Tryz.func136 (by kernel_rfl) (by kernel_rfl) (by kernel_rfl) (by kernel_rfl) (by kernel_rfl)
theorem JH(n:Nat):O6 Tryz.prog 136 (rq n):=Nat.rec (motive:=λn=>O6 Tryz.prog 136 (rq n)) Kn (λn ih=>IU n ih) n
theorem aj5:FOz 136 ahT:=JH 64
theorem acW:FOz 75 amP:=fo 3 .z (ab acV (ab aj5 ag)) Tryz.func75
theorem ajS:FOz 156 ahz:=fo 9 Qh ag Tryz.func156
theorem ajR:FOz 157 ahy:=fo 3 .z ag Tryz.func157
theorem afa:FOz 91 amy:=fo 4 .z (ab ajS (ab ajR ag)) Tryz.func91
theorem Gh:FOz 192 HI:=SA (nv:=1) (h:=aps) tok mix ag Tryz.func192 (by kernel_rfl) (by kernel_rfl) (by kernel_rfl) (by kernel_rfl) (by kernel_rfl)
set_option maxHeartbeats 2000000 in
theorem JS(p:Option Addr)(cap:Nat)(w:World):Calls Tryz.prog 192 #[.slice p 0 cap] w λe w'=>∃p',e = .returned (.slice p' 0 0)∧RowKit.Below w.heap.size w w'∧w.drawn≤w'.drawn:=by
 have q:=pU (P:=Tryz.prog) (t:=53) Ce.und
 cases p with
 | none=>
  go_enter Tryz.func192,Tryz.ntmps192
  go_wp2
  go_ret
  exact⟨_,rfl,.refl _ _,MN _⟩
 | some p=>
  go_enter Tryz.func192,Tryz.ntmps192
  go_wp2
  go_ret
  exact⟨_,rfl,(RowKit.Below.refl _ w).alloc (MN _) _,MN _⟩
theorem ajz:FOz 192 aha:=lB Gh JS
theorem ajy:FOz 193 ag_:=fo 4 .z ag Tryz.func193
theorem abU:FOz 138 ahR:=fo 3 .z (ab ajz (ab ajy ag)) Tryz.func138
theorem afd:FOz 77 amN:=fo 7 .z (ab afa (ab abU ag)) Tryz.func77
theorem aoz:FOz 27 anB:=fo 47 (Qf (.s .z (.s (Qf ((Qg [(5,QU),(23,ge)] [5,7,14,17,23,24,25,26,27,28,29,30,31,32,33,34,35,36,37,38,39,40,41,42] [(2,[(5,QU)])] .z))) (.s (Qf ((Qg [(5,QU),(46,ge)] [5,9,10,11,46] [(4,[(5,QU)])] (Qf (.s .z (.s (.j [5,9,10,11] [(0,[(5,QU)])] .z) .z)))))) .z)))) (ab afl (ab acW (ab YL (ab afd ag)))) Tryz.func27
theorem an8:FOz 78 amM:=fo 54 (Qf (.s .z (.s (Qf ((Qg [(37,ge)] [4,8,10,37,38,39,40,41,42,43,44,45,46,47,48,49,50,51,52,53,74] [(1,[(4,ge)]),(2,[])] (Qf (.s .z (.s (.j [4,8,10,39,40,41,42,43,44,45,46,47,48,49,50,51,52,53,74] [(0,[]),(1,[(4,ge)])] (.b (Qf (.s (.s (.j [41,42,43,44,45,46,47,48,49] [(0,[(49,gt)])] .z) .z) (Qf ((Qg [(53,ge)] [4,10,53,74] [(1,[(4,ge)]),(4,[])] (Qf (.s .z (.s (.b (Qf XD)) .z)))))))))) .z)))))) .z))) (ab YL (ab abT (ab abS (ab abR ag)))) Tryz.func78
theorem aoy:FOz 28 anA:=fo 20 (Qf (.s .z (Qf (.s (Qf ((Qg [(0,QU),(3,ge),(19,ge)] [0,3,6,19] [(2,[(0,QU),(3,ge)])] .z))) .z)))) (ab acW (ab YL (ab an8 (ab acV ag)))) Tryz.func28
theorem an7:FOz 80 amK:=fo 9 (Qf (.s .z (.s (Qf ((Qg [(8,ge)] [2,5,8] [(1,[(2,ge)]),(2,[])] .z))) .z))) ag Tryz.func80
theorem aj2:FOz 143 ahM:=fo 1 .z ag Tryz.func143
theorem an6:FOz 81 amJ:=fo 7 .z (ab aj2 ag) Tryz.func81
theorem aj1:FOz 144 ahL:=fo 1 .z ag Tryz.func144
theorem an5:FOz 82 amI:=fo 7 .z (ab aj1 ag) Tryz.func82
theorem aox:FOz 29 anz:=fo 94 (Qf (.s .z (.s (Qf ((Qg [(4,Qb),(22,ge)] [4,6,7,8,9,10,15,22,23,24,25,26,27,28,29,30,31,32,33,34,35,36,37,38,39,40,41,42,43,44,45,46,47,48,49,50,51,52,53,54,55,56,57,58,59,60,61,62,63,64,65,66,67,68,69,70,71,72,73,74,75,76,77,78,79,80,81,82,83,84,85,86,87,88,89,90,91] [(2,[(4,Qb)])] (Qf (.s .z (.s (.j [4,6,7,8,9,10,24,25,26,27,28,29,30,31,32,33,34,35,36,37,38,39,40,41,42,43,44,45,46,47,48,49,50,51,52,53,54,55,56,57,58,59,60,61,62,63,64,65,66,67,68,69,70,71,72,73,74,75,76,77,78,79,80,81,82,83,84,85,86,87,88,89,90] [(0,[(4,Qb)])] (.b (Qf (.s .z (.s (.s (.j [36,37,38,39,40,41,42,43,44,45,46,47,48,49,50,51,52,53,54,55,56] [(0,[(56,gt)])] .z) .z) (Qf (.s (.j [63,64,65,66,67,68,69,70,71,72,73,74,75,76,77,78,79,80,81,82,83,84,85,86,87] [(0,[(87,gt)])] .z) .z))))))) .z)))))) (Qf (.s (.g [(11,ne)] [11,12,92,120] (.s (.j [] [(0,[(120,gt)])] .z) .z)) .z))))) (ab an7 (ab an6 (ab an5 ag))) Tryz.func29
theorem aan:FOz 10 anR:=fo 9 h10 (ab aoz (ab aoy (ab aox (ab afl ag)))) Tryz.func10
theorem aal:FOz 38 ano:=fo 9 Qh ag Tryz.func38
theorem JD:FOz 97 JZ:=SA (nv:=1) (h:=h97) tok mix ag Tryz.func97 (by kernel_rfl) (by kernel_rfl) (by kernel_rfl) (by kernel_rfl) (by kernel_rfl)
set_option maxHeartbeats 2000000 in
theorem KY(p:Option Addr)(cap:Nat)(w:World):Calls Tryz.prog 97 #[.slice p 0 cap] w λe w'=>∃p',e = .returned (.slice p' 0 0)∧RowKit.Below w.heap.size w w'∧w.drawn≤w'.drawn:=by
 have q:=pU (P:=Tryz.prog) (t:=33) CI.und
 cases p with
 | none=>
  go_enter Tryz.func97,Tryz.ntmps97
  go_wp2
  go_ret
  exact⟨_,rfl,.refl _ _,MN _⟩
 | some p=>
  go_enter Tryz.func97,Tryz.ntmps97
  go_wp2
  go_ret
  exact⟨_,rfl,(RowKit.Below.refl _ w).alloc (MN _) _,MN _⟩
theorem ae_:FOz 97 amt:=lB JD KY
theorem Iw:FOz 149 H_:=SA (nv:=1) (h:=apz) tok mix ag Tryz.func149 (by kernel_rfl) (by kernel_rfl) (by kernel_rfl) (by kernel_rfl) (by kernel_rfl)
set_option maxHeartbeats 2000000 in
theorem J_(p:Option Addr)(cap:Nat)(w:World):Calls Tryz.prog 149 #[.slice p 0 cap] w λe w'=>∃p',e = .returned (.slice p' 0 0)∧RowKit.Below w.heap.size w w'∧w.drawn≤w'.drawn:=by
 have q:=pU (P:=Tryz.prog) (t:=27) Cd.und
 cases p with
 | none=>
  go_enter Tryz.func149,Tryz.ntmps149
  go_wp2
  go_ret
  exact⟨_,rfl,.refl _ _,MN _⟩
 | some p=>
  go_enter Tryz.func149,Tryz.ntmps149
  go_wp2
  go_ret
  exact⟨_,rfl,(RowKit.Below.refl _ w).alloc (MN _) _,MN _⟩
theorem ajY:FOz 149 ahG:=lB Iw J_
theorem HD:FOz 150 IB:=SA (nv:=1) (h:=apy) tok mix ag Tryz.func150 (by kernel_rfl) (by kernel_rfl) (by kernel_rfl) (by kernel_rfl) (by kernel_rfl)
set_option maxHeartbeats 2000000 in
theorem J3(p:Option Addr)(cap:Nat)(w:World):Calls Tryz.prog 150 #[.slice p 0 cap] w λe w'=>∃p',e = .returned (.slice p' 0 0)∧RowKit.Below w.heap.size w w'∧w.drawn≤w'.drawn:=by
 have q:=pU (P:=Tryz.prog) (t:=28) CX.und
 cases p with
 | none=>
  go_enter Tryz.func150,Tryz.ntmps150
  go_wp2
  go_ret
  exact⟨_,rfl,.refl _ _,MN _⟩
 | some p=>
  go_enter Tryz.func150,Tryz.ntmps150
  go_wp2
  go_ret
  exact⟨_,rfl,(RowKit.Below.refl _ w).alloc (MN _) _,MN _⟩
theorem ajX:FOz 150 ahF:=lB HD J3
theorem GS:FOz 152 GT:=SA (nv:=1) (h:=apw) tok mix ag Tryz.func152 (by kernel_rfl) (by kernel_rfl) (by kernel_rfl) (by kernel_rfl) (by kernel_rfl)
set_option maxHeartbeats 2000000 in
theorem Ke(p:Option Addr)(cap:Nat)(w:World):Calls Tryz.prog 152 #[.slice p 0 cap] w λe w'=>∃p',e = .returned (.slice p' 0 0)∧RowKit.Below w.heap.size w w'∧w.drawn≤w'.drawn:=by
 have q:=pU (P:=Tryz.prog) (t:=31) CL.und
 cases p with
 | none=>
  go_enter Tryz.func152,Tryz.ntmps152
  go_wp2
  go_ret
  exact⟨_,rfl,.refl _ _,MN _⟩
 | some p=>
  go_enter Tryz.func152,Tryz.ntmps152
  go_wp2
  go_ret
  exact⟨_,rfl,(RowKit.Below.refl _ w).alloc (MN _) _,MN _⟩
theorem ajW:FOz 152 ahD:=lB GS Ke
theorem Gp:FOz 153 Gu:=SA (nv:=1) (h:=apv) tok mix ag Tryz.func153 (by kernel_rfl) (by kernel_rfl) (by kernel_rfl) (by kernel_rfl) (by kernel_rfl)
set_option maxHeartbeats 2000000 in
theorem Jg(p:Option Addr)(cap:Nat)(w:World):Calls Tryz.prog 153 #[.slice p 0 cap] w λe w'=>∃p',e = .returned (.slice p' 0 0)∧RowKit.Below w.heap.size w w'∧w.drawn≤w'.drawn:=by
 have q:=pU (P:=Tryz.prog) (t:=34) Co.und
 cases p with
 | none=>
  go_enter Tryz.func153,Tryz.ntmps153
  go_wp2
  go_ret
  exact⟨_,rfl,.refl _ _,MN _⟩
 | some p=>
  go_enter Tryz.func153,Tryz.ntmps153
  go_wp2
  go_ret
  exact⟨_,rfl,(RowKit.Below.refl _ w).alloc (MN _) _,MN _⟩
theorem ajV:FOz 153 ahC:=lB Gp Jg
theorem Hc:FOz 154 Ho:=SA (nv:=1) (h:=apu) tok mix ag Tryz.func154 (by kernel_rfl) (by kernel_rfl) (by kernel_rfl) (by kernel_rfl) (by kernel_rfl)
set_option maxHeartbeats 2000000 in
theorem IY(p:Option Addr)(cap:Nat)(w:World):Calls Tryz.prog 154 #[.slice p 0 cap] w λe w'=>∃p',e = .returned (.slice p' 0 0)∧RowKit.Below w.heap.size w w'∧w.drawn≤w'.drawn:=by
 have q:=pU (P:=Tryz.prog) (t:=35) BZ.und
 cases p with
 | none=>
  go_enter Tryz.func154,Tryz.ntmps154
  go_wp2
  go_ret
  exact⟨_,rfl,.refl _ _,MN _⟩
 | some p=>
  go_enter Tryz.func154,Tryz.ntmps154
  go_wp2
  go_ret
  exact⟨_,rfl,(RowKit.Below.refl _ w).alloc (MN _) _,MN _⟩
theorem ajU:FOz 154 ahB:=lB Hc IY
theorem GP:FOz 155 G_:=SA (nv:=1) (h:=apt) tok mix ag Tryz.func155 (by kernel_rfl) (by kernel_rfl) (by kernel_rfl) (by kernel_rfl) (by kernel_rfl)
set_option maxHeartbeats 2000000 in
theorem J4(p:Option Addr)(cap:Nat)(w:World):Calls Tryz.prog 155 #[.slice p 0 cap] w λe w'=>∃p',e = .returned (.slice p' 0 0)∧RowKit.Below w.heap.size w w'∧w.drawn≤w'.drawn:=by
 have q:=pU (P:=Tryz.prog) (t:=32) CF.und
 cases p with
 | none=>
  go_enter Tryz.func155,Tryz.ntmps155
  go_wp2
  go_ret
  exact⟨_,rfl,.refl _ _,MN _⟩
 | some p=>
  go_enter Tryz.func155,Tryz.ntmps155
  go_wp2
  go_ret
  exact⟨_,rfl,(RowKit.Below.refl _ w).alloc (MN _) _,MN _⟩
theorem ajT:FOz 155 ahA:=lB GP J4
theorem an3:FOz 89 amB:=fo 62 (Qf (.s .z (.s (Qf (.b (.m 14 23 2 [3,4,24,25,26,27,28,29,30,31,32,33,34,35,36,37] .z))) (Qf (.s .z (.s (Qf (.b (.m 56 61 4 [5,6] .z))) .z)))))) (ab ae_ (ab abU (ab ajY (ab ajX (ab abO (ab ajW (ab ajV (ab ajU (ab ajT ag))))))))) Tryz.func89
theorem an2:FOz 90 amA:=fo 3 .z ag Tryz.func90
theorem aiX:FOz 253 agi:=fo 9 Qh ag Tryz.func253
theorem ajc:FOz 230 agF:=fo 8 (Qf (.s .z (Qf (.s (Qf ((Qg [(0,Q2),(5,ge),(6,ge)] [0,5,6,7] [(2,[(0,Q2),(5,ge)])] (Qf (.s (.j [0,5,7] [(0,[(0,Q2),(5,ge)])] .z) .z))))) (Qf (.s (.r [9998]) .z)))))) (ab aiX ag) Tryz.func230
theorem ajb:FOz 231 agE:=fo 4 .z ag Tryz.func231
theorem aja:FOz 232 agD:=fo 3 .z ag Tryz.func232
theorem ai_:FOz 233 agC:=fo 10 .z ag Tryz.func233
theorem aju:FOz 199 ag4:=fo 8 (Qf (.s .z (Qf (.s .z (Qf (.s .z (.s ((Qg [(7,ge)] [7,33] [(2,[(7,ge)])] (.s XB .z))) .z))))))) (ab ajc (ab ajb (ab aja (ab ai_ ag)))) Tryz.func199
theorem ajQ:FOz 158 ahx:=fo 4 .z (ab aju ag) Tryz.func158
theorem abH:FOz 201 ag3:=fo 4 (Qf (.s (.j [2] [(0,[(2,.box (.slice (.int .i64)) [0])])] .z) .z)) ag Tryz.func201
theorem ai9:FOz 234 agB:=fo 9 Qh ag Tryz.func234
theorem ajt:FOz 202 ag2:=fo 8 (Qf (.s .z (Qf (.s (Qf ((Qg [(0,Qd),(5,ge),(6,ge)] [0,5,6,7] [(2,[(0,Qd),(5,ge)])] (Qf (.s (.j [0,5,7] [(0,[(0,Qd),(5,ge)])] .z) .z))))) (Qf (.s (.r [9998]) .z)))))) (ab ai9 ag) Tryz.func202
theorem ajs:FOz 203 ag1:=fo 3 .z ag Tryz.func203
theorem HQ:FOz 38 Hl:=fo 9 (.s (.r [1001002]) (.s (.s .z (.b (.l [(2,.box (.slice (.int .i64)) [9997,0]),(8,.v (.int .i64) [])] [2,4,5,8] [(1,[(2,.box (.slice (.int .i64)) [9997,0]),(4,.v (.int .i64) [])]),(2,[(2,.box (.slice (.int .i64)) [9997,0])])] .z))) .z)) (ab abH ag) Tryz.func38
theorem Iu:FOz 200 HN:=fo 8 (.s (.r [1001002]) (.s .z (.s .z (.s (.s .z (.b (.l [(0,.row (.st 7) false),(2,.box (.slice (.int .i64)) [9997,0]),(5,.v (.int .i64) []),(6,.v (.int .i64) [])] [0,2,5,6,7] [(2,[(0,.row (.st 7) false),(2,.box (.slice (.int .i64)) [9997,0]),(5,.v (.int .i64) [])])] (.s .z (.s (.j [0,2,5,7] [(0,[(0,.row (.st 7) false),(2,.box (.slice (.int .i64)) [9997,0]),(5,.v (.int .i64) [])])] .z) .z))))) (.s .z (.s (.r [9998]) .z)))))) (ab abH (ab HQ ag)) Tryz.func200
theorem ajP:FOz 159 ahw:=fo 7 .z (ab ajt (ab ajs (ab Iu ag))) Tryz.func159
theorem an1:FOz 92 amx:=fo 6 .z (ab ajQ (ab ajP ag)) Tryz.func92
set_option maxHeartbeats 4000000 in
set_option maxRecDepth 1000000 in
theorem apG:xA Tryz.prog 93:=by
 constructor
 ·intro b n cap i w hn hj
  go_enter Tryz.func93,Tryz.ntmps93
  go_wp2
  all_goals (go_ret;exact⟨rfl,rfl⟩)
 ·intro p w;cases p
  ·go_enter Tryz.func93,Tryz.ntmps93
   go_wp2
   all_goals (go_ret;exact⟨rfl,rfl⟩)
  ·go_enter Tryz.func93,Tryz.ntmps93
   go_wp2
   all_goals (go_ret;exact⟨rfl,rfl⟩)
set_option maxHeartbeats 4000000 in
set_option maxRecDepth 1000000 in
theorem apD:wP Tryz.prog 93 33 50 9:=by
 intro b n cap i j w hn hm hlt hj i0 hi0 hz1 A hA news s1 hsrc s2 s3 W1 W2 hW hcl
 have hic:i≤cap:=by omega
 have hjc:j≤cap:=by omega
 have tS:Tryz.prog.underlying 33=some (.slice 50):=by kernel_rfl
 have mixed:Tryz.prog.follows .mixedOrders=true:=Checked.mixed Tryz.checked
 go_enter Tryz.func93,Tryz.ntmps93
 go_wp2_with fail
 go_region_law_o (refine step_append_room rfl (.tmp 22) (.tmp 25) 33 rfl 50 i0 9 tS hi0 hz1 b 0 i cap (by simp[Act.eval,Act.put]) A (n - j) (cap - j) news (by simp[Act.eval,Act.put]) s1.out hsrc.out s2.out (by omega) s3.out ?_;rw[← hW.out])
 go_wp2
 go_ret
 exact⟨rfl,rfl⟩
theorem an0:FOz 93 amw:=Ex tok (te:=Y6) (by kernel_rfl) (by kernel_rfl) (sz:=9) (by kernel_rfl) (R7.mp (by kernel_rfl)) (by kernel_rfl:Tryz.prog.underlying 33=some (.slice 50)) ⟨Tryz.f93,by kernel_rfl,by kernel_rfl,by kernel_rfl⟩ apG apD
theorem anZ:FOz 94 amv:=fo 9 Qh ag Tryz.func94
set_option maxHeartbeats 4000000 in
set_option maxRecDepth 1000000 in
theorem apF:xA Tryz.prog 95:=by
 constructor
 ·intro b n cap i w hn hj
  go_enter Tryz.func95,Tryz.ntmps95
  go_wp2
  all_goals (go_ret;exact⟨rfl,rfl⟩)
 ·intro p w;cases p
  ·go_enter Tryz.func95,Tryz.ntmps95
   go_wp2
   all_goals (go_ret;exact⟨rfl,rfl⟩)
  ·go_enter Tryz.func95,Tryz.ntmps95
   go_wp2
   all_goals (go_ret;exact⟨rfl,rfl⟩)
set_option maxHeartbeats 4000000 in
set_option maxRecDepth 1000000 in
theorem apC:wP Tryz.prog 95 22 3 1:=by
 intro b n cap i j w hn hm hlt hj i0 hi0 hz1 A hA news s1 hsrc s2 s3 W1 W2 hW hcl
 have hic:i≤cap:=by omega
 have hjc:j≤cap:=by omega
 have hA2:=hA;rw[Nat.mul_one]at hA2;have adn:=hcl;simp only[Nat.mul_one]at adn
 have tS:Tryz.prog.underlying 22=some (.slice 3):=by kernel_rfl
 have mixed:Tryz.prog.follows .mixedOrders=true:=Checked.mixed Tryz.checked
 go_enter Tryz.func95,Tryz.ntmps95
 go_wp2_with fail
 go_region_law_o (refine step_append_room rfl (.tmp 22) (.tmp 25) 22 rfl 3 i0 1 tS hi0 hz1 b 0 i cap (by simp[Act.eval,Act.put]) A (n - j) (cap - j) news (by simp[Act.eval,Act.put]) s1.out hsrc.out s2.out (by omega) s3.out ?_;rw[← hW.out])
 go_wp2
 go_ret
 exact⟨rfl,rfl⟩
theorem anY:FOz 95 amu:=Ex tok (te:=acR) (by kernel_rfl) (by kernel_rfl) (sz:=1) (by kernel_rfl) (R7.mp (by kernel_rfl)) (by kernel_rfl:Tryz.prog.underlying 22=some (.slice 3)) ⟨Tryz.f95,by kernel_rfl,by kernel_rfl,by kernel_rfl⟩ apF apC
theorem afj:FOz 36 anq:=fo 17 h36 (ab aal (ab an3 (ab an2 (ab afa (ab an1 (ab an0 (ab anZ (ab anY ag)))))))) Tryz.func36
theorem anX:FOz 98 ams:=fo 3 .z ag Tryz.func98
theorem anW:FOz 99 amr:=fo 4 .z ag Tryz.func99
theorem ajO:FOz 161 ahv:=fo 9 Qh ag Tryz.func161
theorem ajN:FOz 162 ahu:=fo 3 .z ag Tryz.func162
theorem akr:FOz 100 ait:=fo 30 (Qf (.s .z (Qf (.s (Qf ((Qg [(7,ge),(29,ge)] [7,9,29,55] [(2,[(7,ge)])] (Qf (.s .z (.s (.j [7,9,55] [(0,[(7,ge)])] (.b (Qf XE))) .z)))))) .z)))) (ab acW (ab YL (ab afd (ab ajO (ab ajN ag))))) Tryz.func100
theorem apq(p:Option Addr)(n cap:Nat)(w:World):Calls Tryz.prog 96 #[.slice p n cap] w λe w'=>e = .returned (.func (.func 160) #[] #[.pointer (some ⟨w.heap.size,0,none⟩)])∧w'=w.alloc (.cells #[.slice p n cap] 33 (0,0)):=by
 go_enter Tryz.func96,Tryz.ntmps96
 go_wp2
 go_ret
 exact⟨rfl,rfl⟩
set_option maxHeartbeats 4000000 in
set_option maxRecDepth 1000000 in
theorem apo:Be Tryz.prog 160 50 9:=by
 intro l bx n cap p J W hn hp hbx hcell hY h0;refine callsIn_of_wp Tryz.func160 rfl trivial ?_ rfl;simp only[Tryz.ntmps160,List.size_toArray,PN,WV,Nat.reduceAdd,Nat.reduceSub,Array.replicate_succ,Array.replicate_zero,List.push_toArray,List.append_toArray,PE,UF]
 gi_wp2
 gi_loopw [3] (λi wr=>∃k:Nat,k≤n∧i = .int .i64 ((k:Int) - 1)∧J k wr) (λi _=>(Go.RowKit.intOf i+1).toNat)
 case atStart=>exact⟨n,MN _,by rw[show wrap64 ((n:Int) - 1)=(n:Int) - 1 by unfold maxLen at hn;simp only[wrap64];omega],h0⟩
 case round=>
  obtain⟨k,hk,rfl,hJ⟩:=hrel
  have hcw:wr.cell? ⟨bx,0,none⟩=some (.slice p n cap):=by rw[← hcell];simp[World.cell?,hbx k wr hJ]
  cases k with
  | zero=>
   gi_wp2
   go_end0
   exact⟨⟨_,rfl⟩,hJ⟩
  | succ k=>
   have e1:(((k+1:Nat):Int) - 1)=(k:Int):=by omega
   rw[e1];have hlt:k<n:=hk;rcases hp with hp | ⟨b,rfl⟩
   ·omega
   obtain⟨f,hf,fn,tmps,assign,body,hy,hR⟩:=hY k wr hJ hlt b rfl
   have c0:=hf 0 (by decide)
   rw[Vm]at c0
   have c1:=hf 1 (by decide)
   have c2:=hf 2 (by decide)
   have c3:=hf 3 (by decide)
   have c4:=hf 4 (by decide)
   have c5:=hf 5 (by decide)
   have c6:=hf 6 (by decide)
   have c7:=hf 7 (by decide)
   have c8:=hf 8 (by decide)
   rw[show(⟨(List.range 9).map f⟩:Array Value) = #[f 0,f 1,f 2,f 3,f 4,f 5,f 6,f 7,f 8]from rfl]at hy
   gi_wp2
   refine hR.mono ?_;rintro e W3 ⟨rfl,hJ3⟩
   gi_wp2
   go_roundw
   case rel=>exact⟨k,by omega,by rw[show wrap64 ((k:Int) - 1)=(k:Int) - 1 by unfold maxLen at hn;simp only[wrap64];omega],hJ3⟩
   case measure=>simp[Go.RowKit.intOf,wrap64];unfold maxLen at hn;omega
theorem aot:FOz 37 anp:=akO (nv:=48) (fB:=96) (fC:=160) (te:=50) (tsl:=33) (Og:=k37) (Wd:=apE) (h:=h37) tok (ab afj (ab aal (ab ae_ (ab anX (ab anW (ab akr ag)))))) mix Tryz.func37 (by kernel_rfl) (by kernel_rfl) (by kernel_rfl) (by kernel_rfl) ⟨Tryz.f96,by kernel_rfl,by kernel_rfl,by kernel_rfl⟩ ⟨Tryz.f160,by kernel_rfl,by kernel_rfl,by kernel_rfl⟩ apq (λti h=>by cases h;exact apo) (by kernel_rfl)
theorem aos:FOz 39 anm:=fo 3 .z ag Tryz.func39
theorem aor:FOz 40 anl:=fo 2 .z (ab aal ag) Tryz.func40
theorem aoq:FOz 41 ank:=fo 3 .z ag Tryz.func41
shelf_lay Go.Proofs.Lays.n189 Nm 189 at Tryz as lay42
theorem aop:FOz 42 anj:=F2 (ρ:=lay42_ren) lay42 ⟨Tryz.f42,by kernel_rfl,by kernel_rfl,by kernel_rfl⟩
theorem aam:FOz 12 anP:=fo 48 (Qf (.s .z (.s (Qf ((Qg [(2,QG),(16,ge)] [2,4,6,7,11,16,17,18,19,20,21,22,23,24,25,26,27,28,29,30,31,32,33,34,35,36,37,38,39,40,41,42,43] [(2,[(2,QG)])] (Qf (.s .z (.s (.b (Qf (.s .z (Qf ((Qg [(2,QG),(26,ge)] [2,6,7,21,22,26,27,28,29,30,31,32,33,34,35,36,37,38,39,40,41,42] [(4,[(2,QG)])] .z)))))) .z)))))) (.s (Qf ((Qg [(3,f8),(47,ge)] [3,9,47] [(6,[(3,f8)])] (Qf (.s .z (.s (.j [3,9] [(0,[(3,f8)])] .z) .z)))))) .z)))) (ab aan (ab afj (ab aot (ab aal (ab aos (ab aor (ab aoq (ab aop ag)))))))) Tryz.func12
theorem aon:FOz 46 anf:=fo 10 h46 ag Tryz.func46
theorem akp:FOz 105 aiq:=fo 6 (Qf (.s .z (.s Qk .z))) ag Tryz.func105
theorem aom:FOz 47 ane:=fo 6 (Qf (.s XF (.s Qk .z))) (ab akp ag) Tryz.func47
theorem aoE:FOz 14 anN:=fo 11 (Qf (.s (.s (.j [] [(0,[(82,gt)])] .z) .z) (Qf (.s (Qf ((Qg [(5,gt),(6,ge)] [5,6] [(2,[(5,gt)])] (Qf Qj)))) (.s (Qf ((Qg [(5,gt),(7,ge)] [5,7] [(4,[(5,gt)])] (Qf Qj)))) (.s (Qf ((Qg [(5,gt),(8,ge)] [5,8] [(6,[(5,gt)])] (Qf Qj)))) (.s (Qf ((Qg [(5,gt),(9,ge)] [5,9] [(8,[(5,gt)])] (Qf Qj)))) (.s (Qf ((Qg [(5,gt),(10,ge)] [5,10] [(10,[(5,gt)])] (Qf Qj)))) .z)))))))) (ab aon (ab aom ag)) Tryz.func14
theorem afo:FOz 21 anH:=fo 1 .z ag Tryz.func21
theorem ok5:FOz 5 sp5:=fo 3 h5 (ab aan (ab aam (ab aoE (ab afo ag)))) Tryz.func5
theorem ok6:FOz 6 sp6:=fo 2 h6 ag Tryz.func6
theorem aoC:FOz 22 anG:=fo 6 Qs ag Tryz.func22
theorem ok7:FOz 7 sp7:=fo 9 h7 (ab aoC ag) Tryz.func7
theorem abM:FOz 175 ahr:=fo 4 (Qf (.s (.s (.j [] [(0,[(12,gt)])] .z) .z) (.s (Qf ((Qg [(3,ge)] [2,3,39] [(1,[(2,gt)]),(2,[])] (Qf (.s (.b (Qf Ql)) .z))))) .z))) ag Tryz.func175
theorem ako:FOz 106 aip:=fo 6 (Qf (.s Qq (Qf (.s XQ (.s (Qf ((Qg [(4,ge)] [2,4,5] [(1,[(2,ge)]),(4,[])] (Qf (.s (.b (Qf ((Qg [(5,ge)] [2,5] [(1,[(2,ge)]),(6,[])] .z)))) .z))))) .z))))) (ab abM ag) Tryz.func106
theorem VR:FOz 111 aik:=fo 8 (Qf (.s (Qf ((Qg [(4,QA),(6,ge)] [4,5,6,7] [(1,[(4,QA),(5,gt)]),(2,[(4,QA)])] .z))) .z)) ag Tryz.func111
theorem Zc:FOz 135 ahU:=fo 4 (Qf (.s .z (.s ((Qg [(3,ge)] [3,14] [(2,[(3,ge)])] (.s (.s (.j [] [(0,[(14,gt)])] .z) .z) .z))) .z))) ag Tryz.func135
theorem ajL:FOz 176 ahq:=fo 6 (Qf (.s .z (.s (Qf ((Qg [(3,ge),(4,ge),(5,ge)] [2,3,4,5,21,38] [(1,[(2,gt)]),(2,[(4,ge)])] (Qf (.s (.j [2,3,4,21,38] [(0,[(3,ge),(4,ge)]),(1,[(2,gt)])] (.b (.s Qq (.s XH .z)))) .z))))) .z))) (ab abM ag) Tryz.func176
theorem akn:FOz 107 aio:=fo 10 (Qf (.s .z (Qf (.s Qm (Qf (.s XI (.s (.s (.j [] [(0,[(63,gt)])] .z) .z) (.s (Qf ((Qg [(8,ge)] [4,8,9,100] [(1,[(4,ge)]),(2,[])] (Qf (.s (.b (Qf XV)) .z))))) .z)))))))) (ab VR (ab Zc (ab ajL ag))) Tryz.func107
theorem YM:FOz 69 amV:=fo 7 (Qf (.s .z (.s (Qf ((Qg [(5,f9),(6,ge)] [5,6,26] [(2,[(5,f9)])] (Qf (.s (.j [5,26] [(0,[(5,f9)])] (.b XL)) .z))))) .z))) (ab Zc ag) Tryz.func69
theorem akm:FOz 108 ain:=fo 9 (Qf (.s (Qf ((Qg [(3,ge)] [2,3,4,5,6,7,8,34] [(1,[(2,gt)]),(2,[])] (Qf (.s (.b (Qf (.s .z ((Qg [(5,ge)] [2,5,6,7,8,34] [(1,[(2,gt)]),(4,[])] (.s (.s (.j [] [(0,[(34,gt)])] .z) .z) (.s (.b (Qf (.s (Qf ((Qg [(6,ge),(7,ge)] [6,7,8] [(6,[(6,ge)])] .z))) .z))) .z))))))) .z))))) .z)) (ab YM (ab VR ag)) Tryz.func108
theorem aol:FOz 48 anb:=fo 5 (Qf (.s .z (.s Qq (.s XQ (.s (Qf ((Qg [(4,ge)] [2,4] [(1,[(2,ge)]),(4,[])] .z))) .z))))) (ab ako (ab akn (ab akm ag))) Tryz.func48
theorem Va:FOz 53 am_:=fo 2 .z ag Tryz.func53
theorem acY:FOz 55 am9:=fo 3 .z (ab YM (ab VR ag)) Tryz.func55
theorem X6:FOz 66 amY:=fo 6 .z ag Tryz.func66
theorem abL:FOz 178 aho:=fo 8 (Qf (.s .z (Qf (.s (Qf ((Qg [(5,f9),(6,ge),(7,ge)] [5,6,7] [(2,[(5,f9),(6,ge)])] (Qf (.s (.j [5,6] [(0,[(5,f9),(6,ge)])] .z) .z))))) (.s (.j [5] [(0,[(5,f9)])] .z) .z))))) ag Tryz.func178
theorem ajK:FOz 179 ahn:=fo 6 (Qf (.s .z (Qf (.s (Qf ((Qg [(3,f9),(5,ge)] [3,5] [(2,[(3,f9)])] XY))) .z)))) (ab abL ag) Tryz.func179
theorem abG:FOz 209 ag0:=fo 6 (Qf (.s XM (Qf (.s (Qf ((Qg [(4,ge),(5,ge)] [2,3,4,5,39] [(1,[(2,ge),(3,gt)]),(2,[(4,ge)])] (Qf (.s (.b (.s Ql .z)) .z))))) .z)))) ag Tryz.func209
theorem ajr:FOz 210 agZ:=fo 8 (Qf (.s .z (.s ((Qg [(4,ge)] [4,18] [(2,[(4,ge)])] (.s (.s (.j [] [(0,[(18,gt)])] .z) .z) .z))) .z))) (ab abG ag) Tryz.func210
theorem ajJ:FOz 180 ahm:=fo 11 (Qf (.s Qq (Qf (.s .z (.s (Qf ((Qg [(7,gt),(8,QA),(9,ge)] [7,8,9,10,41] [(2,[(7,gt),(8,QA)])] (.s XN .z)))) .z))))) (ab abG (ab ajr ag)) Tryz.func180
theorem akk:FOz 113 aii:=fo 12 (Qf (.s .z (Qf (.s .z (Qf (.s (Qf ((Qg [(2,QP),(4,QP),(5,gt),(7,ge)] [2,3,4,5,7,8,9,10,11,61,89] [(1,[(2,QP),(3,ge)]),(2,[(2,QP),(4,QP),(5,gt)])] (Qf (.s (.j [2,3,4,5,8,9,10,11,61,89] [(0,[(2,QP),(4,QP),(5,gt)]),(1,[(2,QP),(3,ge)])] (.b (Qf (.s .z (Qf (.s (.s (.j [] [(0,[(61,gt)])] .z) .z) (Qf (.s .z (Qf (.s ((Qg [(11,ge)] [11,89] [(4,[(11,ge)])] (.s XO .z))) Qj)))))))))) .z))))) .z)))))) (ab abL (ab ajK (ab ajJ ag))) Tryz.func113
theorem aok:FOz 57 am7:=fo 10 (Qf (.s .z (.s (.j [7] [(0,[(7,ge)])] .z) (Qf (.s .z (.s (Qf ((Qg [(4,QJ),(5,Q0),(8,ge)] [4,5,8] [(1,[(4,t7),(5,Q0)]),(2,[(4,QJ),(5,Q0)])] .z))) (.s (Qf ((Qg [(4,QJ),(5,Q0),(9,ge)] [4,5,9,85] [(1,[(4,t7),(5,Q0)]),(4,[(4,QJ),(5,Q0)])] (Qf (.s (.b XG) .z))))) .z))))))) (ab aol (ab Va (ab acY (ab X6 (ab akk ag))))) Tryz.func57
theorem X7:FOz 52 ana:=fo 7 (Qf (.s (Qf ((Qg [(4,.box (.st 4) []),(6,ge)] [4,5,6] [(1,[(4,.box (.st 4) []),(5,gt)]),(2,[(4,.box (.st 4) [])])] .z))) .z)) ag Tryz.func52
theorem akj:FOz 114 aif:=fo 1 .z ag Tryz.func114
theorem Zd:FOz 115 aie:=fo 7 Qi ag Tryz.func115
theorem aoj:FOz 58 am6:=fo 8 (Qf (.s (.s (.j [] [(0,[(53,gt)])] .z) .z) (Qf (.s (.s (.j [] [(0,[(66,gt)])] .z) .z) XW)))) (ab X7 (ab akj (ab Zd ag))) Tryz.func58
theorem ok16:FOz 16 anM:=fo 7 (Qf (.s (Qf ((Qg [(4,QY),(6,ge)] [4,5,6] [(1,[(4,QY),(5,gt)]),(2,[(4,QY)])] .z))) .z)) ag Tryz.func16
theorem TK:FOz 17 anL:=fo 7 (Qf (.s (Qf ((Qg [(4,QR),(6,ge)] [4,5,6] [(1,[(4,Q6),(5,gt)]),(2,[(4,QR)])] .z))) .z)) ag Tryz.func17
theorem UO:FOz 121 ah8:=fo 7 Qi ag Tryz.func121
theorem abY:FOz 122 ah7:=fo 2 .z ag Tryz.func122
theorem abX:FOz 126 ah3:=fo 7 (Qf (.s .z (.s (Qf ((Qg [(5,QQ),(6,ge)] [5,6] [(2,[(5,QQ)])] (Qf (.s (.j [5] [(0,[(5,QQ)])] .z) .z))))) .z))) ag Tryz.func126
theorem abW:FOz 127 ah2:=fo 8 (Qf (.s .z (.s (Qf ((Qg [(6,f8),(7,ge)] [6,7] [(2,[(6,f8)])] (Qf (.s (.j [6] [(0,[(6,f8)])] .z) .z))))) .z))) ag Tryz.func127
theorem abN:FOz 174 ahs:=fo 11 (Qf (.s .z (Qf (.s .z (.s (Qf ((Qg [(6,QQ),(8,f8),(9,ge)] [6,8,9] [(2,[(6,QQ),(8,f8)])] (Qf (.s (.j [6,8] [(0,[(6,QQ),(8,f8)])] .z) .z))))) (.s (Qf ((Qg [(7,QE),(10,ge)] [7,10] [(4,[(7,QE)])] (Qf (.s (.j [7] [(0,[(7,QE)])] .z) .z))))) .z)))))) ag Tryz.func174
theorem Ze:FOz 104 air:=fo 9 (Qf (.s (Qf ((Qg [(2,t7),(5,ge)] [2,5,6,7,8] [(2,[(2,t7)])] (Qf (.s (.j [2,6,7,8] [(0,[(2,t7)])] (.b (Qf (.s .z (Qf (.s .z (Qf (.s .z (Qf (.s (.j [8] [(0,[(8,.box (.st 6) [10])])] .z) .z)))))))))) .z))))) .z)) (ab ok16 (ab TK (ab UO (ab abY (ab abX (ab abW (ab abN ag))))))) Tryz.func104
theorem abZ:FOz 116 aic:=fo 7 Qn ag Tryz.func116
theorem aki:FOz 117 aib:=fo 9 .z (ab X7 (ab Zd ag)) Tryz.func117
theorem ajq:FOz 211 agY:=fo 7 (Qf (.s (Qf ((Qg [(4,.box (.st 8) []),(6,ge)] [4,5,6] [(1,[(4,.box (.st 8) []),(5,gt)]),(2,[(4,.box (.st 8) [])])] .z))) .z)) ag Tryz.func211
theorem abV:FOz 130 ahZ:=fo 7 (Qf (.s .z (.s (Qf ((Qg [(5,QE),(6,ge)] [5,6] [(2,[(5,QE)])] (Qf (.s (.j [5] [(0,[(5,QE)])] .z) .z))))) .z))) ag Tryz.func130
theorem UN:FOz 215 agU:=fo 4 .z ag Tryz.func215
theorem ai8:FOz 236 agA:=fo 7 (Qf (.s (Qf ((Qg [(4,Q3),(6,ge)] [4,5,6] [(1,[(4,Q3),(5,gt)]),(2,[(4,Q3)])] .z))) .z)) ag Tryz.func236
theorem abw:FOz 256 agh:=fo 4 (Qf (.s (.b (.s (.j [] [(0,[(5,gt)])] .z) (.c .z XK))) .z)) ag Tryz.func256
theorem abC:FOz 237 agz:=fo 8 .z (ab abw ag) Tryz.func237
theorem Uo:FOz 84 amG:=fo 5 .z ag Tryz.func84
theorem Zb:FOz 177 ahp:=fo 4 Qt (ab Zc ag) Tryz.func177
theorem ab0:FOz 112 aij:=fo 7 (Qf (.s .z (.s (Qf ((Qg [(6,ge)] [4,6] [(1,[(4,gt)]),(2,[])] .z))) .z))) (ab Zb ag) Tryz.func112
theorem afg:FOz 56 am8:=fo 14 (Qf (.s .z (.s (Qf ((Qg [(11,t8),(12,ge)] [11,12,13,59] [(2,[(11,t8)])] (Qf (.s (.j [11,13,59] [(0,[(11,t8)])] (.b (Qf XP))) .z))))) .z))) (ab TK (ab Uo (ab ab0 ag))) Tryz.func56
theorem VA:FOz 18 anK:=fo 7 .z (ab afg ag) Tryz.func18
theorem ok32:FOz 32 anv:=fo 7 (Qf (.s .z (.s (Qf ((Qg [(5,t8),(6,ge)] [5,6,30] [(2,[(5,t8)])] (Qf (.s (.j [5,30] [(0,[(5,t8)])] (.b Qr)) .z))))) .z))) (ab Uo ag) Tryz.func32
theorem aiY:FOz 252 agj:=fo 1 .z ag Tryz.func252
theorem abD:FOz 228 agH:=fo 2 .z (ab aiY ag) Tryz.func228
theorem ajd:FOz 229 agG:=fo 2 .z ag Tryz.func229
theorem abI:FOz 198 ag5:=fo 7 (Qf (.s XR .z)) (ab abD (ab ajd ag)) Tryz.func198
theorem abP:FOz 147 ahI:=fo 17 (Qf (.s .z (.s XU (Qf (.s .z (.s (Qf ((Qg [(11,t8),(13,ge)] [11,13,14,15,16] [(2,[(11,t8)])] (Qf (.s (.b (Qf (.s .z (.s (.j [16] [(0,[(16,ge)])] .z) .z)))) .z))))) .z)))))) (ab ok32 (ab VR (ab Zb (ab abI ag)))) Tryz.func147
theorem YK:FOz 85 amF:=fo 7 .z (ab abP ag) Tryz.func85
theorem abB:FOz 238 agy:=fo 6 .z (ab VA (ab Uo (ab YK (ab UN ag)))) Tryz.func238
theorem aiW:FOz 257 agf:=fo 9 .z (ab afg ag) Tryz.func257
theorem aiV:FOz 258 agd:=fo 10 .z (ab YK (ab VR (ab abI ag))) Tryz.func258
theorem abA:FOz 239 agx:=fo 5 .z (ab UN (ab aiW (ab aiV ag))) Tryz.func239
theorem akl:FOz 110 ail:=fo 7 Qo (ab Uo ag) Tryz.func110
theorem abv:FOz 259 agc:=fo 5 .z ag Tryz.func259
theorem abz:FOz 240 agw:=fo 6 (Qf (.s .z (.s (.s (.j [] [(0,[(19,gt)])] .z) .z) .z))) (ab X7 (ab akl (ab abv ag))) Tryz.func240
theorem abQ:FOz 145 ahK:=fo 7 .z (ab abP ag) Tryz.func145
theorem aiU:FOz 260 agb:=fo 8 (Qf (.s .z (.s (Qf ((Qg [(5,t8),(6,ge)] [5,6,7,38] [(2,[(5,t8)])] (Qf (.s (.j [5,7,38] [(0,[(5,t8)])] (.b (Qf XH))) .z))))) .z))) (ab Uo ag) Tryz.func260
theorem aby:FOz 241 agv:=fo 12 (Qf (.s .z (.s (Qf ((Qg [(10,ge)] [8,10,11,55] [(1,[(8,gt)]),(2,[])] (Qf (.s (.b (Qf (.s .z XE))) .z))))) .z))) (ab VA (ab ok32 (ab Uo (ab abQ (ab Zb (ab UN (ab abv (ab aiU ag)))))))) Tryz.func241
theorem aiT:FOz 261 aga:=fo 10 (Qf (.s .z (Qf (.s (Qf ((Qg [(6,ac),(7,gt),(8,ge)] [6,7,8,9] [(2,XJ)] (Qf (.s (.j [6,7,9] [(0,XJ)] (.b (Qf (.s (.j [7,9] [(0,[(7,gt),(9,Q3)]),(3,[(7,gt)])] .z) .z)))) .z))))) .z)))) ag Tryz.func261
theorem abx:FOz 242 agu:=fo 12 (Qf (.s .z (Qf (.s .z (.s (.j [6] [(0,[(6,.box (.st 6) [7])])] .z) (Qf (.s ((Qg [(11,ge)] [11,78] [(2,[(11,ge)])] XZ)) .z))))))) (ab UO (ab aiT ag)) Tryz.func242
theorem ajp:FOz 212 agX:=fo 16 (Qf (.s .z (Qf (.s XD (.s (.s (.j [] [(0,[(98,gt)])] .z) .z) .z))))) (ab TK (ab Va (ab abV (ab UN (ab ai8 (ab abC (ab abB (ab abA (ab abz (ab aby (ab abx ag))))))))))) Tryz.func212
theorem aiB:FOz 282 afR:=fo 12 .z ag Tryz.func282
theorem abu:FOz 280 afT:=fo 9 (Qf (.s (.j [2] [(0,[(2,.box (.st 14) [])])] .z) (.s (.j [3] [(0,[(3,.box (.st 14) [])])] .z) (.s (.s (.j [] [(0,[(24,gt)])] .z) (.c (.s (.b Qw) .z) .z)) (Qf (.s .z (.s (.b (.s (.j [] [(0,[(54,gt)])] .z) (.c .z XF))) .z))))))) (ab aiB ag) Tryz.func280
theorem aiC:FOz 281 afS:=fo 7 .z (ab abu ag) Tryz.func281
theorem aiD:FOz 279 afU:=fo 8 (Qf (.s XL .z)) (ab abD (ab abu (ab aiC ag))) Tryz.func279
theorem aiE:FOz 278 afV:=fo 5 .z (ab VA (ab YK (ab aiD ag))) Tryz.func278
theorem aiI:FOz 273 afZ:=fo 11 (Qf (.s .z (Qf (.s (Qf ((Qg [(8,f9),(9,ge)] [8,9,10,39] [(2,[(8,f9)])] (Qf (.s (.b (Qf (.s ((Qg [(10,ge)] [10,39] [(4,[(10,ge)])] (.s Ql .z))) .z))) .z))))) .z)))) (ab YM (ab aiE ag)) Tryz.func273
theorem CV:∀n,O6 Tryz.prog 262 (Jf n)
 | 0=>⟨⟨Tryz.f262,by kernel_rfl,by kernel_rfl,by kernel_rfl⟩,λa r hr=>nomatch (show(none:Option _)=some r from hr)⟩
 | n+1=>SA (nv:=10) (h:=apr) tok mix (ab (CV n) (ab aiI ag)) Tryz.func262 (by kernel_rfl) (by kernel_rfl) (by kernel_rfl) (by kernel_rfl) (by kernel_rfl)
theorem aiS:FOz 262 af_:=CV 64
theorem ai7:FOz 243 agt:=fo 3 .z (ab aiS ag) Tryz.func243
theorem ai6:FOz 244 ags:=fo 12 (Qf (.s .z (.s (Qf ((Qg [(5,QM),(6,ge)] [5,6,7,8,9,32,46] [(2,[(5,QM)])] (Qf (.s (.j [5,7,8,9,32,46] [(0,[(5,QM)])] (.b (Qf (.s Qm (Qf (.s ((Qg [(8,ge)] [8,46] [(4,[(8,ge)])] (.s XI .z))) .z)))))) .z))))) (Qf (.s (Qf ((Qg [(10,f8),(11,ge)] [10,11] [(6,[(10,f8)])] .z))) .z))))) (ab Va ag) Tryz.func244
theorem aiR:FOz 263 af9:=fo 7 (Qf (.s .z (.s (Qf ((Qg [(5,Q2),(6,ge)] [5,6] [(2,[(5,Q2)])] (Qf (.s (.j [5] [(0,[(5,Q2)])] .z) .z))))) .z))) ag Tryz.func263
theorem aiQ:FOz 264 af8:=fo 8 (Qf (.s (Qf ((Qg [(7,ge)] [6,7,32] [(1,[(6,gt)]),(2,[])] (Qf (.s (.b Qm) .z))))) .z)) ag Tryz.func264
theorem aiP:FOz 265 af7:=fo 6 (Qf (.s .z (.s ((Qg [(5,ge)] [5,22] [(2,[(5,ge)])] (.s Qv .z))) .z))) ag Tryz.func265
theorem ai5:FOz 245 agr:=fo 16 (Qf (.s .z (.s Ql (.s (Qf (.c (.s (.j [5,7] [(0,[(5,t7)])] .z) .z) .z)) (Qf (.s .z (.s (.s (.j [] [(0,[(97,gt)])] .z) .z) .z))))))) (ab UO (ab UN (ab abC (ab abB (ab abz (ab aby (ab abx (ab abw (ab aiR (ab aiQ (ab aiP ag))))))))))) Tryz.func245
theorem ajo:FOz 213 agW:=fo 21 (Qf (.s .z (.s (Qf ((Qg [(3,t7),(6,QJ),(8,QY),(10,ge)] [3,6,7,8,10,11,12,13,14,15,16,17,18,19,20] [(1,Qy),(2,Qz)] (Qf (.s (.b (Qf (.s .z ((Qg [(3,t7),(6,QJ),(8,QY),(12,ge)] [3,6,7,8,12,13,14,15,16,17,18,19,20] [(1,Qy),(4,Qz)] (Qf (.s (.j [3,6,7,8,13,14,15,16,17,18,19,20] [(0,Qz),(1,Qy)] (.b (Qf (.s .z (Qf ((Qg [(3,t7),(6,QJ),(8,QY),(15,ge)] [3,6,7,8,15,16,17,18,19,20] [(1,Qy),(6,Qz)] .z))))))) .z))))))) .z))))) .z))) (ab TK (ab abA (ab ai7 (ab ai6 (ab ai5 ag))))) Tryz.func213
theorem ajI:FOz 181 ahl:=fo 17 (Qf (.s .z (.s Qp (Qf (.s (.j [2,4,5,6,11,12,13,14] [(0,[(2,t7),(4,QJ),(6,QY)]),(1,[(4,t7),(5,ge),(6,QY)])] .z) .z))))) (ab X7 (ab ajq (ab ajp (ab ajo ag)))) Tryz.func181
theorem akh:FOz 118 aia:=fo 11 (Qf (.s .z (.s (Qf ((Qg [(2,t7),(6,QQ),(7,ge)] [2,6,7,8,9,10] [(2,[(2,t7),(6,QQ)])] .z))) .z))) (ab ajI ag) Tryz.func118
theorem aoi:FOz 59 am5:=fo 13 (Qf (.s .z (.s Qm (Qf (.s .z (Qf (.s (Qf ((Qg [(10,f8),(11,ge)] [10,11,12,79] [(2,[(10,f8)])] (Qf (.s (.j [10,12,79] [(0,[(10,f8)])] (.b (Qf (.s (.j [] [(0,[(79,gt)])] .z) .z)))) .z))))) .z))))))) (ab ok16 (ab X7 (ab X6 (ab Ze (ab abZ (ab aki (ab akh ag))))))) Tryz.func59
theorem akg:FOz 119 ah_:=fo 1 .z ag Tryz.func119
theorem akf:FOz 120 ah9:=fo 6 (Qf (.s .z (Qf (.s (Qf ((Qg [(3,QM),(4,gt),(5,ge)] [3,4,5,23] [(2,[(3,QM)])] (Qf (.s (.j [3,4,23] [(0,[(3,QM),(4,gt)])] (.b (.s XM .z))) .z))))) .z)))) (ab Va ag) Tryz.func120
theorem aoh:FOz 60 am4:=fo 10 (Qf (.s (.s (.j [] [(0,[(51,gt)])] .z) .z) (Qf (.s .z (Qf (.s (Qf ((Qg [(8,ge),(9,ge)] [8,9] [(2,[(8,ge)])] (Qf (.s (.j [8] [(0,[(8,ge)])] .z) .z))))) (Qf (.s .z (.s (.j [2] [(0,[(2,t7)])] .z) .z))))))))) (ab TK (ab Va (ab acY (ab akg (ab akf (ab UO (ab abY ag))))))) Tryz.func60
theorem ake:FOz 123 ah6:=fo 8 (Qf (.s .z (.s (Qf ((Qg [(5,QQ),(6,ge)] [5,6,7] [(2,[(5,QQ)])] (Qf (.s (.j [5,7] [(0,[(5,QQ)])] .z) .z))))) .z))) (ab ok16 ag) Tryz.func123
theorem akd:FOz 124 ah5:=fo 7 (Qf (.s .z (.s (Qf ((Qg [(5,f8),(6,ge)] [5,6,30] [(2,[(5,f8)])] (Qf (.s (.j [5,30] [(0,[(5,f8)])] (.b Qr)) .z))))) .z))) ag Tryz.func124
theorem ajn:FOz 214 agV:=fo 1 .z ag Tryz.func214
theorem ajH:FOz 182 ahk:=fo 3 (Qf (.s XS XW)) (ab ajn ag) Tryz.func182
theorem ajG:FOz 183 ahj:=fo 9 (Qf (.s .z (Qf (.s .z (.s (Qf ((Qg [(6,ac),(7,gt),(8,ge)] [6,7,8,30] [(2,XJ)] (Qf (.s (.j [6,7,30] [(0,XJ)] (.b (.s (.j [6,7,30] [(0,XJ)] Qr) .z))) .z))))) (.s (.j [6] [(0,[(6,ac)])] .z) .z)))))) ag Tryz.func183
theorem akc:FOz 125 ah4:=fo 10 (Qf (.s (Qf ((Qg [(1,QZ),(8,ge)] [1,6,7,8,9] [(1,[(6,ac),(7,ge)]),(2,[(1,QZ)])] .z))) .z)) (ab ajH (ab ajG ag)) Tryz.func125
theorem aog:FOz 61 am3:=fo 14 (Qf (.s .z (Qf (.s .z (Qf (.s (Qf ((Qg [(2,t7),(6,Q6),(10,ge)] [2,6,10,11,12,122] [(3,[(2,t7),(6,Q6)])] (Qf (.s (.j [2,6,11,12,122] [(0,[(2,t7),(6,Q6)])] (.b (Qf (.s (.j [] [(0,[(122,gt)])] .z) .z)))) .z))))) .z)))))) (ab ok16 (ab TK (ab X6 (ab UO (ab ake (ab akd (ab akc (ab abX (ab abW ag))))))))) Tryz.func61
theorem akb:FOz 128 ah1:=fo 9 (Qf (.s .z (.s Qv .z))) (ab TK (ab Va (ab UO (ab abN ag)))) Tryz.func128
theorem aof:FOz 62 am2:=fo 11 .z (ab TK (ab Va (ab X6 (ab akb ag)))) Tryz.func62
theorem ajZ:FOz 148 ahH:=fo 7 Qo (ab Uo ag) Tryz.func148
theorem afc:FOz 86 amE:=fo 9 (Qf (.s .z (.s (Qf ((Qg [(7,t8),(8,ge)] [7,8,32] [(2,[(7,t8)])] (Qf (.s (.j [7,32] [(0,[(7,t8)])] (.b Qm)) .z))))) .z))) (ab Va (ab Uo (ab ab0 (ab ajZ ag)))) Tryz.func86
theorem ajv:FOz 197 ag6:=fo 1 XX ag Tryz.func197
theorem aj0:FOz 146 ahJ:=fo 16 (Qf (.s .z (Qf (.s .z (.s (Qf ((Qg [(10,ge),(11,f8),(12,ge)] [10,11,12,13] [(2,[(10,ge),(11,f8)])] .z))) (.s (Qf ((Qg [(10,ge),(11,QO),(14,ge)] [10,11,14,15] [(4,[(11,QO)])] .z))) .z)))))) (ab ajv ag) Tryz.func146
theorem EC:∀n,O6 Tryz.prog 83 (KQ n)
 | 0=>⟨⟨Tryz.f83,by kernel_rfl,by kernel_rfl,by kernel_rfl⟩,λa r hr=>nomatch (show(none:Option _)=some r from hr)⟩
 | n+1=>SA (nv:=17) (h:=h83) tok mix (ab (EC n) (ab VA (ab YM (ab YK (ab afc (ab abQ (ab aj0 ag))))))) Tryz.func83 (by kernel_rfl) (by kernel_rfl) (by kernel_rfl) (by kernel_rfl) (by kernel_rfl)
theorem an4:FOz 83 amH:=EC 64
theorem afk:FOz 31 anw:=fo 9 (Qf (.s .z (Qf (.s (Qf ((Qg [(5,QC),(7,ge)] [5,7,8,39] [(2,[(5,QC)])] (Qf (.s (.b (Qf (.s ((Qg [(8,ge)] [8,39] [(4,[(8,ge)])] (.s Ql .z))) .z))) .z))))) .z)))) (ab ok32 (ab an4 ag)) Tryz.func31
theorem aow:FOz 33 anu:=fo 12 (Qf (.s .z (.s (Qf ((Qg [(9,ge)] [6,9,10,11,48,71] [(1,[(6,ge)]),(2,[])] (Qf (.s (.b (Qf (.s .z ((Qg [(11,ge)] [6,11,48,71] [(1,[(6,ge)]),(4,[])] (.s Qx (.s (.b (.s (.j [] [(0,[(71,gt)])] .z) .z)) .z))))))) .z))))) .z))) (ab VA (ab Va (ab YK (ab afc ag)))) Tryz.func33
theorem acU:FOz 87 amD:=fo 6 .z (ab TK ag) Tryz.func87
theorem afb:FOz 88 amC:=fo 6 (Qf (.s Qk .z)) ag Tryz.func88
theorem aov:FOz 34 ant:=fo 12 (Qf (.s .z (.s (Qf ((Qg [(9,ge),(10,ge)] [9,10,11,49] [(2,[(9,ge)])] (Qf (.s (.j [9,11,49] [(0,[(9,ge)])] (.b (Qf (.s (.j [] [(0,[(49,gt)])] .z) .z)))) .z))))) .z))) (ab acU (ab afb ag)) Tryz.func34
theorem aou:FOz 35 anr:=fo 14 (Qf (.s .z (.s (Qf ((Qg [(10,QY),(11,gt),(12,ge)] [10,11,12,13,48,73] [(2,[(10,QY),(11,gt)])] (Qf (.s (.j [10,11,13,48,73] [(0,[(10,QY),(11,gt)])] (.b (Qf (.s Qx (.s (.j [] [(0,[(73,gt)])] .z) .z))))) .z))))) .z))) (ab acU (ab afb ag)) Tryz.func35
theorem ac0:FOz 11 anQ:=fo 15 h11 (ab VA (ab afk (ab ok32 (ab aow (ab aov (ab aou ag)))))) Tryz.func11
theorem afp:FOz 19 anJ:=fo 9 (Qf (.s .z (.s (Qf ((Qg [(8,ge)] [6,8] [(1,[(6,ge)]),(2,[])] .z))) .z))) (ab afk ag) Tryz.func19
theorem afi:FOz 44 anh:=fo 9 (Qf (.s .z (.s (Qf ((Qg [(7,Q4),(8,ge)] [7,8] [(2,[(7,Q4)])] (Qf (.s (.j [7] [(0,[(7,Q4)])] .z) .z))))) .z))) ag Tryz.func44
theorem akq:FOz 103 ais:=fo 7 (Qf (.s .z (.s (Qf ((Qg [(5,ge),(6,ge)] [5,6,15,48] [(2,[(5,ge)])] (.s (.s (.j [] [(0,[(15,gt)])] .z) .z) (.s (.j [5,48] [(0,[(5,ge)])] (.b Qx)) .z))))) .z))) ag Tryz.func103
theorem aoo:FOz 43 ani:=fo 10 (Qf (.s .z (.s (Qf ((Qg [(5,QQ),(6,ge)] [5,6,7,40] [(2,[(5,QQ)])] (Qf (.s (.j [5,7,40] [(0,[(5,QQ)])] (.b (Qf Qp))) .z))))) (.s (Qf ((Qg [(2,t7),(8,ge)] [2,8,9] [(4,[(2,t7)])] (Qf (.s (.j [2,9] [(0,[(2,t7)])] .z) .z))))) .z)))) (ab ok16 (ab VA (ab afp (ab afi (ab acU (ab akq (ab Ze ag))))))) Tryz.func43
theorem afh:FOz 45 ang:=fo 7 h45 (ab ok16 ag) Tryz.func45
theorem acZ:FOz 13 anO:=fo 8 (Qf (.s .z (.s (Qf ((Qg [(1,t7),(5,ge)] [1,5,6,7] [(2,[(1,t7)])] (Qf (.s (.b (Qf (.s .z (Qf ((Qg [(1,t7),(7,ge)] [1,7] [(4,[(1,t7)])] .z)))))) .z))))) .z))) (ab ac0 (ab aoo (ab afi (ab afh ag)))) Tryz.func13
theorem aj_:FOz 129 ah0:=fo 5 (Qf (.s .z (.s (Qf ((Qg [(3,f8),(4,ge)] [3,4,29] [(2,[(3,f8)])] (Qf (.s (.j [3,29] [(0,[(3,f8)])] (.b (.s (.j [] [(0,[(29,gt)])] .z) .z))) .z))))) .z))) ag Tryz.func129
theorem aj9:FOz 131 ahY:=fo 6 .z (ab X7 (ab Zd ag)) Tryz.func131
theorem aj8:FOz 132 ahX:=fo 5 (Qf (.s .z (.s (Qf ((Qg [(3,f8),(4,ge)] [3,4,30] [(2,[(3,f8)])] (Qf (.s (.j [3,30] [(0,[(3,f8)])] (.b Qr)) .z))))) .z))) ag Tryz.func132
theorem aj7:FOz 133 ahW:=fo 6 (Qf (.s (Qf ((Qg [(5,ge)] [4,5,28] [(1,[(4,ge)]),(2,[])] (Qf (.s (.b XC) .z))))) .z)) ag Tryz.func133
theorem aoe:FOz 63 am1:=fo 12 h63 (ab acZ (ab afh (ab X6 (ab Ze (ab abZ (ab aj_ (ab abV (ab aj9 (ab aj8 (ab aj7 ag)))))))))) Tryz.func63
theorem ajF:FOz 184 ahi:=fo 1 .z ag Tryz.func184
theorem ajm:FOz 216 agT:=fo 9 (Qf (.s .z (.s (Qf ((Qg [(7,t8),(8,ge)] [7,8,40] [(2,[(7,t8)])] (Qf (.s (.j [7,40] [(0,[(7,t8)])] (.b Qp)) .z))))) .z))) (ab Uo ag) Tryz.func216
theorem ajE:FOz 185 ahh:=fo 12 (Qf (.s .z (.s (Qf ((Qg [(11,ge)] [10,11,57] [(1,[(10,gt)]),(2,[])] (Qf (.s (.b (Qf (.s (.j [] [(0,[(57,gt)])] .z) .z))) .z))))) .z))) (ab Uo (ab UN (ab ajm ag))) Tryz.func185
theorem aj6:FOz 134 ahV:=fo 13 (Qf (.s (.s (.j [] [(0,[(52,gt)])] .z) .z) (Qf (.s (Qf ((Qg [(10,ge),(11,ge)] [10,11,12,100] [(2,[(10,ge)])] (Qf (.s (.j [10,12,100] [(0,[(10,ge)])] (.b (Qf (.s (.j [12] [(0,[(12,ge)])] .z) XV)))) .z))))) .z)))) (ab ajF (ab ajE ag)) Tryz.func134
theorem aod:FOz 64 am0:=fo 13 (Qf (.s XN (Qf (.s (Qf ((Qg [(6,QJ),(9,ge),(10,ge)] [6,7,8,9,10] [(1,[(6,t7),(7,ge),(8,ge)]),(2,[(6,QJ),(9,ge)])] (Qf (.s (.j [6,7,8,9] [(0,[(6,QJ),(9,ge)]),(1,[(6,t7),(7,ge),(8,ge)])] .z) .z))))) .z)))) (ab ok32 (ab aj6 ag)) Tryz.func64
theorem aoc:FOz 65 amZ:=fo 8 (Qf (.s .z (.s (Qf ((Qg [(6,QL),(7,ge)] [6,7] [(2,[(6,QL)])] (Qf (.s (.j [6] [(0,[(6,QL)])] .z) .z))))) .z))) ag Tryz.func65
theorem aoB:FOz 23 anF:=fo 17 .z (ab aok (ab aoj (ab aoi (ab aoh (ab aog (ab aof (ab aoe (ab aod (ab aoc (ab X6 ag)))))))))) Tryz.func23
theorem F9:∀n,O6 Tryz.prog 67 (Kv n)
 | 0=>⟨⟨Tryz.f67,by kernel_rfl,by kernel_rfl,by kernel_rfl⟩,λa r hr=>nomatch (show(none:Option _)=some r from hr)⟩
 | n+1=>SA (nv:=1) (h:=h67) tok mix (ab (F9 n) ag) Tryz.func67 (by kernel_rfl) (by kernel_rfl) (by kernel_rfl) (by kernel_rfl) (by kernel_rfl)
theorem aob:FOz 67 amX:=F9 64
theorem afn:FOz 24 anE:=fo 8 (Qf (.s .z (.s (Qf ((Qg [(3,ne),(4,ge)] [3,4] [(2,[(3,ne)])] .z))) (Qf (.s (Qf ((Qg [(3,ne),(5,ge)] [3,5,6,7] [(4,[(3,ne)])] (Qf (.s (.b (Qf (.s .z (.s (Qf ((Qg [(3,ne),(7,ge)] [3,7] [(6,[(3,ne)])] .z))) .z)))) .z))))) .z))))) (ab aob ag) Tryz.func24
theorem aff:FOz 68 amW:=fo 6 Qs ag Tryz.func68
theorem aoa:FOz 70 amU:=fo 2 .z ag Tryz.func70
theorem afm:FOz 25 anD:=fo 19 (Qf (.s .z (Qf (.s .z (.s (Qf ((Qg [(6,QD),(8,ge)] [6,8,9,10,59] [(2,[(6,QD)])] (Qf (.s (.b (Qf (.s (.j [9,59] [(0,[(9,QA)])] XP) (.s (Qf ((Qg [(9,QA),(10,ge)] [9,10] [(4,[(9,QA)])] .z))) .z)))) .z))))) (.s (Qf ((Qg [(6,QD),(11,ge)] [6,11,12,13,14,15,16,17,18] [(6,[(6,QD)])] (Qf (.s (.b (Qf (.s .z ((Qg [(6,QD),(13,ge)] [6,13,14,15,16,17,18] [(8,[(6,QD)])] (Qf (.s (.b (Qf (.s .z ((Qg [(6,QD),(14,ge),(15,ge)] [6,14,15,16,17,18] [(10,[(6,QD)])] (Qf (.s (.b (Qf (.s (.j [16] [(0,[(16,ge)])] .z) (Qf (.s .z (Qf ((Qg [(6,QD),(18,ge)] [6,18] [(12,[(6,QD)])] (Qf (.s (.j [6] [(0,[(6,QD)])] .z) .z)))))))))) .z))))))) .z))))))) .z))))) .z)))))) (ab aff (ab aff (ab YM (ab aoa ag)))) Tryz.func25
theorem acX:FOz 71 amT:=fo 6 Qs ag Tryz.func71
theorem an_:FOz 72 amS:=fo 5 (Qf (.s .z (.s (Qf ((Qg [(3,f9),(4,ge)] [3,4] [(2,[(3,f9)])] XY))) .z))) (ab acY ag) Tryz.func72
theorem afe:FOz 73 amR:=fo 3 .z (ab acX ag) Tryz.func73
theorem an9:FOz 74 amQ:=fo 9 (Qf (.s .z (Qf (.s .z (Qf (.s (.j [5,7] [(0,[(5,QX)])] (Qf (.c (Qf (.s (.j [7] [(0,[(7,Q3)])] .z) (.s (.j [7] [(0,[(7,Q3)])] .z) .z))) .z))) (.s (Qf ((Qg [(5,QX),(8,ge)] [5,8,104] [(2,[(5,QX)])] (Qf (.s (.j [5,104] [(0,[(5,QX)])] (.b (.s (.j [] [(0,[(104,gt)])] .z) .z))) .z))))) .z))))))) (ab acX (ab afe ag)) Tryz.func74
theorem aoA:FOz 26 anC:=fo 30 (Qf (.s .z (Qf (.s .z (.s (.j [8,9,10,27,28,29,30,53,109,121,148,168] [(0,[(8,QX)])] (Qf (.b (.s (.j [] [(0,[(30,gt)])] .z) (.c .z (.s (.j [] [(0,[(53,gt)])] .z) (.c (Qf (.s (Qf ((Qg [(8,QX),(9,ge)] [8,9] [(3,[(8,QX)])] (Qf (.s (.j [8] [(0,[(8,QX)])] .z) .z))))) (Qf ((Qg [(8,QX),(10,ge)] [8,10,109] [(5,[(8,QX)])] (Qf (.s (.j [8,109] [(0,[(8,QX)])] (.b (.s (.j [] [(0,[(109,gt)])] .z) .z))) .z))))))) (.s (.j [] [(0,[(121,gt)])] .z) (.c .z (.s (.j [] [(0,[(148,gt)])] .z) (.c .z (Qf (.c .z (.s (.j [] [(0,[(168,gt)])] .z) .z)))))))))))))) .z))))) (ab afn (ab afm (ab acX (ab an_ (ab afe (ab an9 ag)))))) Tryz.func26
theorem ok8:FOz 8 sp8:=fo 7 h8 (ab afo (ab aoB (ab afn (ab afm (ab aoA ag))))) Tryz.func8
theorem aoD:FOz 20 anI:=fo 10 .z (ab TK ag) Tryz.func20
theorem ok4:FOz 4 sp4:=fo 14 h4 (ab ok5 (ab ok6 (ab ok7 (ab ok8 (ab aam (ab ok16 (ab TK (ab VA (ab afp (ab aoD ag)))))))))) Tryz.func4
end Go.Fx.D
