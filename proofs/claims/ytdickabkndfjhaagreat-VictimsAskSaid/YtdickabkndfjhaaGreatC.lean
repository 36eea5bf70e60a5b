/-
  Each of these functions does what its function over plain data says, where that gives an answer (printed by a program). Conditions: none.
-/
import Derived.Test.YtdickabkndfjhaaGreatFxD
import Derived.Ground.NamesProg
import Derived.Shelf.Lay
import Derived.Test.YtdickabkndfjhaaGreatD
import Derived.Test.YtdickabkndfjhaaGreatFxC
import Derived.Test.YtdickabkndfjhaaGreatChecked
import Derived.WalkKit
import Derived.TacticsInMore
import Derived.Lib.IndexBytes
import Derived.Deep.LoopGhost
import Derived.Shelf.RegionOpenPlain
import Derived.Lib.Walk
import Derived.LoopNIn
import Derived.LoopIn
namespace Go.Fx.D
open Go Go.Fx Go.Proofs Go.Shelf Go.RowKit Go.Lib Go.Sort
set_option linter.unusedVariables false
set_option maxRecDepth 100000
theorem rk{t:TypeId}{i:TI fam}(j:TypeInfo)(h1:Tryz.prog.underlying t=some i.desc:=by kernel_rfl)(h2:Tryz.prog.info? t=some j:=by kernel_rfl)(h3:j.zero=some (j.zero.getD .nilFunc):=by kernel_rfl)(h4:(Nat.beq j.size i.size&&Nat.beq j.bytes i.bytes&&Nat.beq (j.zero.getD .nilFunc).cells.size i.size&&zok i.zero (j.zero.getD .nilFunc).cells.toList&&(adN (j.zero.getD .nilFunc) == gu i.desc))=true:=by kernel_rfl)(h5:ac9 i=true:=by kernel_rfl)(h6:ZU Tryz.prog t i=true:=by kernel_rfl):MB Tryz.prog t i:=⟨h1,⟨j,_,h2,h3,h4⟩,h5,h6⟩
theorem K5:MB Tryz.prog 3 ade:=rk Tryz.t3
theorem K8:MB Tryz.prog 4 afo:=rk Tryz.t4
theorem KC:MB Tryz.prog 5 afn:=rk Tryz.t5
theorem K3:MB Tryz.prog 9 afm:=rk Tryz.t9
theorem Jl:MB Tryz.prog 22 abD:=rk Tryz.t22
theorem JL:MB Tryz.prog 23 abC:=rk Tryz.t23
theorem I_:MB Tryz.prog 25 abB:=rk Tryz.t25
theorem CM:MB Tryz.prog 27 abA:=rk Tryz.t27
theorem CG:MB Tryz.prog 28 abz:=rk Tryz.t28
theorem J3:MB Tryz.prog 30 aby:=rk Tryz.t30
theorem CV:MB Tryz.prog 31 abx:=rk Tryz.t31
theorem Cq:MB Tryz.prog 32 abw:=rk Tryz.t32
theorem Cb:MB Tryz.prog 33 abv:=rk Tryz.t33
theorem CD:MB Tryz.prog 34 abu:=rk Tryz.t34
theorem Cc:MB Tryz.prog 35 abt:=rk Tryz.t35
theorem Kk:MB Tryz.prog 37 abr:=rk Tryz.t37
theorem Jt:MB Tryz.prog 48 abq:=rk Tryz.t48
theorem Kb:MB Tryz.prog 50 Zm:=rk Tryz.t50
theorem Cw:MB Tryz.prog 53 abp:=rk Tryz.t53
theorem I5:MB Tryz.prog 55 abo:=rk Tryz.t55
theorem Jw:MB Tryz.prog 62 abn:=rk Tryz.t62
theorem Kc:MB Tryz.prog 64 abm:=rk Tryz.t64
theorem Je:MB Tryz.prog 70 abl:=rk Tryz.t70
theorem Jr:MB Tryz.prog 72 abk:=rk Tryz.t72
theorem Ji:MB Tryz.prog 74 abj:=rk Tryz.t74
theorem JJ:MB Tryz.prog 76 abh:=rk Tryz.t76
theorem J_:MB Tryz.prog 78 abg:=rk Tryz.t78
theorem JW:MB Tryz.prog 81 abf:=rk Tryz.t81
theorem JD:MB Tryz.prog 82 abe:=rk Tryz.t82
theorem Kp:MB Tryz.prog 83 abd:=rk Tryz.t83
theorem Ja:MB Tryz.prog 85 abb:=rk Tryz.t85
theorem JO:MB Tryz.prog 88 aa_:=rk Tryz.t88
theorem I4:MB Tryz.prog 93 aa9:=rk Tryz.t93
theorem IB:MB Tryz.prog 107 Et:=rk Tryz.t107
theorem IL:MB Tryz.prog 117 Ec:=rk Tryz.t117
theorem AC:MB Tryz.prog 118 Ej:=rk Tryz.t118
theorem IE:MB Tryz.prog 120 En:=rk Tryz.t120
theorem HA:MB Tryz.prog 131 Fv:=rk Tryz.t131
theorem HI:MB Tryz.prog 136 EA:=rk Tryz.t136
theorem Ij:MB Tryz.prog 138 D5:=rk Tryz.t138
theorem Ie:MB Tryz.prog 140 EZ:=rk Tryz.t140
theorem Iy:MB Tryz.prog 147 FZ:=rk Tryz.t147
theorem G7:MB Tryz.prog 162 Fj:=rk Tryz.t162
theorem HY:MB Tryz.prog 187 Ee:=rk Tryz.t187
theorem Iv:MB Tryz.prog 189 F8:=rk Tryz.t189
theorem Hw:MB Tryz.prog 192 FR:=rk Tryz.t192
theorem HW:MB Tryz.prog 222 E4:=rk Tryz.t222
theorem Hu:MB Tryz.prog 224 FX:=rk Tryz.t224
theorem IR:MB Tryz.prog 233 FS:=rk Tryz.t233
theorem Iz:MB Tryz.prog 241 EB:=rk Tryz.t241
theorem G0:MB Tryz.prog 268 Fa:=rk Tryz.t268
theorem Gl:MB Tryz.prog 317 Ef:=rk Tryz.t317
theorem tok:Mf Tryz.prog (look tbl):=af8 (all_cons K5 (all_cons K8 (all_cons KC (all_cons K3 (all_cons Jl (all_cons JL (all_cons I_ (all_cons CM (all_cons CG (all_cons J3 (all_cons CV (all_cons Cq (all_cons Cb (all_cons CD (all_cons Cc (all_cons Kk (all_cons Jt (all_cons Kb (all_cons Cw (all_cons I5 (all_cons Jw (all_cons Kc (all_cons Je (all_cons Jr (all_cons Ji (all_cons JJ (all_cons J_ (all_cons JW (all_cons JD (all_cons Kp (all_cons Ja (all_cons JO (all_cons I4 (all_cons IB (all_cons IL (all_cons AC (all_cons IE (all_cons HA (all_cons HI (all_cons Ij (all_cons Ie (all_cons Iy (all_cons G7 (all_cons HY (all_cons Iv (all_cons Hw (all_cons HW (all_cons Hu (all_cons IR (all_cons Iz (all_cons G0 (all_cons Gl all_nil))))))))))))))))))))))))))))))))))))))))))))))))))))
theorem mix:Tryz.prog.follows .mixedOrders=true:=Checked.mixed Tryz.checked
abbrev FO (i:Nat)(s:Spec fam):=O9 Tryz.prog i s
theorem fo {Γ : Ctx fam} (nv : Nat) (h : Hint) (hΓ : MN Tryz.prog Γ) {f : FuncId} {fn : Func} {sp : Spec fam} (hf : Tryz.prog.funcs[f]? = some fn) (hnm : (fn.name == "runtime.NumGoroutine") = false:=by kernel_rfl) (hbn : fn.body.isNone = false:=by kernel_rfl) (hlen : Nat.ble sp.ks.length fn.ntmps = true:=by kernel_rfl) (hrs : sp.rs.all (fun k => !k.Ni) = true:=by kernel_rfl) (hD : (fun a => Xh (look tbl) Γ nv fn h sp.ks sp.rs a) = sp.D:=by kernel_rfl) : O9 Tryz.prog f sp:=SF tok mix hΓ hf hnm hbn hlen hrs hD
theorem afD:FO 30 anJ:=fo 4 .z ag Tryz.func30
theorem Zq:FO 222 ag4:=fo 2 .z ag Tryz.func222
theorem abR:FO 223 ag3:=fo 3 .z (ab Zq ag) Tryz.func223
theorem Zr:FO 191 ahs:=fo 5 (Qe (.s (.s (.j [] [(0,[(13,gt)])] .z) .z) .z)) (ab Zq (ab abR ag)) Tryz.func191
theorem akk:FO 142 ah4:=fo 9 (Qe (.s .z (.s (Qe ((Qf [(3,t8),(8,ge)] [3,5,8] [(2,[(3,t8)])] .z))) .z))) (ab Zr ag) Tryz.func142
theorem adj:FO 79 amS:=fo 12 (Qe (.s .z (.s (Qe ((Qf [(5,Q6),(11,ge)] [5,7,11,22] [(2,[(5,Q6)])] (Qe (.s .z (.s (.j [5,7,22] [(0,[(5,Q6)])] (.b (Qe Qv))) .z)))))) .z))) (ab akk ag) Tryz.func79
theorem ajR:FO 189 ahu:=fo 13 (Qe (.s (Qe ((Qf [(4,QP),(12,ge)] [4,5,7,12] [(1,[(4,Q5),(5,gt)]),(2,[(4,QP)])] .z))) .z)) ag Tryz.func189
theorem ajj:FO 247 agG:=fo 2 .z ag Tryz.func247
theorem ajz:FO 221 ag5:=fo 2 .z (ab ajj ag) Tryz.func221
theorem abX:FO 190 aht:=fo 4 (Qe (.s (.j [] [(0,[(5,gt)])] .z) .z)) (ab ajz ag) Tryz.func190
theorem akl:FO 137 ah9:=fo 16 (Qe (.s .z (Qe (.s (Qe ((Qf [(3,t8),(15,ge)] [3,6,7,8,15,37] [(2,[(3,t8)])] (Qe (.s .z (.s (.j [3,6,7,8,37] [(0,[(3,t8)])] (.b (Qe (.s .z XF)))) .z)))))) .z)))) (ab ajR (ab abX (ab Zr ag))) Tryz.func137
theorem Y2:FO 76 amV:=fo 7 .z (ab akl ag) Tryz.func76
theorem ai5:FO 266 agp:=fo 6 (Qe (.s (Qe ((Qf [(5,ge)] [4,5] [(1,[(4,ge)]),(2,[])] .z))) .z)) ag Tryz.func266
theorem aiY:FO 274 agh:=fo 9 (Qe (.s .z (.s (Qe ((Qf [(4,QH),(5,ge)] [4,5] [(2,[(4,QH)])] .z))) (Qe (.s (Qe ((Qf [(6,QH),(7,QH),(8,ge)] [6,7,8] [(4,[(6,QH)])] (Qe (.s (.b (.s (.j [6] [(0,[(6,QH)])] .z) .z)) .z))))) .z))))) ag Tryz.func274
theorem ai4:FO 267 agn:=fo 12 (Qe (.s .z (Qe (.s .z (Qe (.s (Qe ((Qf [(9,QH),(10,ge)] [9,10] [(2,[(9,QH)])] .z))) (.s (.s (.j [] [(0,[(47,gt)])] .z) .z) (.s (Qe ((Qf [(9,QH),(11,ge)] [4,9,11,85] [(1,[(4,ge)]),(4,[])] (Qe (.s (.b (Qe (.s .z (Qe XH)))) .z))))) .z)))))))) (ab aiY ag) Tryz.func267
theorem ajk:FO 246 agH:=fo 6 .z (ab ai5 (ab ai4 ag)) Tryz.func246
theorem abS:FO 217 ag9:=fo 5 .z (ab ajk ag) Tryz.func217
theorem ajy:FO 224 ag2:=fo 4 Qt (ab abS ag) Tryz.func224
theorem Hs:FO 151 GP:=SF (nv:=1) (h:=apK) tok mix ag Tryz.func151 (by kernel_rfl) (by kernel_rfl) (by kernel_rfl) (by kernel_rfl) (by kernel_rfl)
set_option maxHeartbeats 2000000 in
theorem Jk(p:Option Addr)(cap:Nat)(w:World):Calls Tryz.prog 151 #[.slice p 0 cap] w λe w'=>∃p',e = .returned (.slice p' 0 0)∧RowKit.Below w.heap.size w w'∧w.drawn≤w'.drawn:=by
 have q:=qy (P:=Tryz.prog) (t:=118) AC.und
 cases p with
 | none=>
  go_enter Tryz.func151,Tryz.ntmps151
  go_wp2
  go_ret
  exact⟨_,rfl,.refl _ _,MO _⟩
 | some p=>
  go_enter Tryz.func151,Tryz.ntmps151
  go_wp2
  go_ret
  exact⟨_,rfl,(RowKit.Below.refl _ w).alloc (MO _) _,MO _⟩
theorem ab1:FO 151 ahV:=lU Hs Jk
theorem aji:FO 248 agF:=fo 9 Qg ag Tryz.func248
theorem ajh:FO 249 agE:=fo 3 .z ag Tryz.func249
theorem ajx:FO 225 ag1:=fo 8 .z (ab ab1 (ab aji (ab ajh ag))) Tryz.func225
theorem ai3:FO 268 agm:=fo 14 .z ag Tryz.func268
theorem aj3:FO 173 ahK:=fo 3 (Qe (.s Qu (.s Qu (.s Qu .z)))) ag Tryz.func173
theorem aiX:FO 275 agf:=fo 1 .z (ab aj3 ag) Tryz.func275
theorem ai2:FO 269 agl:=fo 19 (Qe (.s .z (Qe (.s .z (Qe (.s .z (Qe (.s .z (Qe (.s .z (Qe (.s .z (Qe (.s .z (.s ((Qf [(15,QW),(16,QW)] [15,16,78] [(2,[(15,QW)])] XG)) (Qe (.s .z (Qe (.s ((Qf [(16,QW),(18,QW)] [16,18,113] [(4,[(18,QW)])] (.s (.s (.j [] [(0,[(113,gt)])] .z) .z) .z))) .z))))))))))))))))))) (ab aiX ag) Tryz.func269
theorem ajg:FO 250 agD:=fo 8 .z (ab ai3 (ab ai2 ag)) Tryz.func250
theorem ajw:FO 226 ag0:=fo 5 (Qe (.s XI .z)) (ab Zq (ab abR (ab ajg ag))) Tryz.func226
theorem abW:FO 194 ahp:=fo 15 (Qe (.s .z (Qe (.s .z (.s (Qe ((Qf [(8,t8),(12,t8),(13,ge)] [8,12,13,14,60] [(1,[(8,t8)]),(2,[(8,t8),(12,t8)])] (Qe (.s (.b (Qe (.s (.s (.j [] [(0,[(60,gt)])] .z) .z) .z))) .z))))) .z))))) (ab adj (ab ajy (ab ajx (ab ajw ag)))) Tryz.func194
theorem ajO:FO 195 aho:=fo 2 .z ag Tryz.func195
theorem ab6:FO 139 ah7:=fo 7 .z (ab abW (ab ajO ag)) Tryz.func139
theorem ab5:FO 140 ah6:=fo 2 .z ag Tryz.func140
theorem aiW:FO 276 agd:=fo 9 Qg ag Tryz.func276
theorem ai1:FO 270 agk:=fo 2 .z (ab aiW ag) Tryz.func270
theorem ai0:FO 271 agj:=fo 3 .z ag Tryz.func271
theorem ajf:FO 251 agC:=fo 5 .z (ab ai1 (ab ai0 ag)) Tryz.func251
theorem ajv:FO 227 agZ:=fo 11 (Qe (.s .z (.s (Qe ((Qf [(5,t8),(10,ge)] [5,7,10,33] [(2,[(5,t8)])] (Qe (.s .z (.s (.j [5,7,33] [(0,[(5,t8)])] (.b (Qe XL))) .z)))))) .z))) (ab ajf ag) Tryz.func227
theorem ajN:FO 196 ahn:=fo 11 (Qe (.s .z (.s (Qe ((Qf [(3,t8),(10,ge)] [3,5,10,20] [(2,[(3,t8)])] (Qe (.s .z (.s (.j [3,5,20] [(0,[(3,t8)])] (.b (Qe (.s (.j [] [(0,[(20,gt)])] .z) .z)))) .z)))))) .z))) (ab ab5 (ab abX (ab Zr (ab ajv ag)))) Tryz.func196
theorem ab4:FO 141 ah5:=fo 7 .z (ab ajN ag) Tryz.func141
theorem ajU:FO 186 ahx:=fo 14 (Qe (.s .z (.s (Qe ((Qf [(5,f9),(13,ge)] [5,7,8,9,13,28] [(2,[(5,f9)])] (Qe (.s .z (.s (.j [5,7,8,9,28] [(0,[(5,f9)])] (.b (Qe (.s .z XM)))) .z)))))) .z))) (ab abS ag) Tryz.func186
theorem ajC:FO 218 ag8:=fo 2 .z ag Tryz.func218
theorem ajT:FO 187 ahw:=fo 7 .z (ab abW (ab ajC ag)) Tryz.func187
theorem ajB:FO 219 ag7:=fo 10 (Qe (.s (Qe ((Qf [(0,ge),(9,ge)] [0,6,9] [(2,[(0,ge)])] .z))) .z)) ag Tryz.func219
theorem ajA:FO 220 ag6:=fo 1 XU ag Tryz.func220
theorem ajS:FO 188 ahv:=fo 61 (Qe (.s .z (Qe (.s .z (.s (Qe ((Qf [(10,QN),(11,ge),(28,ge)] [10,11,12,28,29,30,31,32,33,34,35,36,37,38,39,40,41,42,43,44,45,46,47,48,49,50,51,52,53,54,55,56,57,58] [(2,[(10,QN),(11,ge)])] .z))) (.s (Qe ((Qf [(10,QN),(11,ge),(60,ge)] [10,11,13,14,60] [(4,[(10,QN)])] .z))) .z)))))) (ab ajB (ab ajA ag)) Tryz.func188
theorem Ju:O9 Tryz.prog 136 (rS 0):=⟨⟨Tryz.f136,by kernel_rfl,by kernel_rfl,by kernel_rfl⟩,λa r hr=>nomatch (show(none:Option _)=some r from hr)⟩
set_option maxHeartbeats 4000000 in
theorem I7(n:Nat)(ih:O9 Tryz.prog 136 (rS n)):O9 Tryz.prog 136 (rS (n+1)):=SF (nv:=110) (h:=apN) tok mix (ab ih (ab ih (ab Y2 (ab ab6 (ab ab4 (ab ajU (ab ajT (ab ajS ag)))))))) Tryz.func136 (by kernel_rfl) (by kernel_rfl) (by kernel_rfl) (by kernel_rfl) (by kernel_rfl)
theorem J2(n:Nat):O9 Tryz.prog 136 (rS n):=Nat.rec (motive:=λn=>O9 Tryz.prog 136 (rS n)) Ju (λn ih=>I7 n ih) n
theorem akm:FO 136 ah_:=J2 64
theorem adk:FO 75 amW:=fo 3 .z (ab adj (ab akm ag)) Tryz.func75
theorem aj9:FO 156 ahQ:=fo 9 Qg ag Tryz.func156
theorem aj8:FO 157 ahP:=fo 3 .z ag Tryz.func157
theorem afr:FO 91 amG:=fo 4 .z (ab aj9 (ab aj8 ag)) Tryz.func91
theorem GU:FO 192 GW:=SF (nv:=1) (h:=apF) tok mix ag Tryz.func192 (by kernel_rfl) (by kernel_rfl) (by kernel_rfl) (by kernel_rfl) (by kernel_rfl)
set_option maxHeartbeats 2000000 in
theorem J4(p:Option Addr)(cap:Nat)(w:World):Calls Tryz.prog 192 #[.slice p 0 cap] w λe w'=>∃p',e = .returned (.slice p' 0 0)∧RowKit.Below w.heap.size w w'∧w.drawn≤w'.drawn:=by
 have q:=qy (P:=Tryz.prog) (t:=53) Cw.und
 cases p with
 | none=>
  go_enter Tryz.func192,Tryz.ntmps192
  go_wp2
  go_ret
  exact⟨_,rfl,.refl _ _,MO _⟩
 | some p=>
  go_enter Tryz.func192,Tryz.ntmps192
  go_wp2
  go_ret
  exact⟨_,rfl,(RowKit.Below.refl _ w).alloc (MO _) _,MO _⟩
theorem ajQ:FO 192 ahr:=lU GU J4
theorem ajP:FO 193 ahq:=fo 4 .z ag Tryz.func193
theorem ab7:FO 138 ah8:=fo 3 .z (ab ajQ (ab ajP ag)) Tryz.func138
theorem afu:FO 77 amU:=fo 7 .z (ab afr (ab ab7 ag)) Tryz.func77
theorem aoO:FO 27 anM:=fo 47 (Qe (.s .z (.s (Qe ((Qf [(5,QU),(23,ge)] [5,7,14,17,23,24,25,26,27,28,29,30,31,32,33,34,35,36,37,38,39,40,41,42] [(2,[(5,QU)])] .z))) (.s (Qe ((Qf [(5,QU),(46,ge)] [5,9,10,11,46] [(4,[(5,QU)])] (Qe (.s .z (.s (.j [5,9,10,11] [(0,[(5,QU)])] .z) .z)))))) .z)))) (ab afD (ab adk (ab Y2 (ab afu ag)))) Tryz.func27
theorem aoj:FO 78 amT:=fo 54 (Qe (.s .z (.s (Qe ((Qf [(37,ge)] [4,8,10,37,38,39,40,41,42,43,44,45,46,47,48,49,50,51,52,53,74] [(1,[(4,ge)]),(2,[])] (Qe (.s .z (.s (.j [4,8,10,39,40,41,42,43,44,45,46,47,48,49,50,51,52,53,74] [(0,[]),(1,[(4,ge)])] (.b (Qe (.s (.s (.j [41,42,43,44,45,46,47,48,49] [(0,[(49,gt)])] .z) .z) (Qe ((Qf [(53,ge)] [4,10,53,74] [(1,[(4,ge)]),(4,[])] (Qe (.s .z (.s (.b (Qe XN)) .z)))))))))) .z)))))) .z))) (ab Y2 (ab ab6 (ab ab5 (ab ab4 ag)))) Tryz.func78
theorem aoN:FO 28 anL:=fo 20 (Qe (.s .z (Qe (.s (Qe ((Qf [(0,QU),(3,ge),(19,ge)] [0,3,6,19] [(2,[(0,QU),(3,ge)])] .z))) .z)))) (ab adk (ab Y2 (ab aoj (ab adj ag)))) Tryz.func28
theorem aoi:FO 80 amR:=fo 9 (Qe (.s .z (.s (Qe ((Qf [(8,ge)] [2,5,8] [(1,[(2,ge)]),(2,[])] .z))) .z))) ag Tryz.func80
theorem akj:FO 143 ah3:=fo 1 .z ag Tryz.func143
theorem aoh:FO 81 amQ:=fo 7 .z (ab akj ag) Tryz.func81
theorem aki:FO 144 ah2:=fo 1 .z ag Tryz.func144
theorem aog:FO 82 amP:=fo 7 .z (ab aki ag) Tryz.func82
theorem aoM:FO 29 anK:=fo 94 (Qe (.s .z (.s (Qe ((Qf [(4,Qa),(22,ge)] [4,6,7,8,9,10,15,22,23,24,25,26,27,28,29,30,31,32,33,34,35,36,37,38,39,40,41,42,43,44,45,46,47,48,49,50,51,52,53,54,55,56,57,58,59,60,61,62,63,64,65,66,67,68,69,70,71,72,73,74,75,76,77,78,79,80,81,82,83,84,85,86,87,88,89,90,91] [(2,[(4,Qa)])] (Qe (.s .z (.s (.j [4,6,7,8,9,10,24,25,26,27,28,29,30,31,32,33,34,35,36,37,38,39,40,41,42,43,44,45,46,47,48,49,50,51,52,53,54,55,56,57,58,59,60,61,62,63,64,65,66,67,68,69,70,71,72,73,74,75,76,77,78,79,80,81,82,83,84,85,86,87,88,89,90] [(0,[(4,Qa)])] (.b (Qe (.s .z (.s (.s (.j [36,37,38,39,40,41,42,43,44,45,46,47,48,49,50,51,52,53,54,55,56] [(0,[(56,gt)])] .z) .z) (Qe (.s (.j [63,64,65,66,67,68,69,70,71,72,73,74,75,76,77,78,79,80,81,82,83,84,85,86,87] [(0,[(87,gt)])] .z) .z))))))) .z)))))) (Qe (.s (.g [(11,ne)] [11,12,92,120] (.s (.j [] [(0,[(120,gt)])] .z) .z)) .z))))) (ab aoi (ab aoh (ab aog ag))) Tryz.func29
theorem WL:FO 10 an2:=fo 9 h10 (ab aoO (ab aoN (ab aoM (ab afD ag)))) Tryz.func10
theorem aaD:FO 38 anB:=fo 9 Qg ag Tryz.func38
theorem JY:FO 97 I2:=SF (nv:=1) (h:=h97) tok mix ag Tryz.func97 (by kernel_rfl) (by kernel_rfl) (by kernel_rfl) (by kernel_rfl) (by kernel_rfl)
set_option maxHeartbeats 2000000 in
theorem K2(p:Option Addr)(cap:Nat)(w:World):Calls Tryz.prog 97 #[.slice p 0 cap] w λe w'=>∃p',e = .returned (.slice p' 0 0)∧RowKit.Below w.heap.size w w'∧w.drawn≤w'.drawn:=by
 have q:=qy (P:=Tryz.prog) (t:=33) Cb.und
 cases p with
 | none=>
  go_enter Tryz.func97,Tryz.ntmps97
  go_wp2
  go_ret
  exact⟨_,rfl,.refl _ _,MO _⟩
 | some p=>
  go_enter Tryz.func97,Tryz.ntmps97
  go_wp2
  go_ret
  exact⟨_,rfl,(RowKit.Below.refl _ w).alloc (MO _) _,MO _⟩
theorem afq:FO 97 amB:=lU JY K2
theorem HU:FO 149 HG:=SF (nv:=1) (h:=apM) tok mix ag Tryz.func149 (by kernel_rfl) (by kernel_rfl) (by kernel_rfl) (by kernel_rfl) (by kernel_rfl)
set_option maxHeartbeats 2000000 in
theorem J9(p:Option Addr)(cap:Nat)(w:World):Calls Tryz.prog 149 #[.slice p 0 cap] w λe w'=>∃p',e = .returned (.slice p' 0 0)∧RowKit.Below w.heap.size w w'∧w.drawn≤w'.drawn:=by
 have q:=qy (P:=Tryz.prog) (t:=27) CM.und
 cases p with
 | none=>
  go_enter Tryz.func149,Tryz.ntmps149
  go_wp2
  go_ret
  exact⟨_,rfl,.refl _ _,MO _⟩
 | some p=>
  go_enter Tryz.func149,Tryz.ntmps149
  go_wp2
  go_ret
  exact⟨_,rfl,(RowKit.Below.refl _ w).alloc (MO _) _,MO _⟩
theorem akf:FO 149 ahX:=lU HU J9
theorem HZ:FO 150 Im:=SF (nv:=1) (h:=apL) tok mix ag Tryz.func150 (by kernel_rfl) (by kernel_rfl) (by kernel_rfl) (by kernel_rfl) (by kernel_rfl)
set_option maxHeartbeats 2000000 in
theorem I9(p:Option Addr)(cap:Nat)(w:World):Calls Tryz.prog 150 #[.slice p 0 cap] w λe w'=>∃p',e = .returned (.slice p' 0 0)∧RowKit.Below w.heap.size w w'∧w.drawn≤w'.drawn:=by
 have q:=qy (P:=Tryz.prog) (t:=28) CG.und
 cases p with
 | none=>
  go_enter Tryz.func150,Tryz.ntmps150
  go_wp2
  go_ret
  exact⟨_,rfl,.refl _ _,MO _⟩
 | some p=>
  go_enter Tryz.func150,Tryz.ntmps150
  go_wp2
  go_ret
  exact⟨_,rfl,(RowKit.Below.refl _ w).alloc (MO _) _,MO _⟩
theorem ake:FO 150 ahW:=lU HZ I9
theorem GA:FO 152 GZ:=SF (nv:=1) (h:=apJ) tok mix ag Tryz.func152 (by kernel_rfl) (by kernel_rfl) (by kernel_rfl) (by kernel_rfl) (by kernel_rfl)
set_option maxHeartbeats 2000000 in
theorem Kn(p:Option Addr)(cap:Nat)(w:World):Calls Tryz.prog 152 #[.slice p 0 cap] w λe w'=>∃p',e = .returned (.slice p' 0 0)∧RowKit.Below w.heap.size w w'∧w.drawn≤w'.drawn:=by
 have q:=qy (P:=Tryz.prog) (t:=31) CV.und
 cases p with
 | none=>
  go_enter Tryz.func152,Tryz.ntmps152
  go_wp2
  go_ret
  exact⟨_,rfl,.refl _ _,MO _⟩
 | some p=>
  go_enter Tryz.func152,Tryz.ntmps152
  go_wp2
  go_ret
  exact⟨_,rfl,(RowKit.Below.refl _ w).alloc (MO _) _,MO _⟩
theorem akd:FO 152 ahU:=lU GA Kn
theorem IJ:FO 153 Ib:=SF (nv:=1) (h:=apI) tok mix ag Tryz.func153 (by kernel_rfl) (by kernel_rfl) (by kernel_rfl) (by kernel_rfl) (by kernel_rfl)
set_option maxHeartbeats 2000000 in
theorem JP(p:Option Addr)(cap:Nat)(w:World):Calls Tryz.prog 153 #[.slice p 0 cap] w λe w'=>∃p',e = .returned (.slice p' 0 0)∧RowKit.Below w.heap.size w w'∧w.drawn≤w'.drawn:=by
 have q:=qy (P:=Tryz.prog) (t:=34) CD.und
 cases p with
 | none=>
  go_enter Tryz.func153,Tryz.ntmps153
  go_wp2
  go_ret
  exact⟨_,rfl,.refl _ _,MO _⟩
 | some p=>
  go_enter Tryz.func153,Tryz.ntmps153
  go_wp2
  go_ret
  exact⟨_,rfl,(RowKit.Below.refl _ w).alloc (MO _) _,MO _⟩
theorem akc:FO 153 ahT:=lU IJ JP
theorem Ia:FO 154 Gm:=SF (nv:=1) (h:=apH) tok mix ag Tryz.func154 (by kernel_rfl) (by kernel_rfl) (by kernel_rfl) (by kernel_rfl) (by kernel_rfl)
set_option maxHeartbeats 2000000 in
theorem JN(p:Option Addr)(cap:Nat)(w:World):Calls Tryz.prog 154 #[.slice p 0 cap] w λe w'=>∃p',e = .returned (.slice p' 0 0)∧RowKit.Below w.heap.size w w'∧w.drawn≤w'.drawn:=by
 have q:=qy (P:=Tryz.prog) (t:=35) Cc.und
 cases p with
 | none=>
  go_enter Tryz.func154,Tryz.ntmps154
  go_wp2
  go_ret
  exact⟨_,rfl,.refl _ _,MO _⟩
 | some p=>
  go_enter Tryz.func154,Tryz.ntmps154
  go_wp2
  go_ret
  exact⟨_,rfl,(RowKit.Below.refl _ w).alloc (MO _) _,MO _⟩
theorem akb:FO 154 ahS:=lU Ia JN
theorem Gp:FO 155 Gj:=SF (nv:=1) (h:=apG) tok mix ag Tryz.func155 (by kernel_rfl) (by kernel_rfl) (by kernel_rfl) (by kernel_rfl) (by kernel_rfl)
set_option maxHeartbeats 2000000 in
theorem J0(p:Option Addr)(cap:Nat)(w:World):Calls Tryz.prog 155 #[.slice p 0 cap] w λe w'=>∃p',e = .returned (.slice p' 0 0)∧RowKit.Below w.heap.size w w'∧w.drawn≤w'.drawn:=by
 have q:=qy (P:=Tryz.prog) (t:=32) Cq.und
 cases p with
 | none=>
  go_enter Tryz.func155,Tryz.ntmps155
  go_wp2
  go_ret
  exact⟨_,rfl,.refl _ _,MO _⟩
 | some p=>
  go_enter Tryz.func155,Tryz.ntmps155
  go_wp2
  go_ret
  exact⟨_,rfl,(RowKit.Below.refl _ w).alloc (MO _) _,MO _⟩
theorem aj_:FO 155 ahR:=lU Gp J0
theorem aoe:FO 89 amI:=fo 62 (Qe (.s .z (.s (Qe (.b (.m 14 23 2 [3,4,24,25,26,27,28,29,30,31,32,33,34,35,36,37] .z))) (Qe (.s .z (.s (Qe (.b (.m 56 61 4 [5,6] .z))) .z)))))) (ab afq (ab ab7 (ab akf (ab ake (ab ab1 (ab akd (ab akc (ab akb (ab aj_ ag))))))))) Tryz.func89
theorem aod:FO 90 amH:=fo 3 .z ag Tryz.func90
theorem ajd:FO 253 agA:=fo 9 Qg ag Tryz.func253
theorem ajt:FO 230 agW:=fo 8 (Qe (.s .z (Qe (.s (Qe ((Qf [(0,Q1),(5,ge),(6,ge)] [0,5,6,7] [(2,[(0,Q1),(5,ge)])] (Qe (.s (.j [0,5,7] [(0,[(0,Q1),(5,ge)])] .z) .z))))) (Qe (.s (.r [9998]) .z)))))) (ab ajd ag) Tryz.func230
theorem ajs:FO 231 agV:=fo 4 .z ag Tryz.func231
theorem ajr:FO 232 agU:=fo 3 .z ag Tryz.func232
theorem ajq:FO 233 agT:=fo 10 .z ag Tryz.func233
theorem ajL:FO 199 ahk:=fo 8 (Qe (.s .z (Qe (.s .z (Qe (.s .z (.s ((Qf [(7,ge)] [7,33] [(2,[(7,ge)])] (.s XL .z))) .z))))))) (ab ajt (ab ajs (ab ajr (ab ajq ag)))) Tryz.func199
theorem aj7:FO 158 ahO:=fo 4 .z (ab ajL ag) Tryz.func158
theorem abU:FO 201 ahj:=fo 4 (Qe (.s (.j [2] [(0,[(2,.box (.slice (.int .i64)) [0])])] .z) .z)) ag Tryz.func201
theorem ajp:FO 234 agS:=fo 9 Qg ag Tryz.func234
theorem ajK:FO 202 ahi:=fo 8 (Qe (.s .z (Qe (.s (Qe ((Qf [(0,Qc),(5,ge),(6,ge)] [0,5,6,7] [(2,[(0,Qc),(5,ge)])] (Qe (.s (.j [0,5,7] [(0,[(0,Qc),(5,ge)])] .z) .z))))) (Qe (.s (.r [9998]) .z)))))) (ab ajp ag) Tryz.func202
theorem ajJ:FO 203 ahh:=fo 3 .z ag Tryz.func203
theorem Gw:FO 38 G_:=fo 9 (.s (.r [1001002]) (.s (.s .z (.b (.l [(2,.box (.slice (.int .i64)) [9997,0]),(8,.v (.int .i64) [])] [2,4,5,8] [(1,[(2,.box (.slice (.int .i64)) [9997,0]),(4,.v (.int .i64) [])]),(2,[(2,.box (.slice (.int .i64)) [9997,0])])] .z))) .z)) (ab abU ag) Tryz.func38
theorem Io:FO 200 HX:=fo 8 (.s (.r [1001002]) (.s .z (.s .z (.s (.s .z (.b (.l [(0,.row (.st 7) false),(2,.box (.slice (.int .i64)) [9997,0]),(5,.v (.int .i64) []),(6,.v (.int .i64) [])] [0,2,5,6,7] [(2,[(0,.row (.st 7) false),(2,.box (.slice (.int .i64)) [9997,0]),(5,.v (.int .i64) [])])] (.s .z (.s (.j [0,2,5,7] [(0,[(0,.row (.st 7) false),(2,.box (.slice (.int .i64)) [9997,0]),(5,.v (.int .i64) [])])] .z) .z))))) (.s .z (.s (.r [9998]) .z)))))) (ab abU (ab Gw ag)) Tryz.func200
theorem aj6:FO 159 ahN:=fo 7 .z (ab ajK (ab ajJ (ab Io ag))) Tryz.func159
theorem aoc:FO 92 amF:=fo 6 .z (ab aj7 (ab aj6 ag)) Tryz.func92
set_option maxHeartbeats 4000000 in
set_option maxRecDepth 1000000 in
theorem apT:xA Tryz.prog 93:=by
 constructor
 ·intro b n cap i w hn hj
  go_enter Tryz.func93,Tryz.ntmps93
  go_wp2
  all_goals (go_ret;exact⟨rfl,rfl⟩)
 ·intro p w;cases p
  ·go_enter Tryz.func93,Tryz.ntmps93
   go_wp2
   all_goals (go_ret;exact⟨rfl,rfl⟩)
  ·go_enter Tryz.func93,Tryz.ntmps93
   go_wp2
   all_goals (go_ret;exact⟨rfl,rfl⟩)
set_option maxHeartbeats 4000000 in
set_option maxRecDepth 1000000 in
theorem apQ:xF Tryz.prog 93 33 50 9:=by
 intro b n cap i j w hn hm hlt hj i0 hi0 hz1 A hA news s1 hsrc s2 s3 W1 W2 hW hcl
 have hic:i≤cap:=by omega
 have hjc:j≤cap:=by omega
 have tS:Tryz.prog.underlying 33=some (.slice 50):=by kernel_rfl
 have mixed:Tryz.prog.follows .mixedOrders=true:=Checked.mixed Tryz.checked
 go_enter Tryz.func93,Tryz.ntmps93
 go_wp2_with fail
 go_region_law_o (refine step_append_room rfl (.tmp 22) (.tmp 25) 33 rfl 50 i0 9 tS hi0 hz1 b 0 i cap (by simp[Act.eval,Act.put]) A (n - j) (cap - j) news (by simp[Act.eval,Act.put]) s1.out hsrc.out s2.out (by omega) s3.out ?_;rw[← hW.out])
 go_wp2
 go_ret
 exact⟨rfl,rfl⟩
theorem aob:FO 93 amE:=Ed tok (te:=Zm) (by kernel_rfl) (by kernel_rfl) (sz:=9) (by kernel_rfl) (R6.mp (by kernel_rfl)) (by kernel_rfl:Tryz.prog.underlying 33=some (.slice 50)) ⟨Tryz.f93,by kernel_rfl,by kernel_rfl,by kernel_rfl⟩ apT apQ
theorem aoa:FO 94 amD:=fo 9 Qg ag Tryz.func94
set_option maxHeartbeats 4000000 in
set_option maxRecDepth 1000000 in
theorem apS:xA Tryz.prog 95:=by
 constructor
 ·intro b n cap i w hn hj
  go_enter Tryz.func95,Tryz.ntmps95
  go_wp2
  all_goals (go_ret;exact⟨rfl,rfl⟩)
 ·intro p w;cases p
  ·go_enter Tryz.func95,Tryz.ntmps95
   go_wp2
   all_goals (go_ret;exact⟨rfl,rfl⟩)
  ·go_enter Tryz.func95,Tryz.ntmps95
   go_wp2
   all_goals (go_ret;exact⟨rfl,rfl⟩)
set_option maxHeartbeats 4000000 in
set_option maxRecDepth 1000000 in
theorem apP:xF Tryz.prog 95 22 3 1:=by
 intro b n cap i j w hn hm hlt hj i0 hi0 hz1 A hA news s1 hsrc s2 s3 W1 W2 hW hcl
 have hic:i≤cap:=by omega
 have hjc:j≤cap:=by omega
 have hA2:=hA;rw[Nat.mul_one]at hA2;have Y6:=hcl;simp only[Nat.mul_one]at Y6
 have tS:Tryz.prog.underlying 22=some (.slice 3):=by kernel_rfl
 have mixed:Tryz.prog.follows .mixedOrders=true:=Checked.mixed Tryz.checked
 go_enter Tryz.func95,Tryz.ntmps95
 go_wp2_with fail
 go_region_law_o (refine step_append_room rfl (.tmp 22) (.tmp 25) 22 rfl 3 i0 1 tS hi0 hz1 b 0 i cap (by simp[Act.eval,Act.put]) A (n - j) (cap - j) news (by simp[Act.eval,Act.put]) s1.out hsrc.out s2.out (by omega) s3.out ?_;rw[← hW.out])
 go_wp2
 go_ret
 exact⟨rfl,rfl⟩
theorem an_:FO 95 amC:=Ed tok (te:=ade) (by kernel_rfl) (by kernel_rfl) (sz:=1) (by kernel_rfl) (R6.mp (by kernel_rfl)) (by kernel_rfl:Tryz.prog.underlying 22=some (.slice 3)) ⟨Tryz.f95,by kernel_rfl,by kernel_rfl,by kernel_rfl⟩ apS apP
theorem afB:FO 36 anD:=fo 17 h36 (ab aaD (ab aoe (ab aod (ab afr (ab aoc (ab aob (ab aoa (ab an_ ag)))))))) Tryz.func36
theorem an9:FO 98 amA:=fo 3 .z ag Tryz.func98
theorem an8:FO 99 amy:=fo 4 .z ag Tryz.func99
theorem aj5:FO 161 ahM:=fo 9 Qg ag Tryz.func161
theorem aj4:FO 162 ahL:=fo 3 .z ag Tryz.func162
theorem akI:FO 100 aiL:=fo 30 (Qe (.s .z (Qe (.s (Qe ((Qf [(7,ge),(29,ge)] [7,9,29,55] [(2,[(7,ge)])] (Qe (.s .z (.s (.j [7,9,55] [(0,[(7,ge)])] (.b (Qe XO))) .z)))))) .z)))) (ab adk (ab Y2 (ab afu (ab aj5 (ab aj4 ag))))) Tryz.func100
theorem apD(p:Option Addr)(n cap:Nat)(w:World):Calls Tryz.prog 96 #[.slice p n cap] w λe w'=>e = .returned (.func (.func 160) #[] #[.pointer (some ⟨w.heap.size,0,none⟩)])∧w'=w.alloc (.cells #[.slice p n cap] 33 (0,0)):=by
 go_enter Tryz.func96,Tryz.ntmps96
 go_wp2
 go_ret
 exact⟨rfl,rfl⟩
set_option maxHeartbeats 4000000 in
set_option maxRecDepth 1000000 in
theorem apC:AR Tryz.prog 160 50 9:=by
 intro l bx n cap p J W hn hp hbx hcell hY h0;refine callsIn_of_wp Tryz.func160 rfl trivial ?_ rfl;simp only[Tryz.ntmps160,List.size_toArray,P5,Xb,Nat.reduceAdd,Nat.reduceSub,Array.replicate_succ,Array.replicate_zero,List.push_toArray,List.append_toArray,PX,UH]
 gi_wp2
 gi_loopw [3] (λi wr=>∃k:Nat,k≤n∧i = .int .i64 ((k:Int) - 1)∧J k wr) (λi _=>(Go.RowKit.intOf i+1).toNat)
 case atStart=>exact⟨n,MO _,by rw[show wrap64 ((n:Int) - 1)=(n:Int) - 1 by unfold maxLen at hn;simp only[wrap64];omega],h0⟩
 case round=>
  obtain⟨k,hk,rfl,hJ⟩:=hrel
  have hcw:wr.cell? ⟨bx,0,none⟩=some (.slice p n cap):=by rw[← hcell];simp[World.cell?,hbx k wr hJ]
  cases k with
  | zero=>
   gi_wp2
   go_end0
   exact⟨⟨_,rfl⟩,hJ⟩
  | succ k=>
   have e1:(((k+1:Nat):Int) - 1)=(k:Int):=by omega
   rw[e1];have hlt:k<n:=hk;rcases hp with hp | ⟨b,rfl⟩
   ·omega
   obtain⟨f,hf,fn,tmps,assign,body,hy,hR⟩:=hY k wr hJ hlt b rfl
   have c0:=hf 0 (by decide)
   rw[U9]at c0
   have c1:=hf 1 (by decide)
   have c2:=hf 2 (by decide)
   have c3:=hf 3 (by decide)
   have c4:=hf 4 (by decide)
   have c5:=hf 5 (by decide)
   have c6:=hf 6 (by decide)
   have c7:=hf 7 (by decide)
   have c8:=hf 8 (by decide)
   rw[show(⟨(List.range 9).map f⟩:Array Value) = #[f 0,f 1,f 2,f 3,f 4,f 5,f 6,f 7,f 8]from rfl]at hy
   gi_wp2
   refine hR.mono ?_;rintro e W3 ⟨rfl,hJ3⟩
   gi_wp2
   go_roundw
   case rel=>exact⟨k,by omega,by rw[show wrap64 ((k:Int) - 1)=(k:Int) - 1 by unfold maxLen at hn;simp only[wrap64];omega],hJ3⟩
   case measure=>simp[Go.RowKit.intOf,wrap64];unfold maxLen at hn;omega
theorem aoI:FO 37 anC:=ak4 (nv:=48) (fB:=96) (fC:=160) (te:=50) (tsl:=33) (Og:=k37) (Wm:=apR) (h:=h37) tok (ab afB (ab aaD (ab afq (ab an9 (ab an8 (ab akI ag)))))) mix Tryz.func37 (by kernel_rfl) (by kernel_rfl) (by kernel_rfl) (by kernel_rfl) ⟨Tryz.f96,by kernel_rfl,by kernel_rfl,by kernel_rfl⟩ ⟨Tryz.f160,by kernel_rfl,by kernel_rfl,by kernel_rfl⟩ apD (λti h=>by cases h;exact apC) (by kernel_rfl)
theorem aoH:FO 39 anA:=fo 3 .z ag Tryz.func39
theorem aoG:FO 40 anz:=fo 2 .z (ab aaD ag) Tryz.func40
theorem aoF:FO 41 anx:=fo 3 .z ag Tryz.func41
shelf_lay Go.Proofs.Lays.n189 Nm 189 at Tryz as lay42
theorem aoE:FO 42 anw:=D9 (ρ:=lay42_ren) lay42 ⟨Tryz.f42,by kernel_rfl,by kernel_rfl,by kernel_rfl⟩
theorem Yk:FO 12 an0:=fo 48 (Qe (.s .z (.s (Qe ((Qf [(2,QG),(16,ge)] [2,4,6,7,11,16,17,18,19,20,21,22,23,24,25,26,27,28,29,30,31,32,33,34,35,36,37,38,39,40,41,42,43] [(2,[(2,QG)])] (Qe (.s .z (.s (.b (Qe (.s .z (Qe ((Qf [(2,QG),(26,ge)] [2,6,7,21,22,26,27,28,29,30,31,32,33,34,35,36,37,38,39,40,41,42] [(4,[(2,QG)])] .z)))))) .z)))))) (.s (Qe ((Qf [(3,f8),(47,ge)] [3,9,47] [(6,[(3,f8)])] (Qe (.s .z (.s (.j [3,9] [(0,[(3,f8)])] .z) .z)))))) .z)))) (ab WL (ab afB (ab aoI (ab aaD (ab aoH (ab aoG (ab aoF (ab aoE ag)))))))) Tryz.func12
theorem aoC:FO 46 anr:=fo 10 h46 ag Tryz.func46
theorem akG:FO 105 aiI:=fo 6 (Qe (.s .z (.s Qi .z))) ag Tryz.func105
theorem aoB:FO 47 anq:=fo 6 (Qe (.s XP (.s Qi .z))) (ab akG ag) Tryz.func47
theorem aaE:FO 14 anY:=fo 11 (Qe (.s (.s (.j [] [(0,[(82,gt)])] .z) .z) (Qe (.s (Qe ((Qf [(5,gt),(6,ge)] [5,6] [(2,[(5,gt)])] (Qe Qk)))) (.s (Qe ((Qf [(5,gt),(7,ge)] [5,7] [(4,[(5,gt)])] (Qe Qk)))) (.s (Qe ((Qf [(5,gt),(8,ge)] [5,8] [(6,[(5,gt)])] (Qe Qk)))) (.s (Qe ((Qf [(5,gt),(9,ge)] [5,9] [(8,[(5,gt)])] (Qe Qk)))) (.s (Qe ((Qf [(5,gt),(10,ge)] [5,10] [(10,[(5,gt)])] (Qe Qk)))) .z)))))))) (ab aoC (ab aoB ag)) Tryz.func14
theorem afG:FO 21 anS:=fo 1 .z ag Tryz.func21
theorem ok5:FO 5 sp5:=fo 3 h5 (ab WL (ab Yk (ab aaE (ab afG ag)))) Tryz.func5
theorem ok6:FO 6 sp6:=fo 2 h6 ag Tryz.func6
theorem aoR:FO 22 anR:=fo 6 Qs ag Tryz.func22
theorem ok7:FO 7 sp7:=fo 9 h7 (ab aoR ag) Tryz.func7
theorem abZ:FO 175 ahI:=fo 4 (Qe (.s (.s (.j [] [(0,[(12,gt)])] .z) .z) (.s (Qe ((Qf [(3,ge)] [2,3,39] [(1,[(2,gt)]),(2,[])] (Qe (.s (.b (Qe Ql)) .z))))) .z))) ag Tryz.func175
theorem akF:FO 106 aiH:=fo 6 (Qe (.s Qr (Qe (.s XX (.s (Qe ((Qf [(4,ge)] [2,4,5] [(1,[(2,ge)]),(4,[])] (Qe (.s (.b (Qe ((Qf [(5,ge)] [2,5] [(1,[(2,ge)]),(6,[])] .z)))) .z))))) .z))))) (ab abZ ag) Tryz.func106
theorem VU:FO 111 aiC:=fo 8 (Qe (.s (Qe ((Qf [(4,QT),(6,ge)] [4,5,6,7] [(1,[(4,QT),(5,gt)]),(2,[(4,QT)])] .z))) .z)) ag Tryz.func111
theorem Zu:FO 135 aia:=fo 4 (Qe (.s .z (.s ((Qf [(3,ge)] [3,14] [(2,[(3,ge)])] (.s (.s (.j [] [(0,[(14,gt)])] .z) .z) .z))) .z))) ag Tryz.func135
theorem aj2:FO 176 ahH:=fo 6 (Qe (.s .z (.s (Qe ((Qf [(3,ge),(4,ge),(5,ge)] [2,3,4,5,21,38] [(1,[(2,gt)]),(2,[(4,ge)])] (Qe (.s (.j [2,3,4,21,38] [(0,[(3,ge),(4,ge)]),(1,[(2,gt)])] (.b (.s Qr (.s XR .z)))) .z))))) .z))) (ab abZ ag) Tryz.func176
theorem akE:FO 107 aiG:=fo 10 (Qe (.s .z (Qe (.s Qm (Qe (.s XS (.s (.s (.j [] [(0,[(63,gt)])] .z) .z) (.s (Qe ((Qf [(8,ge)] [4,8,9,100] [(1,[(4,ge)]),(2,[])] (Qe (.s (.b (Qe XD)) .z))))) .z)))))))) (ab VU (ab Zu (ab aj2 ag))) Tryz.func107
theorem Y3:FO 69 am2:=fo 7 (Qe (.s .z (.s (Qe ((Qf [(5,f9),(6,ge)] [5,6,26] [(2,[(5,f9)])] (Qe (.s (.j [5,26] [(0,[(5,f9)])] (.b XT)) .z))))) .z))) (ab Zu ag) Tryz.func69
theorem akD:FO 108 aiF:=fo 9 (Qe (.s (Qe ((Qf [(3,ge)] [2,3,4,5,6,7,8,34] [(1,[(2,gt)]),(2,[])] (Qe (.s (.b (Qe (.s .z ((Qf [(5,ge)] [2,5,6,7,8,34] [(1,[(2,gt)]),(4,[])] (.s XA (.s (.b (Qe (.s (Qe ((Qf XB [6,7,8] [(6,[(6,ge)])] .z))) .z))) .z))))))) .z))))) .z)) (ab Y3 (ab VU ag)) Tryz.func108
theorem afy:FO 48 anp:=fo 5 (Qe (.s .z (.s Qr (.s XX (.s (Qe ((Qf [(4,ge)] [2,4] [(1,[(2,ge)]),(4,[])] .z))) .z))))) (ab akF (ab akE (ab akD ag))) Tryz.func48
theorem Ut:FO 53 anj:=fo 2 .z ag Tryz.func53
theorem aaC:FO 55 anh:=fo 3 .z (ab Y3 (ab VU ag)) Tryz.func55
theorem Yi:FO 66 am5:=fo 6 .z ag Tryz.func66
theorem abY:FO 178 ahF:=fo 8 (Qe (.s .z (Qe (.s (Qe ((Qf [(5,f9),(6,ge),(7,ge)] [5,6,7] [(2,[(5,f9),(6,ge)])] (Qe (.s (.j [5,6] [(0,[(5,f9),(6,ge)])] .z) .z))))) (.s (.j [5] [(0,[(5,f9)])] .z) .z))))) ag Tryz.func178
theorem aj1:FO 179 ahE:=fo 6 (Qe (.s .z (Qe (.s (Qe ((Qf [(3,f9),(5,ge)] [3,5] [(2,[(3,f9)])] XC))) .z)))) (ab abY ag) Tryz.func179
theorem abT:FO 209 ahg:=fo 6 (Qe (.s X0 (Qe (.s (Qe ((Qf [(4,ge),(5,ge)] [2,3,4,5,39] [(1,[(2,ge),(3,gt)]),(2,[(4,ge)])] (Qe (.s (.b (.s Ql .z)) .z))))) .z)))) ag Tryz.func209
theorem ajI:FO 210 ahf:=fo 8 (Qe (.s .z (.s ((Qf [(4,ge)] [4,18] [(2,[(4,ge)])] (.s (.s (.j [] [(0,[(18,gt)])] .z) .z) .z))) .z))) (ab abT ag) Tryz.func210
theorem aj0:FO 180 ahD:=fo 11 (Qe (.s Qr (Qe (.s .z (.s (Qe ((Qf [(7,gt),(8,QT),(9,ge)] [7,8,9,10,41] [(2,[(7,gt),(8,QT)])] (.s Qx .z)))) .z))))) (ab abT (ab ajI ag)) Tryz.func180
theorem akB:FO 113 aiA:=fo 12 (Qe (.s .z (Qe (.s .z (Qe (.s (Qe ((Qf [(2,QO),(4,QO),(5,gt),(7,ge)] [2,3,4,5,7,8,9,10,11,61,89] [(1,[(2,QO),(3,ge)]),(2,[(2,QO),(4,QO),(5,gt)])] (Qe (.s (.j [2,3,4,5,8,9,10,11,61,89] [(0,[(2,QO),(4,QO),(5,gt)]),(1,[(2,QO),(3,ge)])] (.b (Qe (.s .z (Qe (.s (.s (.j [] [(0,[(61,gt)])] .z) .z) (Qe (.s .z (Qe (.s ((Qf [(11,ge)] [11,89] [(4,[(11,ge)])] (.s (.s (.j [] [(0,[(89,gt)])] .z) .z) .z))) Qk)))))))))) .z))))) .z)))))) (ab abY (ab aj1 (ab aj0 ag))) Tryz.func113
theorem aow:FO 57 anf:=fo 10 (Qe (.s .z (.s (.j [7] [(0,[(7,ge)])] .z) (Qe (.s .z (.s (Qe ((Qf [(4,QJ),(5,QA),(8,ge)] [4,5,8] [(1,[(4,t7),(5,QA)]),(2,[(4,QJ),(5,QA)])] .z))) (.s (Qe ((Qf [(4,QJ),(5,QA),(9,ge)] [4,5,9,85] [(1,[(4,t7),(5,QA)]),(4,[(4,QJ),(5,QA)])] (Qe (.s (.b XH) .z))))) .z))))))) (ab afy (ab Ut (ab aaC (ab Yi (ab akB ag))))) Tryz.func57
theorem WJ:FO 52 ank:=fo 7 (Qe (.s (Qe ((Qf [(4,.box (.st 4) []),(6,ge)] [4,5,6] [(1,[(4,.box (.st 4) []),(5,gt)]),(2,[(4,.box (.st 4) [])])] .z))) .z)) ag Tryz.func52
theorem akA:FO 114 aiz:=fo 1 .z ag Tryz.func114
theorem Zv:FO 115 aiy:=fo 7 Qj ag Tryz.func115
theorem aov:FO 58 ane:=fo 8 (Qe (.s (.s (.j [] [(0,[(53,gt)])] .z) .z) (Qe (.s (.s (.j [] [(0,[(66,gt)])] .z) .z) XK)))) (ab WJ (ab akA (ab Zv ag))) Tryz.func58
theorem ok16:FO 16 anW:=fo 7 (Qe (.s (Qe ((Qf [(4,QY),(6,ge)] [4,5,6] [(1,[(4,QY),(5,gt)]),(2,[(4,QY)])] .z))) .z)) ag Tryz.func16
theorem Uu:FO 17 anV:=fo 7 (Qe (.s (Qe ((Qf [(4,QP),(6,ge)] [4,5,6] [(1,[(4,Q5),(5,gt)]),(2,[(4,QP)])] .z))) .z)) ag Tryz.func17
theorem UZ:FO 121 ais:=fo 7 Qj ag Tryz.func121
theorem acd:FO 122 air:=fo 2 .z ag Tryz.func122
theorem ab_:FO 126 ain:=fo 7 (Qe (.s .z (.s (Qe ((Qf [(5,QQ),(6,ge)] [5,6] [(2,[(5,QQ)])] (Qe (.s (.j [5] [(0,[(5,QQ)])] .z) .z))))) .z))) ag Tryz.func126
theorem ab9:FO 127 ail:=fo 8 (Qe (.s .z (.s (Qe ((Qf [(6,f8),(7,ge)] [6,7] [(2,[(6,f8)])] (Qe (.s (.j [6] [(0,[(6,f8)])] .z) .z))))) .z))) ag Tryz.func127
theorem ab0:FO 174 ahJ:=fo 11 (Qe (.s .z (Qe (.s .z (.s (Qe ((Qf [(6,QQ),(8,f8),(9,ge)] [6,8,9] [(2,[(6,QQ),(8,f8)])] (Qe (.s (.j [6,8] [(0,[(6,QQ),(8,f8)])] .z) .z))))) (.s (Qe ((Qf [(7,QE),(10,ge)] [7,10] [(4,[(7,QE)])] (Qe (.s (.j [7] [(0,[(7,QE)])] .z) .z))))) .z)))))) ag Tryz.func174
theorem Zw:FO 104 aiJ:=fo 9 (Qe (.s (Qe ((Qf [(2,t7),(5,ge)] [2,5,6,7,8] [(2,[(2,t7)])] (Qe (.s (.j [2,6,7,8] [(0,[(2,t7)])] (.b (Qe (.s .z (Qe (.s .z (Qe (.s .z (Qe (.s (.j [8] [(0,[(8,.box (.st 6) [10])])] .z) .z)))))))))) .z))))) .z)) (ab ok16 (ab Uu (ab UZ (ab acd (ab ab_ (ab ab9 (ab ab0 ag))))))) Tryz.func104
theorem ace:FO 116 aix:=fo 7 Qo ag Tryz.func116
theorem akz:FO 117 aiw:=fo 9 .z (ab WJ (ab Zv ag)) Tryz.func117
theorem ajH:FO 211 ahe:=fo 7 (Qe (.s (Qe ((Qf [(4,.box (.st 8) []),(6,ge)] [4,5,6] [(1,[(4,.box (.st 8) []),(5,gt)]),(2,[(4,.box (.st 8) [])])] .z))) .z)) ag Tryz.func211
theorem ab8:FO 130 aii:=fo 7 (Qe (.s .z (.s (Qe ((Qf [(5,QE),(6,ge)] [5,6] [(2,[(5,QE)])] (Qe (.s (.j [5] [(0,[(5,QE)])] .z) .z))))) .z))) ag Tryz.func130
theorem UY:FO 215 aha:=fo 4 .z ag Tryz.func215
theorem ajo:FO 236 agR:=fo 7 (Qe (.s (Qe ((Qf [(4,Q2),(6,ge)] [4,5,6] [(1,[(4,Q2),(5,gt)]),(2,[(4,Q2)])] .z))) .z)) ag Tryz.func236
theorem abJ:FO 256 agz:=fo 4 (Qe (.s (.b (.s (.j [] [(0,[(5,gt)])] .z) (.c .z XI))) .z)) ag Tryz.func256
theorem abP:FO 237 agQ:=fo 8 .z (ab abJ ag) Tryz.func237
theorem Us:FO 84 amN:=fo 5 .z ag Tryz.func84
theorem Zt:FO 177 ahG:=fo 4 Qt (ab Zu ag) Tryz.func177
theorem acf:FO 112 aiB:=fo 7 (Qe (.s .z (.s (Qe ((Qf [(6,ge)] [4,6] [(1,[(4,gt)]),(2,[])] .z))) .z))) (ab Zt ag) Tryz.func112
theorem afx:FO 56 ang:=fo 14 (Qe (.s .z (.s (Qe ((Qf [(11,t8),(12,ge)] [11,12,13,59] [(2,[(11,t8)])] (Qe (.s (.j [11,13,59] [(0,[(11,t8)])] (.b (Qe X1))) .z))))) .z))) (ab Uu (ab Us (ab acf ag))) Tryz.func56
theorem WK:FO 18 anU:=fo 7 .z (ab afx ag) Tryz.func18
theorem ok32:FO 32 anH:=fo 7 (Qe (.s .z (.s (Qe ((Qf [(5,t8),(6,ge)] [5,6,30] [(2,[(5,t8)])] (Qe (.s (.j [5,30] [(0,[(5,t8)])] (.b Qn)) .z))))) .z))) (ab Us ag) Tryz.func32
theorem aje:FO 252 agB:=fo 1 .z ag Tryz.func252
theorem abQ:FO 228 agY:=fo 2 .z (ab aje ag) Tryz.func228
theorem aju:FO 229 agX:=fo 2 .z ag Tryz.func229
theorem abV:FO 198 ahl:=fo 7 (Qe (.s X2 .z)) (ab abQ (ab aju ag)) Tryz.func198
theorem ab2:FO 147 ahZ:=fo 17 (Qe (.s .z (.s XF (Qe (.s .z (.s (Qe ((Qf [(11,t8),(13,ge)] [11,13,14,15,16] [(2,[(11,t8)])] (Qe (.s (.b (Qe (.s .z (.s (.j [16] [(0,[(16,ge)])] .z) .z)))) .z))))) .z)))))) (ab ok32 (ab VU (ab Zt (ab abV ag)))) Tryz.func147
theorem Y1:FO 85 amM:=fo 7 .z (ab ab2 ag) Tryz.func85
theorem abO:FO 238 agP:=fo 6 .z (ab WK (ab Us (ab Y1 (ab UY ag)))) Tryz.func238
theorem ajc:FO 257 agy:=fo 9 .z (ab afx ag) Tryz.func257
theorem ajb:FO 258 agx:=fo 10 .z (ab Y1 (ab VU (ab abV ag))) Tryz.func258
theorem abN:FO 239 agO:=fo 5 .z (ab UY (ab ajc (ab ajb ag))) Tryz.func239
theorem acg:FO 110 aiD:=fo 7 Qp (ab Us ag) Tryz.func110
theorem abI:FO 259 agw:=fo 5 .z ag Tryz.func259
theorem abM:FO 240 agN:=fo 6 (Qe (.s .z (.s (.s (.j [] [(0,[(19,gt)])] .z) .z) .z))) (ab WJ (ab acg (ab abI ag))) Tryz.func240
theorem ab3:FO 145 ah1:=fo 7 .z (ab ab2 ag) Tryz.func145
theorem aja:FO 260 agv:=fo 8 (Qe (.s .z (.s (Qe ((Qf [(5,t8),(6,ge)] [5,6,7,38] [(2,[(5,t8)])] (Qe (.s (.j [5,7,38] [(0,[(5,t8)])] (.b (Qe XR))) .z))))) .z))) (ab Us ag) Tryz.func260
theorem abL:FO 241 agM:=fo 12 (Qe (.s .z (.s (Qe ((Qf [(10,ge)] [8,10,11,55] [(1,[(8,gt)]),(2,[])] (Qe (.s (.b (Qe (.s .z XO))) .z))))) .z))) (ab WK (ab ok32 (ab Us (ab ab3 (ab Zt (ab UY (ab abI (ab aja ag)))))))) Tryz.func241
theorem ai_:FO 261 agu:=fo 10 (Qe (.s .z (Qe (.s (Qe ((Qf [(6,ac),(7,gt),(8,ge)] [6,7,8,9] [(2,XZ)] (Qe (.s (.j [6,7,9] [(0,XZ)] (.b (Qe (.s (.j [7,9] [(0,[(7,gt),(9,Q2)]),(3,[(7,gt)])] .z) .z)))) .z))))) .z)))) ag Tryz.func261
theorem abK:FO 242 agL:=fo 12 (Qe (.s .z (Qe (.s .z (.s (.j [6] [(0,[(6,.box (.st 6) [7])])] .z) (Qe (.s ((Qf [(11,ge)] [11,78] [(2,[(11,ge)])] XG)) .z))))))) (ab UZ (ab ai_ ag)) Tryz.func242
theorem ajG:FO 212 ahd:=fo 16 (Qe (.s .z (Qe (.s XN (.s (.s (.j [] [(0,[(98,gt)])] .z) .z) .z))))) (ab Uu (ab Ut (ab ab8 (ab UY (ab ajo (ab abP (ab abO (ab abN (ab abM (ab abL (ab abK ag))))))))))) Tryz.func212
theorem aiS:FO 282 af9:=fo 12 .z ag Tryz.func282
theorem abH:FO 280 aga:=fo 9 (Qe (.s (.j [2] [(0,[(2,.box (.st 14) [])])] .z) (.s (.j [3] [(0,[(3,.box (.st 14) [])])] .z) (.s (.s (.j [] [(0,[(24,gt)])] .z) (.c (.s (.b Qw) .z) .z)) (Qe (.s .z (.s (.b (.s (.j [] [(0,[(54,gt)])] .z) (.c .z XP))) .z))))))) (ab aiS ag) Tryz.func280
theorem aiT:FO 281 af_:=fo 7 .z (ab abH ag) Tryz.func281
theorem aiU:FO 279 agb:=fo 8 (Qe (.s XT .z)) (ab abQ (ab abH (ab aiT ag))) Tryz.func279
theorem aiV:FO 278 agc:=fo 5 .z (ab WK (ab Y1 (ab aiU ag))) Tryz.func278
theorem aiZ:FO 273 agi:=fo 11 (Qe (.s .z (Qe (.s (Qe ((Qf [(8,f9),(9,ge)] [8,9,10,39] [(2,[(8,f9)])] (Qe (.s (.b (Qe (.s ((Qf [(10,ge)] [10,39] [(4,[(10,ge)])] (.s Ql .z))) .z))) .z))))) .z)))) (ab Y3 (ab aiV ag)) Tryz.func273
theorem Co:∀n,O9 Tryz.prog 262 (Km n)
 | 0=>⟨⟨Tryz.f262,by kernel_rfl,by kernel_rfl,by kernel_rfl⟩,λa r hr=>nomatch (show(none:Option _)=some r from hr)⟩
 | n+1=>SF (nv:=10) (h:=apE) tok mix (ab (Co n) (ab aiZ ag)) Tryz.func262 (by kernel_rfl) (by kernel_rfl) (by kernel_rfl) (by kernel_rfl) (by kernel_rfl)
theorem ai9:FO 262 agt:=Co 64
theorem ajn:FO 243 agK:=fo 3 .z (ab ai9 ag) Tryz.func243
theorem ajm:FO 244 agJ:=fo 12 (Qe (.s .z (.s (Qe ((Qf [(5,QL),(6,ge)] [5,6,7,8,9,32,46] [(2,[(5,QL)])] (Qe (.s (.j [5,7,8,9,32,46] [(0,[(5,QL)])] (.b (Qe (.s Qm (Qe (.s ((Qf [(8,ge)] [8,46] [(4,[(8,ge)])] (.s XS .z))) .z)))))) .z))))) (Qe (.s (Qe ((Qf [(10,f8),(11,ge)] [10,11] [(6,[(10,f8)])] .z))) .z))))) (ab Ut ag) Tryz.func244
theorem ai8:FO 263 ags:=fo 7 (Qe (.s .z (.s (Qe ((Qf [(5,Q1),(6,ge)] [5,6] [(2,[(5,Q1)])] (Qe (.s (.j [5] [(0,[(5,Q1)])] .z) .z))))) .z))) ag Tryz.func263
theorem ai7:FO 264 agr:=fo 8 (Qe (.s (Qe ((Qf [(7,ge)] [6,7,32] [(1,[(6,gt)]),(2,[])] (Qe (.s (.b Qm) .z))))) .z)) ag Tryz.func264
theorem ai6:FO 265 agq:=fo 6 (Qe (.s .z (.s ((Qf [(5,ge)] [5,22] [(2,[(5,ge)])] (.s Qv .z))) .z))) ag Tryz.func265
theorem ajl:FO 245 agI:=fo 16 (Qe (.s .z (.s Ql (.s (Qe (.c (.s (.j [5,7] [(0,[(5,t7)])] .z) .z) .z)) (Qe (.s .z (.s (.s (.j [] [(0,[(97,gt)])] .z) .z) .z))))))) (ab UZ (ab UY (ab abP (ab abO (ab abM (ab abL (ab abK (ab abJ (ab ai8 (ab ai7 (ab ai6 ag))))))))))) Tryz.func245
theorem ajF:FO 213 ahc:=fo 21 (Qe (.s .z (.s (Qe ((Qf [(3,t7),(6,QJ),(8,QY),(10,ge)] [3,6,7,8,10,11,12,13,14,15,16,17,18,19,20] [(1,Qz),(2,XQ)] (Qe (.s (.b (Qe (.s .z ((Qf [(3,t7),(6,QJ),(8,QY),(12,ge)] [3,6,7,8,12,13,14,15,16,17,18,19,20] [(1,Qz),(4,XQ)] (Qe (.s (.j [3,6,7,8,13,14,15,16,17,18,19,20] [(0,XQ),(1,Qz)] (.b (Qe (.s .z (Qe ((Qf [(3,t7),(6,QJ),(8,QY),(15,ge)] [3,6,7,8,15,16,17,18,19,20] [(1,Qz),(6,XQ)] .z))))))) .z))))))) .z))))) .z))) (ab Uu (ab abN (ab ajn (ab ajm (ab ajl ag))))) Tryz.func213
theorem ajZ:FO 181 ahC:=fo 17 (Qe (.s .z (.s Qq (Qe (.s (.j [2,4,5,6,11,12,13,14] [(0,[(2,t7),(4,QJ),(6,QY)]),(1,[(4,t7),(5,ge),(6,QY)])] .z) .z))))) (ab WJ (ab ajH (ab ajG (ab ajF ag)))) Tryz.func181
theorem aky:FO 118 aiv:=fo 11 (Qe (.s .z (.s (Qe ((Qf [(2,t7),(6,QQ),(7,ge)] [2,6,7,8,9,10] [(2,[(2,t7),(6,QQ)])] .z))) .z))) (ab ajZ ag) Tryz.func118
theorem aou:FO 59 anb:=fo 13 (Qe (.s .z (.s Qm (Qe (.s .z (Qe (.s (Qe ((Qf [(10,f8),(11,ge)] [10,11,12,79] [(2,[(10,f8)])] (Qe (.s (.j [10,12,79] [(0,[(10,f8)])] (.b (Qe (.s (.j [] [(0,[(79,gt)])] .z) .z)))) .z))))) .z))))))) (ab ok16 (ab WJ (ab Yi (ab Zw (ab ace (ab akz (ab aky ag))))))) Tryz.func59
theorem akx:FO 119 aiu:=fo 1 .z ag Tryz.func119
theorem akw:FO 120 ait:=fo 6 (Qe (.s .z (Qe (.s (Qe ((Qf [(3,QL),(4,gt),(5,ge)] [3,4,5,23] [(2,[(3,QL)])] (Qe (.s (.j [3,4,23] [(0,[(3,QL),(4,gt)])] (.b (.s X0 .z))) .z))))) .z)))) (ab Ut ag) Tryz.func120
theorem aot:FO 60 ana:=fo 10 (Qe (.s (.s (.j [] [(0,[(51,gt)])] .z) .z) (Qe (.s .z (Qe (.s (Qe ((Qf [(8,ge),(9,ge)] [8,9] [(2,[(8,ge)])] (Qe (.s (.j [8] [(0,[(8,ge)])] .z) .z))))) (Qe (.s .z (.s (.j [2] [(0,[(2,t7)])] .z) .z))))))))) (ab Uu (ab Ut (ab aaC (ab akx (ab akw (ab UZ (ab acd ag))))))) Tryz.func60
theorem akv:FO 123 aiq:=fo 8 (Qe (.s .z (.s (Qe ((Qf [(5,QQ),(6,ge)] [5,6,7] [(2,[(5,QQ)])] (Qe (.s (.j [5,7] [(0,[(5,QQ)])] .z) .z))))) .z))) (ab ok16 ag) Tryz.func123
theorem aku:FO 124 aip:=fo 7 (Qe (.s .z (.s (Qe ((Qf [(5,f8),(6,ge)] [5,6,30] [(2,[(5,f8)])] (Qe (.s (.j [5,30] [(0,[(5,f8)])] (.b Qn)) .z))))) .z))) ag Tryz.func124
theorem ajE:FO 214 ahb:=fo 1 .z ag Tryz.func214
theorem ajY:FO 182 ahB:=fo 3 (Qe (.s (.s (.j [] [(0,[(67,gt)])] .z) .z) XK)) (ab ajE ag) Tryz.func182
theorem ajX:FO 183 ahA:=fo 9 (Qe (.s .z (Qe (.s .z (.s (Qe ((Qf [(6,ac),(7,gt),(8,ge)] [6,7,8,30] [(2,XZ)] (Qe (.s (.j [6,7,30] [(0,XZ)] (.b (.s (.j [6,7,30] [(0,XZ)] Qn) .z))) .z))))) (.s (.j [6] [(0,[(6,ac)])] .z) .z)))))) ag Tryz.func183
theorem akt:FO 125 aio:=fo 10 (Qe (.s (Qe ((Qf [(1,QZ),(8,ge)] [1,6,7,8,9] [(1,[(6,ac),(7,ge)]),(2,[(1,QZ)])] .z))) .z)) (ab ajY (ab ajX ag)) Tryz.func125
theorem aos:FO 61 am_:=fo 14 (Qe (.s .z (Qe (.s .z (Qe (.s (Qe ((Qf [(2,t7),(6,Q5),(10,ge)] [2,6,10,11,12,122] [(3,[(2,t7),(6,Q5)])] (Qe (.s (.j [2,6,11,12,122] [(0,[(2,t7),(6,Q5)])] (.b (Qe (.s (.j [] [(0,[(122,gt)])] .z) .z)))) .z))))) .z)))))) (ab ok16 (ab Uu (ab Yi (ab UZ (ab akv (ab aku (ab akt (ab ab_ (ab ab9 ag))))))))) Tryz.func61
theorem aks:FO 128 aik:=fo 9 (Qe (.s .z (.s Qv .z))) (ab Uu (ab Ut (ab UZ (ab ab0 ag)))) Tryz.func128
theorem aor:FO 62 am9:=fo 11 .z (ab Uu (ab Ut (ab Yi (ab aks ag)))) Tryz.func62
theorem akg:FO 148 ahY:=fo 7 Qp (ab Us ag) Tryz.func148
theorem aft:FO 86 amL:=fo 9 (Qe (.s .z (.s (Qe ((Qf [(7,t8),(8,ge)] [7,8,32] [(2,[(7,t8)])] (Qe (.s (.j [7,32] [(0,[(7,t8)])] (.b Qm)) .z))))) .z))) (ab Ut (ab Us (ab acf (ab akg ag)))) Tryz.func86
theorem ajM:FO 197 ahm:=fo 1 XU ag Tryz.func197
theorem akh:FO 146 ah0:=fo 16 (Qe (.s .z (Qe (.s .z (.s (Qe ((Qf [(10,ge),(11,f8),(12,ge)] [10,11,12,13] [(2,[(10,ge),(11,f8)])] .z))) (.s (Qe ((Qf [(10,ge),(11,QN),(14,ge)] [10,11,14,15] [(4,[(11,QN)])] .z))) .z)))))) (ab ajM ag) Tryz.func146
theorem Es:∀n,O9 Tryz.prog 83 (K9 n)
 | 0=>⟨⟨Tryz.f83,by kernel_rfl,by kernel_rfl,by kernel_rfl⟩,λa r hr=>nomatch (show(none:Option _)=some r from hr)⟩
 | n+1=>SF (nv:=17) (h:=h83) tok mix (ab (Es n) (ab WK (ab Y3 (ab Y1 (ab aft (ab ab3 (ab akh ag))))))) Tryz.func83 (by kernel_rfl) (by kernel_rfl) (by kernel_rfl) (by kernel_rfl) (by kernel_rfl)
theorem aof:FO 83 amO:=Es 64
theorem afC:FO 31 anI:=fo 9 (Qe (.s .z (Qe (.s (Qe ((Qf [(5,QC),(7,ge)] [5,7,8,39] [(2,[(5,QC)])] (Qe (.s (.b (Qe (.s ((Qf [(8,ge)] [8,39] [(4,[(8,ge)])] (.s Ql .z))) .z))) .z))))) .z)))) (ab ok32 (ab aof ag)) Tryz.func31
theorem aoL:FO 33 anG:=fo 12 (Qe (.s .z (.s (Qe ((Qf [(9,ge)] [6,9,10,11,48,71] [(1,[(6,ge)]),(2,[])] (Qe (.s (.b (Qe (.s .z ((Qf [(11,ge)] [6,11,48,71] [(1,[(6,ge)]),(4,[])] (.s Qy (.s (.b (.s (.j [] [(0,[(71,gt)])] .z) .z)) .z))))))) .z))))) .z))) (ab WK (ab Ut (ab Y1 (ab aft ag)))) Tryz.func33
theorem adi:FO 87 amK:=fo 6 .z (ab Uu ag) Tryz.func87
theorem afs:FO 88 amJ:=fo 6 (Qe (.s Qi .z)) ag Tryz.func88
theorem aoK:FO 34 anF:=fo 12 (Qe (.s .z (.s (Qe ((Qf [(9,ge),(10,ge)] [9,10,11,49] [(2,[(9,ge)])] (Qe (.s (.j [9,11,49] [(0,[(9,ge)])] (.b (Qe (.s (.j [] [(0,[(49,gt)])] .z) .z)))) .z))))) .z))) (ab adi (ab afs ag)) Tryz.func34
theorem aoJ:FO 35 anE:=fo 14 (Qe (.s .z (.s (Qe ((Qf [(10,QY),(11,gt),(12,ge)] [10,11,12,13,48,73] [(2,[(10,QY),(11,gt)])] (Qe (.s (.j [10,11,13,48,73] [(0,[(10,QY),(11,gt)])] (.b (Qe (.s Qy (.s (.j [] [(0,[(73,gt)])] .z) .z))))) .z))))) .z))) (ab adi (ab afs ag)) Tryz.func35
theorem Yl:FO 11 an1:=fo 15 h11 (ab WK (ab afC (ab ok32 (ab aoL (ab aoK (ab aoJ ag)))))) Tryz.func11
theorem aoS:FO 19 anT:=fo 9 (Qe (.s .z (.s (Qe ((Qf [(8,ge)] [6,8] [(1,[(6,ge)]),(2,[])] .z))) .z))) (ab afC ag) Tryz.func19
theorem afA:FO 44 anu:=fo 9 (Qe (.s .z (.s (Qe ((Qf [(7,Q3),(8,ge)] [7,8] [(2,[(7,Q3)])] (Qe (.s (.j [7] [(0,[(7,Q3)])] .z) .z))))) .z))) ag Tryz.func44
theorem akH:FO 103 aiK:=fo 7 (Qe (.s .z (.s (Qe ((Qf [(5,ge),(6,ge)] [5,6,15,48] [(2,[(5,ge)])] (.s (.s (.j [] [(0,[(15,gt)])] .z) .z) (.s (.j [5,48] [(0,[(5,ge)])] (.b Qy)) .z))))) .z))) ag Tryz.func103
theorem aoD:FO 43 anv:=fo 10 (Qe (.s .z (.s (Qe ((Qf [(5,QQ),(6,ge)] [5,6,7,40] [(2,[(5,QQ)])] (Qe (.s (.j [5,7,40] [(0,[(5,QQ)])] (.b (Qe Qq))) .z))))) (.s (Qe ((Qf [(2,t7),(8,ge)] [2,8,9] [(4,[(2,t7)])] (Qe (.s (.j [2,9] [(0,[(2,t7)])] .z) .z))))) .z)))) (ab ok16 (ab WK (ab aoS (ab afA (ab adi (ab akH (ab Zw ag))))))) Tryz.func43
theorem afz:FO 45 ant:=fo 7 h45 (ab ok16 ag) Tryz.func45
theorem Yj:FO 13 anZ:=fo 8 (Qe (.s .z (.s (Qe ((Qf [(1,t7),(5,ge)] [1,5,6,7] [(2,[(1,t7)])] (Qe (.s (.b (Qe (.s .z (Qe ((Qf [(1,t7),(7,ge)] [1,7] [(4,[(1,t7)])] .z)))))) .z))))) .z))) (ab Yl (ab aoD (ab afA (ab afz ag)))) Tryz.func13
theorem akr:FO 129 aij:=fo 5 (Qe (.s .z (.s (Qe ((Qf [(3,f8),(4,ge)] [3,4,29] [(2,[(3,f8)])] (Qe (.s (.j [3,29] [(0,[(3,f8)])] (.b (.s (.j [] [(0,[(29,gt)])] .z) .z))) .z))))) .z))) ag Tryz.func129
theorem akq:FO 131 aif:=fo 6 .z (ab WJ (ab Zv ag)) Tryz.func131
theorem akp:FO 132 aie:=fo 5 (Qe (.s .z (.s (Qe ((Qf [(3,f8),(4,ge)] [3,4,30] [(2,[(3,f8)])] (Qe (.s (.j [3,30] [(0,[(3,f8)])] (.b Qn)) .z))))) .z))) ag Tryz.func132
theorem ako:FO 133 aic:=fo 6 (Qe (.s (Qe ((Qf [(5,ge)] [4,5,28] [(1,[(4,ge)]),(2,[])] (Qe (.s (.b XM) .z))))) .z)) ag Tryz.func133
theorem aoq:FO 63 am8:=fo 12 h63 (ab Yj (ab afz (ab Yi (ab Zw (ab ace (ab akr (ab ab8 (ab akq (ab akp (ab ako ag)))))))))) Tryz.func63
theorem ajW:FO 184 ahz:=fo 1 .z ag Tryz.func184
theorem ajD:FO 216 ag_:=fo 9 (Qe (.s .z (.s (Qe ((Qf [(7,t8),(8,ge)] [7,8,40] [(2,[(7,t8)])] (Qe (.s (.j [7,40] [(0,[(7,t8)])] (.b Qq)) .z))))) .z))) (ab Us ag) Tryz.func216
theorem ajV:FO 185 ahy:=fo 12 (Qe (.s .z (.s (Qe ((Qf [(11,ge)] [10,11,57] [(1,[(10,gt)]),(2,[])] (Qe (.s (.b (Qe (.s (.j [] [(0,[(57,gt)])] .z) .z))) .z))))) .z))) (ab Us (ab UY (ab ajD ag))) Tryz.func185
theorem akn:FO 134 aib:=fo 13 (Qe (.s (.s (.j [] [(0,[(52,gt)])] .z) .z) (Qe (.s (Qe ((Qf [(10,ge),(11,ge)] [10,11,12,100] [(2,[(10,ge)])] (Qe (.s (.j [10,12,100] [(0,[(10,ge)])] (.b (Qe (.s (.j [12] [(0,[(12,ge)])] .z) XD)))) .z))))) .z)))) (ab ajW (ab ajV ag)) Tryz.func134
theorem aop:FO 64 am7:=fo 13 (Qe (.s Qx (Qe (.s (Qe ((Qf [(6,QJ),(9,ge),(10,ge)] [6,7,8,9,10] [(1,[(6,t7),(7,ge),(8,ge)]),(2,[(6,QJ),(9,ge)])] (Qe (.s (.j [6,7,8,9] [(0,[(6,QJ),(9,ge)]),(1,[(6,t7),(7,ge),(8,ge)])] .z) .z))))) .z)))) (ab ok32 (ab akn ag)) Tryz.func64
theorem aoo:FO 65 am6:=fo 8 (Qe (.s .z (.s (Qe ((Qf [(6,QM),(7,ge)] [6,7] [(2,[(6,QM)])] (Qe (.s (.j [6] [(0,[(6,QM)])] .z) .z))))) .z))) ag Tryz.func65
theorem aoQ:FO 23 anQ:=fo 17 .z (ab aow (ab aov (ab aou (ab aot (ab aos (ab aor (ab aoq (ab aop (ab aoo (ab Yi ag)))))))))) Tryz.func23
theorem Eg:∀n,O9 Tryz.prog 67 (Kz n)
 | 0=>⟨⟨Tryz.f67,by kernel_rfl,by kernel_rfl,by kernel_rfl⟩,λa r hr=>nomatch (show(none:Option _)=some r from hr)⟩
 | n+1=>SF (nv:=1) (h:=h67) tok mix (ab (Eg n) ag) Tryz.func67 (by kernel_rfl) (by kernel_rfl) (by kernel_rfl) (by kernel_rfl) (by kernel_rfl)
theorem aon:FO 67 am4:=Eg 64
theorem afF:FO 24 anP:=fo 8 (Qe (.s .z (.s (Qe ((Qf [(3,ne),(4,ge)] [3,4] [(2,[(3,ne)])] .z))) (Qe (.s (Qe ((Qf [(3,ne),(5,ge)] [3,5,6,7] [(4,[(3,ne)])] (Qe (.s (.b (Qe (.s .z (.s (Qe ((Qf [(3,ne),(7,ge)] [3,7] [(6,[(3,ne)])] .z))) .z)))) .z))))) .z))))) (ab aon ag) Tryz.func24
theorem afw:FO 68 am3:=fo 6 Qs ag Tryz.func68
theorem aom:FO 70 am1:=fo 2 .z ag Tryz.func70
theorem afE:FO 25 anO:=fo 19 (Qe (.s .z (Qe (.s .z (.s (Qe ((Qf [(6,QD),(8,ge)] [6,8,9,10,59] [(2,[(6,QD)])] (Qe (.s (.b (Qe (.s (.j [9,59] [(0,[(9,QT)])] X1) (.s (Qe ((Qf [(9,QT),(10,ge)] [9,10] [(4,[(9,QT)])] .z))) .z)))) .z))))) (.s (Qe ((Qf [(6,QD),(11,ge)] [6,11,12,13,14,15,16,17,18] [(6,[(6,QD)])] (Qe (.s (.b (Qe (.s .z ((Qf [(6,QD),(13,ge)] [6,13,14,15,16,17,18] [(8,[(6,QD)])] (Qe (.s (.b (Qe (.s .z ((Qf [(6,QD),(14,ge),(15,ge)] [6,14,15,16,17,18] [(10,[(6,QD)])] (Qe (.s (.b (Qe (.s (.j [16] [(0,[(16,ge)])] .z) (Qe (.s .z (Qe ((Qf [(6,QD),(18,ge)] [6,18] [(12,[(6,QD)])] (Qe (.s (.j [6] [(0,[(6,QD)])] .z) .z)))))))))) .z))))))) .z))))))) .z))))) .z)))))) (ab afw (ab afw (ab Y3 (ab aom ag)))) Tryz.func25
theorem adl:FO 71 am0:=fo 6 Qs ag Tryz.func71
theorem aol:FO 72 amZ:=fo 5 (Qe (.s .z (.s (Qe ((Qf [(3,f9),(4,ge)] [3,4] [(2,[(3,f9)])] XC))) .z))) (ab aaC ag) Tryz.func72
theorem afv:FO 73 amY:=fo 3 .z (ab adl ag) Tryz.func73
theorem aok:FO 74 amX:=fo 9 (Qe (.s .z (Qe (.s .z (Qe (.s (.j [5,7] [(0,[(5,QX)])] (Qe (.c (Qe (.s (.j [7] [(0,[(7,Q2)])] .z) (.s (.j [7] [(0,[(7,Q2)])] .z) .z))) .z))) (.s (Qe ((Qf [(5,QX),(8,ge)] [5,8,104] [(2,[(5,QX)])] (Qe (.s (.j [5,104] [(0,[(5,QX)])] (.b (.s (.j [] [(0,[(104,gt)])] .z) .z))) .z))))) .z))))))) (ab adl (ab afv ag)) Tryz.func74
theorem aoP:FO 26 anN:=fo 30 (Qe (.s .z (Qe (.s .z (.s (.j [8,9,10,27,28,29,30,53,109,121,148,168] [(0,[(8,QX)])] (Qe (.b (.s (.j [] [(0,[(30,gt)])] .z) (.c .z (.s (.j [] [(0,[(53,gt)])] .z) (.c (Qe (.s (Qe ((Qf [(8,QX),(9,ge)] [8,9] [(3,[(8,QX)])] (Qe (.s (.j [8] [(0,[(8,QX)])] .z) .z))))) (Qe ((Qf [(8,QX),(10,ge)] [8,10,109] [(5,[(8,QX)])] (Qe (.s (.j [8,109] [(0,[(8,QX)])] (.b (.s (.j [] [(0,[(109,gt)])] .z) .z))) .z))))))) (.s (.j [] [(0,[(121,gt)])] .z) (.c .z (.s (.j [] [(0,[(148,gt)])] .z) (.c .z (Qe (.c .z XE))))))))))))) .z))))) (ab afF (ab afE (ab adl (ab aol (ab afv (ab aok ag)))))) Tryz.func26
theorem ok8:FO 8 sp8:=fo 7 h8 (ab afG (ab aoQ (ab afF (ab afE (ab aoP ag))))) Tryz.func8
theorem ok9:FO 9 sp9:=fo 6 h9 ag Tryz.func9
theorem akC:FO 109 aiE:=fo 2 .z ag Tryz.func109
theorem aoA:FO 49 ano:=fo 9 (Qe (.s .z (.s XW (.s XY (.s XV (.s (Qe ((Qf [(3,gt),(7,ge)] [3,7,8] [(8,[(3,gt)])] (Qe (.s (.b (.s (.j [3] [(0,[(3,gt)])] .z) XJ)) .z))))) .z)))))) (ab akC ag) Tryz.func49
theorem aoz:FO 50 anm:=fo 9 (Qe (.s Qn (Qe (.s XW (.s XY (.s XV (.s (Qe ((Qf [(3,gt),(7,ge)] [3,7] [(8,[(3,gt)])] Qh))) (.s XJ .z)))))))) ag Tryz.func50
theorem aoy:FO 51 anl:=fo 5 (Qe (.s (Qe ((Qf [(3,ge)] [2,3,4,41] [(1,[(2,gt)]),(2,[])] (Qe (.s (.b (Qe Qx)) .z))))) .z)) (ab acg ag) Tryz.func51
theorem aox:FO 54 ani:=fo 9 (Qe (.s .z (.s (Qe ((Qf [(6,ge),(7,ge),(8,ge)] [6,7,8] [(2,XB)] (Qe (.s (.j [6,7] [(0,XB)] .z) .z))))) .z))) ag Tryz.func54
theorem aoT:FO 15 anX:=fo 15 (Qe (.s XA (.s (Qe ((Qf [(3,ge)] [2,3,4,5,6,7,8,96] [(1,[(2,gt)]),(2,[])] (Qe (.s (.b (Qe (.s .z (Qe (.s (.j [] [(0,[(96,gt)])] .z) .z))))) .z))))) (.s (Qe ((Qf [(9,ge)] [2,9,10,11,12,143] [(1,[(2,gt)]),(4,[])] (Qe (.s (.b (Qe (.s .z (.s (.j [] [(0,[(143,gt)])] .z) .z)))) .z))))) (.s (Qe ((Qf [(13,ge)] [2,13,14,168] [(1,[(2,gt)]),(6,[])] (Qe (.s (.b (Qe XE)) .z))))) .z))))) (ab Uu (ab afy (ab aoA (ab aoz (ab aoy (ab WJ (ab Ut (ab aox (ab aaC ag))))))))) Tryz.func15
theorem ok3:FO 3 sp3:=fo 12 h3 (ab ok5 (ab ok6 (ab ok7 (ab ok8 (ab ok9 (ab WL (ab Yl (ab Yk (ab Yj (ab aaE (ab aoT ag))))))))))) Tryz.func3
end Go.Fx.D
