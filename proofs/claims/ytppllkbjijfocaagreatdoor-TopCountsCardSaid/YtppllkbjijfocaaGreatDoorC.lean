/-
  Each of these functions does what its function over plain data says, where that gives an answer (printed by a program). Conditions: none.
-/
import Derived.Test.YtppllkbjijfocaaGreatDoorFxD
import Derived.Ground.SlsfProg
import Derived.Ground.NamesProg
import Derived.Shelf.Lay
import Derived.Shelf.Strings.SlTrimAscii
import Derived.Shelf.Strconv.Atoi
import Derived.Test.YtppllkbjijfocaaGreatDoorD
import Derived.Test.YtppllkbjijfocaaGreatDoorFxC
import Derived.Test.YtppllkbjijfocaaGreatDoorChecked
import Derived.WalkKit
import Derived.TacticsInMore
import Derived.Lib.IndexBytes
import Derived.Deep.LoopGhost
import Derived.Shelf.RegionOpenPlain
import Derived.Lib.Walk
import Derived.LoopNIn
import Derived.LoopIn
namespace Go.Fx.D
open Go Go.Fx Go.Proofs Go.Shelf Go.RowKit Go.Lib Go.Sort
set_option linter.unusedVariables false
set_option maxRecDepth 100000
theorem rk{t:TypeId}{i:TI fam}(j:TypeInfo)(h1:Tryz.prog.underlying t=some i.desc:=by kernel_rfl)(h2:Tryz.prog.info? t=some j:=by kernel_rfl)(h3:j.zero=some (j.zero.getD .nilFunc):=by kernel_rfl)(h4:(Nat.beq j.size i.size&&Nat.beq j.bytes i.bytes&&Nat.beq (j.zero.getD .nilFunc).cells.size i.size&&zok i.zero (j.zero.getD .nilFunc).cells.toList&&(aay (j.zero.getD .nilFunc) == da i.desc))=true:=by kernel_rfl)(h5:ZJ i=true:=by kernel_rfl)(h6:Wq Tryz.prog t i=true:=by kernel_rfl):J9 Tryz.prog t i:=⟨h1,⟨j,_,h2,h3,h4⟩,h5,h6⟩
theorem H2:J9 Tryz.prog 3 ZO:=rk Tryz.t3
theorem Is:J9 Tryz.prog 4 abU:=rk Tryz.t4
theorem If:J9 Tryz.prog 5 abT:=rk Tryz.t5
theorem Ip:J9 Tryz.prog 9 abS:=rk Tryz.t9
theorem HV:J9 Tryz.prog 21 Yh:=rk Tryz.t21
theorem A4:J9 Tryz.prog 22 Yg:=rk Tryz.t22
theorem F6:J9 Tryz.prog 23 Yf:=rk Tryz.t23
theorem F9:J9 Tryz.prog 25 Ye:=rk Tryz.t25
theorem Aw:J9 Tryz.prog 27 Yd:=rk Tryz.t27
theorem Al:J9 Tryz.prog 28 Yc:=rk Tryz.t28
theorem Gx:J9 Tryz.prog 30 Yb:=rk Tryz.t30
theorem A6:J9 Tryz.prog 31 Ya:=rk Tryz.t31
theorem AN:J9 Tryz.prog 32 X_:=rk Tryz.t32
theorem An:J9 Tryz.prog 33 X9:=rk Tryz.t33
theorem AG:J9 Tryz.prog 34 X8:=rk Tryz.t34
theorem AM:J9 Tryz.prog 35 X7:=rk Tryz.t35
theorem HB:J9 Tryz.prog 37 X6:=rk Tryz.t37
theorem Hd:J9 Tryz.prog 40 X5:=rk Tryz.t40
theorem HT:J9 Tryz.prog 42 VH:=rk Tryz.t42
theorem Aq:J9 Tryz.prog 43 X4:=rk Tryz.t43
theorem F8:J9 Tryz.prog 45 TQ:=rk Tryz.t45
theorem Ha:J9 Tryz.prog 47 VG:=rk Tryz.t47
theorem Gt:J9 Tryz.prog 49 X3:=rk Tryz.t49
theorem HO:J9 Tryz.prog 51 X0:=rk Tryz.t51
theorem G0:J9 Tryz.prog 53 XZ:=rk Tryz.t53
theorem FZ:J9 Tryz.prog 55 XY:=rk Tryz.t55
theorem HU:J9 Tryz.prog 59 TP:=rk Tryz.t59
theorem Hq:J9 Tryz.prog 65 TN:=rk Tryz.t65
theorem Gn:J9 Tryz.prog 68 XW:=rk Tryz.t68
theorem Gk:J9 Tryz.prog 71 XV:=rk Tryz.t71
theorem Ba:J9 Tryz.prog 72 XU:=rk Tryz.t72
theorem Gb:J9 Tryz.prog 74 XT:=rk Tryz.t74
theorem Hy:J9 Tryz.prog 80 XR:=rk Tryz.t80
theorem GC:J9 Tryz.prog 83 XQ:=rk Tryz.t83
theorem Hg:J9 Tryz.prog 87 XP:=rk Tryz.t87
theorem GH:J9 Tryz.prog 97 TM:=rk Tryz.t97
theorem D2:J9 Tryz.prog 100 DL:=rk Tryz.t100
theorem Fh:J9 Tryz.prog 102 CP:=rk Tryz.t102
theorem E3:J9 Tryz.prog 130 Di:=rk Tryz.t130
theorem Et:J9 Tryz.prog 177 CW:=rk Tryz.t177
theorem E6:J9 Tryz.prog 184 CL:=rk Tryz.t184
theorem DS:J9 Tryz.prog 190 Dk:=rk Tryz.t190
theorem EC:J9 Tryz.prog 192 DK:=rk Tryz.t192
theorem Fk:J9 Tryz.prog 198 DG:=rk Tryz.t198
theorem Fw:J9 Tryz.prog 209 Dh:=rk Tryz.t209
theorem FO:J9 Tryz.prog 224 CM:=rk Tryz.t224
theorem Ef:J9 Tryz.prog 226 Du:=rk Tryz.t226
theorem EI:J9 Tryz.prog 242 Dd:=rk Tryz.t242
theorem EZ:J9 Tryz.prog 245 DQ:=rk Tryz.t245
theorem Fc:J9 Tryz.prog 247 CY:=rk Tryz.t247
theorem Ed:J9 Tryz.prog 252 DN:=rk Tryz.t252
theorem EV:J9 Tryz.prog 277 Cy:=rk Tryz.t277
theorem Eu:J9 Tryz.prog 281 C5:=rk Tryz.t281
theorem EU:J9 Tryz.prog 284 Cw:=rk Tryz.t284
theorem Fi:J9 Tryz.prog 294 Co:=rk Tryz.t294
theorem E8:J9 Tryz.prog 296 CG:=rk Tryz.t296
theorem EP:J9 Tryz.prog 321 Cx:=rk Tryz.t321
theorem Fp:J9 Tryz.prog 340 CA:=rk Tryz.t340
theorem Fz:J9 Tryz.prog 352 Ce:=rk Tryz.t352
theorem EK:J9 Tryz.prog 365 C8:=rk Tryz.t365
theorem EJ:J9 Tryz.prog 369 CZ:=rk Tryz.t369
theorem D7:J9 Tryz.prog 371 Cn:=rk Tryz.t371
theorem FF:J9 Tryz.prog 407 Ck:=rk Tryz.t407
theorem tok:J5 Tryz.prog (look tbl):=acK (all_cons H2 (all_cons Is (all_cons If (all_cons Ip (all_cons HV (all_cons A4 (all_cons F6 (all_cons F9 (all_cons Aw (all_cons Al (all_cons Gx (all_cons A6 (all_cons AN (all_cons An (all_cons AG (all_cons AM (all_cons HB (all_cons Hd (all_cons HT (all_cons Aq (all_cons F8 (all_cons Ha (all_cons Gt (all_cons HO (all_cons G0 (all_cons FZ (all_cons HU (all_cons Hq (all_cons Gn (all_cons Gk (all_cons Ba (all_cons Gb (all_cons Hy (all_cons GC (all_cons Hg (all_cons GH (all_cons D2 (all_cons Fh (all_cons E3 (all_cons Et (all_cons E6 (all_cons DS (all_cons EC (all_cons Fk (all_cons Fw (all_cons FO (all_cons Ef (all_cons EI (all_cons EZ (all_cons Fc (all_cons Ed (all_cons EV (all_cons Eu (all_cons EU (all_cons Fi (all_cons E8 (all_cons EP (all_cons Fp (all_cons Fz (all_cons EK (all_cons EJ (all_cons D7 (all_cons FF all_nil)))))))))))))))))))))))))))))))))))))))))))))))))))))))))))))))
theorem mix:Tryz.prog.follows .mixedOrders=true:=Checked.mixed Tryz.checked
abbrev Jp (i:Nat)(s:Spec fam):=Lf Tryz.prog i s
theorem fo {Γ : Ctx fam} (nv : Nat) (h : Hint) (hΓ : Kz Tryz.prog Γ) {f : FuncId} {fn : Func} {sp : Spec fam} (hf : Tryz.prog.funcs[f]? = some fn) (hnm : (fn.name == "runtime.NumGoroutine") = false:=by kernel_rfl) (hbn : fn.body.isNone = false:=by kernel_rfl) (hlen : Nat.ble sp.ks.length fn.ntmps = true:=by kernel_rfl) (hrs : sp.rs.all (fun k => !k.KT) = true:=by kernel_rfl) (hD : (fun a => TJ (look tbl) Γ nv fn h sp.ks sp.rs a) = sp.D:=by kernel_rfl) : Lf Tryz.prog f sp:=M7 tok mix hΓ hf hnm hbn hlen hrs hD
theorem ok7:Jp 7 sp7:=fo 2 h7 ag Tryz.func7
theorem F0:Jp 85 Gu:=M7 (nv:=1) (h:=h85) tok mix ag Tryz.func85 (by kernel_rfl) (by kernel_rfl) (by kernel_rfl) (by kernel_rfl) (by kernel_rfl)
set_option maxHeartbeats 2000000 in
theorem H3(p:Option Addr)(cap:Nat)(w:World):Calls Tryz.prog 85 #[.slice p 0 cap] w λe w'=>∃p',e = .returned (.slice p' 0 0)∧RowKit.Below w.heap.size w w'∧w.drawn≤w'.drawn:=by
 have q:=lV (P:=Tryz.prog) (t:=27) Aw.und
 cases p with
 | none=>
  go_enter Tryz.func85,Tryz.ntmps85
  go_wp2
  go_ret
  exact⟨_,rfl,.refl _ _,KC _⟩
 | some p=>
  go_enter Tryz.func85,Tryz.ntmps85
  go_wp2
  go_ret
  exact⟨_,rfl,(RowKit.Below.refl _ w).alloc (KC _) _,KC _⟩
theorem ZY:Jp 85 alm:=fL F0 H3
theorem GD:Jp 86 Gq:=M7 (nv:=1) (h:=h86) tok mix ag Tryz.func86 (by kernel_rfl) (by kernel_rfl) (by kernel_rfl) (by kernel_rfl) (by kernel_rfl)
set_option maxHeartbeats 2000000 in
theorem H7(p:Option Addr)(cap:Nat)(w:World):Calls Tryz.prog 86 #[.slice p 0 cap] w λe w'=>∃p',e = .returned (.slice p' 0 0)∧RowKit.Below w.heap.size w w'∧w.drawn≤w'.drawn:=by
 have q:=lV (P:=Tryz.prog) (t:=28) Al.und
 cases p with
 | none=>
  go_enter Tryz.func86,Tryz.ntmps86
  go_wp2
  go_ret
  exact⟨_,rfl,.refl _ _,KC _⟩
 | some p=>
  go_enter Tryz.func86,Tryz.ntmps86
  go_wp2
  go_ret
  exact⟨_,rfl,(RowKit.Below.refl _ w).alloc (KC _) _,KC _⟩
theorem ZX:Jp 86 alk:=fL GD H7
theorem GL:Jp 87 G8:=M7 (nv:=1) (h:=h87) tok mix ag Tryz.func87 (by kernel_rfl) (by kernel_rfl) (by kernel_rfl) (by kernel_rfl) (by kernel_rfl)
set_option maxHeartbeats 2000000 in
theorem IF(p:Option Addr)(cap:Nat)(w:World):Calls Tryz.prog 87 #[.slice p 0 cap] w λe w'=>∃p',e = .returned (.slice p' 0 0)∧RowKit.Below w.heap.size w w'∧w.drawn≤w'.drawn:=by
 have q:=lV (P:=Tryz.prog) (t:=72) Ba.und
 cases p with
 | none=>
  go_enter Tryz.func87,Tryz.ntmps87
  go_wp2
  go_ret
  exact⟨_,rfl,.refl _ _,KC _⟩
 | some p=>
  go_enter Tryz.func87,Tryz.ntmps87
  go_wp2
  go_ret
  exact⟨_,rfl,(RowKit.Below.refl _ w).alloc (KC _) _,KC _⟩
theorem Xh:Jp 87 alj:=fL GL IF
theorem HI:Jp 88 F7:=M7 (nv:=1) (h:=h88) tok mix ag Tryz.func88 (by kernel_rfl) (by kernel_rfl) (by kernel_rfl) (by kernel_rfl) (by kernel_rfl)
set_option maxHeartbeats 2000000 in
theorem IB(p:Option Addr)(cap:Nat)(w:World):Calls Tryz.prog 88 #[.slice p 0 cap] w λe w'=>∃p',e = .returned (.slice p' 0 0)∧RowKit.Below w.heap.size w w'∧w.drawn≤w'.drawn:=by
 have q:=lV (P:=Tryz.prog) (t:=31) A6.und
 cases p with
 | none=>
  go_enter Tryz.func88,Tryz.ntmps88
  go_wp2
  go_ret
  exact⟨_,rfl,.refl _ _,KC _⟩
 | some p=>
  go_enter Tryz.func88,Tryz.ntmps88
  go_wp2
  go_ret
  exact⟨_,rfl,(RowKit.Below.refl _ w).alloc (KC _) _,KC _⟩
theorem ZW:Jp 88 ali:=fL HI IB
theorem Hr:Jp 89 Hs:=M7 (nv:=1) (h:=h89) tok mix ag Tryz.func89 (by kernel_rfl) (by kernel_rfl) (by kernel_rfl) (by kernel_rfl) (by kernel_rfl)
set_option maxHeartbeats 2000000 in
theorem IR(p:Option Addr)(cap:Nat)(w:World):Calls Tryz.prog 89 #[.slice p 0 cap] w λe w'=>∃p',e = .returned (.slice p' 0 0)∧RowKit.Below w.heap.size w w'∧w.drawn≤w'.drawn:=by
 have q:=lV (P:=Tryz.prog) (t:=33) An.und
 cases p with
 | none=>
  go_enter Tryz.func89,Tryz.ntmps89
  go_wp2
  go_ret
  exact⟨_,rfl,.refl _ _,KC _⟩
 | some p=>
  go_enter Tryz.func89,Tryz.ntmps89
  go_wp2
  go_ret
  exact⟨_,rfl,(RowKit.Below.refl _ w).alloc (KC _) _,KC _⟩
theorem Vh:Jp 89 alh:=fL Hr IR
theorem Gz:Jp 90 GQ:=M7 (nv:=1) (h:=h90) tok mix ag Tryz.func90 (by kernel_rfl) (by kernel_rfl) (by kernel_rfl) (by kernel_rfl) (by kernel_rfl)
set_option maxHeartbeats 2000000 in
theorem Ie(p:Option Addr)(cap:Nat)(w:World):Calls Tryz.prog 90 #[.slice p 0 cap] w λe w'=>∃p',e = .returned (.slice p' 0 0)∧RowKit.Below w.heap.size w w'∧w.drawn≤w'.drawn:=by
 have q:=lV (P:=Tryz.prog) (t:=34) AG.und
 cases p with
 | none=>
  go_enter Tryz.func90,Tryz.ntmps90
  go_wp2
  go_ret
  exact⟨_,rfl,.refl _ _,KC _⟩
 | some p=>
  go_enter Tryz.func90,Tryz.ntmps90
  go_wp2
  go_ret
  exact⟨_,rfl,(RowKit.Below.refl _ w).alloc (KC _) _,KC _⟩
theorem ZV:Jp 90 alg:=fL Gz Ie
theorem He:Jp 91 F4:=M7 (nv:=1) (h:=h91) tok mix ag Tryz.func91 (by kernel_rfl) (by kernel_rfl) (by kernel_rfl) (by kernel_rfl) (by kernel_rfl)
set_option maxHeartbeats 2000000 in
theorem Ib(p:Option Addr)(cap:Nat)(w:World):Calls Tryz.prog 91 #[.slice p 0 cap] w λe w'=>∃p',e = .returned (.slice p' 0 0)∧RowKit.Below w.heap.size w w'∧w.drawn≤w'.drawn:=by
 have q:=lV (P:=Tryz.prog) (t:=35) AM.und
 cases p with
 | none=>
  go_enter Tryz.func91,Tryz.ntmps91
  go_wp2
  go_ret
  exact⟨_,rfl,.refl _ _,KC _⟩
 | some p=>
  go_enter Tryz.func91,Tryz.ntmps91
  go_wp2
  go_ret
  exact⟨_,rfl,(RowKit.Below.refl _ w).alloc (KC _) _,KC _⟩
theorem ZU:Jp 91 alf:=fL He Ib
theorem G4:Jp 92 GE:=M7 (nv:=1) (h:=h92) tok mix ag Tryz.func92 (by kernel_rfl) (by kernel_rfl) (by kernel_rfl) (by kernel_rfl) (by kernel_rfl)
set_option maxHeartbeats 2000000 in
theorem H_(p:Option Addr)(cap:Nat)(w:World):Calls Tryz.prog 92 #[.slice p 0 cap] w λe w'=>∃p',e = .returned (.slice p' 0 0)∧RowKit.Below w.heap.size w w'∧w.drawn≤w'.drawn:=by
 have q:=lV (P:=Tryz.prog) (t:=32) AN.und
 cases p with
 | none=>
  go_enter Tryz.func92,Tryz.ntmps92
  go_wp2
  go_ret
  exact⟨_,rfl,.refl _ _,KC _⟩
 | some p=>
  go_enter Tryz.func92,Tryz.ntmps92
  go_wp2
  go_ret
  exact⟨_,rfl,(RowKit.Below.refl _ w).alloc (KC _) _,KC _⟩
theorem ZT:Jp 92 ale:=fL G4 H_
theorem Ez:Jp 145 DY:=M7 (nv:=1) (h:=aoH) tok mix ag Tryz.func145 (by kernel_rfl) (by kernel_rfl) (by kernel_rfl) (by kernel_rfl) (by kernel_rfl)
set_option maxHeartbeats 2000000 in
theorem Hm(p:Option Addr)(cap:Nat)(w:World):Calls Tryz.prog 145 #[.slice p 0 cap] w λe w'=>∃p',e = .returned (.slice p' 0 0)∧RowKit.Below w.heap.size w w'∧w.drawn≤w'.drawn:=by
 have q:=lV (P:=Tryz.prog) (t:=43) Aq.und
 cases p with
 | none=>
  go_enter Tryz.func145,Tryz.ntmps145
  go_wp2
  go_ret
  exact⟨_,rfl,.refl _ _,KC _⟩
 | some p=>
  go_enter Tryz.func145,Tryz.ntmps145
  go_wp2
  go_ret
  exact⟨_,rfl,(RowKit.Below.refl _ w).alloc (KC _) _,KC _⟩
theorem VP:Jp 145 afq:=fL Ez Hm
theorem ail:Jp 146 afp:=fo 4 .z ag Tryz.func146
theorem Xg:Jp 93 ald:=fo 3 .z (aa VP (aa ail ag)) Tryz.func93
theorem ana:Jp 38 al6:=fo 62 (JQ (.s .z (.s (JQ (.b (.m 14 23 2 [3,4,24,25,26,27,28,29,30,31,32,33,34,35,36,37] .z))) (JQ (.s .z (.s (JQ (.b (.m 56 61 4 [5,6] .z))) .z)))))) (aa ZY (aa ZX (aa Xh (aa ZW (aa Vh (aa ZV (aa ZU (aa ZT (aa Xg ag))))))))) Tryz.func38
theorem uB:Jp 38 Ft:=fo 62 (.s .z (.s .z (.s (.s .z (.b (.l [(14,.row (.st 2) false),(23,.v (.int .i64) [])] [3,4,14,23,24,25,26,27,28,29,30,31,32,33,34,35,36,37] [(2,[(14,.row (.st 2) false)])] .z))) (.s .z (.s .z (.s (.s .z (.b (.l [(56,.row (.st 6) false),(61,.v (.int .i64) [])] [5,6,56,61] [(4,[(56,.row (.st 6) false)])] .z))) .z)))))) (aa ZY (aa ZX (aa Xh (aa ZW (aa Vh (aa ZV (aa ZU (aa ZT (aa Xg ag))))))))) Tryz.func38
theorem Vk:Jp 39 al5:=fo 9 JX ag Tryz.func39
theorem am_:Jp 40 al4:=fo 3 .z ag Tryz.func40
theorem ZR:Jp 94 alc:=fo 9 JX ag Tryz.func94
theorem amH:Jp 95 alb:=fo 3 .z ag Tryz.func95
theorem Vj:Jp 41 al3:=fo 4 .z (aa ZR (aa amH ag)) Tryz.func41
theorem YH:Jp 203 aeB:=fo 9 JX ag Tryz.func203
theorem ah_:Jp 165 ae_:=fo 8 (JQ (.s .z (JQ (.s (JQ ((JJ [(0,Qo),(5,ge),(6,ge)] [0,5,6,7] [(2,[(0,Qo),(5,ge)])] (JQ (.s (.j [0,5,7] [(0,[(0,Qo),(5,ge)])] .z) .z))))) JW)))) (aa YH ag) Tryz.func165
theorem VK:Jp 166 ae9:=fo 4 .z ag Tryz.func166
theorem ah9:Jp 167 ae8:=fo 3 .z ag Tryz.func167
theorem GM:Jp 168 G7:=M7 (nv:=10) (h:=aoF) tok mix ag Tryz.func168 (by kernel_rfl) (by kernel_rfl) (by kernel_rfl) (by kernel_rfl) (by kernel_rfl)
theorem agk(w:World)(a b:Value)(h:(Extern.SlicesOverlaps.overlaps #[43,43] #[4] #[a,b]).run Tryz.prog w = .ok (.bool false) w):(callFunc 204 #[a,b]).run Tryz.prog w = .ok (.value (.bool false)) w:=by
 rw[run_callFunc_extern Tryz.func204 (by kernel_rfl) (by kernel_rfl) (by kernel_rfl) (e:=Extern.SlicesOverlaps.overlaps #[43,43] #[4]) (by kernel_rfl),h]
 rfl
set_option maxHeartbeats 4000000 in
set_option maxRecDepth 1000000 in
theorem aiW:lh Tryz.prog 168 43 8 204:=by
 intro b n c i vb vc w W1 W2 hi hroom hc63 hov hcp1 hcp2
 have tS:Tryz.prog.underlying 43=some (.slice 65):=by kernel_rfl
 have mixed:Tryz.prog.follows .mixedOrders=true:=Checked.mixed Tryz.checked
 have hz2:¬ ((i:Int)=(n:Int)):=by omega
 have hw1:IntKind.i64.wrap ((i:Int)+1)=(i:Int)+1:=by rw[IntKind.wrap_i64];omega
 have hw2:IntKind.i64.wrap ((n:Int)+1)=(n:Int)+1:=by rw[IntKind.wrap_i64];omega
 have hb1:(0:Int)≤(i:Int)+1:=by omega
 have hb0:(0:Int)≤(n:Int)+1:=by omega
 have hin:i≤n:=by omega
 have htn:((i:Int)+1).toNat=i+1:=by omega
 have htm:((n:Int)+1).toNat=n+1:=by omega
 have hb2:¬ (c=i+1):=by omega
 have hb3:(i:Int)≤(n:Int)+1:=by omega
 have hb4:¬ (c=i):=by omega
 go_enter Tryz.func168,Tryz.ntmps168
 go_wp2_with (simp only[hov])
 go_region_law_o (refine b9 rfl _ _ 43 43 rfl _ _ (by simp[Act.eval,Act.put]) (by simp[Act.eval,Act.put]) (hcp1 _ _ _) ?_)
 go_wp2_with (at_builtin;refine bv _ rfl _ _ 43 43 rfl _ _ rfl rfl (hcp2 _ _) ?_)
 go_ret
 exact⟨rfl,rfl⟩
set_option maxHeartbeats 4000000 in
set_option maxRecDepth 1000000 in
theorem ai3:nI Tryz.prog 168 43 3 8:=by
 intro b n i vb vc nb G w W0 W1 W2 hi hn hG hG63 hap hcpA hcpB
 have tS:Tryz.prog.underlying 43=some (.slice 65):=by kernel_rfl
 have mixed:Tryz.prog.follows .mixedOrders=true:=Checked.mixed Tryz.checked
 have hz2:¬ ((i:Int)=(n:Int)):=by omega
 have hz3:(n:Int)<(n:Int)+1:=by omega
 have hw1:IntKind.i64.wrap ((i:Int)+1)=(i:Int)+1:=by rw[IntKind.wrap_i64];omega
 have hw2:IntKind.i64.wrap ((n:Int)+1)=(n:Int)+1:=by rw[IntKind.wrap_i64];omega
 have hw3:IntKind.i64.wrap ((n:Int)+1 - (i:Int))=(n:Int)+1 - (i:Int):=by rw[IntKind.wrap_i64];omega
 have hb1:(0:Int)≤(i:Int)+1:=by omega
 have hin:i≤n:=by omega
 have htn:((i:Int)+1).toNat=i+1:=by omega
 have hb3:(i:Int)≤(n:Int):=by omega
 have hGi:¬ (G=i):=by omega
 have hGim:¬ (G=i+1):=by omega
 have hci:¬ (n=i):=by omega
 go_enter Tryz.func168,Tryz.ntmps168
 go_wp2_with (first
  | (at_builtin;refine Lib.wpList_append_run _ rfl _ _ _ _ rfl _ _ rfl rfl _ _ (hap _) ?_)
  | (at_builtin;refine bv _ rfl _ _ 43 43 rfl _ _ rfl rfl (hcpA _ _) ?_))
 go_region_law_o (refine b9 rfl _ _ 43 43 rfl (.slice (some ⟨nb,(i+1)*8,none⟩) (n - i) (G - (i+1))) (.slice (some ⟨b,i*8,none⟩) (n - i) (n - i)) (by simp[Act.eval,Act.put]) (by simp[Act.eval,Act.put]) (hcpB _ _ _) ?_)
 go_wp2
 go_ret
 exact⟨rfl,rfl⟩
theorem ah8:Jp 168 ae7:=rO tok (te:=TN) (tb:=4) (by kernel_rfl) (by kernel_rfl) (sz:=8) (by kernel_rfl) (M4.mp (by kernel_rfl)) (WG.mp (by kernel_rfl)) (by kernel_rfl:Tryz.prog.underlying 43=some (.slice 65)) (by kernel_rfl:Tryz.prog.underlying 3=some (.int .i64)) ⟨Tryz.f168,by kernel_rfl,by kernel_rfl,by kernel_rfl⟩ agk GM aiW ai3
theorem YS:Jp 119 afQ:=fo 8 (JQ (.s .z (JQ (.s .z (JQ (.s .z (.s ((JJ [(7,ge)] [7,33] [(2,[(7,ge)])] (.s JZ .z))) .z))))))) (aa ah_ (aa VK (aa ah9 (aa ah8 ag)))) Tryz.func119
theorem abV:Jp 96 ala:=fo 4 .z (aa YS ag) Tryz.func96
theorem YO:Jp 148 afo:=fo 4 (JQ (.s (.j [2] [(0,[(2,.box (.slice (.int .i64)) [0])])] .z) .z)) ag Tryz.func148
theorem VQ:Jp 144 afr:=fo 9 JX ag Tryz.func144
theorem VO:Jp 149 afn:=fo 8 (JQ (.s .z (JQ (.s (JQ ((JJ [(0,Qy),(5,ge),(6,ge)] [0,5,6,7] [(2,[(0,Qy),(5,ge)])] (JQ (.s (.j [0,5,7] [(0,[(0,Qy),(5,ge)])] .z) .z))))) JW)))) (aa VQ ag) Tryz.func149
theorem YN:Jp 150 afm:=fo 3 .z ag Tryz.func150
theorem Ew:Jp 39 Fy:=fo 9 (.s (.r [1001002]) (.s (.s .z (.b (.l [(2,.box (.slice (.int .i64)) [9997,0]),(8,.v (.int .i64) [])] [2,4,5,8] [(1,[(2,.box (.slice (.int .i64)) [9997,0]),(4,.v (.int .i64) [])]),(2,[(2,.box (.slice (.int .i64)) [9997,0])])] .z))) .z)) (aa YO ag) Tryz.func39
theorem zn:Jp 147 Ex:=fo 8 (.s (.r [1001002]) (.s .z (.s .z (.s (.s .z (.b (.l [(0,.row (.st 7) false),(2,.box (.slice (.int .i64)) [9997,0]),(5,.v (.int .i64) []),(6,.v (.int .i64) [])] [0,2,5,6,7] [(2,[(0,.row (.st 7) false),(2,.box (.slice (.int .i64)) [9997,0]),(5,.v (.int .i64) [])])] (.s .z (.s (.j [0,2,5,7] [(0,[(0,.row (.st 7) false),(2,.box (.slice (.int .i64)) [9997,0]),(5,.v (.int .i64) [])])] .z) .z))))) (.s .z (.s (.r [9998]) .z)))))) (aa YO (aa Ew ag)) Tryz.func147
theorem amG:Jp 97 ak_:=fo 7 .z (aa VO (aa YN (aa zn ag))) Tryz.func97
theorem EX:Jp 97 Em:=fo 7 .z (aa VO (aa YN (aa zn ag))) Tryz.func97
theorem am9:Jp 42 al2:=fo 6 .z (aa abV (aa amG ag)) Tryz.func42
set_option maxHeartbeats 4000000 in
set_option maxRecDepth 1000000 in
theorem aoO:lj Tryz.prog 43:=by
 constructor
 ·intro b n cap i w hn hj
  go_enter Tryz.func43,Tryz.ntmps43
  go_wp2
  all_goals (go_ret;exact⟨rfl,rfl⟩)
 ·intro p w;cases p
  ·go_enter Tryz.func43,Tryz.ntmps43
   go_wp2
   all_goals (go_ret;exact⟨rfl,rfl⟩)
  ·go_enter Tryz.func43,Tryz.ntmps43
   go_wp2
   all_goals (go_ret;exact⟨rfl,rfl⟩)
set_option maxHeartbeats 4000000 in
set_option maxRecDepth 1000000 in
theorem aoM:lp Tryz.prog 43 33 59 9:=by
 intro b n cap i j w hn hm hlt hj i0 hi0 hz1 A hA news s1 hsrc s2 s3 W1 W2 hW hcl
 have hic:i≤cap:=by omega
 have hjc:j≤cap:=by omega
 have tS:Tryz.prog.underlying 33=some (.slice 59):=by kernel_rfl
 have mixed:Tryz.prog.follows .mixedOrders=true:=Checked.mixed Tryz.checked
 go_enter Tryz.func43,Tryz.ntmps43
 go_wp2_with fail
 go_region_law_o (refine step_append_room rfl (.tmp 22) (.tmp 25) 33 rfl 59 i0 9 tS hi0 hz1 b 0 i cap (by simp[Act.eval,Act.put]) A (n - j) (cap - j) news (by simp[Act.eval,Act.put]) s1.out hsrc.out s2.out (by omega) s3.out ?_;rw[← hW.out])
 go_wp2
 go_ret
 exact⟨rfl,rfl⟩
theorem abZ:Jp 43 al1:=pZ tok (te:=TP) (by kernel_rfl) (by kernel_rfl) (sz:=9) (by kernel_rfl) (M4.mp (by kernel_rfl)) (by kernel_rfl:Tryz.prog.underlying 33=some (.slice 59)) ⟨Tryz.f43,by kernel_rfl,by kernel_rfl,by kernel_rfl⟩ aoO aoM
theorem abY:Jp 44 al0:=fo 9 JX ag Tryz.func44
set_option maxHeartbeats 4000000 in
set_option maxRecDepth 1000000 in
theorem aoN:lj Tryz.prog 45:=by
 constructor
 ·intro b n cap i w hn hj
  go_enter Tryz.func45,Tryz.ntmps45
  go_wp2
  all_goals (go_ret;exact⟨rfl,rfl⟩)
 ·intro p w;cases p
  ·go_enter Tryz.func45,Tryz.ntmps45
   go_wp2
   all_goals (go_ret;exact⟨rfl,rfl⟩)
  ·go_enter Tryz.func45,Tryz.ntmps45
   go_wp2
   all_goals (go_ret;exact⟨rfl,rfl⟩)
set_option maxHeartbeats 4000000 in
set_option maxRecDepth 1000000 in
theorem aoL:lp Tryz.prog 45 22 3 1:=by
 intro b n cap i j w hn hm hlt hj i0 hi0 hz1 A hA news s1 hsrc s2 s3 W1 W2 hW hcl
 have hic:i≤cap:=by omega
 have hjc:j≤cap:=by omega
 have hA2:=hA;rw[Nat.mul_one]at hA2;have aog:=hcl;simp only[Nat.mul_one]at aog
 have tS:Tryz.prog.underlying 22=some (.slice 3):=by kernel_rfl
 have mixed:Tryz.prog.follows .mixedOrders=true:=Checked.mixed Tryz.checked
 go_enter Tryz.func45,Tryz.ntmps45
 go_wp2_with fail
 go_region_law_o (refine step_append_room rfl (.tmp 22) (.tmp 25) 22 rfl 3 i0 1 tS hi0 hz1 b 0 i cap (by simp[Act.eval,Act.put]) A (n - j) (cap - j) news (by simp[Act.eval,Act.put]) s1.out hsrc.out s2.out (by omega) s3.out ?_;rw[← hW.out])
 go_wp2
 go_ret
 exact⟨rfl,rfl⟩
theorem am8:Jp 45 alZ:=pZ tok (te:=ZO) (by kernel_rfl) (by kernel_rfl) (sz:=1) (by kernel_rfl) (M4.mp (by kernel_rfl)) (by kernel_rfl:Tryz.prog.underlying 22=some (.slice 3)) ⟨Tryz.f45,by kernel_rfl,by kernel_rfl,by kernel_rfl⟩ aoN aoL
theorem PO:Jp 20 amn:=fo 17 (JQ (.s .z (.s (JQ ((JJ [(2,QV),(16,ge)] [2,6,7,8,9,10,11,13,16,40] [(2,[(2,QV)])] (JQ (.s .z (.s (.j [2,6,7,8,9,10,11,40] [(0,[(2,QV)])] (.b (JQ (.s .z (JQ (.s .z (JQ (.s (.s (.j [] [(0,[(40,gt)])] .z) .z) (JQ (.s .z (JQ (.s (.j [10,11] [(0,[(10,QZ)])] .z) .z)))))))))))) .z)))))) .z))) (aa ana (aa Vk (aa am_ (aa Vj (aa am9 (aa abZ (aa abY (aa am8 ag)))))))) Tryz.func20
set_option maxHeartbeats 4000000 in
set_option maxRecDepth 1000000 in
theorem ai9(s:ByteArray)(w:World)(hascii:∀(j:Nat) b,s.data.toList[j]? = some b→b.toNat<128) :
  Calls Tryz.prog 134 #[.string s] w λe w'=>e = .returned (.bool (Zt 12 s))∧∃k,w'=w.iter s k:=by
 have HA:Aside (∀(j:Nat) b,s.data.toList[j]? = some b→b.toNat<128):=hascii;clear hascii
 go_enter Tryz.func134,Tryz.ntmps134
 go_wp2
 go_loopg [4] s.size (λg s2 wx=>∃i:Nat,i+g=s.size∧wx=w.iter s i∧Hid (∀(j:Nat) b,s.data.toList[j]? = some b→j<i→UM b=true))
 case atStart=>exact⟨0,by omega,rfl,λj b _ h=>absurd h (Nat.not_lt_zero _)⟩
 case round=>
  obtain⟨i,hig,rfl,hN⟩:=hrel
  cases gk with
  | zero=>
   obtain rfl:i=s.size:=by omega
   have hall:=ID hN.out;have HL:Aside (s.data.toList.all UM=true):=hall;clear hall;have hnx:=run_next_end (P:=Tryz.prog) w s s.size
   go_wp2
   ·rename_i he
    go_ret
    refine⟨?_,_,rfl⟩;unfold Zt;rw[Lib.toList_data]at he;rw[he];rfl
   ·go_ret
    refine⟨?_,_,rfl⟩;unfold Zt;rw[HL.out,← H6 s 12,← Lib.toList_data];rfl
  | succ g=>
   have hi:i<s.size:=by omega
   have ha:(s[i]'hi).toNat<128:=HA.out i _ (Lib.data_getElem? s i hi);have hnx:=λty=>run_next_ascii (P:=Tryz.prog) w s i ty hi ha;obtain⟨c,hc⟩:∃c:Nat,c=(s[i]'hi).toNat:=⟨_,rfl⟩;rw[← hc]at hnx ha;have HC:Aside (c=(s[i]'hi).toNat):=hc;clear hc;by_cases hz:97≤c∧c≤122
   ·have z1:¬ ((c:Int)<97):=by omega
    have z2:¬ ((c:Int)>122):=by omega
    go_wp2
    go_roundg g
    case measure=>omega
    case rel=>exact⟨i+1,by omega,rfl,vZ hi hN.out HC.out (.inl hz)⟩
   by_cases hd:48≤c∧c≤57
   ·have z1:((c:Int)<97):=by omega
    have z2:¬ ((c:Int)<48):=by omega
    have z3:¬ ((c:Int)>57):=by omega
    go_wp2
    go_roundg g
    case measure=>omega
    case rel=>exact⟨i+1,by omega,rfl,vZ hi hN.out HC.out (.inr (.inl hd))⟩
   by_cases hh:c=45
   ·have HH:Aside (c=45):=hh;clear hz hd;subst hh
    go_wp2
    go_roundg g
    case measure=>omega
    case rel=>exact⟨i+1,by omega,rfl,vZ hi hN.out HC.out (.inr (.inr rfl))⟩
   have HF:=GW hi HC.out (by omega)
   have HF2:Aside (s.data.toList.all UM=false):=HF;clear HF
   have z5:¬ ((c:Int)=45):=by omega
   by_cases h1:c<97
   ·have z1:((c:Int)<97):=by omega
    by_cases h2:c<48
    ·have z2:((c:Int)<48):=by omega
     clear h1 h2 hz hd hh
     go_wp2
     go_ret
     refine⟨?_,_,rfl⟩;unfold Zt;rw[HF2.out];rfl
    ·have z2:¬ ((c:Int)<48):=by omega
     have z3:((c:Int)>57):=by omega
     clear h1 h2 hz hd hh
     go_wp2
     go_ret
     refine⟨?_,_,rfl⟩;unfold Zt;rw[HF2.out];rfl
   ·have z1:¬ ((c:Int)<97):=by omega
    have z2:((c:Int)>122):=by omega
    have z3:¬ ((c:Int)<48):=by omega
    have z4:((c:Int)>57):=by omega
    clear h1 hz hd hh
    go_wp2
    go_ret
    refine⟨?_,_,rfl⟩;unfold Zt;rw[HF2.out];rfl
theorem YR:Jp 134 afB:=HD ⟨Tryz.f134,by kernel_rfl,by kernel_rfl,by kernel_rfl⟩ ai9
theorem amW:Jp 58 alM:=fo 10 (JQ (.s .z (.s (JQ ((JJ [(3,Qt),(9,ge)] [2,3,4,5,6,9,28] [(1,[(2,ge)]),(2,[(3,Qt)])] (JQ (.s .z (.s (.b (JQ (.s JT .z))) .z)))))) .z))) (aa YR ag) Tryz.func58
theorem ahz:Jp 218 aep:=fo 6 (JQ (.s (JQ ((JJ [(5,ge)] [4,5] [(1,[(4,ge)]),(2,[])] .z))) .z)) ag Tryz.func218
theorem ahe:Jp 266 adR:=fo 9 (JQ (.s .z (.s (JQ ((JJ [(4,Q0),(5,ge)] [4,5] [(2,[(4,Q0)])] .z))) (JQ (.s (JQ ((JJ [(6,Q0),(7,Q0),(8,ge)] [6,7,8] [(4,[(6,Q0)])] (JQ (.s (.b (.s (.j [6] [(0,[(6,Q0)])] .z) .z)) .z))))) .z))))) ag Tryz.func266
theorem ahy:Jp 219 aeo:=fo 12 (JQ (.s .z (JQ (.s .z (JQ (.s (JQ ((JJ [(9,Q0),(10,ge)] [9,10] [(2,[(9,Q0)])] .z))) (.s (.s (.j [] [(0,[(47,gt)])] .z) .z) (.s (JQ ((JJ [(9,Q0),(11,ge)] [4,9,11,85] [(1,[(4,ge)]),(4,[])] (JQ (.s (.b (JQ (.s .z (JQ (.s (.j [] [(0,[(85,gt)])] .z) .z))))) .z))))) .z)))))))) (aa ahe ag) Tryz.func219
theorem ahX:Jp 182 aeT:=fo 6 .z (aa ahz (aa ahy ag)) Tryz.func182
theorem VR:Jp 135 afA:=fo 5 .z (aa ahX ag) Tryz.func135
theorem ahc:Jp 270 adP:=fo 5 .z ag Tryz.func270
theorem agY:Jp 307 adv:=fo 13 .z ag Tryz.func307
theorem ahb:Jp 271 adO:=fo 3 (JQ (.s J0 .z)) (aa agY ag) Tryz.func271
theorem ahv:Jp 224 aej:=fo 10 (JQ (.s .z (.s (.j [1,18] [(0,[(1,ge)])] (.s (.j [] [(0,[(18,gt)])] .z) .z)) (JQ (.s (JQ ((JJ [(0,f8),(6,Q4),(7,ge)] [0,6,7,8,9] [(2,[(0,f8),(6,Q4)])] .z))) (.s (.j [6] [(0,[(6,Q4)])] .z) .z)))))) (aa ahc (aa ahb ag)) Tryz.func224
theorem ai7(s:ByteArray)(c:UInt8)(w:World):Calls Tryz.prog 225 #[.string s,.string ⟨#[c]⟩] w λe w'=>e = .returned (.int .i64 (Lib.countByte s.data.toList c))∧w'=w:=by
 go_enter Tryz.func225,Tryz.ntmps225
 go_wp2
 rw[run_callFunc_extern Tryz.func272 (by kernel_rfl) (by kernel_rfl) (by kernel_rfl) (e:=Extern.BytealgCount.count) (by kernel_rfl),Lib.run_countString]
 simp only[Result.andThen];rw[Oper.upon_value]
 go_wp2
 go_ret
 exact⟨rfl,rfl⟩
theorem ahu:Jp 225 aei:=Ge ⟨Tryz.f225,by kernel_rfl,by kernel_rfl,by kernel_rfl⟩ ai7
theorem ai6(s:ByteArray)(c:Int)(w:World):Calls Tryz.prog 308 #[.string s,.int .u8 c] w λe w'=>e = .returned (.int .i64 (Lib.indexByte s.data.toList c.toNat.toUInt8))∧w'=w:=by
 go_enter Tryz.func308,Tryz.ntmps308
 go_wp2
 rw[run_callFunc_extern Tryz.func342 (by kernel_rfl) (by kernel_rfl) (by kernel_rfl) (e:=Extern.BytealgIndexByte.indexByte) (by kernel_rfl),Lib.run_indexByteString]
 simp only[Result.andThen];rw[Oper.upon_value]
 go_wp2
 go_ret
 exact⟨rfl,rfl⟩
theorem agX:Jp 308 adu:=IU ⟨Tryz.f308,by kernel_rfl,by kernel_rfl,by kernel_rfl⟩ ai6
theorem Yu:Jp 273 adN:=fo 14 (JQ (.s .z (.s (.b J1) .z))) (aa agX ag) Tryz.func273
theorem aht:Jp 226 aeh:=fo 2 .z (aa Yu ag) Tryz.func226
theorem ahP:Jp 190 aeL:=fo 12 (JQ (.s .z (JQ (.s (.j [3] [(0,[(3,ge)])] .z) (JQ (.s .z (JQ (.s .z (.s ((JJ [(0,f8),(9,Q4),(10,ge)] [0,9,10,11] [(2,[(0,f8),(9,Q4),(10,ge)])] .z)) JW))))))))) (aa ahv (aa ahu (aa aht ag))) Tryz.func190
theorem VN:Jp 152 afk:=fo 2 .z (aa ahP ag) Tryz.func152
theorem YE:Jp 220 aen:=fo 9 JX ag Tryz.func220
theorem ahW:Jp 183 aeS:=fo 2 .z (aa YE ag) Tryz.func183
theorem ahV:Jp 184 aeR:=fo 1 .z (aa YR ag) Tryz.func184
theorem aip:Jp 136 afz:=fo 1 .z (aa VN (aa ahW (aa ahV ag))) Tryz.func136
theorem ahx:Jp 221 aem:=fo 9 JX ag Tryz.func221
theorem ahU:Jp 185 aeQ:=fo 2 .z (aa ahx ag) Tryz.func185
theorem ahT:Jp 186 aeP:=fo 2 .z ag Tryz.func186
theorem aio:Jp 137 afy:=fo 1 .z (aa ahU (aa ahT ag)) Tryz.func137
theorem amV:Jp 59 alL:=fo 14 (JQ (.s .z (JQ (.s (JQ ((JJ [(3,Qt),(4,f8),(13,ge)] [2,3,4,5,6,7,8,9,13,29,38,46] [(1,[(2,ge)]),(2,[])] (JQ (.s .z (.s (.b (JQ (.s .z (.s (.b (JQ (.c .z (.s (.j [] [(0,[(29,gt)])] .z) (.c .z (.s (.j [] [(0,[(38,gt)])] .z) (.c .z (.s (.j [] [(0,[(46,gt)])] .z) .z)))))))) .z)))) .z)))))) .z)))) (aa VR (aa aip (aa aio ag))) Tryz.func59
theorem TW:Jp 138 afx:=fo 14 (JQ (.s .z (.s (JQ ((JJ [(5,t6),(13,ge)] [5,7,8,9,13,28] [(2,[(5,t6)])] (JQ (.s .z (.s (.j [5,7,8,9,28] [(0,[(5,t6)])] (.b (JQ (.s .z JT)))) .z)))))) .z))) (aa VR ag) Tryz.func138
theorem ahS:Jp 187 aeO:=fo 9 JX ag Tryz.func187
theorem ahR:Jp 188 aeN:=fo 3 .z ag Tryz.func188
theorem TV:Jp 139 afw:=fo 8 .z (aa Xh (aa ahS (aa ahR ag))) Tryz.func139
theorem amU:Jp 60 alK:=fo 53 (JQ (.s (JQ ((JJ [(20,ge)] [2,4,20,21,22,23,24,25,26,27,28,29,30,31,32] [(1,[(2,ge)]),(2,[])] (JQ (.s .z (.s (.b (JQ (.s (.j [24,25,26,27,28,29,30,31] [(0,[(31,gt)])] .z) .z))) .z)))))) (.s (JQ ((JJ [(36,ge)] [2,6,7,8,9,11,12,13,36,37,38,39,40,41,42,43,44,45,46,47,48,49,50,51,52,77] [(1,[(2,ge)]),(4,[])] (JQ (.s .z (.s (.b (JQ (.s .z (JQ ((JJ [(47,ge)] [2,8,9,11,12,13,47,48,49,50,51,52,77] [(1,[(2,ge)]),(6,[])] (JQ (.s .z (.s (.b (JQ (.s .z (.s (JQ ((JJ [(9,ge),(52,ge)] [9,11,12,13,52] [(8,[(9,ge)])] .z))) (.s (.j [] [(0,[(77,gt)])] .z) .z))))) .z))))))))) .z)))))) .z))) (aa TW (aa TV ag)) Tryz.func60
theorem ab2:Jp 22 aml:=fo 5 (JQ (.s JV (JQ (.s (.s (.j [] [(0,[(38,gt)])] .z) .z) .z)))) (aa amW (aa amV (aa amU ag))) Tryz.func22
theorem Rx:Jp 57 alN:=fo 3 .z ag Tryz.func57
theorem PN:Jp 73 aly:=fo 2 .z ag Tryz.func73
theorem Z0:Jp 80 alq:=fo 3 .z (aa TW (aa TV ag)) Tryz.func80
shelf_lay Go.Proofs.Lays.n160 Nm 160 at Tryz as layT222
shelf_lay Go.Proofs.Lays.n172 Nm 172 at Tryz as layA222
theorem ajt(b:UInt8)(r:List UInt8)(h6:r.length≤6)(hd:(b::r).all Ol=true)(w:World):Calls Tryz.prog 267 #[.string ⟨⟨b::r⟩⟩,.string Mq] w λe w'=>e = .returned (.string ⟨#[]⟩)∧Below w.heap.size w w'∧w.drawn≤w'.drawn:=by
 have hs:(⟨⟨b::r⟩⟩:ByteArray).size=r.length+1:=rfl
 refine(Any.strings_Trim_set (ρ:=layT222_ren) layT222 (by intro w;kernel_rfl) (by kernel_rfl) ⟨⟨b::r⟩⟩ Mq w (by decide) (by omega) (by omega) (by decide) tN).mono ?_
 rintro e w' ⟨rfl,q,rfl⟩;have e1:Lib.trimS (⟨⟨b::r⟩⟩:ByteArray).data.toList Mq.data.toList = []:=Ae hd;rw[e1]
 exact⟨rfl,su (((Below.refl _ w).alloc (KC _) _).alloc (by rw[World.size_alloc];omega) _) q,Nat.le_add_right _ _⟩
theorem ajx(b:UInt8)(r:List UInt8)(n:Int)(h6:r.length≤6)(hn:Lib.atoi (b::r)=some n)(w:World):Calls Tryz.prog 268 #[.string ⟨⟨b::r⟩⟩] w λe w'=>e = .returned (.tuple #[.int .i64 n,.nilIface])∧Below w.heap.size w w'∧w.drawn≤w'.drawn:=by
 have hs:(⟨⟨b::r⟩⟩:ByteArray).size=r.length+1:=rfl
 refine(Any.strconv_Atoi (ρ:=layA222_ren) layA222 ⟨⟨b::r⟩⟩ n (by omega) hn w).mono ?_
 rintro e w' ⟨rfl,t,rfl⟩;exact⟨rfl,(yW w _ t).1,(yW w _ t).2⟩
set_option maxHeartbeats 4000000 in
set_option maxRecDepth 1000000 in
theorem ai8:acE Tryz.prog 222:=by
 intro b r n w h6 h0 hd hn;have hT:=ajt b r h6 hd;have hA:=ajx b r n h6 hn;have hs:(⟨⟨b::r⟩⟩:ByteArray).size=r.length+1:=rfl
 have z1:¬ (((r.length+1:Nat):Int)>7):=by omega
 clear hd hn;unfold Mq at hT
 have e267:∀args w,(callFunc 267 args).run Tryz.prog w = .ok (.enter 267 args) w:=enters_of Tryz.func267 (by kernel_rfl) rfl
 have e268:∀args w,(callFunc 268 args).run Tryz.prog w = .ok (.enter 268 args) w:=enters_of Tryz.func268 (by kernel_rfl) rfl
 rcases h0 with rfl | h0
 ·go_enter Tryz.func222,Tryz.ntmps222
  go_wp2_with (first | (go_at_fn 267;refine(hT w).mono ?_;rintro e w1 ⟨rfl,hb1,hd1⟩) | (go_at_fn 268;refine(hA _).mono ?_;rintro e w2 ⟨rfl,hb2,hd2⟩))
  go_ret2
  exact⟨rfl,hb1.trans (hb2.mono hb1.size),MP hd1 hd2⟩
 ·have z2:¬ (((b.toNat:Nat):Int)=48):=by omega
  go_enter Tryz.func222,Tryz.ntmps222
  by_cases hr:r = []
  ·subst hr
   go_wp2_with (first | (go_at_fn 267;refine(hT w).mono ?_;rintro e w1 ⟨rfl,hb1,hd1⟩) | (go_at_fn 268;refine(hA _).mono ?_;rintro e w2 ⟨rfl,hb2,hd2⟩))
   go_ret2
   exact⟨rfl,hb1.trans (hb2.mono hb1.size),MP hd1 hd2⟩
  ·have z3:((r.length:Int)+1)>1:=by have:r.length≠0:=λh=>hr (O9 h);omega
   have z4:¬ (7<(r.length:Int)+1):=by omega
   have z5:((((⟨⟨b::r⟩⟩:ByteArray)[0]'(by rw[hs];omega)).toNat:Int) == 48)=false:=by
    have e:((⟨⟨b::r⟩⟩:ByteArray)[0]'(by rw[hs];omega))=b:=rfl
    rw[e,beq_eq_false_iff_ne];exact z2
   clear hr z2
   go_wp2_with (first | (go_at_fn 267;refine(hT w).mono ?_;rintro e w1 ⟨rfl,hb1,hd1⟩) | (go_at_fn 268;refine(hA _).mono ?_;rintro e w2 ⟨rfl,hb2,hd2⟩))
   go_ret2
   exact⟨rfl,hb1.trans (hb2.mono hb1.size),MP hd1 hd2⟩
theorem aju(s:List UInt8)(h1:1≤s.length)(h7:s.length≤7)(hd:s.all Ol=false)(w:World):Calls Tryz.prog 267 #[.string ⟨⟨s⟩⟩,.string Mq] w λe w'=>(∃b l,e = .returned (.string ⟨⟨b::l⟩⟩))∧Below w.heap.size w w'∧w.drawn≤w'.drawn:=by
 have hs:(⟨⟨s⟩⟩:ByteArray).size=s.length:=rfl
 refine(Any.strings_Trim_set (ρ:=layT222_ren) layT222 (by intro w;kernel_rfl) (by kernel_rfl) ⟨⟨s⟩⟩ Mq w (by decide) (by omega) (by omega) (by decide) tN).mono ?_
 rintro e w' ⟨rfl,q,rfl⟩
 refine⟨?_,su (((Below.refl _ w).alloc (KC _) _).alloc (by rw[World.size_alloc];omega) _) q,Nat.le_add_right _ _⟩
 cases e2:Lib.trimS (⟨⟨s⟩⟩:ByteArray).data.toList Mq.data.toList with
 | nil=>exact absurd e2 (Hl hd)
 | cons b l=>exact⟨b,l,rfl⟩
set_option maxHeartbeats 4000000 in
set_option maxRecDepth 1000000 in
theorem ajf:acF Tryz.prog 222:=by
 intro s w hno
 have e267:∀args w,(callFunc 267 args).run Tryz.prog w = .ok (.enter 267 args) w:=enters_of Tryz.func267 (by kernel_rfl) rfl
 have hs:(⟨⟨s⟩⟩:ByteArray).size=s.length:=rfl
 match s with
 | []=>
  go_enter Tryz.func222,Tryz.ntmps222
  go_wp2
  go_ret2
  exact⟨rfl,.refl _ _,KC _⟩
 | b::r=>
  by_cases h7:r.length≤6
  ·have z1:¬ (((r.length+1:Nat):Int)>7):=by omega
   have hs:(⟨⟨b::r⟩⟩:ByteArray).size=r.length+1:=rfl;by_cases h0:r≠[]∧b.toNat=48
   ·have z3:((r.length:Int)+1)>1:=by have:r.length≠0:=λh=>h0.1 (O9 h);omega
    have z4:¬ (7<(r.length:Int)+1):=by omega
    have z5:((((⟨⟨b::r⟩⟩:ByteArray)[0]'(by rw[hs];omega)).toNat:Int) == 48)=true:=by
     have e:((⟨⟨b::r⟩⟩:ByteArray)[0]'(by rw[hs];omega))=b:=rfl
     rw[e,beq_iff_eq];omega
    clear h0 hno
    go_enter Tryz.func222,Tryz.ntmps222
    go_wp2
    go_ret2
    exact⟨rfl,.refl _ _,KC _⟩
   ·have hd:(b::r).all Ol=false:=by
     rw[QfB];intro hd;simp only[TB,KV]at hd
     have:isNum (b::r)=true:=by
      simp only[isNum,KV,PE,WG,QeG,Rp,hd.1,hd.2,and_true];refine⟨h7,?_⟩;by_cases hr:r = []
      ·exact .inl hr
      ·exact .inr (by rw[QfB];intro e;exact h0 ⟨hr,M_ e⟩)
     rw[hno]at this;cases this
    have hT:=aju (b::r) (by simp) (by simp;omega) hd
    clear hd hno;unfold Mq at hT;by_cases hr:r = []
    ·subst hr
     go_enter Tryz.func222,Tryz.ntmps222
     go_wp2_with (go_at_fn 267;refine(hT w).mono ?_;rintro e w1 ⟨⟨b1,l1,rfl⟩,hb1,hd1⟩)
     go_ret2
     exact⟨rfl,hb1,hd1⟩
    ·have z3:((r.length:Int)+1)>1:=by have:r.length≠0:=λh=>hr (O9 h);omega
     have z4:¬ (7<(r.length:Int)+1):=by omega
     have z5:((((⟨⟨b::r⟩⟩:ByteArray)[0]'(by rw[hs];omega)).toNat:Int) == 48)=false:=by
      have e:((⟨⟨b::r⟩⟩:ByteArray)[0]'(by rw[hs];omega))=b:=rfl
      rw[e,beq_eq_false_iff_ne];intro e
      exact h0 ⟨hr,by omega⟩
     clear hr h0
     go_enter Tryz.func222,Tryz.ntmps222
     go_wp2_with (go_at_fn 267;refine(hT w).mono ?_;rintro e w1 ⟨⟨b1,l1,rfl⟩,hb1,hd1⟩)
     go_ret2
     exact⟨rfl,hb1,hd1⟩
  ·have z1:((r.length+1:Nat):Int)>7:=by omega
   go_enter Tryz.func222,Tryz.ntmps222
   go_wp2
   go_ret2
   exact⟨rfl,.refl _ _,KC _⟩
theorem YD:Jp 222 ael:=Ij ⟨Tryz.f222,by kernel_rfl,by kernel_rfl,by kernel_rfl⟩ ai8 ajf
theorem agZ:Jp 306 adw:=fo 8 .z (aa Yu ag) Tryz.func306
theorem ahd:Jp 269 adQ:=fo 6 .z (aa agZ ag) Tryz.func269
theorem ahw:Jp 223 aek:=fo 10 .z (aa YD (aa ahd ag)) Tryz.func223
theorem ahQ:Jp 189 aeM:=fo 45 (JQ (.s .z (JQ (.s .z (JQ (.s (JQ ((JJ [(6,gt),(7,Q8),(44,ge)] [6,7,9,10,11,44] [(2,[(6,gt),(7,Q8)])] (JQ (.s .z (.s (.b (JQ (.s .z (.s (.j [6] [(0,[(6,gt)])] .z) .z)))) .z)))))) .z)))))) (aa YD (aa ahw ag)) Tryz.func189
theorem aik:Jp 151 afl:=fo 2 (JQ (.s (.b (JQ (.c .z (.s (.j [] [(0,[(9,gt)])] .z) (.c .z (.s (.j [] [(0,[(43,gt)])] .z) .z)))))) .z)) (aa ahQ ag) Tryz.func151
theorem ahO:Jp 191 aeK:=fo 8 (JQ (.s .z (JQ (.s (JQ ((JJ [(0,Q4),(5,ge),(6,ge)] [0,5,6,7] [(2,[(0,Q4),(5,ge)])] (JQ (.s (.j [0,5,7] [(0,[(0,Q4),(5,ge)])] .z) .z))))) JW)))) (aa YE ag) Tryz.func191
theorem ahN:Jp 192 aeJ:=fo 1 .z ag Tryz.func192
theorem aij:Jp 153 afj:=fo 1 .z (aa VN (aa ahO (aa ahN ag))) Tryz.func153
theorem ahs:Jp 227 aeg:=fo 10 (JQ ((JJ [(0,t8),(8,ge)] [0,8,9,34] [(2,[(0,t8)])] (JQ (.s (.b (JQ ((JJ [(0,t8),(9,ge)] [0,9,34] [(4,[(0,t8)])] JU)))) .z))))) ag Tryz.func227
theorem agW:Jp 312 adt:=fo 11 (JQ ((JJ [(0,t8),(10,ge)] [0,10] [(2,[(0,t8)])] .z))) ag Tryz.func312
theorem aha:Jp 274 adM:=fo 12 (JQ (.s .z (.s ((JJ [(0,t8),(10,ge),(11,ge)] [0,10,11] [(2,[(0,t8),(10,ge)])] .z)) .z))) (aa agW ag) Tryz.func274
theorem AP:∀n,Lf Tryz.prog 228 (GP n)
 | 0=>⟨⟨Tryz.f228,by kernel_rfl,by kernel_rfl,by kernel_rfl⟩,λa r hr=>nomatch (show(none:Option _)=some r from hr)⟩
 | n+1=>M7 (nv:=25) (h:=aoD) tok mix (aa (AP n) (aa aha ag)) Tryz.func228 (by kernel_rfl) (by kernel_rfl) (by kernel_rfl) (by kernel_rfl) (by kernel_rfl)
theorem ahr:Jp 228 aef:=AP 64
theorem ahM:Jp 193 aeI:=fo 10 (JQ (.s .z (.s ((JJ [(0,t8),(7,ge),(8,ge)] [0,7,8] [(2,[(0,t8),(7,ge)])] .z)) (JQ ((JJ [(0,t8),(6,ge)] [0,6,7,8,9] [(4,[(0,t8)])] (JQ (.b (JQ (.s ((JJ [(0,t8),(7,ge),(8,ge)] [0,7,8] [(6,[(0,t8),(7,ge)])] .z)) (.s (.j [0,9] [(0,[(0,t8)])] .z) .z))))))))))) (aa ahs (aa ahr ag)) Tryz.func193
theorem aii:Jp 154 afi:=fo 2 .z (aa ahM ag) Tryz.func154
theorem ahL:Jp 194 aeH:=fo 1 .z ag Tryz.func194
theorem VL:Jp 156 afg:=fo 7 .z (aa ahL ag) Tryz.func156
theorem aif:Jp 155 afh:=fo 4 .z (aa VL ag) Tryz.func155
theorem amF:Jp 98 ak9:=fo 51 (JQ (.s .z (JQ (.s .z (.s (JQ ((JJ [(2,Qb),(4,Qm),(22,ge)] [2,3,4,7,8,22,23,24,25,26,27,28,29,30,31,32,33,34] [(1,[(2,Qb),(3,ge)]),(2,[(2,Qb),(4,Qm)])] .z))) (JQ (.s .z (JQ (.s (JQ ((JJ [(2,Qb),(50,ge)] [2,3,10,50,68] [(1,[(2,Qb),(3,ge)]),(4,[(2,Qb)])] (JQ (.s .z (.s (.b (JQ (.s (.j [] [(0,[(68,gt)])] .z) .z))) .z)))))) .z))))))))) (aa aik (aa VN (aa aij (aa aii (aa aif ag))))) Tryz.func98
theorem amE:Jp 99 ak8:=fo 14 (JQ (.s .z (.s (JQ ((JJ [(13,ge)] [4,5,13] [(1,[(4,gt)]),(2,[])] .z))) .z))) ag Tryz.func99
theorem am7:Jp 46 alY:=fo 59 (JQ (.s .z (.s (.j [4,17,18,19,20] [(0,[(4,ge)])] .z) (JQ (.s .z (.s (.s (.j [32,33,34,35,36,37,38,39,40,41,42,43,44,45,46,47,48,49,50] [(0,[(50,gt)])] .z) .z) (.s (JQ ((JJ [(2,QT),(58,ge)] [2,7,58,70] [(1,[(2,QT)]),(2,[(2,QT)])] (JQ (.s .z (.s (.b (JQ (.s (.j [] [(0,[(70,gt)])] .z) .z))) .z)))))) .z))))))) (aa ab2 (aa Rx (aa PN (aa Z0 (aa amF (aa amE ag)))))) Tryz.func46
theorem am6:Jp 47 alX:=fo 7 .z (aa Rx ag) Tryz.func47
theorem aie:Jp 157 aff:=fo 4 .z ag Tryz.func157
theorem YZ:Jp 100 af_:=fo 62 (JQ (.s .z (.s (JQ ((JJ [(14,t8),(23,ge)] [3,4,14,23,24,25,26,27,28,29,30,31,32,33,34,35,36,37] [(2,[(14,t8)])] .z))) (JQ (.s .z (.s (JQ ((JJ [(56,ac),(61,ge)] [5,6,56,61] [(4,[(56,ac)])] .z))) .z)))))) (aa ZY (aa ZX (aa Xh (aa ZW (aa Vh (aa ZV (aa ZU (aa ZT (aa VP (aa aie ag)))))))))) Tryz.func100
theorem YQ:Jp 141 afu:=fo 9 JX ag Tryz.func141
theorem aic:Jp 158 afe:=fo 4 .z ag Tryz.func158
theorem VW:Jp 101 af9:=fo 3 .z (aa YQ (aa aic ag)) Tryz.func101
theorem aiN:Jp 102 af8:=fo 2 .z ag Tryz.func102
theorem Hu:Jp 103 Hn:=M7 (nv:=10) (h:=aoJ) tok mix ag Tryz.func103 (by kernel_rfl) (by kernel_rfl) (by kernel_rfl) (by kernel_rfl) (by kernel_rfl)
theorem agm(w:World)(a b:Value)(h:(Extern.SlicesOverlaps.overlaps #[31,31] #[4] #[a,b]).run Tryz.prog w = .ok (.bool false) w):(callFunc 159 #[a,b]).run Tryz.prog w = .ok (.value (.bool false)) w:=by
 rw[run_callFunc_extern Tryz.func159 (by kernel_rfl) (by kernel_rfl) (by kernel_rfl) (e:=Extern.SlicesOverlaps.overlaps #[31,31] #[4]) (by kernel_rfl),h]
 rfl
set_option maxHeartbeats 4000000 in
set_option maxRecDepth 1000000 in
theorem aiY:lh Tryz.prog 103 31 8 159:=by
 intro b n c i vb vc w W1 W2 hi hroom hc63 hov hcp1 hcp2
 have tS:Tryz.prog.underlying 31=some (.slice 42):=by kernel_rfl
 have mixed:Tryz.prog.follows .mixedOrders=true:=Checked.mixed Tryz.checked
 have hz2:¬ ((i:Int)=(n:Int)):=by omega
 have hw1:IntKind.i64.wrap ((i:Int)+1)=(i:Int)+1:=by rw[IntKind.wrap_i64];omega
 have hw2:IntKind.i64.wrap ((n:Int)+1)=(n:Int)+1:=by rw[IntKind.wrap_i64];omega
 have hb1:(0:Int)≤(i:Int)+1:=by omega
 have hb0:(0:Int)≤(n:Int)+1:=by omega
 have hin:i≤n:=by omega
 have htn:((i:Int)+1).toNat=i+1:=by omega
 have htm:((n:Int)+1).toNat=n+1:=by omega
 have hb2:¬ (c=i+1):=by omega
 have hb3:(i:Int)≤(n:Int)+1:=by omega
 have hb4:¬ (c=i):=by omega
 go_enter Tryz.func103,Tryz.ntmps103
 go_wp2_with (simp only[hov])
 go_region_law_o (refine b9 rfl _ _ 31 31 rfl _ _ (by simp[Act.eval,Act.put]) (by simp[Act.eval,Act.put]) (hcp1 _ _ _) ?_)
 go_wp2_with (at_builtin;refine bv _ rfl _ _ 31 31 rfl _ _ rfl rfl (hcp2 _ _) ?_)
 go_ret
 exact⟨rfl,rfl⟩
set_option maxHeartbeats 4000000 in
set_option maxRecDepth 1000000 in
theorem ai5:nI Tryz.prog 103 31 3 8:=by
 intro b n i vb vc nb G w W0 W1 W2 hi hn hG hG63 hap hcpA hcpB
 have tS:Tryz.prog.underlying 31=some (.slice 42):=by kernel_rfl
 have mixed:Tryz.prog.follows .mixedOrders=true:=Checked.mixed Tryz.checked
 have hz2:¬ ((i:Int)=(n:Int)):=by omega
 have hz3:(n:Int)<(n:Int)+1:=by omega
 have hw1:IntKind.i64.wrap ((i:Int)+1)=(i:Int)+1:=by rw[IntKind.wrap_i64];omega
 have hw2:IntKind.i64.wrap ((n:Int)+1)=(n:Int)+1:=by rw[IntKind.wrap_i64];omega
 have hw3:IntKind.i64.wrap ((n:Int)+1 - (i:Int))=(n:Int)+1 - (i:Int):=by rw[IntKind.wrap_i64];omega
 have hb1:(0:Int)≤(i:Int)+1:=by omega
 have hin:i≤n:=by omega
 have htn:((i:Int)+1).toNat=i+1:=by omega
 have hb3:(i:Int)≤(n:Int):=by omega
 have hGi:¬ (G=i):=by omega
 have hGim:¬ (G=i+1):=by omega
 have hci:¬ (n=i):=by omega
 go_enter Tryz.func103,Tryz.ntmps103
 go_wp2_with (first
  | (at_builtin;refine Lib.wpList_append_run _ rfl _ _ _ _ rfl _ _ rfl rfl _ _ (hap _) ?_)
  | (at_builtin;refine bv _ rfl _ _ 31 31 rfl _ _ rfl rfl (hcpA _ _) ?_))
 go_region_law_o (refine b9 rfl _ _ 31 31 rfl (.slice (some ⟨nb,(i+1)*8,none⟩) (n - i) (G - (i+1))) (.slice (some ⟨b,i*8,none⟩) (n - i) (n - i)) (by simp[Act.eval,Act.put]) (by simp[Act.eval,Act.put]) (hcpB _ _ _) ?_)
 go_wp2
 go_ret
 exact⟨rfl,rfl⟩
theorem aiM:Jp 103 af7:=rO tok (te:=VH) (tb:=4) (by kernel_rfl) (by kernel_rfl) (sz:=8) (by kernel_rfl) (M4.mp (by kernel_rfl)) (WG.mp (by kernel_rfl)) (by kernel_rfl:Tryz.prog.underlying 31=some (.slice 42)) (by kernel_rfl:Tryz.prog.underlying 3=some (.int .i64)) ⟨Tryz.f103,by kernel_rfl,by kernel_rfl,by kernel_rfl⟩ agm Hu aiY ai5
theorem am5:Jp 48 alW:=fo 8 (JQ (.s .z (JQ (.s (.b (.s (.j [] [(0,[(14,gt)])] .z) (.c .z (.s (.j [] [(0,[(51,gt)])] .z) (.c .z (.s (.j [] [(0,[(63,gt)])] .z) .z)))))) (JQ (.s .z (JQ (.s ((JJ [(7,ge)] [7,107] [(3,[(7,ge)])] (.s (.s (.j [] [(0,[(107,gt)])] .z) .z) .z))) .z)))))))) (aa YZ (aa VW (aa aiN (aa aiM ag)))) Tryz.func48
theorem Vi:Jp 72 alz:=fo 7 .z (aa VW ag) Tryz.func72
theorem YX:Jp 104 af6:=fo 15 (JQ (.s .z (.s (JQ ((JJ [(5,f0),(14,ge)] [5,7,14] [(2,[(5,f0)])] (JQ (.s .z (.s (.j [5,7] [(0,[(5,f0)])] .z) .z)))))) .z))) ag Tryz.func104
theorem aiL:Jp 105 af5:=fo 9 (JQ (.s .z (JQ (.s (.b (JQ (.c .z (JQ (.c .z (.s (.j [] [(0,[(27,gt)])] .z) .z)))))) .z)))) (aa YZ (aa VW ag)) Tryz.func105
theorem YM:Jp 161 afd:=fo 9 JX ag Tryz.func161
theorem YW:Jp 106 af4:=fo 8 (JQ (.s .z (JQ (.s (JQ ((JJ [(0,QM),(5,ge),(6,ge)] [0,5,6,7] [(2,[(0,QM),(5,ge)])] (JQ (.s (.j [0,5,7] [(0,[(0,QM),(5,ge)])] .z) .z))))) JW)))) (aa YM ag) Tryz.func106
theorem EE:Jp 107 FB:=M7 (nv:=1) (h:=aoI) tok mix ag Tryz.func107 (by kernel_rfl) (by kernel_rfl) (by kernel_rfl) (by kernel_rfl) (by kernel_rfl)
set_option maxHeartbeats 2000000 in
theorem Gr(p:Option Addr)(cap:Nat)(w:World):Calls Tryz.prog 107 #[.slice p 0 cap] w λe w'=>∃p',e = .returned (.slice p' 0 0)∧RowKit.Below w.heap.size w w'∧w.drawn≤w'.drawn:=by
 have q:=lV (P:=Tryz.prog) (t:=22) A4.und
 cases p with
 | none=>
  go_enter Tryz.func107,Tryz.ntmps107
  go_wp2
  go_ret
  exact⟨_,rfl,.refl _ _,KC _⟩
 | some p=>
  go_enter Tryz.func107,Tryz.ntmps107
  go_wp2
  go_ret
  exact⟨_,rfl,(RowKit.Below.refl _ w).alloc (KC _) _,KC _⟩
theorem YV:Jp 107 af3:=fL EE Gr
theorem aiJ:Jp 109 af0:=fo 2 .z (aa abY ag) Tryz.func109
theorem aiK:Jp 108 af2:=fo 2 .z (aa aiJ ag) Tryz.func108
theorem TU:Jp 142 aft:=fo 2 .z ag Tryz.func142
theorem YP:Jp 143 afs:=fo 3 .z (aa TU ag) Tryz.func143
theorem Rw:Jp 76 alv:=fo 5 (JQ (.s (.s (.j [] [(0,[(13,gt)])] .z) .z) .z)) (aa TU (aa YP ag)) Tryz.func76
theorem ahq:Jp 230 aee:=fo 12 (JQ (.s .z (.s (JQ ((JJ [(5,QW),(11,ge)] [5,7,11] [(2,[(5,QW)])] (JQ (.s .z (.s (.j [5,7] [(0,[(5,QW)])] .z) .z)))))) .z))) (aa Rw ag) Tryz.func230
theorem ahK:Jp 196 aeG:=fo 8 (JQ (.s .z (.s JV .z))) (aa Vi (aa ahq ag)) Tryz.func196
theorem Tg:Jp 71 alA:=fo 7 .z (aa Vj (aa Xg ag)) Tryz.func71
theorem ahp:Jp 231 aed:=fo 3 .z ag Tryz.func231
theorem aho:Jp 232 aec:=fo 12 (JQ (.s (JQ ((JJ [(4,Qn),(11,ge)] [4,5,7,11] [(1,[(4,Qn),(5,gt)]),(2,[(4,Qn)])] .z))) .z)) ag Tryz.func232
theorem Yt:Jp 275 adL:=fo 4 (JQ (.s (.b (.s (.b (.s (.j [5,20] [(0,[]),(1,[(4,ge)]),(2,[]),(6,[])] (.b (.b (.s (.b (.s (.s JE (JQ (.s JV .z))) .z)) .z)))) .z)) .z)) .z)) ag Tryz.func275
theorem YC:Jp 233 aeb:=fo 8 .z (aa Yt ag) Tryz.func233
theorem Tf:Jp 77 alu:=fo 4 .z ag Tryz.func77
theorem YB:Jp 234 aea:=fo 4 .z (aa Tf (aa Yt ag)) Tryz.func234
theorem agM:Jp 329 adb:=fo 13 (JQ (.s (JQ ((JJ [(4,QZ),(12,ge)] [4,5,7,12] [(1,[(4,.box (.st 6) []),(5,gt)]),(2,[(4,QZ)])] .z))) .z)) ag Tryz.func329
theorem agv:Jp 371 acT:=fo 2 .z ag Tryz.func371
theorem agD:Jp 353 ac2:=fo 2 .z (aa agv ag) Tryz.func353
theorem Yk:Jp 330 ada:=fo 4 (JQ JE) (aa agD ag) Tryz.func330
theorem Yr:Jp 288 adA:=fo 16 (JQ (.s .z (JQ (.s (JQ ((JJ [(3,QW),(15,ge)] [3,6,7,8,15,37] [(2,[(3,QW)])] (JQ (.s .z (.s (.j [3,6,7,8,37] [(0,[(3,QW)])] (.b (JQ (.s .z JB)))) .z)))))) .z)))) (aa Rw (aa agM (aa Yk ag))) Tryz.func288
theorem OJ:Jp 246 ad2:=fo 7 .z (aa Yr ag) Tryz.func246
theorem YF:Jp 217 aer:=fo 9 (JQ (.s .z (.s (JQ ((JJ [(3,QW),(8,ge)] [3,5,8] [(2,[(3,QW)])] .z))) .z))) (aa Rw ag) Tryz.func217
theorem Sk:Jp 181 aeU:=fo 12 (JQ (.s .z (.s (JQ ((JJ [(5,QY),(11,ge)] [5,7,11,22] [(2,[(5,QY)])] (JQ (.s .z (.s (.j [5,7,22] [(0,[(5,QY)])] JM) .z)))))) .z))) (aa YF ag) Tryz.func181
theorem Yj:Jp 363 acY:=fo 14 .z ag Tryz.func363
theorem ahh:Jp 263 adU:=fo 3 (JQ (.s JK (.s JK (.s JK .z)))) ag Tryz.func263
theorem agu:Jp 377 acS:=fo 1 .z (aa ahh ag) Tryz.func377
theorem agz:Jp 364 acX:=fo 19 (JQ (.s .z (JQ (.s .z (JQ (.s .z (JQ (.s .z (JQ (.s .z (JQ (.s .z (JQ (.s .z (.s ((JJ [(15,QG),(16,QG)] [15,16,78] [(2,[(15,QG)])] (.s (.s (.j [] [(0,[(78,gt)])] .z) .z) .z))) (JQ (.s .z (JQ (.s ((JJ [(16,QG),(18,QG)] [16,18,113] [(4,[(18,QG)])] (.s (.s (.j [] [(0,[(113,gt)])] .z) .z) .z))) .z))))))))))))))))))) (aa agu ag) Tryz.func364
theorem agJ:Jp 344 ac8:=fo 8 .z (aa Yj (aa agz ag)) Tryz.func344
theorem Yo:Jp 315 adq:=fo 5 (JQ (.s J1 .z)) (aa TU (aa YP (aa agJ ag))) Tryz.func315
theorem Yn:Jp 316 adp:=fo 4 (JQ (.s .z (.s ((JJ [(0,f8),(3,t6)] [0,3] [(2,[(3,t6)])] .z)) .z))) (aa VR ag) Tryz.func316
theorem Yp:Jp 313 ads:=fo 15 (JQ (.s .z (JQ (.s .z (.s (JQ ((JJ [(8,QW),(12,QW),(13,ge)] [8,12,13,14,60] [(1,[(8,QW)]),(2,[(8,QW),(12,QW)])] (JQ (.s (.b (JQ (.s (.s (.j [] [(0,[(60,gt)])] .z) .z) .z))) .z))))) .z))))) (aa TV (aa Sk (aa Yo (aa Yn ag)))) Tryz.func313
theorem agV:Jp 314 adr:=fo 2 .z ag Tryz.func314
theorem Sj:Jp 276 adK:=fo 7 .z (aa Yp (aa agV ag)) Tryz.func276
theorem YA:Jp 235 ad_:=fo 8 .z (aa Rw (aa Tf (aa OJ (aa Sj ag)))) Tryz.func235
theorem ag_:Jp 277 adJ:=fo 9 .z (aa Yr ag) Tryz.func277
theorem ag9:Jp 278 adI:=fo 10 .z (aa TV (aa Sj (aa Yo ag))) Tryz.func278
theorem Yz:Jp 236 ad9:=fo 4 .z (aa Tf (aa ag_ (aa ag9 ag))) Tryz.func236
theorem Yy:Jp 237 ad8:=fo 4 .z (aa Tf ag) Tryz.func237
theorem agI:Jp 345 ac7:=fo 2 .z ag Tryz.func345
theorem Ym:Jp 317 ado:=fo 7 .z (aa Yp (aa agI ag)) Tryz.func317
theorem agU:Jp 318 adn:=fo 12 (JQ (.s .z (.s (JQ ((JJ [(5,QY),(11,ge)] [5,7,11,32] [(2,[(5,QY)])] (JQ (.s .z (.s (.j [5,7,32] [(0,[(5,QY)])] (.b (JQ (.s (.j [] [(0,[(32,gt)])] .z) .z)))) .z)))))) .z))) (aa YF ag) Tryz.func318
theorem ag8:Jp 279 adH:=fo 20 (JQ (.s (JQ ((JJ [(19,ge)] [8,10,11,12,13,14,15,19,42,74] [(1,[(8,gt)]),(2,[])] (JQ (.s .z (.s (.b (JQ (.s .z (.s (.s (.j [] [(0,[(42,gt)])] .z) .z) (JQ (.s .z J2)))))) .z)))))) .z)) (aa Rw (aa Tf (aa Sk (aa OJ (aa Yn (aa Ym (aa agU ag))))))) Tryz.func279
theorem Yx:Jp 238 ad7:=fo 6 .z (aa ag8 ag) Tryz.func238
set_option maxHeartbeats 4000000 in
set_option maxRecDepth 1000000 in
theorem ajH:lj Tryz.prog 239:=by
 constructor
 ·intro b n cap i w hn hj
  go_enter Tryz.func239,Tryz.ntmps239
  go_wp2
  all_goals (go_ret;exact⟨rfl,rfl⟩)
 ·intro p w;cases p
  ·go_enter Tryz.func239,Tryz.ntmps239
   go_wp2
   all_goals (go_ret;exact⟨rfl,rfl⟩)
  ·go_enter Tryz.func239,Tryz.ntmps239
   go_wp2
   all_goals (go_ret;exact⟨rfl,rfl⟩)
set_option maxHeartbeats 4000000 in
set_option maxRecDepth 1000000 in
theorem ajC:lp Tryz.prog 239 34 97 3:=by
 intro b n cap i j w hn hm hlt hj i0 hi0 hz1 A hA news s1 hsrc s2 s3 W1 W2 hW hcl
 have hic:i≤cap:=by omega
 have hjc:j≤cap:=by omega
 have tS:Tryz.prog.underlying 34=some (.slice 97):=by kernel_rfl
 have mixed:Tryz.prog.follows .mixedOrders=true:=Checked.mixed Tryz.checked
 go_enter Tryz.func239,Tryz.ntmps239
 go_wp2_with fail
 go_region_law_o (refine step_append_room rfl (.tmp 22) (.tmp 25) 34 rfl 97 i0 3 tS hi0 hz1 b 0 i cap (by simp[Act.eval,Act.put]) A (n - j) (cap - j) news (by simp[Act.eval,Act.put]) s1.out hsrc.out s2.out (by omega) s3.out ?_;rw[← hW.out])
 go_wp2
 go_ret
 exact⟨rfl,rfl⟩
theorem ahn:Jp 239 ad6:=pZ tok (te:=TM) (by kernel_rfl) (by kernel_rfl) (sz:=3) (by kernel_rfl) (M4.mp (by kernel_rfl)) (by kernel_rfl:Tryz.prog.underlying 34=some (.slice 97)) ⟨Tryz.f239,by kernel_rfl,by kernel_rfl,by kernel_rfl⟩ ajH ajC
theorem Ga:Jp 163 G_:=M7 (nv:=10) (h:=aoG) tok mix ag Tryz.func163 (by kernel_rfl) (by kernel_rfl) (by kernel_rfl) (by kernel_rfl) (by kernel_rfl)
theorem agl(w:World)(a b:Value)(h:(Extern.SlicesOverlaps.overlaps #[32,32] #[4] #[a,b]).run Tryz.prog w = .ok (.bool false) w):(callFunc 199 #[a,b]).run Tryz.prog w = .ok (.value (.bool false)) w:=by
 rw[run_callFunc_extern Tryz.func199 (by kernel_rfl) (by kernel_rfl) (by kernel_rfl) (e:=Extern.SlicesOverlaps.overlaps #[32,32] #[4]) (by kernel_rfl),h]
 rfl
set_option maxHeartbeats 4000000 in
set_option maxRecDepth 1000000 in
theorem aiX:lh Tryz.prog 163 32 14 199:=by
 intro b n c i vb vc w W1 W2 hi hroom hc63 hov hcp1 hcp2
 have tS:Tryz.prog.underlying 32=some (.slice 45):=by kernel_rfl
 have mixed:Tryz.prog.follows .mixedOrders=true:=Checked.mixed Tryz.checked
 have hz2:¬ ((i:Int)=(n:Int)):=by omega
 have hw1:IntKind.i64.wrap ((i:Int)+1)=(i:Int)+1:=by rw[IntKind.wrap_i64];omega
 have hw2:IntKind.i64.wrap ((n:Int)+1)=(n:Int)+1:=by rw[IntKind.wrap_i64];omega
 have hb1:(0:Int)≤(i:Int)+1:=by omega
 have hb0:(0:Int)≤(n:Int)+1:=by omega
 have hin:i≤n:=by omega
 have htn:((i:Int)+1).toNat=i+1:=by omega
 have htm:((n:Int)+1).toNat=n+1:=by omega
 have hb2:¬ (c=i+1):=by omega
 have hb3:(i:Int)≤(n:Int)+1:=by omega
 have hb4:¬ (c=i):=by omega
 go_enter Tryz.func163,Tryz.ntmps163
 go_wp2_with (simp only[hov])
 go_region_law_o (refine b9 rfl _ _ 32 32 rfl _ _ (by simp[Act.eval,Act.put]) (by simp[Act.eval,Act.put]) (hcp1 _ _ _) ?_)
 go_wp2_with (at_builtin;refine bv _ rfl _ _ 32 32 rfl _ _ rfl rfl (hcp2 _ _) ?_)
 go_ret
 exact⟨rfl,rfl⟩
set_option maxHeartbeats 4000000 in
set_option maxRecDepth 1000000 in
theorem ai4:nI Tryz.prog 163 32 3 14:=by
 intro b n i vb vc nb G w W0 W1 W2 hi hn hG hG63 hap hcpA hcpB
 have tS:Tryz.prog.underlying 32=some (.slice 45):=by kernel_rfl
 have mixed:Tryz.prog.follows .mixedOrders=true:=Checked.mixed Tryz.checked
 have hz2:¬ ((i:Int)=(n:Int)):=by omega
 have hz3:(n:Int)<(n:Int)+1:=by omega
 have hw1:IntKind.i64.wrap ((i:Int)+1)=(i:Int)+1:=by rw[IntKind.wrap_i64];omega
 have hw2:IntKind.i64.wrap ((n:Int)+1)=(n:Int)+1:=by rw[IntKind.wrap_i64];omega
 have hw3:IntKind.i64.wrap ((n:Int)+1 - (i:Int))=(n:Int)+1 - (i:Int):=by rw[IntKind.wrap_i64];omega
 have hb1:(0:Int)≤(i:Int)+1:=by omega
 have hin:i≤n:=by omega
 have htn:((i:Int)+1).toNat=i+1:=by omega
 have hb3:(i:Int)≤(n:Int):=by omega
 have hGi:¬ (G=i):=by omega
 have hGim:¬ (G=i+1):=by omega
 have hci:¬ (n=i):=by omega
 go_enter Tryz.func163,Tryz.ntmps163
 go_wp2_with (first
  | (at_builtin;refine Lib.wpList_append_run _ rfl _ _ _ _ rfl _ _ rfl rfl _ _ (hap _) ?_)
  | (at_builtin;refine bv _ rfl _ _ 32 32 rfl _ _ rfl rfl (hcpA _ _) ?_))
 go_region_law_o (refine b9 rfl _ _ 32 32 rfl (.slice (some ⟨nb,(i+1)*14,none⟩) (n - i) (G - (i+1))) (.slice (some ⟨b,i*14,none⟩) (n - i) (n - i)) (by simp[Act.eval,Act.put]) (by simp[Act.eval,Act.put]) (hcpB _ _ _) ?_)
 go_wp2
 go_ret
 exact⟨rfl,rfl⟩
theorem aia:Jp 163 afb:=rO tok (te:=TQ) (tb:=4) (by kernel_rfl) (by kernel_rfl) (sz:=14) (by kernel_rfl) (M4.mp (by kernel_rfl)) (WG.mp (by kernel_rfl)) (by kernel_rfl:Tryz.prog.underlying 32=some (.slice 45)) (by kernel_rfl:Tryz.prog.underlying 3=some (.int .i64)) ⟨Tryz.f163,by kernel_rfl,by kernel_rfl,by kernel_rfl⟩ agl Ga aiX ai4
theorem YU:Jp 115 afU:=fo 7 (JQ (.s .z (JQ (.s ((JJ [(6,ge)] [6,34] [(2,[(6,ge)])] JU)) .z)))) (aa Vj (aa aia ag)) Tryz.func115
theorem VU:Jp 121 afO:=fo 5 .z (aa Xg (aa YU (aa uB ag))) Tryz.func121
theorem agH:Jp 346 ac6:=fo 3 .z ag Tryz.func346
theorem Yl:Jp 319 adl:=fo 4 .z (aa YH (aa agH ag)) Tryz.func319
set_option maxHeartbeats 4000000 in
set_option maxRecDepth 1000000 in
theorem ajG:lj Tryz.prog 320:=by
 constructor
 ·intro b n cap i w hn hj
  go_enter Tryz.func320,Tryz.ntmps320
  go_wp2
  all_goals (go_ret;exact⟨rfl,rfl⟩)
 ·intro p w;cases p
  ·go_enter Tryz.func320,Tryz.ntmps320
   go_wp2
   all_goals (go_ret;exact⟨rfl,rfl⟩)
  ·go_enter Tryz.func320,Tryz.ntmps320
   go_wp2
   all_goals (go_ret;exact⟨rfl,rfl⟩)
set_option maxHeartbeats 4000000 in
set_option maxRecDepth 1000000 in
theorem ajB:lp Tryz.prog 320 43 65 8:=by
 intro b n cap i j w hn hm hlt hj i0 hi0 hz1 A hA news s1 hsrc s2 s3 W1 W2 hW hcl
 have hic:i≤cap:=by omega
 have hjc:j≤cap:=by omega
 have tS:Tryz.prog.underlying 43=some (.slice 65):=by kernel_rfl
 have mixed:Tryz.prog.follows .mixedOrders=true:=Checked.mixed Tryz.checked
 go_enter Tryz.func320,Tryz.ntmps320
 go_wp2_with fail
 go_region_law_o (refine step_append_room rfl (.tmp 22) (.tmp 25) 43 rfl 65 i0 8 tS hi0 hz1 b 0 i cap (by simp[Act.eval,Act.put]) A (n - j) (cap - j) news (by simp[Act.eval,Act.put]) s1.out hsrc.out s2.out (by omega) s3.out ?_;rw[← hW.out])
 go_wp2
 go_ret
 exact⟨rfl,rfl⟩
theorem agT:Jp 320 adk:=pZ tok (te:=TN) (by kernel_rfl) (by kernel_rfl) (sz:=8) (by kernel_rfl) (M4.mp (by kernel_rfl)) (by kernel_rfl:Tryz.prog.underlying 43=some (.slice 65)) ⟨Tryz.f320,by kernel_rfl,by kernel_rfl,by kernel_rfl⟩ ajG ajB
theorem ag7:Jp 280 adG:=fo 8 (JQ (.s .z (JQ (.s .z (JQ (.s .z (.s (.j [6] [(0,[(6,QC)])] .z) .z))))))) (aa VK (aa Yl (aa agT ag))) Tryz.func280
theorem HR:Jp 281 GI:=M7 (nv:=10) (h:=aoC) tok mix ag Tryz.func281 (by kernel_rfl) (by kernel_rfl) (by kernel_rfl) (by kernel_rfl) (by kernel_rfl)
theorem agj(w:World)(a b:Value)(h:(Extern.SlicesOverlaps.overlaps #[33,33] #[4] #[a,b]).run Tryz.prog w = .ok (.bool false) w):(callFunc 321 #[a,b]).run Tryz.prog w = .ok (.value (.bool false)) w:=by
 rw[run_callFunc_extern Tryz.func321 (by kernel_rfl) (by kernel_rfl) (by kernel_rfl) (e:=Extern.SlicesOverlaps.overlaps #[33,33] #[4]) (by kernel_rfl),h]
 rfl
set_option maxHeartbeats 4000000 in
set_option maxRecDepth 1000000 in
theorem aiV:lh Tryz.prog 281 33 9 321:=by
 intro b n c i vb vc w W1 W2 hi hroom hc63 hov hcp1 hcp2
 have tS:Tryz.prog.underlying 33=some (.slice 59):=by kernel_rfl
 have mixed:Tryz.prog.follows .mixedOrders=true:=Checked.mixed Tryz.checked
 have hz2:¬ ((i:Int)=(n:Int)):=by omega
 have hw1:IntKind.i64.wrap ((i:Int)+1)=(i:Int)+1:=by rw[IntKind.wrap_i64];omega
 have hw2:IntKind.i64.wrap ((n:Int)+1)=(n:Int)+1:=by rw[IntKind.wrap_i64];omega
 have hb1:(0:Int)≤(i:Int)+1:=by omega
 have hb0:(0:Int)≤(n:Int)+1:=by omega
 have hin:i≤n:=by omega
 have htn:((i:Int)+1).toNat=i+1:=by omega
 have htm:((n:Int)+1).toNat=n+1:=by omega
 have hb2:¬ (c=i+1):=by omega
 have hb3:(i:Int)≤(n:Int)+1:=by omega
 have hb4:¬ (c=i):=by omega
 go_enter Tryz.func281,Tryz.ntmps281
 go_wp2_with (simp only[hov])
 go_region_law_o (refine b9 rfl _ _ 33 33 rfl _ _ (by simp[Act.eval,Act.put]) (by simp[Act.eval,Act.put]) (hcp1 _ _ _) ?_)
 go_wp2_with (at_builtin;refine bv _ rfl _ _ 33 33 rfl _ _ rfl rfl (hcp2 _ _) ?_)
 go_ret
 exact⟨rfl,rfl⟩
set_option maxHeartbeats 4000000 in
set_option maxRecDepth 1000000 in
theorem ai2:nI Tryz.prog 281 33 3 9:=by
 intro b n i vb vc nb G w W0 W1 W2 hi hn hG hG63 hap hcpA hcpB
 have tS:Tryz.prog.underlying 33=some (.slice 59):=by kernel_rfl
 have mixed:Tryz.prog.follows .mixedOrders=true:=Checked.mixed Tryz.checked
 have hz2:¬ ((i:Int)=(n:Int)):=by omega
 have hz3:(n:Int)<(n:Int)+1:=by omega
 have hw1:IntKind.i64.wrap ((i:Int)+1)=(i:Int)+1:=by rw[IntKind.wrap_i64];omega
 have hw2:IntKind.i64.wrap ((n:Int)+1)=(n:Int)+1:=by rw[IntKind.wrap_i64];omega
 have hw3:IntKind.i64.wrap ((n:Int)+1 - (i:Int))=(n:Int)+1 - (i:Int):=by rw[IntKind.wrap_i64];omega
 have hb1:(0:Int)≤(i:Int)+1:=by omega
 have hin:i≤n:=by omega
 have htn:((i:Int)+1).toNat=i+1:=by omega
 have hb3:(i:Int)≤(n:Int):=by omega
 have hGi:¬ (G=i):=by omega
 have hGim:¬ (G=i+1):=by omega
 have hci:¬ (n=i):=by omega
 go_enter Tryz.func281,Tryz.ntmps281
 go_wp2_with (first
  | (at_builtin;refine Lib.wpList_append_run _ rfl _ _ _ _ rfl _ _ rfl rfl _ _ (hap _) ?_)
  | (at_builtin;refine bv _ rfl _ _ 33 33 rfl _ _ rfl rfl (hcpA _ _) ?_))
 go_region_law_o (refine b9 rfl _ _ 33 33 rfl (.slice (some ⟨nb,(i+1)*9,none⟩) (n - i) (G - (i+1))) (.slice (some ⟨b,i*9,none⟩) (n - i) (n - i)) (by simp[Act.eval,Act.put]) (by simp[Act.eval,Act.put]) (hcpB _ _ _) ?_)
 go_wp2
 go_ret
 exact⟨rfl,rfl⟩
theorem ag6:Jp 281 adF:=rO tok (te:=TP) (tb:=4) (by kernel_rfl) (by kernel_rfl) (sz:=9) (by kernel_rfl) (M4.mp (by kernel_rfl)) (WG.mp (by kernel_rfl)) (by kernel_rfl:Tryz.prog.underlying 33=some (.slice 59)) (by kernel_rfl:Tryz.prog.underlying 3=some (.int .i64)) ⟨Tryz.f281,by kernel_rfl,by kernel_rfl,by kernel_rfl⟩ agj HR aiV ai2
theorem Yw:Jp 240 ad5:=fo 9 (JQ (.s .z (JQ (.s .z (.s (.j [1,4] [(0,[(4,QZ)])] .z) (JQ (.s .z (.s ((JJ [(8,ge)] [8,104] [(2,[(8,ge)])] (.s JS .z))) .z)))))))) (aa VU (aa ag7 (aa ag6 ag))) Tryz.func240
theorem ahJ:Jp 197 aeF:=fo 12 (JQ (.s .z (JQ (.s .z (JQ (.s .z (.s (.j [11] [(0,[(11,gt)])] .z) (.s (.s (.j [] [(0,[(91,gt)])] .z) .z) .z)))))))) (aa Tg (aa PN (aa VQ (aa ahp (aa aho (aa YC (aa YB (aa YA (aa Yz (aa Yy (aa Yx (aa ahn (aa Yw ag))))))))))))) Tryz.func197
shelf_lay_g Go.Proofs.SlLaysF0.n6 Slsf 6 at Tryz 348 as lay348
theorem agG:Jp 348 ac5:=Ep (ρ:=lay348_ren) (n:=17) lay348 (by intro w;kernel_rfl) (by intro w;kernel_rfl) (by kernel_rfl) (M4.mp (by kernel_rfl)) ⟨Tryz.f348,by kernel_rfl,by kernel_rfl,by kernel_rfl⟩
theorem VI:Jp 251 adW:=fo 9 (JQ (.s .z (.s (JQ ((JJ [(8,ge)] [2,5,8] [(1,[(2,ge)]),(2,[])] .z))) .z))) ag Tryz.func251
theorem Yi:Jp 387 acQ:=fo 9 (JQ (.s (.b (.s (.j [] [(0,[(9,gt)])] .z) .z)) (JQ (.s .z (.s (.b (.s (.j [] [(0,[(42,gt)])] .z) (.c .z (.s (.j [] [(0,[(56,gt)])] .z) .z)))) .z))))) (aa Yj ag) Tryz.func387
theorem agr:Jp 394 acO:=fo 9 .z ag Tryz.func394
theorem agq:Jp 395 acN:=fo 2 .z ag Tryz.func395
theorem agp:Jp 396 acM:=fo 2 .z ag Tryz.func396
theorem agt:Jp 386 acR:=fo 7 .z (aa Yi (aa agr (aa agq (aa agp ag)))) Tryz.func386
theorem agy:Jp 367 acW:=fo 8 (JQ (.s JD .z)) (aa TU (aa agt (aa Yi ag))) Tryz.func367
theorem agF:Jp 349 ac4:=fo 4 .z (aa VL (aa VI (aa agy ag))) Tryz.func349
theorem agS:Jp 323 adj:=fo 44 (JQ (.s .z (.s (JQ ((JJ [(7,.v (.slice (.st 17)) [0]),(18,ge)] [7,9,18,19,20,21,22,23,24,25,26,27,28,29,30,31,32,33,34,35] [(2,[(7,.v (.slice (.st 17)) [0])])] .z))) (JQ (.s .z (.s (JQ ((JJ [(10,Q4),(43,ge)] [10,11,12,43] [(4,[(10,Q4)])] .z))) .z)))))) (aa TW (aa OJ (aa Sj (aa agG (aa agF ag))))) Tryz.func323
theorem Ar:∀n,Lf Tryz.prog 282 (GT n)
 | 0=>⟨⟨Tryz.f282,by kernel_rfl,by kernel_rfl,by kernel_rfl⟩,λa r hr=>nomatch (show(none:Option _)=some r from hr)⟩
 | n+1=>M7 (nv:=29) (h:=aoB) tok mix (aa (Ar n) (aa agS ag)) Tryz.func282 (by kernel_rfl) (by kernel_rfl) (by kernel_rfl) (by kernel_rfl) (by kernel_rfl)
theorem ag5:Jp 282 adE:=Ar 64
theorem ahm:Jp 241 ad4:=fo 3 .z (aa ag5 ag) Tryz.func241
theorem agx:Jp 368 acV:=fo 10 (JQ ((JJ [(0,ac),(8,ge)] [0,8,9,34] [(2,[(0,ac)])] (JQ (.s (.b (JQ ((JJ [(0,ac),(9,ge)] [0,9,34] [(4,[(0,ac)])] JU)))) .z))))) ag Tryz.func368
theorem agn:Jp 397 acL:=fo 11 (JQ ((JJ [(0,ac),(10,ge)] [0,10] [(2,[(0,ac)])] .z))) ag Tryz.func397
theorem ags:Jp 388 acP:=fo 12 (JQ (.s .z (.s ((JJ [(0,ac),(10,ge),(11,ge)] [0,10,11] [(2,[(0,ac),(10,ge)])] .z)) .z))) (aa agn ag) Tryz.func388
theorem AB:∀n,Lf Tryz.prog 369 (GU n)
 | 0=>⟨⟨Tryz.f369,by kernel_rfl,by kernel_rfl,by kernel_rfl⟩,λa r hr=>nomatch (show(none:Option _)=some r from hr)⟩
 | n+1=>M7 (nv:=25) (h:=aoy) tok mix (aa (AB n) (aa ags ag)) Tryz.func369 (by kernel_rfl) (by kernel_rfl) (by kernel_rfl) (by kernel_rfl) (by kernel_rfl)
theorem agw:Jp 369 acU:=AB 64
theorem agE:Jp 350 ac3:=fo 10 (JQ (.s .z (.s ((JJ [(0,ac),(7,ge),(8,ge)] [0,7,8] [(2,[(0,ac),(7,ge)])] .z)) (JQ ((JJ [(0,ac),(6,ge)] [0,6,7,8,9] [(4,[(0,ac)])] (JQ (.b (JQ (.s ((JJ [(0,ac),(7,ge),(8,ge)] [0,7,8] [(6,[(0,ac),(7,ge)])] .z)) (.s (.j [0,9] [(0,[(0,ac)])] .z) .z))))))))))) (aa agx (aa agw ag)) Tryz.func350
theorem agR:Jp 324 adi:=fo 2 .z (aa agE ag) Tryz.func324
theorem ag0:Jp 291 adx:=fo 1 .z ag Tryz.func291
theorem Yv:Jp 252 adV:=fo 7 .z (aa ag0 ag) Tryz.func252
theorem agQ:Jp 325 adh:=fo 4 .z (aa VI (aa Yv ag)) Tryz.func325
theorem ag4:Jp 283 adD:=fo 39 (JQ (.s .z (.s (JQ ((JJ [(5,QR),(14,ge)] [5,7,14,15,16,17,18,19,20,21,22,23,24,25,26,27,28,29,30] [(2,[(5,QR)])] (JQ (.s .z (.s (.j [5,7,16,17,18,19,20,21,22,23,24,25,26,27,28,29] [(0,[(5,QR)])] (.b (JQ (.s (.j [18,19,20,21,22,23,24,25] [(0,[(25,gt)])] .z) .z)))) .z)))))) (JQ (.s .z (.s (JQ ((JJ [(8,QM),(38,ge)] [8,9,10,38] [(4,[(8,QM)])] .z))) .z)))))) (aa PN (aa agR (aa agQ ag))) Tryz.func283
theorem agP:Jp 326 adg:=fo 7 (JQ (.s .z (.s (.j [5,6] [(0,[(5,Qo)])] .z) .z))) (aa VK (aa Yl ag)) Tryz.func326
theorem ag3:Jp 284 adC:=fo 7 .z (aa VU (aa agP ag)) Tryz.func284
theorem abW:Jp 81 alp:=fo 2 .z (aa VQ ag) Tryz.func81
theorem agO:Jp 327 adf:=fo 4 .z ag Tryz.func327
theorem GR:Jp 328 GO:=M7 (nv:=10) (h:=aoz) tok mix ag Tryz.func328 (by kernel_rfl) (by kernel_rfl) (by kernel_rfl) (by kernel_rfl) (by kernel_rfl)
theorem agi(w:World)(a b:Value)(h:(Extern.SlicesOverlaps.overlaps #[34,34] #[4] #[a,b]).run Tryz.prog w = .ok (.bool false) w):(callFunc 351 #[a,b]).run Tryz.prog w = .ok (.value (.bool false)) w:=by
 rw[run_callFunc_extern Tryz.func351 (by kernel_rfl) (by kernel_rfl) (by kernel_rfl) (e:=Extern.SlicesOverlaps.overlaps #[34,34] #[4]) (by kernel_rfl),h]
 rfl
set_option maxHeartbeats 4000000 in
set_option maxRecDepth 1000000 in
theorem aiU:lh Tryz.prog 328 34 3 351:=by
 intro b n c i vb vc w W1 W2 hi hroom hc63 hov hcp1 hcp2
 have tS:Tryz.prog.underlying 34=some (.slice 97):=by kernel_rfl
 have mixed:Tryz.prog.follows .mixedOrders=true:=Checked.mixed Tryz.checked
 have hz2:¬ ((i:Int)=(n:Int)):=by omega
 have hw1:IntKind.i64.wrap ((i:Int)+1)=(i:Int)+1:=by rw[IntKind.wrap_i64];omega
 have hw2:IntKind.i64.wrap ((n:Int)+1)=(n:Int)+1:=by rw[IntKind.wrap_i64];omega
 have hb1:(0:Int)≤(i:Int)+1:=by omega
 have hb0:(0:Int)≤(n:Int)+1:=by omega
 have hin:i≤n:=by omega
 have htn:((i:Int)+1).toNat=i+1:=by omega
 have htm:((n:Int)+1).toNat=n+1:=by omega
 have hb2:¬ (c=i+1):=by omega
 have hb3:(i:Int)≤(n:Int)+1:=by omega
 have hb4:¬ (c=i):=by omega
 go_enter Tryz.func328,Tryz.ntmps328
 go_wp2_with (simp only[hov])
 go_region_law_o (refine b9 rfl _ _ 34 34 rfl _ _ (by simp[Act.eval,Act.put]) (by simp[Act.eval,Act.put]) (hcp1 _ _ _) ?_)
 go_wp2_with (at_builtin;refine bv _ rfl _ _ 34 34 rfl _ _ rfl rfl (hcp2 _ _) ?_)
 go_ret
 exact⟨rfl,rfl⟩
set_option maxHeartbeats 4000000 in
set_option maxRecDepth 1000000 in
theorem ai1:nI Tryz.prog 328 34 3 3:=by
 intro b n i vb vc nb G w W0 W1 W2 hi hn hG hG63 hap hcpA hcpB
 have tS:Tryz.prog.underlying 34=some (.slice 97):=by kernel_rfl
 have mixed:Tryz.prog.follows .mixedOrders=true:=Checked.mixed Tryz.checked
 have hz2:¬ ((i:Int)=(n:Int)):=by omega
 have hz3:(n:Int)<(n:Int)+1:=by omega
 have hw1:IntKind.i64.wrap ((i:Int)+1)=(i:Int)+1:=by rw[IntKind.wrap_i64];omega
 have hw2:IntKind.i64.wrap ((n:Int)+1)=(n:Int)+1:=by rw[IntKind.wrap_i64];omega
 have hw3:IntKind.i64.wrap ((n:Int)+1 - (i:Int))=(n:Int)+1 - (i:Int):=by rw[IntKind.wrap_i64];omega
 have hb1:(0:Int)≤(i:Int)+1:=by omega
 have hin:i≤n:=by omega
 have htn:((i:Int)+1).toNat=i+1:=by omega
 have hb3:(i:Int)≤(n:Int):=by omega
 have hGi:¬ (G=i):=by omega
 have hGim:¬ (G=i+1):=by omega
 have hci:¬ (n=i):=by omega
 go_enter Tryz.func328,Tryz.ntmps328
 go_wp2_with (first
  | (at_builtin;refine Lib.wpList_append_run _ rfl _ _ _ _ rfl _ _ rfl rfl _ _ (hap _) ?_)
  | (at_builtin;refine bv _ rfl _ _ 34 34 rfl _ _ rfl rfl (hcpA _ _) ?_))
 go_region_law_o (refine b9 rfl _ _ 34 34 rfl (.slice (some ⟨nb,(i+1)*3,none⟩) (n - i) (G - (i+1))) (.slice (some ⟨b,i*3,none⟩) (n - i) (n - i)) (by simp[Act.eval,Act.put]) (by simp[Act.eval,Act.put]) (hcpB _ _ _) ?_)
 go_wp2
 go_ret
 exact⟨rfl,rfl⟩
theorem agN:Jp 328 ade:=rO tok (te:=TM) (tb:=4) (by kernel_rfl) (by kernel_rfl) (sz:=3) (by kernel_rfl) (M4.mp (by kernel_rfl)) (WG.mp (by kernel_rfl)) (by kernel_rfl:Tryz.prog.underlying 34=some (.slice 97)) (by kernel_rfl:Tryz.prog.underlying 3=some (.int .i64)) ⟨Tryz.f328,by kernel_rfl,by kernel_rfl,by kernel_rfl⟩ agi GR aiU ai1
theorem ag2:Jp 285 adB:=fo 8 (JQ (.s .z (JQ (.s ((JJ [(7,ge)] [7,39] [(2,[(7,ge)])] (.s (.s (.j [] [(0,[(39,gt)])] .z) .z) .z))) .z)))) (aa abW (aa agO (aa agN ag))) Tryz.func285
theorem ahl:Jp 242 ad3:=fo 59 (JQ (.b (JQ (.s .z (.s (JQ ((JJ [(0,pp),(9,QD),(24,ge)] [0,8,9,12,14,15,16,18,19,24,25,26,27,28,29,30,31,32,33,34,35,36,37,38,39,40,41,42,43,44,45,46,47,48,49,50,51,52,53,54,55,56,57,58,66,109] [(1,JY),(2,JG)] (JQ (.s .z (.s (.j [0,8,9,12,14,15,16,18,19,26,27,28,29,30,31,32,33,34,35,36,37,38,39,40,41,42,43,44,45,46,47,48,49,50,51,52,53,54,55,56,57,58,66,109] [(0,JG),(1,JY)] (.b (JQ (.s .z ((JJ [(0,pp),(9,QD),(35,ge)] [0,8,9,14,15,16,18,19,31,35,36,37,38,39,40,41,42,43,44,45,46,47,48,49,50,51,52,53,54,55,56,57,58,66,109] [(1,JY),(3,JG),(4,JG)] (JQ (.s .z (.s (.j [0,8,9,14,15,16,18,19,37,38,39,40,41,42,43,44,45,46,47,48,49,50,51,52,53,54,55,56,57,58,66,109] [(0,JG),(1,JY),(3,JG)] (.b (JQ (.s .z (JQ (.s .z (JQ ((JJ [(0,pp),(9,QD),(15,QZ),(58,ge)] [0,8,9,15,18,19,43,46,51,54,55,58,66,109] [(1,JY),(6,JG)] (JQ (.s .z (.s (.j [0,8,9,15,18,19,66,109] [(0,[(0,pp),(9,QD),(15,QZ)]),(1,JY)] (.b (JQ (.s .z (.b (.s (.j [] [(0,[(66,gt)])] .z) (.c .z (JQ (.c .z (JQ (.c .z (JQ (.c .z (.s (.j [0] [(0,[(0,pp),(109,gt)])] .z) .z)))))))))))))) .z)))))))))))) .z))))))))) .z)))))) .z))))) (aa Tg (aa VP (aa YB (aa YA (aa Yz (aa Yy (aa Yx (aa Yw (aa ag4 (aa ag3 (aa ag2 ag))))))))))) Tryz.func242
theorem ahI:Jp 198 aeE:=fo 8 .z (aa YC (aa ahm (aa ahl ag))) Tryz.func198
theorem aib:Jp 162 afc:=fo 11 (JQ (.s .z (JQ (.s JB (JQ (.s .z (.s (.j [5,6,10] [(0,[(5,ge),(6,QD),(10,pp)])] .z) .z))))))) (aa PO (aa Vi (aa ahK (aa ahJ (aa ahI ag))))) Tryz.func162
theorem aiI:Jp 110 afZ:=fo 10 (JQ (.s .z (JQ (.s ((JJ [(2,QV),(6,QU)] [2,6,7,8,9] [(2,[(2,QV),(6,QU)])] .z)) .z)))) (aa PO (aa aib ag)) Tryz.func110
theorem am4:Jp 49 alV:=fo 8 (JQ (.s .z (.s (.s (.j [] [(0,[(36,gt)])] .z) .z) .z))) (aa PO (aa Rx (aa Vi (aa YX (aa aiL (aa YW (aa YV (aa aiK (aa aiI ag))))))))) Tryz.func49
theorem aiH:Jp 111 afY:=fo 3 .z ag Tryz.func111
theorem aiG:Jp 112 afX:=fo 9 (JQ (.s .z (.s (JQ ((JJ [(3,ge),(8,ge)] [3,5,8] [(2,[(3,ge)])] (JQ (.s .z (.s (.j [3,5] [(0,[(3,ge)])] .z) .z)))))) .z))) (aa PN ag) Tryz.func112
theorem aiF:Jp 113 afW:=fo 2 .z (aa PN ag) Tryz.func113
set_option maxHeartbeats 4000000 in
set_option maxRecDepth 1000000 in
theorem ajJ:lj Tryz.prog 114:=by
 constructor
 ·intro b n cap i w hn hj
  go_enter Tryz.func114,Tryz.ntmps114
  go_wp2
  all_goals (go_ret;exact⟨rfl,rfl⟩)
 ·intro p w;cases p
  ·go_enter Tryz.func114,Tryz.ntmps114
   go_wp2
   all_goals (go_ret;exact⟨rfl,rfl⟩)
  ·go_enter Tryz.func114,Tryz.ntmps114
   go_wp2
   all_goals (go_ret;exact⟨rfl,rfl⟩)
set_option maxHeartbeats 4000000 in
set_option maxRecDepth 1000000 in
theorem ajE:lp Tryz.prog 114 32 45 14:=by
 intro b n cap i j w hn hm hlt hj i0 hi0 hz1 A hA news s1 hsrc s2 s3 W1 W2 hW hcl
 have hic:i≤cap:=by omega
 have hjc:j≤cap:=by omega
 have tS:Tryz.prog.underlying 32=some (.slice 45):=by kernel_rfl
 have mixed:Tryz.prog.follows .mixedOrders=true:=Checked.mixed Tryz.checked
 go_enter Tryz.func114,Tryz.ntmps114
 go_wp2_with fail
 go_region_law_o (refine step_append_room rfl (.tmp 22) (.tmp 25) 32 rfl 45 i0 14 tS hi0 hz1 b 0 i cap (by simp[Act.eval,Act.put]) A (n - j) (cap - j) news (by simp[Act.eval,Act.put]) s1.out hsrc.out s2.out (by omega) s3.out ?_;rw[← hW.out])
 go_wp2
 go_ret
 exact⟨rfl,rfl⟩
theorem aiE:Jp 114 afV:=pZ tok (te:=TQ) (by kernel_rfl) (by kernel_rfl) (sz:=14) (by kernel_rfl) (M4.mp (by kernel_rfl)) (by kernel_rfl:Tryz.prog.underlying 32=some (.slice 45)) ⟨Tryz.f114,by kernel_rfl,by kernel_rfl,by kernel_rfl⟩ ajJ ajE
theorem am3:Jp 50 alU:=fo 8 (JQ (.s .z (.s (.b J0) (.s (.j [2,6,73] [(0,[(2,.box (.st 10) [0,1,2,3,4,5,6])])] (JQ (.s (.j [] [(0,[(73,gt)])] .z) .z))) .z)))) (aa Vj (aa Z0 (aa ZR (aa abV (aa aiH (aa aiG (aa aiF (aa aiE (aa YU (aa uB ag)))))))))) Tryz.func50
theorem YT:Jp 116 afT:=fo 23 (JQ (.s .z (.s (JQ ((JJ [(5,QU),(12,ge)] [5,7,9,12,13,14,15,16,17,18,19,20,21,22] [(2,[(5,QU)])] (JQ (.s .z (.s (.b (JQ (.s .z ((JJ [(5,QU),(22,ge)] [5,9,22] [(4,[(5,QU)])] (JQ (.s .z (.s (.j [5,9] [(0,[(5,QU)])] .z) .z)))))))) .z)))))) .z))) ag Tryz.func116
theorem aiD:Jp 117 afS:=fo 15 (JQ (.s .z (.s (JQ ((JJ [(5,f0),(14,ge)] [5,7,14,26] [(2,[(5,f0)])] (JQ (.s .z (.s (.j [5,7,26] [(0,[(5,f0)])] (.b (JQ JD))) .z)))))) .z))) ag Tryz.func117
theorem YI:Jp 201 aeD:=fo 2 .z (aa YM ag) Tryz.func201
theorem ahH:Jp 202 aeC:=fo 3 .z ag Tryz.func202
theorem YL:Jp 164 afa:=fo 5 .z (aa YI (aa ahH ag)) Tryz.func164
theorem aiC:Jp 118 afR:=fo 3 (JQ (.s (.b JE) .z)) (aa YL ag) Tryz.func118
theorem ah7:Jp 169 ae6:=fo 4 .z ag Tryz.func169
theorem ah6:Jp 170 ae5:=fo 2 .z ag Tryz.func170
theorem aiB:Jp 120 afP:=fo 13 (JQ (.s (JQ ((JJ [(0,QL),(4,QZ),(12,ge)] [0,1,4,8,9,12] [(2,[(0,QL),(4,QZ)])] (JQ (.s .z (.s (.j [0,4,8,9] [(0,[(0,QL),(4,QZ)])] .z) .z)))))) .z)) (aa Vk (aa abZ (aa YW (aa ah7 (aa ah6 ag))))) Tryz.func120
theorem am2:Jp 51 alT:=fo 79 (JQ (.s .z (JQ (.s (JQ ((JJ [(2,QT),(3,QZ),(78,ge)] [2,3,6,7,20,78] [(1,[(2,QT)]),(3,[(2,QT),(3,QZ)])] (JQ (.s .z (.s (.b (JQ (.s .z (.s (.j [3,7] [(0,[(3,QZ),(7,ge)])] .z) .z)))) .z)))))) .z)))) (aa Rx (aa Tg (aa YV (aa YT (aa aiD (aa aiC (aa YS (aa aiB (aa VU ag))))))))) Tryz.func51
theorem aiA:Jp 122 afN:=fo 10 (JQ (.s .z (JQ (.s J3 .z)))) (aa Vj (aa PN (aa uB (aa EX ag)))) Tryz.func122
theorem am1:Jp 52 alS:=fo 9 .z (aa Rx (aa Tg (aa PN (aa aiA ag)))) Tryz.func52
theorem aiz:Jp 123 afM:=fo 10 (JQ (.s .z (.s (JQ ((JJ [(3,f0),(9,ge)] [3,5,9,22] [(2,[(3,f0)])] (JQ (.s .z (.s (.j [3,5,22] [(0,[(3,f0)])] JM) .z)))))) .z))) ag Tryz.func123
theorem ah5:Jp 171 ae4:=fo 3 .z ag Tryz.func171
theorem aiy:Jp 124 afL:=fo 16 (JQ (.s .z (.s (JQ ((JJ [(13,Qw),(15,ge)] [5,13,15] [(2,[(13,Qw)])] (JQ (.s .z (.s (.j [5,13] [(0,[(13,Qw)])] .z) .z)))))) .z))) (aa PO (aa YX (aa VO (aa ah5 ag)))) Tryz.func124
theorem aix:Jp 125 afK:=fo 12 (JQ (.s .z (JQ (.s (JQ ((JJ [(3,.row (.st 502) false),(4,f0),(11,ge)] [3,4,6,7,11,37] [(2,[(4,f0)])] (JQ (.s .z (.s (.j [3,4,6,37] [(0,[(3,.row (.st 502) false),(4,f0)])] (.b (JQ (.s .z JB)))) .z)))))) .z)))) ag Tryz.func125
theorem aiw:Jp 126 afJ:=fo 15 (JQ (.s .z (.s (JQ ((JJ [(5,f0),(14,ge)] [5,7,14,25] [(2,[(5,f0)])] (JQ (.s .z (.s (.j [5,7,25] [(0,[(5,f0)])] (.b (JQ J3))) .z)))))) .z))) ag Tryz.func126
theorem VT:Jp 131 afE:=fo 9 JX ag Tryz.func131
theorem aiv:Jp 127 afI:=fo 8 (JQ (.s .z (JQ (.s (JQ ((JJ [(0,Qx),(5,ge),(6,ge)] [0,5,6,7] [(2,[(0,Qx),(5,ge)])] (JQ (.s (.j [0,5,7] [(0,[(0,Qx),(5,ge)])] .z) .z))))) JW)))) (aa VT ag) Tryz.func127
set_option maxHeartbeats 4000000 in
set_option maxRecDepth 1000000 in
theorem ai_:acG Tryz.prog 128 6 3 7:=by
 intro vs u now b1 b2 w hl h1 hu hb1 hb2 hc1 hc2
 match vs,hl with
 | [v0,v1,v2,v3,v4,v5],_=>
 simp only[M9,W_,K3]at hu;subst hu
 have o0:v0.oneCell'=true:=h1 _ (by simp)
 have o1:v1.oneCell'=true:=h1 _ (by simp)
 have o2:v2.oneCell'=true:=h1 _ (by simp)
 have o4:v4.oneCell'=true:=h1 _ (by simp)
 have o5:v5.oneCell'=true:=h1 _ (by simp)
 have mixed:Tryz.prog.follows .mixedOrders=true:=Checked.mixed Tryz.checked
 have d1:(w.alloc (.cells #[v0,v1,v2,.int .i64 u,v4,v5] 47 (0,0))).cell? ⟨b1,0,none⟩=some (.pointer (some ⟨b2,0,none⟩)):=by rw[World.cell?_alloc_old _ _ _ (Zx hb1)];exact hc1
 have d2:(w.alloc (.cells #[v0,v1,v2,.int .i64 u,v4,v5] 47 (0,0))).cell? ⟨b2,7,none⟩=some (.int .i64 now):=by rw[World.cell?_alloc_old _ _ _ (Zx hb2)];exact hc2
 go_enter Tryz.func128,Tryz.ntmps128
 go_wp2
 go_region_o
 go_wp2
 go_ret
 exact⟨rfl,((Below.refl _ w).alloc (KC _) _).drew,WT _⟩
theorem aiu:Jp 128 afH:=IW (F:=fam) (n:=9) (u:=λ(p:Jk)=>p.Until) ⟨Tryz.f128,by kernel_rfl,by kernel_rfl,by kernel_rfl⟩ (by kernel_rfl) (λ_=>rfl) ai_
theorem abX:Jp 69 alB:=fo 2 .z (aa Vk ag) Tryz.func69
theorem ahG:Jp 207 aeA:=fo 3 .z ag Tryz.func207
theorem ahF:Jp 208 aez:=fo 4 .z ag Tryz.func208
theorem agA:Jp 356 acZ:=fo 11 (JQ (.s .z (.s (JQ ((JJ [(5,QW),(10,ge)] [5,7,10,33] [(2,[(5,QW)])] (JQ (.s .z (.s (.j [5,7,33] [(0,[(5,QW)])] (.b (JQ JZ))) .z)))))) .z))) (aa YL ag) Tryz.func356
theorem agK:Jp 332 ac9:=fo 11 (JQ (.s .z (.s (JQ ((JJ [(3,QW),(10,ge)] [3,5,10,20] [(2,[(3,QW)])] (JQ (.s .z (.s (.j [3,5,20] [(0,[(3,QW)])] (.b (JQ JV))) .z)))))) .z))) (aa PN (aa Rw (aa Yk (aa agA ag)))) Tryz.func332
theorem Yq:Jp 290 ady:=fo 7 .z (aa agK ag) Tryz.func290
theorem agC:Jp 354 ac1:=fo 10 (JQ (.s (JQ ((JJ [(0,ge),(9,ge)] [0,6,9] [(2,[(0,ge)])] .z))) .z)) ag Tryz.func354
theorem agB:Jp 355 ac0:=fo 1 (JQ (.s (.s (.j [] [(0,[(8,gt)])] .z) .z) .z)) ag Tryz.func355
theorem agL:Jp 331 ac_:=fo 61 (JQ (.s .z (JQ (.s .z (.s (JQ ((JJ [(10,QM),(11,ge),(28,ge)] [10,11,12,28,29,30,31,32,33,34,35,36,37,38,39,40,41,42,43,44,45,46,47,48,49,50,51,52,53,54,55,56,57,58] [(2,[(10,QM),(11,ge)])] .z))) (.s (JQ ((JJ [(10,QM),(11,ge),(60,ge)] [10,11,13,14,60] [(4,[(10,QM)])] .z))) .z)))))) (aa agC (aa agB ag)) Tryz.func331
theorem Hz:Lf Tryz.prog 289 (p7 0):=⟨⟨Tryz.f289,by kernel_rfl,by kernel_rfl,by kernel_rfl⟩,λa r hr=>nomatch (show(none:Option _)=some r from hr)⟩
set_option maxHeartbeats 4000000 in
theorem HW(n:Nat)(ih:Lf Tryz.prog 289 (p7 n)):Lf Tryz.prog 289 (p7 (n+1)):=M7 (nv:=110) (h:=aoA) tok mix (aa ih (aa ih (aa TW (aa OJ (aa Sj (aa Yq (aa Ym (aa agL ag)))))))) Tryz.func289 (by kernel_rfl) (by kernel_rfl) (by kernel_rfl) (by kernel_rfl) (by kernel_rfl)
theorem Hw(n:Nat):Lf Tryz.prog 289 (p7 n):=Nat.rec (motive:=λn=>Lf Tryz.prog 289 (p7 n)) Hz (λn ih=>HW n ih) n
theorem ag1:Jp 289 adz:=Hw 64
theorem VJ:Jp 247 ad1:=fo 3 .z (aa Sk (aa ag1 ag)) Tryz.func247
theorem ahk:Jp 248 adZ:=fo 9 JX ag Tryz.func248
theorem ahj:Jp 249 adY:=fo 3 .z ag Tryz.func249
theorem ahE:Jp 209 aey:=fo 30 (JQ (.s .z (JQ (.s (JQ ((JJ [(7,ge),(29,ge)] [7,9,29,55] [(2,[(7,ge)])] (JQ (.s .z (.s (.j [7,9,55] [(0,[(7,ge)])] (.b (JQ (.s (.j [] [(0,[(55,gt)])] .z) .z)))) .z)))))) .z)))) (aa Tg (aa OJ (aa VJ (aa ahk (aa ahj ag))))) Tryz.func209
theorem ajw(p:Option Addr)(n cap:Nat)(w:World):Calls Tryz.prog 206 #[.slice p n cap] w λe w'=>e = .returned (.func (.func 245) #[] #[.pointer (some ⟨w.heap.size,0,none⟩)])∧w'=w.alloc (.cells #[.slice p n cap] 33 (0,0)):=by
 go_enter Tryz.func206,Tryz.ntmps206
 go_wp2
 go_ret
 exact⟨rfl,rfl⟩
set_option maxHeartbeats 4000000 in
set_option maxRecDepth 1000000 in
theorem ajv:xM Tryz.prog 245 59 9:=by
 intro l bx n cap p J W hn hp hbx hcell hY h0;refine callsIn_of_wp Tryz.func245 rfl trivial ?_ rfl;simp only[Tryz.ntmps245,List.size_toArray,P8,QeK,Nat.reduceAdd,Nat.reduceSub,Array.replicate_succ,Array.replicate_zero,List.push_toArray,List.append_toArray,O7,SS]
 gi_wp2
 gi_loopw [3] (λi wr=>∃k:Nat,k≤n∧i = .int .i64 ((k:Int) - 1)∧J k wr) (λi _=>(Go.RowKit.intOf i+1).toNat)
 case atStart=>exact⟨n,KC _,by rw[show wrap64 ((n:Int) - 1)=(n:Int) - 1 by unfold maxLen at hn;simp only[wrap64];omega],h0⟩
 case round=>
  obtain⟨k,hk,rfl,hJ⟩:=hrel
  have hcw:wr.cell? ⟨bx,0,none⟩=some (.slice p n cap):=by rw[← hcell];simp[World.cell?,hbx k wr hJ]
  cases k with
  | zero=>
   gi_wp2
   go_end0
   exact⟨⟨_,rfl⟩,hJ⟩
  | succ k=>
   have e1:(((k+1:Nat):Int) - 1)=(k:Int):=by omega
   rw[e1];have hlt:k<n:=hk;rcases hp with hp | ⟨b,rfl⟩
   ·omega
   obtain⟨f,hf,fn,tmps,assign,body,hy,hR⟩:=hY k wr hJ hlt b rfl
   have c0:=hf 0 (by decide)
   rw[R4]at c0
   have c1:=hf 1 (by decide)
   have c2:=hf 2 (by decide)
   have c3:=hf 3 (by decide)
   have c4:=hf 4 (by decide)
   have c5:=hf 5 (by decide)
   have c6:=hf 6 (by decide)
   have c7:=hf 7 (by decide)
   have c8:=hf 8 (by decide)
   rw[show(⟨(List.range 9).map f⟩:Array Value) = #[f 0,f 1,f 2,f 3,f 4,f 5,f 6,f 7,f 8]from rfl]at hy
   gi_wp2
   refine hR.mono ?_;rintro e W3 ⟨rfl,hJ3⟩
   gi_wp2
   go_roundw
   case rel=>exact⟨k,by omega,by rw[show wrap64 ((k:Int) - 1)=(k:Int) - 1 by unfold maxLen at hn;simp only[wrap64];omega],hJ3⟩
   case measure=>simp[Go.RowKit.intOf,wrap64];unfold maxLen at hn;omega
theorem ah4:Jp 172 ae3:=ajz (nv:=48) (fB:=206) (fC:=245) (te:=59) (Zo:=33) (Ls:=anC) (SK:=ajF) (h:=aoE) tok (aa PO (aa Vk (aa Vh (aa ahG (aa ahF (aa ahE ag)))))) mix Tryz.func172 (by kernel_rfl) (by kernel_rfl) (by kernel_rfl) (by kernel_rfl) ⟨Tryz.f206,by kernel_rfl,by kernel_rfl,by kernel_rfl⟩ ⟨Tryz.f245,by kernel_rfl,by kernel_rfl,by kernel_rfl⟩ ajw (λti h=>by cases h;exact ajv) (by kernel_rfl)
theorem YG:Jp 213 aeu:=fo 4 .z ag Tryz.func213
theorem ahD:Jp 210 aex:=fo 47 (JQ (.s .z (.s (JQ ((JJ [(5,QE),(23,ge)] [5,7,14,17,23,24,25,26,27,28,29,30,31,32,33,34,35,36,37,38,39,40,41,42] [(2,[(5,QE)])] .z))) (.s (JQ ((JJ [(5,QE),(46,ge)] [5,9,10,11,46] [(4,[(5,QE)])] (JQ (.s .z (.s (.j [5,9,10,11] [(0,[(5,QE)])] .z) .z)))))) .z)))) (aa Tg (aa YG (aa OJ (aa VJ ag)))) Tryz.func210
theorem ahi:Jp 250 adX:=fo 54 (JQ (.s .z (.s (JQ ((JJ [(37,ge)] [4,8,10,37,38,39,40,41,42,43,44,45,46,47,48,49,50,51,52,53,74] [(1,[(4,ge)]),(2,[])] (JQ (.s .z (.s (.j [4,8,10,39,40,41,42,43,44,45,46,47,48,49,50,51,52,53,74] [(0,[]),(1,[(4,ge)])] (.b (JQ (.s (.s (.j [41,42,43,44,45,46,47,48,49] [(0,[(49,gt)])] .z) .z) (JQ ((JJ [(53,ge)] [4,10,53,74] [(1,[(4,ge)]),(4,[])] (JQ (.s .z (.s (.b (JQ J2)) .z)))))))))) .z)))))) .z))) (aa PN (aa OJ (aa Sj (aa Yq ag)))) Tryz.func250
theorem ahC:Jp 211 aew:=fo 20 (JQ (.s .z (JQ (.s (JQ ((JJ [(0,QE),(3,ge),(19,ge)] [0,3,6,19] [(2,[(0,QE),(3,ge)])] .z))) .z)))) (aa Sk (aa OJ (aa VJ (aa ahi ag)))) Tryz.func211
theorem ahB:Jp 212 aev:=fo 94 (JQ (.s .z (.s (JQ ((JJ [(4,Qs),(22,ge)] [4,6,7,8,9,10,15,22,23,24,25,26,27,28,29,30,31,32,33,34,35,36,37,38,39,40,41,42,43,44,45,46,47,48,49,50,51,52,53,54,55,56,57,58,59,60,61,62,63,64,65,66,67,68,69,70,71,72,73,74,75,76,77,78,79,80,81,82,83,84,85,86,87,88,89,90,91] [(2,[(4,Qs)])] (JQ (.s .z (.s (.j [4,6,7,8,9,10,24,25,26,27,28,29,30,31,32,33,34,35,36,37,38,39,40,41,42,43,44,45,46,47,48,49,50,51,52,53,54,55,56,57,58,59,60,61,62,63,64,65,66,67,68,69,70,71,72,73,74,75,76,77,78,79,80,81,82,83,84,85,86,87,88,89,90] [(0,[(4,Qs)])] (.b (JQ (.s .z (.s (.s (.j [36,37,38,39,40,41,42,43,44,45,46,47,48,49,50,51,52,53,54,55,56] [(0,[(56,gt)])] .z) .z) (JQ (.s (.j [63,64,65,66,67,68,69,70,71,72,73,74,75,76,77,78,79,80,81,82,83,84,85,86,87] [(0,[(87,gt)])] .z) .z))))))) .z)))))) (JQ (.s (.g [(11,f8)] [11,12,92,120] (.s (.j [] [(0,[(120,gt)])] .z) .z)) .z))))) (aa VL (aa VI (aa Yv ag))) Tryz.func212
theorem ah3:Jp 173 ae2:=fo 9 (JQ (.s .z (JQ (.s .z (.s ((JJ [(5,QE),(7,f0)] [5,7,8] [(2,[(7,f0)])] .z)) .z))))) (aa ahD (aa ahC (aa ahB (aa YG ag)))) Tryz.func173
theorem ah2:Jp 174 ae1:=fo 3 .z ag Tryz.func174
theorem ah1:Jp 175 ae0:=fo 3 .z ag Tryz.func175
shelf_lay Go.Proofs.Lays.n189 Nm 189 at Tryz as lay176
theorem YK:Jp 176 aeZ:=CE (ρ:=lay176_ren) lay176 ⟨Tryz.f176,by kernel_rfl,by kernel_rfl,by kernel_rfl⟩
theorem ait:Jp 129 afG:=fo 48 (JQ (.s .z (.s (JQ ((JJ [(2,QV),(16,ge)] [2,4,6,7,11,16,17,18,19,20,21,22,23,24,25,26,27,28,29,30,31,32,33,34,35,36,37,38,39,40,41,42,43] [(2,[(2,QV)])] (JQ (.s .z (.s (.b (JQ (.s .z (JQ ((JJ [(2,QV),(26,ge)] [2,6,7,21,22,26,27,28,29,30,31,32,33,34,35,36,37,38,39,40,41,42] [(4,[(2,QV)])] .z)))))) .z)))))) (.s (JQ ((JJ [(3,f0),(47,ge)] [3,9,47] [(6,[(3,f0)])] (JQ (.s .z (.s (.j [3,9] [(0,[(3,f0)])] .z) .z)))))) .z)))) (aa PO (aa Vk (aa abX (aa ah4 (aa ah3 (aa ah2 (aa ah1 (aa YK ag)))))))) Tryz.func129
theorem am0:Jp 53 alR:=fo 122 (JQ (.s (.b (.s (.j [11,12,13,14,15,16,17,18,19,20,21,22,23,24,25] [(0,[(11,gt)])] .z) .z)) (JQ (.s .z (.s (JQ ((JJ [(0,QL),(67,ge)] [0,5,45,64,67,68,69,70,71,72,73,74] [(3,[(0,QL)])] .z))) (.s (JQ ((JJ [(0,QL),(81,ge)] [0,7,78,81,82,83,84,85,86,87,88,89,90,91,92,93,94,95,96] [(5,[(0,QL)])] .z))) (JQ (.s .z (JQ (.s (JQ ((JJ [(8,QT),(121,ge)] [8,10,121] [(7,[(8,QT)])] (JQ (.s .z (.s (.j [8,10] [(0,[(8,QT)])] .z) .z)))))) .z)))))))))) (aa PO (aa Rx (aa Vh (aa YT (aa aiz (aa aiy (aa aix (aa aiw (aa aiv (aa aiu (aa ait ag))))))))))) Tryz.func53
theorem YJ:Jp 177 aeY:=fo 2 .z ag Tryz.func177
theorem ah0:Jp 178 aeX:=fo 2 .z (aa VT ag) Tryz.func178
theorem ahZ:Jp 179 aeW:=fo 3 .z ag Tryz.func179
theorem ahf:Jp 265 adS:=fo 13 (JQ (.s .z (.s (JQ ((JJ [(7,QW),(12,ge)] [7,9,12,31] [(2,[(7,QW)])] (JQ (.s .z (.s (.j [7,9,31] [(0,[(7,QW)])] (.b (JQ (.s (.j [] [(0,[(31,gt)])] .z) .z)))) .z)))))) .z))) (aa Rw ag) Tryz.func265
theorem ahg:Jp 264 adT:=fo 7 .z (aa Rw (aa Tf (aa ahf ag))) Tryz.func264
theorem ahA:Jp 216 aes:=fo 19 (JQ (.s .z (.s (JQ ((JJ [(11,f0),(18,ge)] [11,13,15,18,33] [(2,[(11,f0)])] (JQ (.s .z (.s (.j [11,13,33] [(0,[(11,f0)])] (.b (JQ JZ))) .z)))))) .z))) (aa YI (aa ahg ag)) Tryz.func216
theorem ahY:Jp 180 aeV:=fo 77 (JQ (.s (.s (.j [15,16,17,18,19,20,21,22,23,24,25,26,27,28,29,30,31,32,33,34,35,36,37,38,39,40,41,42,43,44,45,46] [(0,[(46,gt)])] .z) .z) (JQ (.s .z (.s (JQ ((JJ [(10,f0),(57,ge)] [10,12,50,51,54,57,58,59,60,61,62,63,64,65,66,67,68,69,70,71] [(2,[(10,f0)])] (JQ (.s .z (.s (.j [10,12,59,60,61,62,63,64,65,66,67,68,69,70] [(0,[(10,f0)])] .z) .z)))))) (JQ (.s (JQ ((JJ [(76,ge)] [8,9,14,76,93] [(1,[(8,ge),(9,ge)]),(4,[])] (JQ (.s .z (.s (.b (JQ (.s (.j [] [(0,[(93,gt)])] .z) .z))) .z)))))) .z))))))) (aa YK (aa YJ (aa ahA ag))) Tryz.func180
theorem ais:Jp 130 afF:=fo 13 (JQ (.s .z (JQ (.s ((JJ [(9,ge)] [9,30] [(2,[(9,ge)])] (.s (.s (.j [] [(0,[(30,gt)])] .z) .z) .z))) (.s (.b JZ) .z))))) (aa PO (aa YJ (aa ah0 (aa ahZ (aa ahY (aa Sk ag)))))) Tryz.func130
theorem amZ:Jp 54 alQ:=fo 6 .z (aa Rx (aa ais ag)) Tryz.func54
theorem air:Jp 132 afD:=fo 3 .z ag Tryz.func132
set_option maxHeartbeats 4000000 in
set_option maxRecDepth 1000000 in
theorem ajI:lj Tryz.prog 133:=by
 constructor
 ·intro b n cap i w hn hj
  go_enter Tryz.func133,Tryz.ntmps133
  go_wp2
  all_goals (go_ret;exact⟨rfl,rfl⟩)
 ·intro p w;cases p
  ·go_enter Tryz.func133,Tryz.ntmps133
   go_wp2
   all_goals (go_ret;exact⟨rfl,rfl⟩)
  ·go_enter Tryz.func133,Tryz.ntmps133
   go_wp2
   all_goals (go_ret;exact⟨rfl,rfl⟩)
set_option maxHeartbeats 4000000 in
set_option maxRecDepth 1000000 in
theorem ajD:lp Tryz.prog 133 35 47 6:=by
 intro b n cap i j w hn hm hlt hj i0 hi0 hz1 A hA news s1 hsrc s2 s3 W1 W2 hW hcl
 have hic:i≤cap:=by omega
 have hjc:j≤cap:=by omega
 have tS:Tryz.prog.underlying 35=some (.slice 47):=by kernel_rfl
 have mixed:Tryz.prog.follows .mixedOrders=true:=Checked.mixed Tryz.checked
 go_enter Tryz.func133,Tryz.ntmps133
 go_wp2_with fail
 go_region_law_o (refine step_append_room rfl (.tmp 22) (.tmp 25) 35 rfl 47 i0 6 tS hi0 hz1 b 0 i cap (by simp[Act.eval,Act.put]) A (n - j) (cap - j) news (by simp[Act.eval,Act.put]) s1.out hsrc.out s2.out (by omega) s3.out ?_;rw[← hW.out])
 go_wp2
 go_ret
 exact⟨rfl,rfl⟩
theorem aiq:Jp 133 afC:=pZ tok (te:=VG) (by kernel_rfl) (by kernel_rfl) (sz:=6) (by kernel_rfl) (M4.mp (by kernel_rfl)) (by kernel_rfl:Tryz.prog.underlying 35=some (.slice 47)) ⟨Tryz.f133,by kernel_rfl,by kernel_rfl,by kernel_rfl⟩ ajI ajD
theorem amY:Jp 55 alP:=fo 7 .z (aa PO (aa VT (aa air (aa aiq ag)))) Tryz.func55
theorem amX:Jp 56 alO:=fo 3 .z (aa Rx ag) Tryz.func56
theorem anq:Jp 21 amm:=fo 8 .z (aa am7 (aa am6 (aa am5 (aa am4 (aa am3 (aa am2 (aa am1 (aa am0 (aa amZ (aa amY (aa amX (aa Rx ag)))))))))))) Tryz.func21
theorem ok9:Jp 9 sp9:=fo 9 h9 (aa PO (aa anq ag)) Tryz.func9
theorem ain:Jp 140 afv:=fo 9 JX ag Tryz.func140
theorem amT:Jp 61 alJ:=fo 2 .z (aa ain ag) Tryz.func61
theorem amS:Jp 62 alI:=fo 2 .z ag Tryz.func62
theorem anp:Jp 23 amk:=fo 73 (JQ (.s .z (.s (JQ ((JJ [(3,QY),(18,ge)] [3,5,18,19,20,21,22,23,24,25,26,27] [(2,[(3,QY)])] .z))) (.s (JQ ((JJ [(3,QY),(32,ge)] [3,7,32,33,34,35,36,37,38,39,40,41] [(4,[(3,QY)])] .z))) (.s (JQ ((JJ [(3,QY),(46,ge)] [3,9,46,47,48,49,50,51,52,53,54,55] [(6,[(3,QY)])] .z))) (.s (JQ ((JJ [(3,QY),(60,ge)] [3,11,13,60,61,62,63,64,65,66,67,68,69,70,71,72] [(8,[(3,QY)])] (JQ (.s .z (.s (.b (JQ (.s .z (JQ ((JJ [(3,QY),(72,ge)] [3,13,68,72] [(10,[(3,QY)])] .z)))))) .z)))))) .z)))))) (aa amT (aa amS ag)) Tryz.func23
theorem amR:Jp 63 alH:=fo 8 h63 ag Tryz.func63
theorem amQ:Jp 64 alG:=fo 2 .z ag Tryz.func64
theorem amP:Jp 65 alF:=fo 2 .z ag Tryz.func65
theorem amO:Jp 66 alE:=fo 2 .z ag Tryz.func66
theorem amN:Jp 67 alD:=fo 2 .z ag Tryz.func67
theorem amM:Jp 68 alC:=fo 2 .z ag Tryz.func68
theorem ano:Jp 24 amj:=fo 4 .z (aa amR (aa amQ (aa amP (aa amO (aa amN (aa amM ag)))))) Tryz.func24
set_option maxHeartbeats 4000000 in
set_option maxRecDepth 1000000 in
theorem aox:SG Tryz.prog 25 69 70 90:=by
 intro p n cap fid bound captured w R b h
 have ec:∀args w,(callFunc 69 args).run Tryz.prog w = .ok (.enter 69 args) w:=enters_of Tryz.func69 (by kernel_rfl) rfl
 go_enter Tryz.func25,Tryz.ntmps25
 go_wp2_with (go_at_fn 69;refine h.mono ?_;rintro e w' ⟨rfl,hR⟩)
 go_ret
 exact⟨rfl,hR⟩
set_option maxHeartbeats 4000000 in
set_option maxRecDepth 1000000 in
theorem aot:SF Tryz.prog 70 90 59 9:=by
 intro vs fid bound captured bx w R b hl h1 hent hbx hcell h
 match vs,hl with
 | [v0,v1,v2,v3,v4,v5,v6,v7,v8],_=>
 have o0:v0.oneCell'=true:=h1 _ (by simp)
 have o1:v1.oneCell'=true:=h1 _ (by simp)
 have o2:v2.oneCell'=true:=h1 _ (by simp)
 have o3:v3.oneCell'=true:=h1 _ (by simp)
 have o4:v4.oneCell'=true:=h1 _ (by simp)
 have o5:v5.oneCell'=true:=h1 _ (by simp)
 have o6:v6.oneCell'=true:=h1 _ (by simp)
 have o7:v7.oneCell'=true:=h1 _ (by simp)
 have o8:v8.oneCell'=true:=h1 _ (by simp)
 rw[show(⟨bound++[.agg ⟨[v0,v1,v2,v3,v4,v5,v6,v7,v8]⟩]++captured⟩:Array Value)=(bound++.agg #[v0,v1,v2,v3,v4,v5,v6,v7,v8]::captured).toArray by simp]at h
 obtain⟨fn,hf,hf1,hf2⟩:=hent
 have aat:∀args w,(callFunc fid args).run Tryz.prog w = .ok (.enter fid args) w:=by
  cases hb:fn.body with
  | none=>rw[hb]at hf2;cases hf2
  | some bd=>exact enters_of hf hf1 hb
 clear hf hf1 hf2
 have hcw:(w.alloc (.cells #[v0,v1,v2,v3,v4,v5,v6,v7,v8] 59 (0,0))).cell? ⟨bx,0,none⟩=some (.func (.func fid) ⟨bound⟩ ⟨captured⟩):=by rw[World.cell?_alloc_old _ _ _ (Zx hbx)];simp[World.cell?,hcell]
 go_enter Tryz.func70,Tryz.ntmps70
 go_wp2_with (go_at_fn fid;refine h.mono ?_;rintro e w' ⟨rfl,hR⟩)
 go_ret
 exact⟨rfl,hR⟩
theorem anm:Jp 25 ami:=sH abX ⟨Tryz.f25,by kernel_rfl,by kernel_rfl,by kernel_rfl⟩ ⟨Tryz.f70,by kernel_rfl,by kernel_rfl,by kernel_rfl⟩ (by kernel_rfl) aox aot
theorem anl:Jp 26 amh:=fo 8 .z (aa Tg (aa Vi (aa PN ag))) Tryz.func26
theorem amL:Jp 74 alx:=fo 2 .z (aa YQ ag) Tryz.func74
set_option maxHeartbeats 4000000 in
set_option maxRecDepth 1000000 in
theorem aow:SG Tryz.prog 27 74 75 92:=by
 intro p n cap fid bound captured w R b h
 have ec:∀args w,(callFunc 74 args).run Tryz.prog w = .ok (.enter 74 args) w:=enters_of Tryz.func74 (by kernel_rfl) rfl
 go_enter Tryz.func27,Tryz.ntmps27
 go_wp2_with (go_at_fn 74;refine h.mono ?_;rintro e w' ⟨rfl,hR⟩)
 go_ret
 exact⟨rfl,hR⟩
set_option maxHeartbeats 4000000 in
set_option maxRecDepth 1000000 in
theorem aos:SF Tryz.prog 75 92 42 8:=by
 intro vs fid bound captured bx w R b hl h1 hent hbx hcell h
 match vs,hl with
 | [v0,v1,v2,v3,v4,v5,v6,v7],_=>
 have o0:v0.oneCell'=true:=h1 _ (by simp)
 have o1:v1.oneCell'=true:=h1 _ (by simp)
 have o2:v2.oneCell'=true:=h1 _ (by simp)
 have o3:v3.oneCell'=true:=h1 _ (by simp)
 have o4:v4.oneCell'=true:=h1 _ (by simp)
 have o5:v5.oneCell'=true:=h1 _ (by simp)
 have o6:v6.oneCell'=true:=h1 _ (by simp)
 have o7:v7.oneCell'=true:=h1 _ (by simp)
 rw[show(⟨bound++[.agg ⟨[v0,v1,v2,v3,v4,v5,v6,v7]⟩]++captured⟩:Array Value)=(bound++.agg #[v0,v1,v2,v3,v4,v5,v6,v7]::captured).toArray by simp]at h
 obtain⟨fn,hf,hf1,hf2⟩:=hent
 have aat:∀args w,(callFunc fid args).run Tryz.prog w = .ok (.enter fid args) w:=by
  cases hb:fn.body with
  | none=>rw[hb]at hf2;cases hf2
  | some bd=>exact enters_of hf hf1 hb
 clear hf hf1 hf2
 have hcw:(w.alloc (.cells #[v0,v1,v2,v3,v4,v5,v6,v7] 42 (0,0))).cell? ⟨bx,0,none⟩=some (.func (.func fid) ⟨bound⟩ ⟨captured⟩):=by rw[World.cell?_alloc_old _ _ _ (Zx hbx)];simp[World.cell?,hcell]
 go_enter Tryz.func75,Tryz.ntmps75
 go_wp2_with (go_at_fn fid;refine h.mono ?_;rintro e w' ⟨rfl,hR⟩)
 go_ret
 exact⟨rfl,hR⟩
theorem ank:Jp 27 amg:=sH amL ⟨Tryz.f27,by kernel_rfl,by kernel_rfl,by kernel_rfl⟩ ⟨Tryz.f75,by kernel_rfl,by kernel_rfl,by kernel_rfl⟩ (by kernel_rfl) aow aos
theorem anj:Jp 28 amf:=fo 15 (JQ (.s .z (.s (JQ ((JJ [(5,QW),(14,ge)] [4,5,7,8,9,14] [(1,[(4,gt)]),(2,[(5,QW)])] (JQ (.s .z (.s (.j [4,5,7,8,9] [(0,[(5,QW)]),(1,[(4,gt)])] .z) .z)))))) .z))) (aa Rw (aa Tf ag)) Tryz.func28
theorem amK:Jp 78 alr:=fo 2 .z (aa ZR ag) Tryz.func78
set_option maxHeartbeats 4000000 in
set_option maxRecDepth 1000000 in
theorem aov:SG Tryz.prog 29 78 79 94:=by
 intro p n cap fid bound captured w R b h
 have ec:∀args w,(callFunc 78 args).run Tryz.prog w = .ok (.enter 78 args) w:=enters_of Tryz.func78 (by kernel_rfl) rfl
 go_enter Tryz.func29,Tryz.ntmps29
 go_wp2_with (go_at_fn 78;refine h.mono ?_;rintro e w' ⟨rfl,hR⟩)
 go_ret
 exact⟨rfl,hR⟩
set_option maxHeartbeats 4000000 in
set_option maxRecDepth 1000000 in
theorem aor:SF Tryz.prog 79 94 45 14:=by
 intro vs fid bound captured bx w R b hl h1 hent hbx hcell h
 match vs,hl with
 | [v0,v1,v2,v3,v4,v5,v6,v7,v8,v9,v10,v11,v12,v13],_=>
 have o0:v0.oneCell'=true:=h1 _ (by simp)
 have o1:v1.oneCell'=true:=h1 _ (by simp)
 have o2:v2.oneCell'=true:=h1 _ (by simp)
 have o3:v3.oneCell'=true:=h1 _ (by simp)
 have o4:v4.oneCell'=true:=h1 _ (by simp)
 have o5:v5.oneCell'=true:=h1 _ (by simp)
 have o6:v6.oneCell'=true:=h1 _ (by simp)
 have o7:v7.oneCell'=true:=h1 _ (by simp)
 have o8:v8.oneCell'=true:=h1 _ (by simp)
 have o9:v9.oneCell'=true:=h1 _ (by simp)
 have o10:v10.oneCell'=true:=h1 _ (by simp)
 have o11:v11.oneCell'=true:=h1 _ (by simp)
 have o12:v12.oneCell'=true:=h1 _ (by simp)
 have o13:v13.oneCell'=true:=h1 _ (by simp)
 rw[show(⟨bound++[.agg ⟨[v0,v1,v2,v3,v4,v5,v6,v7,v8,v9,v10,v11,v12,v13]⟩]++captured⟩:Array Value)=(bound++.agg #[v0,v1,v2,v3,v4,v5,v6,v7,v8,v9,v10,v11,v12,v13]::captured).toArray by simp]at h
 obtain⟨fn,hf,hf1,hf2⟩:=hent
 have aat:∀args w,(callFunc fid args).run Tryz.prog w = .ok (.enter fid args) w:=by
  cases hb:fn.body with
  | none=>rw[hb]at hf2;cases hf2
  | some bd=>exact enters_of hf hf1 hb
 clear hf hf1 hf2
 have hcw:(w.alloc (.cells #[v0,v1,v2,v3,v4,v5,v6,v7,v8,v9,v10,v11,v12,v13] 45 (0,0))).cell? ⟨bx,0,none⟩=some (.func (.func fid) ⟨bound⟩ ⟨captured⟩):=by rw[World.cell?_alloc_old _ _ _ (Zx hbx)];simp[World.cell?,hcell]
 go_enter Tryz.func79,Tryz.ntmps79
 go_wp2_with (go_at_fn fid;refine h.mono ?_;rintro e w' ⟨rfl,hR⟩)
 go_ret
 exact⟨rfl,hR⟩
theorem ani:Jp 29 ame:=sH amK ⟨Tryz.f29,by kernel_rfl,by kernel_rfl,by kernel_rfl⟩ ⟨Tryz.f79,by kernel_rfl,by kernel_rfl,by kernel_rfl⟩ (by kernel_rfl) aov aor
theorem anh:Jp 30 amd:=fo 38 (JQ (.s .z (.s (JQ ((JJ [(5,ge),(6,ge),(13,ge)] [5,6,8,13,14,15,16,17,18,19,20,21,22,23,24,25,26,27,28,29,30,31,32,33,34,35] [(2,[(5,ge),(6,ge)])] (JQ (.s .z (.s (.j [5,6,8,15,16,17,18,19,20,21,22,23,24,25,26,27,28,29,30,31,32,33,34] [(0,[(5,ge),(6,ge)])] (.b (JQ (.s (.j [6,17,18,19,20,21,22,23] [(0,[(6,ge)])] .z) (.s (.j [24,25,26,27,28,29,30,31,32] [(0,[(32,gt)])] .z) .z))))) .z)))))) (.s (.j [4,36,37] [(0,[]),(1,[(4,gt)])] .z) .z)))) (aa Z0 ag) Tryz.func30
set_option maxHeartbeats 4000000 in
set_option maxRecDepth 1000000 in
theorem aou:SG Tryz.prog 31 81 82 98:=by
 intro p n cap fid bound captured w R b h
 have ec:∀args w,(callFunc 81 args).run Tryz.prog w = .ok (.enter 81 args) w:=enters_of Tryz.func81 (by kernel_rfl) rfl
 go_enter Tryz.func31,Tryz.ntmps31
 go_wp2_with (go_at_fn 81;refine h.mono ?_;rintro e w' ⟨rfl,hR⟩)
 go_ret
 exact⟨rfl,hR⟩
set_option maxHeartbeats 4000000 in
set_option maxRecDepth 1000000 in
theorem aoq:SF Tryz.prog 82 98 97 3:=by
 intro vs fid bound captured bx w R b hl h1 hent hbx hcell h
 match vs,hl with
 | [v0,v1,v2],_=>
 have o0:v0.oneCell'=true:=h1 _ (by simp)
 have o1:v1.oneCell'=true:=h1 _ (by simp)
 have o2:v2.oneCell'=true:=h1 _ (by simp)
 rw[show(⟨bound++[.agg ⟨[v0,v1,v2]⟩]++captured⟩:Array Value)=(bound++.agg #[v0,v1,v2]::captured).toArray by simp]at h
 obtain⟨fn,hf,hf1,hf2⟩:=hent
 have aat:∀args w,(callFunc fid args).run Tryz.prog w = .ok (.enter fid args) w:=by
  cases hb:fn.body with
  | none=>rw[hb]at hf2;cases hf2
  | some bd=>exact enters_of hf hf1 hb
 clear hf hf1 hf2
 have hcw:(w.alloc (.cells #[v0,v1,v2] 97 (0,0))).cell? ⟨bx,0,none⟩=some (.func (.func fid) ⟨bound⟩ ⟨captured⟩):=by rw[World.cell?_alloc_old _ _ _ (Zx hbx)];simp[World.cell?,hcell]
 go_enter Tryz.func82,Tryz.ntmps82
 go_wp2_with (go_at_fn fid;refine h.mono ?_;rintro e w' ⟨rfl,hR⟩)
 go_ret
 exact⟨rfl,hR⟩
theorem ang:Jp 31 amc:=sH abW ⟨Tryz.f31,by kernel_rfl,by kernel_rfl,by kernel_rfl⟩ ⟨Tryz.f82,by kernel_rfl,by kernel_rfl,by kernel_rfl⟩ (by kernel_rfl) aou aoq
theorem ok32:Jp 32 amb:=fo 6 .z (aa Vi ag) Tryz.func32
theorem anw:Jp 13 amv:=fo 4 .z (aa ab2 (aa anp (aa ano (aa anm (aa anl (aa ank (aa anj (aa ani (aa anh (aa ang (aa ok32 ag))))))))))) Tryz.func13
theorem ok5:Jp 5 sp5:=fo 7 h5 (aa ok7 (aa ok9 (aa anw ag))) Tryz.func5
theorem ok6:Jp 6 sp6:=fo 2 h6 ag Tryz.func6
theorem Z4:Jp 14 amu:=fo 6 JL ag Tryz.func14
theorem amI:Jp 84 aln:=fo 4 (JQ (.s .z (.s ((JJ [(3,ge)] [3,14] [(2,[(3,ge)])] (.s (.s (.j [] [(0,[(14,gt)])] .z) .z) .z))) .z))) ag Tryz.func84
theorem ab0:Jp 36 al8:=fo 7 h36 (aa amI ag) Tryz.func36
theorem amJ:Jp 83 alo:=fo 8 (JQ (.s (JQ ((JJ [(4,Q8),(6,ge)] [4,5,6,7] [(1,[(4,Q8),(5,gt)]),(2,[(4,Q8)])] .z))) .z)) ag Tryz.func83
theorem anf:Jp 33 ama:=fo 3 .z (aa ab0 (aa amJ ag)) Tryz.func33
theorem anv:Jp 15 amt:=fo 5 (JQ (.s .z (.s (JQ ((JJ [(3,t6),(4,ge)] [3,4] [(2,[(3,t6)])] (JQ (.s (.j [3] [(0,[(3,t6)])] .z) .z))))) .z))) (aa anf ag) Tryz.func15
theorem ok16:Jp 16 ams:=fo 3 h16 (aa Z4 ag) Tryz.func16
theorem anu:Jp 17 amr:=fo 9 (JQ (.s .z (JQ (.s .z (JQ (.s (.j [5,7] [(0,[(5,QX)])] (JQ (.c (JQ (.s (.j [7] [(0,[(7,Qn)])] .z) (.s (.j [7] [(0,[(7,Qn)])] .z) .z))) .z))) (.s (JQ ((JJ [(5,QX),(8,ge)] [5,8,104] [(2,[(5,QX)])] (JQ (.s (.j [5,104] [(0,[(5,QX)])] (.b JS)) .z))))) .z))))))) (aa Z4 (aa ok16 ag)) Tryz.func17
theorem Ct:∀n,Lf Tryz.prog 34 (IN n)
 | 0=>⟨⟨Tryz.f34,by kernel_rfl,by kernel_rfl,by kernel_rfl⟩,λa r hr=>nomatch (show(none:Option _)=some r from hr)⟩
 | n+1=>M7 (nv:=1) (h:=h34) tok mix (aa (Ct n) ag) Tryz.func34 (by kernel_rfl) (by kernel_rfl) (by kernel_rfl) (by kernel_rfl) (by kernel_rfl)
theorem ane:Jp 34 al_:=Ct 64
theorem ant:Jp 18 amq:=fo 8 (JQ (.s .z (.s (JQ ((JJ [(3,f8),(4,ge)] [3,4] [(2,[(3,f8)])] .z))) (JQ (.s (JQ ((JJ [(3,f8),(5,ge)] [3,5,6,7] [(4,[(3,f8)])] (JQ (.s (.b (JQ (.s .z (.s (JQ ((JJ [(3,f8),(7,ge)] [3,7] [(6,[(3,f8)])] .z))) .z)))) .z))))) .z))))) (aa ane ag) Tryz.func18
theorem ab1:Jp 35 al9:=fo 6 JL ag Tryz.func35
theorem anb:Jp 37 al7:=fo 2 .z ag Tryz.func37
theorem anr:Jp 19 amo:=fo 19 (JQ (.s .z (JQ (.s .z (.s (JQ ((JJ [(6,QO),(8,ge)] [6,8,9,10,59] [(2,[(6,QO)])] (JQ (.s (.b (JQ (.s (.j [9,59] [(0,[(9,Q8)])] (.s (.j [] [(0,[(59,gt)])] .z) .z)) (.s (JQ ((JJ [(9,Q8),(10,ge)] [9,10] [(4,[(9,Q8)])] .z))) .z)))) .z))))) (.s (JQ ((JJ [(6,QO),(11,ge)] [6,11,12,13,14,15,16,17,18] [(6,[(6,QO)])] (JQ (.s (.b (JQ (.s .z ((JJ [(6,QO),(13,ge)] [6,13,14,15,16,17,18] [(8,[(6,QO)])] (JQ (.s (.b (JQ (.s .z ((JJ [(6,QO),(14,ge),(15,ge)] [6,14,15,16,17,18] [(10,[(6,QO)])] (JQ (.s (.b (JQ (.s (.j [16] [(0,[(16,ge)])] .z) (JQ (.s .z (JQ ((JJ [(6,QO),(18,ge)] [6,18] [(12,[(6,QO)])] (JQ (.s (.j [6] [(0,[(6,QO)])] .z) .z)))))))))) .z))))))) .z))))))) .z))))) .z)))))) (aa ab1 (aa ab1 (aa ab0 (aa anb ag)))) Tryz.func19
theorem ok8:Jp 8 sp8:=fo 30 h8 (aa Z4 (aa anv (aa ok16 (aa anu (aa ant (aa anr ag)))))) Tryz.func8
theorem anA:Jp 10 amy:=fo 7 h10 ag Tryz.func10
theorem anz:Jp 11 amx:=fo 7 h11 ag Tryz.func11
theorem anx:Jp 12 amw:=fo 11 h12 ag Tryz.func12
theorem ok4:Jp 4 sp4:=fo 19 h4 (aa ok5 (aa ok6 (aa ok7 (aa ok8 (aa ok9 (aa anA (aa anz (aa anx ag)))))))) Tryz.func4
end Go.Fx.D
