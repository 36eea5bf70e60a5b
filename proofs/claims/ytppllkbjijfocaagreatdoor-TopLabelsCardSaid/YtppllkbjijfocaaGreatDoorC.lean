/-
  Each of these functions does what its function over plain data says, where that gives an answer (printed by a program). Conditions: none.
-/
import Derived.Test.YtppllkbjijfocaaGreatDoorFxD
import Derived.Ground.SlsfProg
import Derived.Ground.NamesProg
import Derived.Shelf.Lay
import Derived.Shelf.Strings.SlTrimAscii
import Derived.Shelf.Strconv.Atoi
import Derived.Test.YtppllkbjijfocaaGreatDoorD
import Derived.Test.YtppllkbjijfocaaGreatDoorFxC
import Derived.Test.YtppllkbjijfocaaGreatDoorChecked
import Derived.WalkKit
import Derived.TacticsInMore
import Derived.Lib.IndexBytes
import Derived.Deep.LoopGhost
import Derived.Shelf.RegionOpenPlain
import Derived.Lib.Walk
import Derived.LoopNIn
import Derived.LoopIn
namespace Go.Fx.D
open Go Go.Fx Go.Proofs Go.Shelf Go.RowKit Go.Lib Go.Sort
set_option linter.unusedVariables false
set_option maxRecDepth 100000
theorem rk{t:TypeId}{i:TI fam}(j:TypeInfo)(h1:Tryz.prog.underlying t=some i.desc:=by kernel_rfl)(h2:Tryz.prog.info? t=some j:=by kernel_rfl)(h3:j.zero=some (j.zero.getD .nilFunc):=by kernel_rfl)(h4:(Nat.beq j.size i.size&&Nat.beq j.bytes i.bytes&&Nat.beq (j.zero.getD .nilFunc).cells.size i.size&&zok i.zero (j.zero.getD .nilFunc).cells.toList&&(aat (j.zero.getD .nilFunc) == dj i.desc))=true:=by kernel_rfl)(h5:ZE i=true:=by kernel_rfl)(h6:Wj Tryz.prog t i=true:=by kernel_rfl):Jy Tryz.prog t i:=⟨h1,⟨j,_,h2,h3,h4⟩,h5,h6⟩
theorem IJ:Jy Tryz.prog 3 ZJ:=rk Tryz.t3
theorem Iy:Jy Tryz.prog 4 abQ:=rk Tryz.t4
theorem IF:Jy Tryz.prog 5 abP:=rk Tryz.t5
theorem IA:Jy Tryz.prog 9 abO:=rk Tryz.t9
theorem Gm:Jy Tryz.prog 21 Yb:=rk Tryz.t21
theorem An:Jy Tryz.prog 22 Ya:=rk Tryz.t22
theorem Gl:Jy Tryz.prog 23 X_:=rk Tryz.t23
theorem FW:Jy Tryz.prog 25 X9:=rk Tryz.t25
theorem AG:Jy Tryz.prog 27 X8:=rk Tryz.t27
theorem AZ:Jy Tryz.prog 28 X7:=rk Tryz.t28
theorem HN:Jy Tryz.prog 30 X6:=rk Tryz.t30
theorem A5:Jy Tryz.prog 31 X5:=rk Tryz.t31
theorem AR:Jy Tryz.prog 32 X4:=rk Tryz.t32
theorem AW:Jy Tryz.prog 33 X3:=rk Tryz.t33
theorem AF:Jy Tryz.prog 34 X0:=rk Tryz.t34
theorem Ak:Jy Tryz.prog 35 XZ:=rk Tryz.t35
theorem Hi:Jy Tryz.prog 37 XY:=rk Tryz.t37
theorem HJ:Jy Tryz.prog 40 XW:=rk Tryz.t40
theorem Gs:Jy Tryz.prog 42 VA:=rk Tryz.t42
theorem AK:Jy Tryz.prog 43 XV:=rk Tryz.t43
theorem Hb:Jy Tryz.prog 45 TH:=rk Tryz.t45
theorem Ho:Jy Tryz.prog 47 Vz:=rk Tryz.t47
theorem Hu:Jy Tryz.prog 49 XU:=rk Tryz.t49
theorem GP:Jy Tryz.prog 51 XT:=rk Tryz.t51
theorem G6:Jy Tryz.prog 53 XR:=rk Tryz.t53
theorem F6:Jy Tryz.prog 55 XQ:=rk Tryz.t55
theorem Gk:Jy Tryz.prog 59 TG:=rk Tryz.t59
theorem FV:Jy Tryz.prog 65 TF:=rk Tryz.t65
theorem Gy:Jy Tryz.prog 68 XP:=rk Tryz.t68
theorem Hn:Jy Tryz.prog 71 XO:=rk Tryz.t71
theorem Az:Jy Tryz.prog 72 XM:=rk Tryz.t72
theorem Hd:Jy Tryz.prog 74 XL:=rk Tryz.t74
theorem HK:Jy Tryz.prog 80 XK:=rk Tryz.t80
theorem GU:Jy Tryz.prog 83 XJ:=rk Tryz.t83
theorem GJ:Jy Tryz.prog 87 XI:=rk Tryz.t87
theorem Hg:Jy Tryz.prog 97 TD:=rk Tryz.t97
theorem Ew:Jy Tryz.prog 100 CA:=rk Tryz.t100
theorem DT:Jy Tryz.prog 102 C4:=rk Tryz.t102
theorem DZ:Jy Tryz.prog 130 CJ:=rk Tryz.t130
theorem D1:Jy Tryz.prog 177 DK:=rk Tryz.t177
theorem EV:Jy Tryz.prog 184 CL:=rk Tryz.t184
theorem ER:Jy Tryz.prog 190 Dy:=rk Tryz.t190
theorem EK:Jy Tryz.prog 192 Cc:=rk Tryz.t192
theorem DU:Jy Tryz.prog 198 Cp:=rk Tryz.t198
theorem Fh:Jy Tryz.prog 209 CT:=rk Tryz.t209
theorem Fu:Jy Tryz.prog 224 Dp:=rk Tryz.t224
theorem D8:Jy Tryz.prog 226 C0:=rk Tryz.t226
theorem Em:Jy Tryz.prog 242 DC:=rk Tryz.t242
theorem Ff:Jy Tryz.prog 245 DH:=rk Tryz.t245
theorem Er:Jy Tryz.prog 247 Cx:=rk Tryz.t247
theorem EJ:Jy Tryz.prog 252 Co:=rk Tryz.t252
theorem EE:Jy Tryz.prog 277 Dh:=rk Tryz.t277
theorem EF:Jy Tryz.prog 281 Dd:=rk Tryz.t281
theorem DN:Jy Tryz.prog 284 CS:=rk Tryz.t284
theorem Fd:Jy Tryz.prog 294 De:=rk Tryz.t294
theorem EO:Jy Tryz.prog 296 CP:=rk Tryz.t296
theorem Fl:Jy Tryz.prog 321 CM:=rk Tryz.t321
theorem E3:Jy Tryz.prog 340 Cy:=rk Tryz.t340
theorem ED:Jy Tryz.prog 352 Dj:=rk Tryz.t352
theorem EP:Jy Tryz.prog 365 Cg:=rk Tryz.t365
theorem Ft:Jy Tryz.prog 369 C5:=rk Tryz.t369
theorem Es:Jy Tryz.prog 371 C7:=rk Tryz.t371
theorem D5:Jy Tryz.prog 407 Cv:=rk Tryz.t407
theorem tok:Js Tryz.prog (look tbl):=acG (all_cons IJ (all_cons Iy (all_cons IF (all_cons IA (all_cons Gm (all_cons An (all_cons Gl (all_cons FW (all_cons AG (all_cons AZ (all_cons HN (all_cons A5 (all_cons AR (all_cons AW (all_cons AF (all_cons Ak (all_cons Hi (all_cons HJ (all_cons Gs (all_cons AK (all_cons Hb (all_cons Ho (all_cons Hu (all_cons GP (all_cons G6 (all_cons F6 (all_cons Gk (all_cons FV (all_cons Gy (all_cons Hn (all_cons Az (all_cons Hd (all_cons HK (all_cons GU (all_cons GJ (all_cons Hg (all_cons Ew (all_cons DT (all_cons DZ (all_cons D1 (all_cons EV (all_cons ER (all_cons EK (all_cons DU (all_cons Fh (all_cons Fu (all_cons D8 (all_cons Em (all_cons Ff (all_cons Er (all_cons EJ (all_cons EE (all_cons EF (all_cons DN (all_cons Fd (all_cons EO (all_cons Fl (all_cons E3 (all_cons ED (all_cons EP (all_cons Ft (all_cons Es (all_cons D5 all_nil)))))))))))))))))))))))))))))))))))))))))))))))))))))))))))))))
theorem mix:Tryz.prog.follows .mixedOrders=true:=Checked.mixed Tryz.checked
abbrev Jh (i:Nat)(s:Spec fam):=K9 Tryz.prog i s
theorem fo {Γ : Ctx fam} (nv : Nat) (h : Hint) (hΓ : Kr Tryz.prog Γ) {f : FuncId} {fn : Func} {sp : Spec fam} (hf : Tryz.prog.funcs[f]? = some fn) (hnm : (fn.name == "runtime.NumGoroutine") = false:=by kernel_rfl) (hbn : fn.body.isNone = false:=by kernel_rfl) (hlen : Nat.ble sp.ks.length fn.ntmps = true:=by kernel_rfl) (hrs : sp.rs.all (fun k => !k.KO) = true:=by kernel_rfl) (hD : (fun a => TA (look tbl) Γ nv fn h sp.ks sp.rs a) = sp.D:=by kernel_rfl) : K9 Tryz.prog f sp:=MZ tok mix hΓ hf hnm hbn hlen hrs hD
theorem ok7:Jh 7 sp7:=fo 2 h7 ag Tryz.func7
theorem Hc:Jh 85 G5:=MZ (nv:=1) (h:=h85) tok mix ag Tryz.func85 (by kernel_rfl) (by kernel_rfl) (by kernel_rfl) (by kernel_rfl) (by kernel_rfl)
set_option maxHeartbeats 2000000 in
theorem Im(p:Option Addr)(cap:Nat)(w:World):Calls Tryz.prog 85 #[.slice p 0 cap] w λe w'=>∃p',e = .returned (.slice p' 0 0)∧RowKit.Below w.heap.size w w'∧w.drawn≤w'.drawn:=by
 have q:=lK (P:=Tryz.prog) (t:=27) AG.und
 cases p with
 | none=>
  go_enter Tryz.func85,Tryz.ntmps85
  go_wp2
  go_ret
  exact⟨_,rfl,.refl _ _,Ku _⟩
 | some p=>
  go_enter Tryz.func85,Tryz.ntmps85
  go_wp2
  go_ret
  exact⟨_,rfl,(RowKit.Below.refl _ w).alloc (Ku _) _,Ku _⟩
theorem ZT:Jh 85 ald:=fH Hc Im
theorem HE:Jh 86 Hl:=MZ (nv:=1) (h:=h86) tok mix ag Tryz.func86 (by kernel_rfl) (by kernel_rfl) (by kernel_rfl) (by kernel_rfl) (by kernel_rfl)
set_option maxHeartbeats 2000000 in
theorem HX(p:Option Addr)(cap:Nat)(w:World):Calls Tryz.prog 86 #[.slice p 0 cap] w λe w'=>∃p',e = .returned (.slice p' 0 0)∧RowKit.Below w.heap.size w w'∧w.drawn≤w'.drawn:=by
 have q:=lK (P:=Tryz.prog) (t:=28) AZ.und
 cases p with
 | none=>
  go_enter Tryz.func86,Tryz.ntmps86
  go_wp2
  go_ret
  exact⟨_,rfl,.refl _ _,Ku _⟩
 | some p=>
  go_enter Tryz.func86,Tryz.ntmps86
  go_wp2
  go_ret
  exact⟨_,rfl,(RowKit.Below.refl _ w).alloc (Ku _) _,Ku _⟩
theorem ZR:Jh 86 alc:=fH HE HX
theorem Hs:Jh 87 HQ:=MZ (nv:=1) (h:=h87) tok mix ag Tryz.func87 (by kernel_rfl) (by kernel_rfl) (by kernel_rfl) (by kernel_rfl) (by kernel_rfl)
set_option maxHeartbeats 2000000 in
theorem II(p:Option Addr)(cap:Nat)(w:World):Calls Tryz.prog 87 #[.slice p 0 cap] w λe w'=>∃p',e = .returned (.slice p' 0 0)∧RowKit.Below w.heap.size w w'∧w.drawn≤w'.drawn:=by
 have q:=lK (P:=Tryz.prog) (t:=72) Az.und
 cases p with
 | none=>
  go_enter Tryz.func87,Tryz.ntmps87
  go_wp2
  go_ret
  exact⟨_,rfl,.refl _ _,Ku _⟩
 | some p=>
  go_enter Tryz.func87,Tryz.ntmps87
  go_wp2
  go_ret
  exact⟨_,rfl,(RowKit.Below.refl _ w).alloc (Ku _) _,Ku _⟩
theorem Xc:Jh 87 alb:=fH Hs II
theorem FR:Jh 88 G9:=MZ (nv:=1) (h:=h88) tok mix ag Tryz.func88 (by kernel_rfl) (by kernel_rfl) (by kernel_rfl) (by kernel_rfl) (by kernel_rfl)
set_option maxHeartbeats 2000000 in
theorem Iq(p:Option Addr)(cap:Nat)(w:World):Calls Tryz.prog 88 #[.slice p 0 cap] w λe w'=>∃p',e = .returned (.slice p' 0 0)∧RowKit.Below w.heap.size w w'∧w.drawn≤w'.drawn:=by
 have q:=lK (P:=Tryz.prog) (t:=31) A5.und
 cases p with
 | none=>
  go_enter Tryz.func88,Tryz.ntmps88
  go_wp2
  go_ret
  exact⟨_,rfl,.refl _ _,Ku _⟩
 | some p=>
  go_enter Tryz.func88,Tryz.ntmps88
  go_wp2
  go_ret
  exact⟨_,rfl,(RowKit.Below.refl _ w).alloc (Ku _) _,Ku _⟩
theorem ZQ:Jh 88 ala:=fH FR Iq
theorem HM:Jh 89 F4:=MZ (nv:=1) (h:=h89) tok mix ag Tryz.func89 (by kernel_rfl) (by kernel_rfl) (by kernel_rfl) (by kernel_rfl) (by kernel_rfl)
set_option maxHeartbeats 2000000 in
theorem IL(p:Option Addr)(cap:Nat)(w:World):Calls Tryz.prog 89 #[.slice p 0 cap] w λe w'=>∃p',e = .returned (.slice p' 0 0)∧RowKit.Below w.heap.size w w'∧w.drawn≤w'.drawn:=by
 have q:=lK (P:=Tryz.prog) (t:=33) AW.und
 cases p with
 | none=>
  go_enter Tryz.func89,Tryz.ntmps89
  go_wp2
  go_ret
  exact⟨_,rfl,.refl _ _,Ku _⟩
 | some p=>
  go_enter Tryz.func89,Tryz.ntmps89
  go_wp2
  go_ret
  exact⟨_,rfl,(RowKit.Below.refl _ w).alloc (Ku _) _,Ku _⟩
theorem Vb:Jh 89 ak_:=fH HM IL
theorem F7:Jh 90 F_:=MZ (nv:=1) (h:=h90) tok mix ag Tryz.func90 (by kernel_rfl) (by kernel_rfl) (by kernel_rfl) (by kernel_rfl) (by kernel_rfl)
set_option maxHeartbeats 2000000 in
theorem Ix(p:Option Addr)(cap:Nat)(w:World):Calls Tryz.prog 90 #[.slice p 0 cap] w λe w'=>∃p',e = .returned (.slice p' 0 0)∧RowKit.Below w.heap.size w w'∧w.drawn≤w'.drawn:=by
 have q:=lK (P:=Tryz.prog) (t:=34) AF.und
 cases p with
 | none=>
  go_enter Tryz.func90,Tryz.ntmps90
  go_wp2
  go_ret
  exact⟨_,rfl,.refl _ _,Ku _⟩
 | some p=>
  go_enter Tryz.func90,Tryz.ntmps90
  go_wp2
  go_ret
  exact⟨_,rfl,(RowKit.Below.refl _ w).alloc (Ku _) _,Ku _⟩
theorem ZP:Jh 90 ak9:=fH F7 Ix
theorem Hx:Jh 91 FT:=MZ (nv:=1) (h:=h91) tok mix ag Tryz.func91 (by kernel_rfl) (by kernel_rfl) (by kernel_rfl) (by kernel_rfl) (by kernel_rfl)
set_option maxHeartbeats 2000000 in
theorem HU(p:Option Addr)(cap:Nat)(w:World):Calls Tryz.prog 91 #[.slice p 0 cap] w λe w'=>∃p',e = .returned (.slice p' 0 0)∧RowKit.Below w.heap.size w w'∧w.drawn≤w'.drawn:=by
 have q:=lK (P:=Tryz.prog) (t:=35) Ak.und
 cases p with
 | none=>
  go_enter Tryz.func91,Tryz.ntmps91
  go_wp2
  go_ret
  exact⟨_,rfl,.refl _ _,Ku _⟩
 | some p=>
  go_enter Tryz.func91,Tryz.ntmps91
  go_wp2
  go_ret
  exact⟨_,rfl,(RowKit.Below.refl _ w).alloc (Ku _) _,Ku _⟩
theorem ZO:Jh 91 ak8:=fH Hx HU
theorem GD:Jh 92 Gd:=MZ (nv:=1) (h:=h92) tok mix ag Tryz.func92 (by kernel_rfl) (by kernel_rfl) (by kernel_rfl) (by kernel_rfl) (by kernel_rfl)
set_option maxHeartbeats 2000000 in
theorem Io(p:Option Addr)(cap:Nat)(w:World):Calls Tryz.prog 92 #[.slice p 0 cap] w λe w'=>∃p',e = .returned (.slice p' 0 0)∧RowKit.Below w.heap.size w w'∧w.drawn≤w'.drawn:=by
 have q:=lK (P:=Tryz.prog) (t:=32) AR.und
 cases p with
 | none=>
  go_enter Tryz.func92,Tryz.ntmps92
  go_wp2
  go_ret
  exact⟨_,rfl,.refl _ _,Ku _⟩
 | some p=>
  go_enter Tryz.func92,Tryz.ntmps92
  go_wp2
  go_ret
  exact⟨_,rfl,(RowKit.Below.refl _ w).alloc (Ku _) _,Ku _⟩
theorem ZN:Jh 92 ak7:=fH GD Io
theorem Fa:Jh 145 E_:=MZ (nv:=1) (h:=aoz) tok mix ag Tryz.func145 (by kernel_rfl) (by kernel_rfl) (by kernel_rfl) (by kernel_rfl) (by kernel_rfl)
set_option maxHeartbeats 2000000 in
theorem Hv(p:Option Addr)(cap:Nat)(w:World):Calls Tryz.prog 145 #[.slice p 0 cap] w λe w'=>∃p',e = .returned (.slice p' 0 0)∧RowKit.Below w.heap.size w w'∧w.drawn≤w'.drawn:=by
 have q:=lK (P:=Tryz.prog) (t:=43) AK.und
 cases p with
 | none=>
  go_enter Tryz.func145,Tryz.ntmps145
  go_wp2
  go_ret
  exact⟨_,rfl,.refl _ _,Ku _⟩
 | some p=>
  go_enter Tryz.func145,Tryz.ntmps145
  go_wp2
  go_ret
  exact⟨_,rfl,(RowKit.Below.refl _ w).alloc (Ku _) _,Ku _⟩
theorem VJ:Jh 145 afm:=fH Fa Hv
theorem aif:Jh 146 afl:=fo 4 .z ag Tryz.func146
theorem Xb:Jh 93 ak6:=fo 3 .z (aa VJ (aa aif ag)) Tryz.func93
theorem am2:Jh 38 alY:=fo 62 (JJ (.s .z (.s (JJ (.b (.m 14 23 2 [3,4,24,25,26,27,28,29,30,31,32,33,34,35,36,37] .z))) (JJ (.s .z (.s (JJ (.b (.m 56 61 4 [5,6] .z))) .z)))))) (aa ZT (aa ZR (aa Xc (aa ZQ (aa Vb (aa ZP (aa ZO (aa ZN (aa Xb ag))))))))) Tryz.func38
theorem uq:Jh 38 Fe:=fo 62 (.s .z (.s .z (.s (.s .z (.b (.l [(14,.row (.st 2) false),(23,.v (.int .i64) [])] [3,4,14,23,24,25,26,27,28,29,30,31,32,33,34,35,36,37] [(2,[(14,.row (.st 2) false)])] .z))) (.s .z (.s .z (.s (.s .z (.b (.l [(56,.row (.st 6) false),(61,.v (.int .i64) [])] [5,6,56,61] [(4,[(56,.row (.st 6) false)])] .z))) .z)))))) (aa ZT (aa ZR (aa Xc (aa ZQ (aa Vb (aa ZP (aa ZO (aa ZN (aa Xb ag))))))))) Tryz.func38
theorem Vf:Jh 39 alX:=fo 9 JZ ag Tryz.func39
theorem am1:Jh 40 alW:=fo 3 .z ag Tryz.func40
theorem ZM:Jh 94 ak5:=fo 9 JZ ag Tryz.func94
theorem amx:Jh 95 ak4:=fo 3 .z ag Tryz.func95
theorem Ve:Jh 41 alV:=fo 4 .z (aa ZM (aa amx ag)) Tryz.func41
theorem YB:Jh 203 aex:=fo 9 JZ ag Tryz.func203
theorem ah6:Jh 165 ae6:=fo 8 (JJ (.s .z (JJ (.s (JJ ((JX [(0,Qp),(5,ge),(6,ge)] [0,5,6,7] [(2,[(0,Qp),(5,ge)])] (JJ (.s (.j [0,5,7] [(0,[(0,Qp),(5,ge)])] .z) .z))))) JW)))) (aa YB ag) Tryz.func165
theorem VF:Jh 166 ae5:=fo 4 .z ag Tryz.func166
theorem ah5:Jh 167 ae4:=fo 3 .z ag Tryz.func167
theorem G4:Jh 168 GL:=MZ (nv:=10) (h:=aox) tok mix ag Tryz.func168 (by kernel_rfl) (by kernel_rfl) (by kernel_rfl) (by kernel_rfl) (by kernel_rfl)
theorem agf(w:World)(a b:Value)(h:(Extern.SlicesOverlaps.overlaps #[43,43] #[4] #[a,b]).run Tryz.prog w = .ok (.bool false) w):(callFunc 204 #[a,b]).run Tryz.prog w = .ok (.value (.bool false)) w:=by
 rw[run_callFunc_extern Tryz.func204 (by kernel_rfl) (by kernel_rfl) (by kernel_rfl) (e:=Extern.SlicesOverlaps.overlaps #[43,43] #[4]) (by kernel_rfl),h]
 rfl
set_option maxHeartbeats 4000000 in
set_option maxRecDepth 1000000 in
theorem aiO:lB Tryz.prog 168 43 8 204:=by
 intro b n c i vb vc w W1 W2 hi hroom hc63 hov hcp1 hcp2
 have tS:Tryz.prog.underlying 43=some (.slice 65):=by kernel_rfl
 have mixed:Tryz.prog.follows .mixedOrders=true:=Checked.mixed Tryz.checked
 have hz2:¬ ((i:Int)=(n:Int)):=by omega
 have hw1:IntKind.i64.wrap ((i:Int)+1)=(i:Int)+1:=by rw[IntKind.wrap_i64];omega
 have hw2:IntKind.i64.wrap ((n:Int)+1)=(n:Int)+1:=by rw[IntKind.wrap_i64];omega
 have hb1:(0:Int)≤(i:Int)+1:=by omega
 have hb0:(0:Int)≤(n:Int)+1:=by omega
 have hin:i≤n:=by omega
 have htn:((i:Int)+1).toNat=i+1:=by omega
 have htm:((n:Int)+1).toNat=n+1:=by omega
 have hb2:¬ (c=i+1):=by omega
 have hb3:(i:Int)≤(n:Int)+1:=by omega
 have hb4:¬ (c=i):=by omega
 go_enter Tryz.func168,Tryz.ntmps168
 go_wp2_with (simp only[hov])
 go_region_law_o (refine b8 rfl _ _ 43 43 rfl _ _ (by simp[Act.eval,Act.put]) (by simp[Act.eval,Act.put]) (hcp1 _ _ _) ?_)
 go_wp2_with (at_builtin;refine bA _ rfl _ _ 43 43 rfl _ _ rfl rfl (hcp2 _ _) ?_)
 go_ret
 exact⟨rfl,rfl⟩
set_option maxHeartbeats 4000000 in
set_option maxRecDepth 1000000 in
theorem aiV:nC Tryz.prog 168 43 3 8:=by
 intro b n i vb vc nb G w W0 W1 W2 hi hn hG hG63 hap hcpA hcpB
 have tS:Tryz.prog.underlying 43=some (.slice 65):=by kernel_rfl
 have mixed:Tryz.prog.follows .mixedOrders=true:=Checked.mixed Tryz.checked
 have hz2:¬ ((i:Int)=(n:Int)):=by omega
 have hz3:(n:Int)<(n:Int)+1:=by omega
 have hw1:IntKind.i64.wrap ((i:Int)+1)=(i:Int)+1:=by rw[IntKind.wrap_i64];omega
 have hw2:IntKind.i64.wrap ((n:Int)+1)=(n:Int)+1:=by rw[IntKind.wrap_i64];omega
 have hw3:IntKind.i64.wrap ((n:Int)+1 - (i:Int))=(n:Int)+1 - (i:Int):=by rw[IntKind.wrap_i64];omega
 have hb1:(0:Int)≤(i:Int)+1:=by omega
 have hin:i≤n:=by omega
 have htn:((i:Int)+1).toNat=i+1:=by omega
 have hb3:(i:Int)≤(n:Int):=by omega
 have hGi:¬ (G=i):=by omega
 have hGim:¬ (G=i+1):=by omega
 have hci:¬ (n=i):=by omega
 go_enter Tryz.func168,Tryz.ntmps168
 go_wp2_with (first
  | (at_builtin;refine Lib.wpList_append_run _ rfl _ _ _ _ rfl _ _ rfl rfl _ _ (hap _) ?_)
  | (at_builtin;refine bA _ rfl _ _ 43 43 rfl _ _ rfl rfl (hcpA _ _) ?_))
 go_region_law_o (refine b8 rfl _ _ 43 43 rfl (.slice (some ⟨nb,(i+1)*8,none⟩) (n - i) (G - (i+1))) (.slice (some ⟨b,i*8,none⟩) (n - i) (n - i)) (by simp[Act.eval,Act.put]) (by simp[Act.eval,Act.put]) (hcpB _ _ _) ?_)
 go_wp2
 go_ret
 exact⟨rfl,rfl⟩
theorem ah4:Jh 168 ae3:=rR tok (te:=TF) (tb:=4) (by kernel_rfl) (by kernel_rfl) (sz:=8) (by kernel_rfl) (MV.mp (by kernel_rfl)) (Wy.mp (by kernel_rfl)) (by kernel_rfl:Tryz.prog.underlying 43=some (.slice 65)) (by kernel_rfl:Tryz.prog.underlying 3=some (.int .i64)) ⟨Tryz.f168,by kernel_rfl,by kernel_rfl,by kernel_rfl⟩ agf G4 aiO aiV
theorem YM:Jh 119 afM:=fo 8 (JJ (.s .z (JJ (.s .z (JJ (.s .z (.s ((JX [(7,ge)] [7,33] [(2,[(7,ge)])] (.s JV .z))) .z))))))) (aa ah6 (aa VF (aa ah5 (aa ah4 ag)))) Tryz.func119
theorem abR:Jh 96 ak3:=fo 4 .z (aa YM ag) Tryz.func96
theorem YI:Jh 148 afk:=fo 4 (JJ (.s (.j [2] [(0,[(2,.box (.slice (.int .i64)) [0])])] .z) .z)) ag Tryz.func148
theorem VK:Jh 144 afn:=fo 9 JZ ag Tryz.func144
theorem VI:Jh 149 afj:=fo 8 (JJ (.s .z (JJ (.s (JJ ((JX [(0,Qz),(5,ge),(6,ge)] [0,5,6,7] [(2,[(0,Qz),(5,ge)])] (JJ (.s (.j [0,5,7] [(0,[(0,Qz),(5,ge)])] .z) .z))))) JW)))) (aa VK ag) Tryz.func149
theorem YH:Jh 150 afi:=fo 3 .z ag Tryz.func150
theorem Ed:Jh 39 Fo:=fo 9 (.s (.r [1001002]) (.s (.s .z (.b (.l [(2,.box (.slice (.int .i64)) [9997,0]),(8,.v (.int .i64) [])] [2,4,5,8] [(1,[(2,.box (.slice (.int .i64)) [9997,0]),(4,.v (.int .i64) [])]),(2,[(2,.box (.slice (.int .i64)) [9997,0])])] .z))) .z)) (aa YI ag) Tryz.func39
theorem yQ:Jh 147 D_:=fo 8 (.s (.r [1001002]) (.s .z (.s .z (.s (.s .z (.b (.l [(0,.row (.st 7) false),(2,.box (.slice (.int .i64)) [9997,0]),(5,.v (.int .i64) []),(6,.v (.int .i64) [])] [0,2,5,6,7] [(2,[(0,.row (.st 7) false),(2,.box (.slice (.int .i64)) [9997,0]),(5,.v (.int .i64) [])])] (.s .z (.s (.j [0,2,5,7] [(0,[(0,.row (.st 7) false),(2,.box (.slice (.int .i64)) [9997,0]),(5,.v (.int .i64) [])])] .z) .z))))) (.s .z (.s (.r [9998]) .z)))))) (aa YI (aa Ed ag)) Tryz.func147
theorem amw:Jh 97 ak2:=fo 7 .z (aa VI (aa YH (aa yQ ag))) Tryz.func97
theorem DW:Jh 97 EH:=fo 7 .z (aa VI (aa YH (aa yQ ag))) Tryz.func97
theorem am0:Jh 42 alU:=fo 6 .z (aa abR (aa amw ag)) Tryz.func42
set_option maxHeartbeats 4000000 in
set_option maxRecDepth 1000000 in
theorem aoG:li Tryz.prog 43:=by
 constructor
 ·intro b n cap i w hn hj
  go_enter Tryz.func43,Tryz.ntmps43
  go_wp2
  all_goals (go_ret;exact⟨rfl,rfl⟩)
 ·intro p w;cases p
  ·go_enter Tryz.func43,Tryz.ntmps43
   go_wp2
   all_goals (go_ret;exact⟨rfl,rfl⟩)
  ·go_enter Tryz.func43,Tryz.ntmps43
   go_wp2
   all_goals (go_ret;exact⟨rfl,rfl⟩)
set_option maxHeartbeats 4000000 in
set_option maxRecDepth 1000000 in
theorem aoE:lF Tryz.prog 43 33 59 9:=by
 intro b n cap i j w hn hm hlt hj i0 hi0 hz1 A hA news s1 hsrc s2 s3 W1 W2 hW hcl
 have hic:i≤cap:=by omega
 have hjc:j≤cap:=by omega
 have tS:Tryz.prog.underlying 33=some (.slice 59):=by kernel_rfl
 have mixed:Tryz.prog.follows .mixedOrders=true:=Checked.mixed Tryz.checked
 go_enter Tryz.func43,Tryz.ntmps43
 go_wp2_with fail
 go_region_law_o (refine step_append_room rfl (.tmp 22) (.tmp 25) 33 rfl 59 i0 9 tS hi0 hz1 b 0 i cap (by simp[Act.eval,Act.put]) A (n - j) (cap - j) news (by simp[Act.eval,Act.put]) s1.out hsrc.out s2.out (by omega) s3.out ?_;rw[← hW.out])
 go_wp2
 go_ret
 exact⟨rfl,rfl⟩
theorem abV:Jh 43 alT:=pH tok (te:=TG) (by kernel_rfl) (by kernel_rfl) (sz:=9) (by kernel_rfl) (MV.mp (by kernel_rfl)) (by kernel_rfl:Tryz.prog.underlying 33=some (.slice 59)) ⟨Tryz.f43,by kernel_rfl,by kernel_rfl,by kernel_rfl⟩ aoG aoE
theorem abU:Jh 44 alS:=fo 9 JZ ag Tryz.func44
set_option maxHeartbeats 4000000 in
set_option maxRecDepth 1000000 in
theorem aoF:li Tryz.prog 45:=by
 constructor
 ·intro b n cap i w hn hj
  go_enter Tryz.func45,Tryz.ntmps45
  go_wp2
  all_goals (go_ret;exact⟨rfl,rfl⟩)
 ·intro p w;cases p
  ·go_enter Tryz.func45,Tryz.ntmps45
   go_wp2
   all_goals (go_ret;exact⟨rfl,rfl⟩)
  ·go_enter Tryz.func45,Tryz.ntmps45
   go_wp2
   all_goals (go_ret;exact⟨rfl,rfl⟩)
set_option maxHeartbeats 4000000 in
set_option maxRecDepth 1000000 in
theorem aoD:lF Tryz.prog 45 22 3 1:=by
 intro b n cap i j w hn hm hlt hj i0 hi0 hz1 A hA news s1 hsrc s2 s3 W1 W2 hW hcl
 have hic:i≤cap:=by omega
 have hjc:j≤cap:=by omega
 have hA2:=hA;rw[Nat.mul_one]at hA2;have an9:=hcl;simp only[Nat.mul_one]at an9
 have tS:Tryz.prog.underlying 22=some (.slice 3):=by kernel_rfl
 have mixed:Tryz.prog.follows .mixedOrders=true:=Checked.mixed Tryz.checked
 go_enter Tryz.func45,Tryz.ntmps45
 go_wp2_with fail
 go_region_law_o (refine step_append_room rfl (.tmp 22) (.tmp 25) 22 rfl 3 i0 1 tS hi0 hz1 b 0 i cap (by simp[Act.eval,Act.put]) A (n - j) (cap - j) news (by simp[Act.eval,Act.put]) s1.out hsrc.out s2.out (by omega) s3.out ?_;rw[← hW.out])
 go_wp2
 go_ret
 exact⟨rfl,rfl⟩
theorem amZ:Jh 45 alR:=pH tok (te:=ZJ) (by kernel_rfl) (by kernel_rfl) (sz:=1) (by kernel_rfl) (MV.mp (by kernel_rfl)) (by kernel_rfl:Tryz.prog.underlying 22=some (.slice 3)) ⟨Tryz.f45,by kernel_rfl,by kernel_rfl,by kernel_rfl⟩ aoF aoD
theorem PD:Jh 20 amf:=fo 17 (JJ (.s .z (.s (JJ ((JX [(2,QV),(16,ge)] [2,6,7,8,9,10,11,13,16,40] [(2,[(2,QV)])] (JJ (.s .z (.s (.j [2,6,7,8,9,10,11,40] [(0,[(2,QV)])] (.b (JJ (.s .z (JJ (.s .z (JJ (.s (.s (.j [] [(0,[(40,gt)])] .z) .z) (JJ (.s .z (JJ (.s (.j [10,11] [(0,[(10,QZ)])] .z) .z)))))))))))) .z)))))) .z))) (aa am2 (aa Vf (aa am1 (aa Ve (aa am0 (aa abV (aa abU (aa amZ ag)))))))) Tryz.func20
set_option maxHeartbeats 4000000 in
set_option maxRecDepth 1000000 in
theorem ai1(s:ByteArray)(w:World)(hascii:∀(j:Nat) b,s.data.toList[j]? = some b→b.toNat<128) :
  Calls Tryz.prog 134 #[.string s] w λe w'=>e = .returned (.bool (Zm 12 s))∧∃k,w'=w.iter s k:=by
 have HA:Aside (∀(j:Nat) b,s.data.toList[j]? = some b→b.toNat<128):=hascii;clear hascii
 go_enter Tryz.func134,Tryz.ntmps134
 go_wp2
 go_loopg [4] s.size (λg s2 wx=>∃i:Nat,i+g=s.size∧wx=w.iter s i∧Hid (∀(j:Nat) b,s.data.toList[j]? = some b→j<i→UD b=true))
 case atStart=>exact⟨0,by omega,rfl,λj b _ h=>absurd h (Nat.not_lt_zero _)⟩
 case round=>
  obtain⟨i,hig,rfl,hN⟩:=hrel
  cases gk with
  | zero=>
   obtain rfl:i=s.size:=by omega
   have hall:=Iw hN.out;have HL:Aside (s.data.toList.all UD=true):=hall;clear hall;have hnx:=run_next_end (P:=Tryz.prog) w s s.size
   go_wp2
   ·rename_i he
    go_ret
    refine⟨?_,_,rfl⟩;unfold Zm;rw[Lib.toList_data]at he;rw[he];rfl
   ·go_ret
    refine⟨?_,_,rfl⟩;unfold Zm;rw[HL.out,← IM s 12,← Lib.toList_data];rfl
  | succ g=>
   have hi:i<s.size:=by omega
   have ha:(s[i]'hi).toNat<128:=HA.out i _ (Lib.data_getElem? s i hi);have hnx:=λty=>run_next_ascii (P:=Tryz.prog) w s i ty hi ha;obtain⟨c,hc⟩:∃c:Nat,c=(s[i]'hi).toNat:=⟨_,rfl⟩;rw[← hc]at hnx ha;have HC:Aside (c=(s[i]'hi).toNat):=hc;clear hc;by_cases hz:97≤c∧c≤122
   ·have z1:¬ ((c:Int)<97):=by omega
    have z2:¬ ((c:Int)>122):=by omega
    go_wp2
    go_roundg g
    case measure=>omega
    case rel=>exact⟨i+1,by omega,rfl,vY hi hN.out HC.out (.inl hz)⟩
   by_cases hd:48≤c∧c≤57
   ·have z1:((c:Int)<97):=by omega
    have z2:¬ ((c:Int)<48):=by omega
    have z3:¬ ((c:Int)>57):=by omega
    go_wp2
    go_roundg g
    case measure=>omega
    case rel=>exact⟨i+1,by omega,rfl,vY hi hN.out HC.out (.inr (.inl hd))⟩
   by_cases hh:c=45
   ·have HH:Aside (c=45):=hh;clear hz hd;subst hh
    go_wp2
    go_roundg g
    case measure=>omega
    case rel=>exact⟨i+1,by omega,rfl,vY hi hN.out HC.out (.inr (.inr rfl))⟩
   have HF:=GZ hi HC.out (by omega)
   have HF2:Aside (s.data.toList.all UD=false):=HF;clear HF
   have z5:¬ ((c:Int)=45):=by omega
   by_cases h1:c<97
   ·have z1:((c:Int)<97):=by omega
    by_cases h2:c<48
    ·have z2:((c:Int)<48):=by omega
     clear h1 h2 hz hd hh
     go_wp2
     go_ret
     refine⟨?_,_,rfl⟩;unfold Zm;rw[HF2.out];rfl
    ·have z2:¬ ((c:Int)<48):=by omega
     have z3:((c:Int)>57):=by omega
     clear h1 h2 hz hd hh
     go_wp2
     go_ret
     refine⟨?_,_,rfl⟩;unfold Zm;rw[HF2.out];rfl
   ·have z1:¬ ((c:Int)<97):=by omega
    have z2:((c:Int)>122):=by omega
    have z3:¬ ((c:Int)<48):=by omega
    have z4:((c:Int)>57):=by omega
    clear h1 hz hd hh
    go_wp2
    go_ret
    refine⟨?_,_,rfl⟩;unfold Zm;rw[HF2.out];rfl
theorem YL:Jh 134 afx:=GM ⟨Tryz.f134,by kernel_rfl,by kernel_rfl,by kernel_rfl⟩ ai1
theorem amN:Jh 58 alE:=fo 10 (JJ (.s .z (.s (JJ ((JX [(3,Qu),(9,ge)] [2,3,4,5,6,9,28] [(1,[(2,ge)]),(2,[(3,Qu)])] (JJ (.s .z (.s (.b (JJ (.s J1 .z))) .z)))))) .z))) (aa YL ag) Tryz.func58
theorem ahv:Jh 218 ael:=fo 6 (JJ (.s (JJ ((JX [(5,ge)] [4,5] [(1,[(4,ge)]),(2,[])] .z))) .z)) ag Tryz.func218
theorem aha:Jh 266 adN:=fo 9 (JJ (.s .z (.s (JJ ((JX [(4,Q0),(5,ge)] [4,5] [(2,[(4,Q0)])] .z))) (JJ (.s (JJ ((JX [(6,Q0),(7,Q0),(8,ge)] [6,7,8] [(4,[(6,Q0)])] (JJ (.s (.b (.s (.j [6] [(0,[(6,Q0)])] .z) .z)) .z))))) .z))))) ag Tryz.func266
theorem ahu:Jh 219 aek:=fo 12 (JJ (.s .z (JJ (.s .z (JJ (.s (JJ ((JX [(9,Q0),(10,ge)] [9,10] [(2,[(9,Q0)])] .z))) (.s (.s (.j [] [(0,[(47,gt)])] .z) .z) (.s (JJ ((JX [(9,Q0),(11,ge)] [4,9,11,85] [(1,[(4,ge)]),(4,[])] (JJ (.s (.b (JJ (.s .z (JJ (.s (.j [] [(0,[(85,gt)])] .z) .z))))) .z))))) .z)))))))) (aa aha ag) Tryz.func219
theorem ahT:Jh 182 aeP:=fo 6 .z (aa ahv (aa ahu ag)) Tryz.func182
theorem VL:Jh 135 afw:=fo 5 .z (aa ahT ag) Tryz.func135
theorem ag9:Jh 270 adL:=fo 5 .z ag Tryz.func270
theorem agU:Jh 307 adr:=fo 13 .z ag Tryz.func307
theorem ag8:Jh 271 adK:=fo 3 (JJ (.s J2 .z)) (aa agU ag) Tryz.func271
theorem ahr:Jh 224 aef:=fo 10 (JJ (.s .z (.s (.j [1,18] [(0,[(1,ge)])] (.s (.j [] [(0,[(18,gt)])] .z) .z)) (JJ (.s (JJ ((JX [(0,f8),(6,Q4),(7,ge)] [0,6,7,8,9] [(2,[(0,f8),(6,Q4)])] .z))) (.s (.j [6] [(0,[(6,Q4)])] .z) .z)))))) (aa ag9 (aa ag8 ag)) Tryz.func224
theorem aiZ(s:ByteArray)(c:UInt8)(w:World):Calls Tryz.prog 225 #[.string s,.string ⟨#[c]⟩] w λe w'=>e = .returned (.int .i64 (Lib.countByte s.data.toList c))∧w'=w:=by
 go_enter Tryz.func225,Tryz.ntmps225
 go_wp2
 rw[run_callFunc_extern Tryz.func272 (by kernel_rfl) (by kernel_rfl) (by kernel_rfl) (e:=Extern.BytealgCount.count) (by kernel_rfl),Lib.run_countString]
 simp only[Result.andThen];rw[Oper.upon_value]
 go_wp2
 go_ret
 exact⟨rfl,rfl⟩
theorem ahq:Jh 225 aee:=FS ⟨Tryz.f225,by kernel_rfl,by kernel_rfl,by kernel_rfl⟩ aiZ
theorem aiY(s:ByteArray)(c:Int)(w:World):Calls Tryz.prog 308 #[.string s,.int .u8 c] w λe w'=>e = .returned (.int .i64 (Lib.indexByte s.data.toList c.toNat.toUInt8))∧w'=w:=by
 go_enter Tryz.func308,Tryz.ntmps308
 go_wp2
 rw[run_callFunc_extern Tryz.func342 (by kernel_rfl) (by kernel_rfl) (by kernel_rfl) (e:=Extern.BytealgIndexByte.indexByte) (by kernel_rfl),Lib.run_indexByteString]
 simp only[Result.andThen];rw[Oper.upon_value]
 go_wp2
 go_ret
 exact⟨rfl,rfl⟩
theorem agT:Jh 308 adq:=HT ⟨Tryz.f308,by kernel_rfl,by kernel_rfl,by kernel_rfl⟩ aiY
theorem Yn:Jh 273 adJ:=fo 14 (JJ (.s .z (.s (.b J3) .z))) (aa agT ag) Tryz.func273
theorem ahp:Jh 226 aed:=fo 2 .z (aa Yn ag) Tryz.func226
theorem ahL:Jh 190 aeH:=fo 12 (JJ (.s .z (JJ (.s (.j [3] [(0,[(3,ge)])] .z) (JJ (.s .z (JJ (.s .z (.s ((JX [(0,f8),(9,Q4),(10,ge)] [0,9,10,11] [(2,[(0,f8),(9,Q4),(10,ge)])] .z)) JW))))))))) (aa ahr (aa ahq (aa ahp ag))) Tryz.func190
theorem VH:Jh 152 afg:=fo 2 .z (aa ahL ag) Tryz.func152
theorem Yy:Jh 220 aej:=fo 9 JZ ag Tryz.func220
theorem ahS:Jh 183 aeO:=fo 2 .z (aa Yy ag) Tryz.func183
theorem ahR:Jh 184 aeN:=fo 1 .z (aa YL ag) Tryz.func184
theorem aik:Jh 136 afv:=fo 1 .z (aa VH (aa ahS (aa ahR ag))) Tryz.func136
theorem aht:Jh 221 aei:=fo 9 JZ ag Tryz.func221
theorem ahQ:Jh 185 aeM:=fo 2 .z (aa aht ag) Tryz.func185
theorem ahP:Jh 186 aeL:=fo 2 .z ag Tryz.func186
theorem aij:Jh 137 afu:=fo 1 .z (aa ahQ (aa ahP ag)) Tryz.func137
theorem amM:Jh 59 alD:=fo 14 (JJ (.s .z (JJ (.s (JJ ((JX [(3,Qu),(4,f8),(13,ge)] [2,3,4,5,6,7,8,9,13,29,38,46] [(1,[(2,ge)]),(2,[])] (JJ (.s .z (.s (.b (JJ (.s .z (.s (.b (JJ (.c .z (.s (.j [] [(0,[(29,gt)])] .z) (.c .z (.s (.j [] [(0,[(38,gt)])] .z) (.c .z (.s (.j [] [(0,[(46,gt)])] .z) .z)))))))) .z)))) .z)))))) .z)))) (aa VL (aa aik (aa aij ag))) Tryz.func59
theorem TN:Jh 138 aft:=fo 14 (JJ (.s .z (.s (JJ ((JX [(5,t6),(13,ge)] [5,7,8,9,13,28] [(2,[(5,t6)])] (JJ (.s .z (.s (.j [5,7,8,9,28] [(0,[(5,t6)])] (.b (JJ (.s .z J1)))) .z)))))) .z))) (aa VL ag) Tryz.func138
theorem ahO:Jh 187 aeK:=fo 9 JZ ag Tryz.func187
theorem ahN:Jh 188 aeJ:=fo 3 .z ag Tryz.func188
theorem TM:Jh 139 afs:=fo 8 .z (aa Xc (aa ahO (aa ahN ag))) Tryz.func139
theorem amL:Jh 60 alC:=fo 53 (JJ (.s (JJ ((JX [(20,ge)] [2,4,20,21,22,23,24,25,26,27,28,29,30,31,32] [(1,[(2,ge)]),(2,[])] (JJ (.s .z (.s (.b (JJ (.s (.j [24,25,26,27,28,29,30,31] [(0,[(31,gt)])] .z) .z))) .z)))))) (.s (JJ ((JX [(36,ge)] [2,6,7,8,9,11,12,13,36,37,38,39,40,41,42,43,44,45,46,47,48,49,50,51,52,77] [(1,[(2,ge)]),(4,[])] (JJ (.s .z (.s (.b (JJ (.s .z (JJ ((JX [(47,ge)] [2,8,9,11,12,13,47,48,49,50,51,52,77] [(1,[(2,ge)]),(6,[])] (JJ (.s .z (.s (.b (JJ (.s .z (.s (JJ ((JX [(9,ge),(52,ge)] [9,11,12,13,52] [(8,[(9,ge)])] .z))) (.s (.j [] [(0,[(77,gt)])] .z) .z))))) .z))))))))) .z)))))) .z))) (aa TN (aa TM ag)) Tryz.func60
theorem abY:Jh 22 amd:=fo 5 (JJ (.s JU (JJ (.s (.s (.j [] [(0,[(38,gt)])] .z) .z) .z)))) (aa amN (aa amM (aa amL ag))) Tryz.func22
theorem Rq:Jh 57 alF:=fo 3 .z ag Tryz.func57
theorem Pz:Jh 73 aln:=fo 2 .z ag Tryz.func73
theorem ZU:Jh 80 alh:=fo 3 .z (aa TN (aa TM ag)) Tryz.func80
shelf_lay Go.Proofs.Lays.n160 Nm 160 at Tryz as layT222
shelf_lay Go.Proofs.Lays.n172 Nm 172 at Tryz as layA222
theorem ajl(b:UInt8)(r:List UInt8)(h6:r.length≤6)(hd:(b::r).all Oe=true)(w:World):Calls Tryz.prog 267 #[.string ⟨⟨b::r⟩⟩,.string Mh] w λe w'=>e = .returned (.string ⟨#[]⟩)∧Below w.heap.size w w'∧w.drawn≤w'.drawn:=by
 have hs:(⟨⟨b::r⟩⟩:ByteArray).size=r.length+1:=rfl
 refine(Any.strings_Trim_set (ρ:=layT222_ren) layT222 (by intro w;kernel_rfl) (by kernel_rfl) ⟨⟨b::r⟩⟩ Mh w (by decide) (by omega) (by omega) (by decide) tC).mono ?_
 rintro e w' ⟨rfl,q,rfl⟩;have e1:Lib.trimS (⟨⟨b::r⟩⟩:ByteArray).data.toList Mh.data.toList = []:=zZ hd;rw[e1]
 exact⟨rfl,su (((Below.refl _ w).alloc (Ku _) _).alloc (by rw[World.size_alloc];omega) _) q,Nat.le_add_right _ _⟩
theorem ajp(b:UInt8)(r:List UInt8)(n:Int)(h6:r.length≤6)(hn:Lib.atoi (b::r)=some n)(w:World):Calls Tryz.prog 268 #[.string ⟨⟨b::r⟩⟩] w λe w'=>e = .returned (.tuple #[.int .i64 n,.nilIface])∧Below w.heap.size w w'∧w.drawn≤w'.drawn:=by
 have hs:(⟨⟨b::r⟩⟩:ByteArray).size=r.length+1:=rfl
 refine(Any.strconv_Atoi (ρ:=layA222_ren) layA222 ⟨⟨b::r⟩⟩ n (by omega) hn w).mono ?_
 rintro e w' ⟨rfl,t,rfl⟩;exact⟨rfl,(yt w _ t).1,(yt w _ t).2⟩
set_option maxHeartbeats 4000000 in
set_option maxRecDepth 1000000 in
theorem ai0:acA Tryz.prog 222:=by
 intro b r n w h6 h0 hd hn;have hT:=ajl b r h6 hd;have hA:=ajp b r n h6 hn;have hs:(⟨⟨b::r⟩⟩:ByteArray).size=r.length+1:=rfl
 have z1:¬ (((r.length+1:Nat):Int)>7):=by omega
 clear hd hn;unfold Mh at hT
 have e267:∀args w,(callFunc 267 args).run Tryz.prog w = .ok (.enter 267 args) w:=enters_of Tryz.func267 (by kernel_rfl) rfl
 have e268:∀args w,(callFunc 268 args).run Tryz.prog w = .ok (.enter 268 args) w:=enters_of Tryz.func268 (by kernel_rfl) rfl
 rcases h0 with rfl | h0
 ·go_enter Tryz.func222,Tryz.ntmps222
  go_wp2_with (first | (go_at_fn 267;refine(hT w).mono ?_;rintro e w1 ⟨rfl,hb1,hd1⟩) | (go_at_fn 268;refine(hA _).mono ?_;rintro e w2 ⟨rfl,hb2,hd2⟩))
  go_ret2
  exact⟨rfl,hb1.trans (hb2.mono hb1.size),MJ hd1 hd2⟩
 ·have z2:¬ (((b.toNat:Nat):Int)=48):=by omega
  go_enter Tryz.func222,Tryz.ntmps222
  by_cases hr:r = []
  ·subst hr
   go_wp2_with (first | (go_at_fn 267;refine(hT w).mono ?_;rintro e w1 ⟨rfl,hb1,hd1⟩) | (go_at_fn 268;refine(hA _).mono ?_;rintro e w2 ⟨rfl,hb2,hd2⟩))
   go_ret2
   exact⟨rfl,hb1.trans (hb2.mono hb1.size),MJ hd1 hd2⟩
  ·have z3:((r.length:Int)+1)>1:=by have:r.length≠0:=λh=>hr (O1 h);omega
   have z4:¬ (7<(r.length:Int)+1):=by omega
   have z5:((((⟨⟨b::r⟩⟩:ByteArray)[0]'(by rw[hs];omega)).toNat:Int) == 48)=false:=by
    have e:((⟨⟨b::r⟩⟩:ByteArray)[0]'(by rw[hs];omega))=b:=rfl
    rw[e,beq_eq_false_iff_ne];exact z2
   clear hr z2
   go_wp2_with (first | (go_at_fn 267;refine(hT w).mono ?_;rintro e w1 ⟨rfl,hb1,hd1⟩) | (go_at_fn 268;refine(hA _).mono ?_;rintro e w2 ⟨rfl,hb2,hd2⟩))
   go_ret2
   exact⟨rfl,hb1.trans (hb2.mono hb1.size),MJ hd1 hd2⟩
theorem ajm(s:List UInt8)(h1:1≤s.length)(h7:s.length≤7)(hd:s.all Oe=false)(w:World):Calls Tryz.prog 267 #[.string ⟨⟨s⟩⟩,.string Mh] w λe w'=>(∃b l,e = .returned (.string ⟨⟨b::l⟩⟩))∧Below w.heap.size w w'∧w.drawn≤w'.drawn:=by
 have hs:(⟨⟨s⟩⟩:ByteArray).size=s.length:=rfl
 refine(Any.strings_Trim_set (ρ:=layT222_ren) layT222 (by intro w;kernel_rfl) (by kernel_rfl) ⟨⟨s⟩⟩ Mh w (by decide) (by omega) (by omega) (by decide) tC).mono ?_
 rintro e w' ⟨rfl,q,rfl⟩
 refine⟨?_,su (((Below.refl _ w).alloc (Ku _) _).alloc (by rw[World.size_alloc];omega) _) q,Nat.le_add_right _ _⟩
 cases e2:Lib.trimS (⟨⟨s⟩⟩:ByteArray).data.toList Mh.data.toList with
 | nil=>exact absurd e2 (FU hd)
 | cons b l=>exact⟨b,l,rfl⟩
set_option maxHeartbeats 4000000 in
set_option maxRecDepth 1000000 in
theorem ai8:acB Tryz.prog 222:=by
 intro s w hno
 have e267:∀args w,(callFunc 267 args).run Tryz.prog w = .ok (.enter 267 args) w:=enters_of Tryz.func267 (by kernel_rfl) rfl
 have hs:(⟨⟨s⟩⟩:ByteArray).size=s.length:=rfl
 match s with
 | []=>
  go_enter Tryz.func222,Tryz.ntmps222
  go_wp2
  go_ret2
  exact⟨rfl,.refl _ _,Ku _⟩
 | b::r=>
  by_cases h7:r.length≤6
  ·have z1:¬ (((r.length+1:Nat):Int)>7):=by omega
   have hs:(⟨⟨b::r⟩⟩:ByteArray).size=r.length+1:=rfl;by_cases h0:r≠[]∧b.toNat=48
   ·have z3:((r.length:Int)+1)>1:=by have:r.length≠0:=λh=>h0.1 (O1 h);omega
    have z4:¬ (7<(r.length:Int)+1):=by omega
    have z5:((((⟨⟨b::r⟩⟩:ByteArray)[0]'(by rw[hs];omega)).toNat:Int) == 48)=true:=by
     have e:((⟨⟨b::r⟩⟩:ByteArray)[0]'(by rw[hs];omega))=b:=rfl
     rw[e,beq_iff_eq];omega
    clear h0 hno
    go_enter Tryz.func222,Tryz.ntmps222
    go_wp2
    go_ret2
    exact⟨rfl,.refl _ _,Ku _⟩
   ·have hd:(b::r).all Oe=false:=by
     rw[QfD];intro hd;simp only[Tt,KQ]at hd
     have:isNum (b::r)=true:=by
      simp only[isNum,KQ,Pt,Wy,QeG,Rj,hd.1,hd.2,and_true];refine⟨h7,?_⟩;by_cases hr:r = []
      ·exact .inl hr
      ·exact .inr (by rw[QfD];intro e;exact h0 ⟨hr,M5 e⟩)
     rw[hno]at this;cases this
    have hT:=ajm (b::r) (by simp) (by simp;omega) hd
    clear hd hno;unfold Mh at hT;by_cases hr:r = []
    ·subst hr
     go_enter Tryz.func222,Tryz.ntmps222
     go_wp2_with (go_at_fn 267;refine(hT w).mono ?_;rintro e w1 ⟨⟨b1,l1,rfl⟩,hb1,hd1⟩)
     go_ret2
     exact⟨rfl,hb1,hd1⟩
    ·have z3:((r.length:Int)+1)>1:=by have:r.length≠0:=λh=>hr (O1 h);omega
     have z4:¬ (7<(r.length:Int)+1):=by omega
     have z5:((((⟨⟨b::r⟩⟩:ByteArray)[0]'(by rw[hs];omega)).toNat:Int) == 48)=false:=by
      have e:((⟨⟨b::r⟩⟩:ByteArray)[0]'(by rw[hs];omega))=b:=rfl
      rw[e,beq_eq_false_iff_ne];intro e
      exact h0 ⟨hr,by omega⟩
     clear hr h0
     go_enter Tryz.func222,Tryz.ntmps222
     go_wp2_with (go_at_fn 267;refine(hT w).mono ?_;rintro e w1 ⟨⟨b1,l1,rfl⟩,hb1,hd1⟩)
     go_ret2
     exact⟨rfl,hb1,hd1⟩
  ·have z1:((r.length+1:Nat):Int)>7:=by omega
   go_enter Tryz.func222,Tryz.ntmps222
   go_wp2
   go_ret2
   exact⟨rfl,.refl _ _,Ku _⟩
theorem Yx:Jh 222 aeh:=Ib ⟨Tryz.f222,by kernel_rfl,by kernel_rfl,by kernel_rfl⟩ ai0 ai8
theorem agV:Jh 306 ads:=fo 8 .z (aa Yn ag) Tryz.func306
theorem ag_:Jh 269 adM:=fo 6 .z (aa agV ag) Tryz.func269
theorem ahs:Jh 223 aeg:=fo 10 .z (aa Yx (aa ag_ ag)) Tryz.func223
theorem ahM:Jh 189 aeI:=fo 45 (JJ (.s .z (JJ (.s .z (JJ (.s (JJ ((JX [(6,gt),(7,Q8),(44,ge)] [6,7,9,10,11,44] [(2,[(6,gt),(7,Q8)])] (JJ (.s .z (.s (.b (JJ (.s .z (.s (.j [6] [(0,[(6,gt)])] .z) .z)))) .z)))))) .z)))))) (aa Yx (aa ahs ag)) Tryz.func189
theorem aie:Jh 151 afh:=fo 2 (JJ (.s (.b (JJ (.c .z (.s (.j [] [(0,[(9,gt)])] .z) (.c .z (.s (.j [] [(0,[(43,gt)])] .z) .z)))))) .z)) (aa ahM ag) Tryz.func151
theorem ahK:Jh 191 aeG:=fo 8 (JJ (.s .z (JJ (.s (JJ ((JX [(0,Q4),(5,ge),(6,ge)] [0,5,6,7] [(2,[(0,Q4),(5,ge)])] (JJ (.s (.j [0,5,7] [(0,[(0,Q4),(5,ge)])] .z) .z))))) JW)))) (aa Yy ag) Tryz.func191
theorem ahJ:Jh 192 aeF:=fo 1 .z ag Tryz.func192
theorem aic:Jh 153 aff:=fo 1 .z (aa VH (aa ahK (aa ahJ ag))) Tryz.func153
theorem aho:Jh 227 aec:=fo 10 (JJ ((JX [(0,ac),(8,ge)] [0,8,9,34] [(2,[(0,ac)])] (JJ (.s (.b (JJ ((JX [(0,ac),(9,ge)] [0,9,34] [(4,[(0,ac)])] JG)))) .z))))) ag Tryz.func227
theorem agS:Jh 312 adp:=fo 11 (JJ ((JX [(0,ac),(10,ge)] [0,10] [(2,[(0,ac)])] .z))) ag Tryz.func312
theorem ag7:Jh 274 adI:=fo 12 (JJ (.s .z (.s ((JX [(0,ac),(10,ge),(11,ge)] [0,10,11] [(2,[(0,ac),(10,ge)])] .z)) .z))) (aa agS ag) Tryz.func274
theorem AE:∀n,K9 Tryz.prog 228 (He n)
 | 0=>⟨⟨Tryz.f228,by kernel_rfl,by kernel_rfl,by kernel_rfl⟩,λa r hr=>nomatch (show(none:Option _)=some r from hr)⟩
 | n+1=>MZ (nv:=25) (h:=aov) tok mix (aa (AE n) (aa ag7 ag)) Tryz.func228 (by kernel_rfl) (by kernel_rfl) (by kernel_rfl) (by kernel_rfl) (by kernel_rfl)
theorem ahn:Jh 228 aeb:=AE 64
theorem ahI:Jh 193 aeE:=fo 10 (JJ (.s .z (.s ((JX [(0,ac),(7,ge),(8,ge)] [0,7,8] [(2,[(0,ac),(7,ge)])] .z)) (JJ ((JX [(0,ac),(6,ge)] [0,6,7,8,9] [(4,[(0,ac)])] (JJ (.b (JJ (.s ((JX [(0,ac),(7,ge),(8,ge)] [0,7,8] [(6,[(0,ac),(7,ge)])] .z)) (.s (.j [0,9] [(0,[(0,ac)])] .z) .z))))))))))) (aa aho (aa ahn ag)) Tryz.func193
theorem aib:Jh 154 afe:=fo 2 .z (aa ahI ag) Tryz.func154
theorem ahH:Jh 194 aeD:=fo 1 .z ag Tryz.func194
theorem VG:Jh 156 afc:=fo 7 .z (aa ahH ag) Tryz.func156
theorem aia:Jh 155 afd:=fo 4 .z (aa VG ag) Tryz.func155
theorem amv:Jh 98 ak1:=fo 51 (JJ (.s .z (JJ (.s .z (.s (JJ ((JX [(2,Qb),(4,Qm),(22,ge)] [2,3,4,7,8,22,23,24,25,26,27,28,29,30,31,32,33,34] [(1,[(2,Qb),(3,ge)]),(2,[(2,Qb),(4,Qm)])] .z))) (JJ (.s .z (JJ (.s (JJ ((JX [(2,Qb),(50,ge)] [2,3,10,50,68] [(1,[(2,Qb),(3,ge)]),(4,[(2,Qb)])] (JJ (.s .z (.s (.b (JJ (.s (.j [] [(0,[(68,gt)])] .z) .z))) .z)))))) .z))))))))) (aa aie (aa VH (aa aic (aa aib (aa aia ag))))) Tryz.func98
theorem amu:Jh 99 ak0:=fo 14 (JJ (.s .z (.s (JJ ((JX [(13,ge)] [4,5,13] [(1,[(4,gt)]),(2,[])] .z))) .z))) ag Tryz.func99
theorem amY:Jh 46 alQ:=fo 59 (JJ (.s .z (.s (.j [4,17,18,19,20] [(0,[(4,ge)])] .z) (JJ (.s .z (.s (.s (.j [32,33,34,35,36,37,38,39,40,41,42,43,44,45,46,47,48,49,50] [(0,[(50,gt)])] .z) .z) (.s (JJ ((JX [(2,QT),(58,ge)] [2,7,58,70] [(1,[(2,QT)]),(2,[(2,QT)])] (JJ (.s .z (.s (.b (JJ (.s (.j [] [(0,[(70,gt)])] .z) .z))) .z)))))) .z))))))) (aa abY (aa Rq (aa Pz (aa ZU (aa amv (aa amu ag)))))) Tryz.func46
theorem amX:Jh 47 alP:=fo 7 .z (aa Rq ag) Tryz.func47
theorem ah_:Jh 157 afb:=fo 4 .z ag Tryz.func157
theorem YS:Jh 100 af6:=fo 62 (JJ (.s .z (.s (JJ ((JX [(14,ac),(23,ge)] [3,4,14,23,24,25,26,27,28,29,30,31,32,33,34,35,36,37] [(2,[(14,ac)])] .z))) (JJ (.s .z (.s (JJ ((JX [(56,t8),(61,ge)] [5,6,56,61] [(4,[(56,t8)])] .z))) .z)))))) (aa ZT (aa ZR (aa Xc (aa ZQ (aa Vb (aa ZP (aa ZO (aa ZN (aa VJ (aa ah_ ag)))))))))) Tryz.func100
theorem YK:Jh 141 afq:=fo 9 JZ ag Tryz.func141
theorem ah9:Jh 158 afa:=fo 4 .z ag Tryz.func158
theorem VP:Jh 101 af5:=fo 3 .z (aa YK (aa ah9 ag)) Tryz.func101
theorem aiJ:Jh 102 af4:=fo 2 .z ag Tryz.func102
theorem Hq:Jh 103 Gi:=MZ (nv:=10) (h:=aoB) tok mix ag Tryz.func103 (by kernel_rfl) (by kernel_rfl) (by kernel_rfl) (by kernel_rfl) (by kernel_rfl)
theorem agi(w:World)(a b:Value)(h:(Extern.SlicesOverlaps.overlaps #[31,31] #[4] #[a,b]).run Tryz.prog w = .ok (.bool false) w):(callFunc 159 #[a,b]).run Tryz.prog w = .ok (.value (.bool false)) w:=by
 rw[run_callFunc_extern Tryz.func159 (by kernel_rfl) (by kernel_rfl) (by kernel_rfl) (e:=Extern.SlicesOverlaps.overlaps #[31,31] #[4]) (by kernel_rfl),h]
 rfl
set_option maxHeartbeats 4000000 in
set_option maxRecDepth 1000000 in
theorem aiQ:lB Tryz.prog 103 31 8 159:=by
 intro b n c i vb vc w W1 W2 hi hroom hc63 hov hcp1 hcp2
 have tS:Tryz.prog.underlying 31=some (.slice 42):=by kernel_rfl
 have mixed:Tryz.prog.follows .mixedOrders=true:=Checked.mixed Tryz.checked
 have hz2:¬ ((i:Int)=(n:Int)):=by omega
 have hw1:IntKind.i64.wrap ((i:Int)+1)=(i:Int)+1:=by rw[IntKind.wrap_i64];omega
 have hw2:IntKind.i64.wrap ((n:Int)+1)=(n:Int)+1:=by rw[IntKind.wrap_i64];omega
 have hb1:(0:Int)≤(i:Int)+1:=by omega
 have hb0:(0:Int)≤(n:Int)+1:=by omega
 have hin:i≤n:=by omega
 have htn:((i:Int)+1).toNat=i+1:=by omega
 have htm:((n:Int)+1).toNat=n+1:=by omega
 have hb2:¬ (c=i+1):=by omega
 have hb3:(i:Int)≤(n:Int)+1:=by omega
 have hb4:¬ (c=i):=by omega
 go_enter Tryz.func103,Tryz.ntmps103
 go_wp2_with (simp only[hov])
 go_region_law_o (refine b8 rfl _ _ 31 31 rfl _ _ (by simp[Act.eval,Act.put]) (by simp[Act.eval,Act.put]) (hcp1 _ _ _) ?_)
 go_wp2_with (at_builtin;refine bA _ rfl _ _ 31 31 rfl _ _ rfl rfl (hcp2 _ _) ?_)
 go_ret
 exact⟨rfl,rfl⟩
set_option maxHeartbeats 4000000 in
set_option maxRecDepth 1000000 in
theorem aiX:nC Tryz.prog 103 31 3 8:=by
 intro b n i vb vc nb G w W0 W1 W2 hi hn hG hG63 hap hcpA hcpB
 have tS:Tryz.prog.underlying 31=some (.slice 42):=by kernel_rfl
 have mixed:Tryz.prog.follows .mixedOrders=true:=Checked.mixed Tryz.checked
 have hz2:¬ ((i:Int)=(n:Int)):=by omega
 have hz3:(n:Int)<(n:Int)+1:=by omega
 have hw1:IntKind.i64.wrap ((i:Int)+1)=(i:Int)+1:=by rw[IntKind.wrap_i64];omega
 have hw2:IntKind.i64.wrap ((n:Int)+1)=(n:Int)+1:=by rw[IntKind.wrap_i64];omega
 have hw3:IntKind.i64.wrap ((n:Int)+1 - (i:Int))=(n:Int)+1 - (i:Int):=by rw[IntKind.wrap_i64];omega
 have hb1:(0:Int)≤(i:Int)+1:=by omega
 have hin:i≤n:=by omega
 have htn:((i:Int)+1).toNat=i+1:=by omega
 have hb3:(i:Int)≤(n:Int):=by omega
 have hGi:¬ (G=i):=by omega
 have hGim:¬ (G=i+1):=by omega
 have hci:¬ (n=i):=by omega
 go_enter Tryz.func103,Tryz.ntmps103
 go_wp2_with (first
  | (at_builtin;refine Lib.wpList_append_run _ rfl _ _ _ _ rfl _ _ rfl rfl _ _ (hap _) ?_)
  | (at_builtin;refine bA _ rfl _ _ 31 31 rfl _ _ rfl rfl (hcpA _ _) ?_))
 go_region_law_o (refine b8 rfl _ _ 31 31 rfl (.slice (some ⟨nb,(i+1)*8,none⟩) (n - i) (G - (i+1))) (.slice (some ⟨b,i*8,none⟩) (n - i) (n - i)) (by simp[Act.eval,Act.put]) (by simp[Act.eval,Act.put]) (hcpB _ _ _) ?_)
 go_wp2
 go_ret
 exact⟨rfl,rfl⟩
theorem aiI:Jh 103 af3:=rR tok (te:=VA) (tb:=4) (by kernel_rfl) (by kernel_rfl) (sz:=8) (by kernel_rfl) (MV.mp (by kernel_rfl)) (Wy.mp (by kernel_rfl)) (by kernel_rfl:Tryz.prog.underlying 31=some (.slice 42)) (by kernel_rfl:Tryz.prog.underlying 3=some (.int .i64)) ⟨Tryz.f103,by kernel_rfl,by kernel_rfl,by kernel_rfl⟩ agi Hq aiQ aiX
theorem amW:Jh 48 alO:=fo 8 (JJ (.s .z (JJ (.s (.b (.s (.j [] [(0,[(14,gt)])] .z) (.c .z (.s (.j [] [(0,[(51,gt)])] .z) (.c .z (.s (.j [] [(0,[(63,gt)])] .z) .z)))))) (JJ (.s .z (JJ (.s ((JX [(7,ge)] [7,107] [(3,[(7,ge)])] (.s (.s (.j [] [(0,[(107,gt)])] .z) .z) .z))) .z)))))))) (aa YS (aa VP (aa aiJ (aa aiI ag)))) Tryz.func48
theorem Vd:Jh 72 alo:=fo 7 .z (aa VP ag) Tryz.func72
theorem YR:Jh 104 af2:=fo 15 (JJ (.s .z (.s (JJ ((JX [(5,f0),(14,ge)] [5,7,14] [(2,[(5,f0)])] (JJ (.s .z (.s (.j [5,7] [(0,[(5,f0)])] .z) .z)))))) .z))) ag Tryz.func104
theorem aiH:Jh 105 af0:=fo 9 (JJ (.s .z (JJ (.s (.b (JJ (.c .z (JJ (.c .z (.s (.j [] [(0,[(27,gt)])] .z) .z)))))) .z)))) (aa YS (aa VP ag)) Tryz.func105
theorem YG:Jh 161 ae_:=fo 9 JZ ag Tryz.func161
theorem YQ:Jh 106 afZ:=fo 8 (JJ (.s .z (JJ (.s (JJ ((JX [(0,QM),(5,ge),(6,ge)] [0,5,6,7] [(2,[(0,QM),(5,ge)])] (JJ (.s (.j [0,5,7] [(0,[(0,QM),(5,ge)])] .z) .z))))) JW)))) (aa YG ag) Tryz.func106
theorem Ep:Jh 107 Ei:=MZ (nv:=1) (h:=aoA) tok mix ag Tryz.func107 (by kernel_rfl) (by kernel_rfl) (by kernel_rfl) (by kernel_rfl) (by kernel_rfl)
set_option maxHeartbeats 2000000 in
theorem Gc(p:Option Addr)(cap:Nat)(w:World):Calls Tryz.prog 107 #[.slice p 0 cap] w λe w'=>∃p',e = .returned (.slice p' 0 0)∧RowKit.Below w.heap.size w w'∧w.drawn≤w'.drawn:=by
 have q:=lK (P:=Tryz.prog) (t:=22) An.und
 cases p with
 | none=>
  go_enter Tryz.func107,Tryz.ntmps107
  go_wp2
  go_ret
  exact⟨_,rfl,.refl _ _,Ku _⟩
 | some p=>
  go_enter Tryz.func107,Tryz.ntmps107
  go_wp2
  go_ret
  exact⟨_,rfl,(RowKit.Below.refl _ w).alloc (Ku _) _,Ku _⟩
theorem YP:Jh 107 afY:=fH Ep Gc
theorem aiF:Jh 109 afW:=fo 2 .z (aa abU ag) Tryz.func109
theorem aiG:Jh 108 afX:=fo 2 .z (aa aiF ag) Tryz.func108
theorem TK:Jh 142 afp:=fo 2 .z ag Tryz.func142
theorem YJ:Jh 143 afo:=fo 3 .z (aa TK ag) Tryz.func143
theorem Rp:Jh 76 alk:=fo 5 (JJ (.s (.s (.j [] [(0,[(13,gt)])] .z) .z) .z)) (aa TK (aa YJ ag)) Tryz.func76
theorem ahm:Jh 230 aea:=fo 12 (JJ (.s .z (.s (JJ ((JX [(5,QW),(11,ge)] [5,7,11] [(2,[(5,QW)])] (JJ (.s .z (.s (.j [5,7] [(0,[(5,QW)])] .z) .z)))))) .z))) (aa Rp ag) Tryz.func230
theorem ahG:Jh 196 aeC:=fo 8 (JJ (.s .z (.s JU .z))) (aa Vd (aa ahm ag)) Tryz.func196
theorem S9:Jh 71 alp:=fo 7 .z (aa Ve (aa Xb ag)) Tryz.func71
theorem ahl:Jh 231 ad_:=fo 3 .z ag Tryz.func231
theorem ahk:Jh 232 ad9:=fo 12 (JJ (.s (JJ ((JX [(4,Qo),(11,ge)] [4,5,7,11] [(1,[(4,Qo),(5,gt)]),(2,[(4,Qo)])] .z))) .z)) ag Tryz.func232
theorem Ym:Jh 275 adH:=fo 4 (JJ (.s (.b (.s (.b (.s (.j [5,20] [(0,[]),(1,[(4,ge)]),(2,[]),(6,[])] (.b (.b (.s (.b (.s (.s JF (JJ (.s JU .z))) .z)) .z)))) .z)) .z)) .z)) ag Tryz.func275
theorem Yw:Jh 233 ad8:=fo 8 .z (aa Ym ag) Tryz.func233
theorem SY:Jh 77 alj:=fo 4 .z ag Tryz.func77
theorem Yv:Jh 234 ad7:=fo 4 .z (aa SY (aa Ym ag)) Tryz.func234
theorem agI:Jh 329 ac8:=fo 13 (JJ (.s (JJ ((JX [(4,QZ),(12,ge)] [4,5,7,12] [(1,[(4,.box (.st 6) []),(5,gt)]),(2,[(4,QZ)])] .z))) .z)) ag Tryz.func329
theorem agr:Jh 371 acP:=fo 2 .z ag Tryz.func371
theorem agz:Jh 353 acY:=fo 2 .z (aa agr ag) Tryz.func353
theorem Ye:Jh 330 ac7:=fo 4 (JJ JF) (aa agz ag) Tryz.func330
theorem Yl:Jh 288 adw:=fo 16 (JJ (.s .z (JJ (.s (JJ ((JX [(3,QW),(15,ge)] [3,6,7,8,15,37] [(2,[(3,QW)])] (JJ (.s .z (.s (.j [3,6,7,8,37] [(0,[(3,QW)])] (.b (JJ (.s .z JD)))) .z)))))) .z)))) (aa Rp (aa agI (aa Ye ag))) Tryz.func288
theorem OC:Jh 246 adX:=fo 7 .z (aa Yl ag) Tryz.func246
theorem Yz:Jh 217 aem:=fo 9 (JJ (.s .z (.s (JJ ((JX [(3,QW),(8,ge)] [3,5,8] [(2,[(3,QW)])] .z))) .z))) (aa Rp ag) Tryz.func217
theorem R_:Jh 181 aeQ:=fo 12 (JJ (.s .z (.s (JJ ((JX [(5,QY),(11,ge)] [5,7,11,22] [(2,[(5,QY)])] (JJ (.s .z (.s (.j [5,7,22] [(0,[(5,QY)])] JO) .z)))))) .z))) (aa Yz ag) Tryz.func181
theorem Yd:Jh 363 acU:=fo 14 .z ag Tryz.func363
theorem ahd:Jh 263 adQ:=fo 3 (JJ (.s JB (.s JB (.s JB .z)))) ag Tryz.func263
theorem agq:Jh 377 acO:=fo 1 .z (aa ahd ag) Tryz.func377
theorem agv:Jh 364 acT:=fo 19 (JJ (.s .z (JJ (.s .z (JJ (.s .z (JJ (.s .z (JJ (.s .z (JJ (.s .z (JJ (.s .z (.s ((JX [(15,QG),(16,QG)] [15,16,78] [(2,[(15,QG)])] (.s (.s (.j [] [(0,[(78,gt)])] .z) .z) .z))) (JJ (.s .z (JJ (.s ((JX [(16,QG),(18,QG)] [16,18,113] [(4,[(18,QG)])] (.s (.s (.j [] [(0,[(113,gt)])] .z) .z) .z))) .z))))))))))))))))))) (aa agq ag) Tryz.func364
theorem agF:Jh 344 ac4:=fo 8 .z (aa Yd (aa agv ag)) Tryz.func344
theorem Yi:Jh 315 adl:=fo 5 (JJ (.s J3 .z)) (aa TK (aa YJ (aa agF ag))) Tryz.func315
theorem Yh:Jh 316 adk:=fo 4 (JJ (.s .z (.s ((JX [(0,f8),(3,t6)] [0,3] [(2,[(3,t6)])] .z)) .z))) (aa VL ag) Tryz.func316
theorem Yj:Jh 313 ado:=fo 15 (JJ (.s .z (JJ (.s .z (.s (JJ ((JX [(8,QW),(12,QW),(13,ge)] [8,12,13,14,60] [(1,[(8,QW)]),(2,[(8,QW),(12,QW)])] (JJ (.s (.b (JJ (.s (.s (.j [] [(0,[(60,gt)])] .z) .z) .z))) .z))))) .z))))) (aa TM (aa R_ (aa Yi (aa Yh ag)))) Tryz.func313
theorem agR:Jh 314 adn:=fo 2 .z ag Tryz.func314
theorem R9:Jh 276 adG:=fo 7 .z (aa Yj (aa agR ag)) Tryz.func276
theorem Yu:Jh 235 ad6:=fo 8 .z (aa Rp (aa SY (aa OC (aa R9 ag)))) Tryz.func235
theorem ag6:Jh 277 adF:=fo 9 .z (aa Yl ag) Tryz.func277
theorem ag5:Jh 278 adE:=fo 10 .z (aa TM (aa R9 (aa Yi ag))) Tryz.func278
theorem Yt:Jh 236 ad5:=fo 4 .z (aa SY (aa ag6 (aa ag5 ag))) Tryz.func236
theorem Yr:Jh 237 ad4:=fo 4 .z (aa SY ag) Tryz.func237
theorem agE:Jh 345 ac3:=fo 2 .z ag Tryz.func345
theorem Yg:Jh 317 adj:=fo 7 .z (aa Yj (aa agE ag)) Tryz.func317
theorem agQ:Jh 318 adi:=fo 12 (JJ (.s .z (.s (JJ ((JX [(5,QY),(11,ge)] [5,7,11,32] [(2,[(5,QY)])] (JJ (.s .z (.s (.j [5,7,32] [(0,[(5,QY)])] (.b (JJ (.s (.j [] [(0,[(32,gt)])] .z) .z)))) .z)))))) .z))) (aa Yz ag) Tryz.func318
theorem ag4:Jh 279 adD:=fo 20 (JJ (.s (JJ ((JX [(19,ge)] [8,10,11,12,13,14,15,19,42,74] [(1,[(8,gt)]),(2,[])] (JJ (.s .z (.s (.b (JJ (.s .z (.s (.s (.j [] [(0,[(42,gt)])] .z) .z) (JJ (.s .z J4)))))) .z)))))) .z)) (aa Rp (aa SY (aa R_ (aa OC (aa Yh (aa Yg (aa agQ ag))))))) Tryz.func279
theorem Yq:Jh 238 ad3:=fo 6 .z (aa ag4 ag) Tryz.func238
set_option maxHeartbeats 4000000 in
set_option maxRecDepth 1000000 in
theorem ajz:li Tryz.prog 239:=by
 constructor
 ·intro b n cap i w hn hj
  go_enter Tryz.func239,Tryz.ntmps239
  go_wp2
  all_goals (go_ret;exact⟨rfl,rfl⟩)
 ·intro p w;cases p
  ·go_enter Tryz.func239,Tryz.ntmps239
   go_wp2
   all_goals (go_ret;exact⟨rfl,rfl⟩)
  ·go_enter Tryz.func239,Tryz.ntmps239
   go_wp2
   all_goals (go_ret;exact⟨rfl,rfl⟩)
set_option maxHeartbeats 4000000 in
set_option maxRecDepth 1000000 in
theorem aju:lF Tryz.prog 239 34 97 3:=by
 intro b n cap i j w hn hm hlt hj i0 hi0 hz1 A hA news s1 hsrc s2 s3 W1 W2 hW hcl
 have hic:i≤cap:=by omega
 have hjc:j≤cap:=by omega
 have tS:Tryz.prog.underlying 34=some (.slice 97):=by kernel_rfl
 have mixed:Tryz.prog.follows .mixedOrders=true:=Checked.mixed Tryz.checked
 go_enter Tryz.func239,Tryz.ntmps239
 go_wp2_with fail
 go_region_law_o (refine step_append_room rfl (.tmp 22) (.tmp 25) 34 rfl 97 i0 3 tS hi0 hz1 b 0 i cap (by simp[Act.eval,Act.put]) A (n - j) (cap - j) news (by simp[Act.eval,Act.put]) s1.out hsrc.out s2.out (by omega) s3.out ?_;rw[← hW.out])
 go_wp2
 go_ret
 exact⟨rfl,rfl⟩
theorem ahj:Jh 239 ad2:=pH tok (te:=TD) (by kernel_rfl) (by kernel_rfl) (sz:=3) (by kernel_rfl) (MV.mp (by kernel_rfl)) (by kernel_rfl:Tryz.prog.underlying 34=some (.slice 97)) ⟨Tryz.f239,by kernel_rfl,by kernel_rfl,by kernel_rfl⟩ ajz aju
theorem Gh:Jh 163 Hm:=MZ (nv:=10) (h:=aoy) tok mix ag Tryz.func163 (by kernel_rfl) (by kernel_rfl) (by kernel_rfl) (by kernel_rfl) (by kernel_rfl)
theorem agh(w:World)(a b:Value)(h:(Extern.SlicesOverlaps.overlaps #[32,32] #[4] #[a,b]).run Tryz.prog w = .ok (.bool false) w):(callFunc 199 #[a,b]).run Tryz.prog w = .ok (.value (.bool false)) w:=by
 rw[run_callFunc_extern Tryz.func199 (by kernel_rfl) (by kernel_rfl) (by kernel_rfl) (e:=Extern.SlicesOverlaps.overlaps #[32,32] #[4]) (by kernel_rfl),h]
 rfl
set_option maxHeartbeats 4000000 in
set_option maxRecDepth 1000000 in
theorem aiP:lB Tryz.prog 163 32 14 199:=by
 intro b n c i vb vc w W1 W2 hi hroom hc63 hov hcp1 hcp2
 have tS:Tryz.prog.underlying 32=some (.slice 45):=by kernel_rfl
 have mixed:Tryz.prog.follows .mixedOrders=true:=Checked.mixed Tryz.checked
 have hz2:¬ ((i:Int)=(n:Int)):=by omega
 have hw1:IntKind.i64.wrap ((i:Int)+1)=(i:Int)+1:=by rw[IntKind.wrap_i64];omega
 have hw2:IntKind.i64.wrap ((n:Int)+1)=(n:Int)+1:=by rw[IntKind.wrap_i64];omega
 have hb1:(0:Int)≤(i:Int)+1:=by omega
 have hb0:(0:Int)≤(n:Int)+1:=by omega
 have hin:i≤n:=by omega
 have htn:((i:Int)+1).toNat=i+1:=by omega
 have htm:((n:Int)+1).toNat=n+1:=by omega
 have hb2:¬ (c=i+1):=by omega
 have hb3:(i:Int)≤(n:Int)+1:=by omega
 have hb4:¬ (c=i):=by omega
 go_enter Tryz.func163,Tryz.ntmps163
 go_wp2_with (simp only[hov])
 go_region_law_o (refine b8 rfl _ _ 32 32 rfl _ _ (by simp[Act.eval,Act.put]) (by simp[Act.eval,Act.put]) (hcp1 _ _ _) ?_)
 go_wp2_with (at_builtin;refine bA _ rfl _ _ 32 32 rfl _ _ rfl rfl (hcp2 _ _) ?_)
 go_ret
 exact⟨rfl,rfl⟩
set_option maxHeartbeats 4000000 in
set_option maxRecDepth 1000000 in
theorem aiW:nC Tryz.prog 163 32 3 14:=by
 intro b n i vb vc nb G w W0 W1 W2 hi hn hG hG63 hap hcpA hcpB
 have tS:Tryz.prog.underlying 32=some (.slice 45):=by kernel_rfl
 have mixed:Tryz.prog.follows .mixedOrders=true:=Checked.mixed Tryz.checked
 have hz2:¬ ((i:Int)=(n:Int)):=by omega
 have hz3:(n:Int)<(n:Int)+1:=by omega
 have hw1:IntKind.i64.wrap ((i:Int)+1)=(i:Int)+1:=by rw[IntKind.wrap_i64];omega
 have hw2:IntKind.i64.wrap ((n:Int)+1)=(n:Int)+1:=by rw[IntKind.wrap_i64];omega
 have hw3:IntKind.i64.wrap ((n:Int)+1 - (i:Int))=(n:Int)+1 - (i:Int):=by rw[IntKind.wrap_i64];omega
 have hb1:(0:Int)≤(i:Int)+1:=by omega
 have hin:i≤n:=by omega
 have htn:((i:Int)+1).toNat=i+1:=by omega
 have hb3:(i:Int)≤(n:Int):=by omega
 have hGi:¬ (G=i):=by omega
 have hGim:¬ (G=i+1):=by omega
 have hci:¬ (n=i):=by omega
 go_enter Tryz.func163,Tryz.ntmps163
 go_wp2_with (first
  | (at_builtin;refine Lib.wpList_append_run _ rfl _ _ _ _ rfl _ _ rfl rfl _ _ (hap _) ?_)
  | (at_builtin;refine bA _ rfl _ _ 32 32 rfl _ _ rfl rfl (hcpA _ _) ?_))
 go_region_law_o (refine b8 rfl _ _ 32 32 rfl (.slice (some ⟨nb,(i+1)*14,none⟩) (n - i) (G - (i+1))) (.slice (some ⟨b,i*14,none⟩) (n - i) (n - i)) (by simp[Act.eval,Act.put]) (by simp[Act.eval,Act.put]) (hcpB _ _ _) ?_)
 go_wp2
 go_ret
 exact⟨rfl,rfl⟩
theorem ah7:Jh 163 ae8:=rR tok (te:=TH) (tb:=4) (by kernel_rfl) (by kernel_rfl) (sz:=14) (by kernel_rfl) (MV.mp (by kernel_rfl)) (Wy.mp (by kernel_rfl)) (by kernel_rfl:Tryz.prog.underlying 32=some (.slice 45)) (by kernel_rfl:Tryz.prog.underlying 3=some (.int .i64)) ⟨Tryz.f163,by kernel_rfl,by kernel_rfl,by kernel_rfl⟩ agh Gh aiP aiW
theorem YO:Jh 115 afQ:=fo 7 (JJ (.s .z (JJ (.s ((JX [(6,ge)] [6,34] [(2,[(6,ge)])] JG)) .z)))) (aa Ve (aa ah7 ag)) Tryz.func115
theorem VO:Jh 121 afK:=fo 5 .z (aa Xb (aa YO (aa uq ag))) Tryz.func121
theorem agD:Jh 346 ac2:=fo 3 .z ag Tryz.func346
theorem Yf:Jh 319 adh:=fo 4 .z (aa YB (aa agD ag)) Tryz.func319
set_option maxHeartbeats 4000000 in
set_option maxRecDepth 1000000 in
theorem ajy:li Tryz.prog 320:=by
 constructor
 ·intro b n cap i w hn hj
  go_enter Tryz.func320,Tryz.ntmps320
  go_wp2
  all_goals (go_ret;exact⟨rfl,rfl⟩)
 ·intro p w;cases p
  ·go_enter Tryz.func320,Tryz.ntmps320
   go_wp2
   all_goals (go_ret;exact⟨rfl,rfl⟩)
  ·go_enter Tryz.func320,Tryz.ntmps320
   go_wp2
   all_goals (go_ret;exact⟨rfl,rfl⟩)
set_option maxHeartbeats 4000000 in
set_option maxRecDepth 1000000 in
theorem ajt:lF Tryz.prog 320 43 65 8:=by
 intro b n cap i j w hn hm hlt hj i0 hi0 hz1 A hA news s1 hsrc s2 s3 W1 W2 hW hcl
 have hic:i≤cap:=by omega
 have hjc:j≤cap:=by omega
 have tS:Tryz.prog.underlying 43=some (.slice 65):=by kernel_rfl
 have mixed:Tryz.prog.follows .mixedOrders=true:=Checked.mixed Tryz.checked
 go_enter Tryz.func320,Tryz.ntmps320
 go_wp2_with fail
 go_region_law_o (refine step_append_room rfl (.tmp 22) (.tmp 25) 43 rfl 65 i0 8 tS hi0 hz1 b 0 i cap (by simp[Act.eval,Act.put]) A (n - j) (cap - j) news (by simp[Act.eval,Act.put]) s1.out hsrc.out s2.out (by omega) s3.out ?_;rw[← hW.out])
 go_wp2
 go_ret
 exact⟨rfl,rfl⟩
theorem agP:Jh 320 adg:=pH tok (te:=TF) (by kernel_rfl) (by kernel_rfl) (sz:=8) (by kernel_rfl) (MV.mp (by kernel_rfl)) (by kernel_rfl:Tryz.prog.underlying 43=some (.slice 65)) ⟨Tryz.f320,by kernel_rfl,by kernel_rfl,by kernel_rfl⟩ ajy ajt
theorem ag3:Jh 280 adC:=fo 8 (JJ (.s .z (JJ (.s .z (JJ (.s .z (.s (.j [6] [(0,[(6,QC)])] .z) .z))))))) (aa VF (aa Yf (aa agP ag))) Tryz.func280
theorem Hk:Jh 281 F5:=MZ (nv:=10) (h:=aou) tok mix ag Tryz.func281 (by kernel_rfl) (by kernel_rfl) (by kernel_rfl) (by kernel_rfl) (by kernel_rfl)
theorem agd(w:World)(a b:Value)(h:(Extern.SlicesOverlaps.overlaps #[33,33] #[4] #[a,b]).run Tryz.prog w = .ok (.bool false) w):(callFunc 321 #[a,b]).run Tryz.prog w = .ok (.value (.bool false)) w:=by
 rw[run_callFunc_extern Tryz.func321 (by kernel_rfl) (by kernel_rfl) (by kernel_rfl) (e:=Extern.SlicesOverlaps.overlaps #[33,33] #[4]) (by kernel_rfl),h]
 rfl
set_option maxHeartbeats 4000000 in
set_option maxRecDepth 1000000 in
theorem aiN:lB Tryz.prog 281 33 9 321:=by
 intro b n c i vb vc w W1 W2 hi hroom hc63 hov hcp1 hcp2
 have tS:Tryz.prog.underlying 33=some (.slice 59):=by kernel_rfl
 have mixed:Tryz.prog.follows .mixedOrders=true:=Checked.mixed Tryz.checked
 have hz2:¬ ((i:Int)=(n:Int)):=by omega
 have hw1:IntKind.i64.wrap ((i:Int)+1)=(i:Int)+1:=by rw[IntKind.wrap_i64];omega
 have hw2:IntKind.i64.wrap ((n:Int)+1)=(n:Int)+1:=by rw[IntKind.wrap_i64];omega
 have hb1:(0:Int)≤(i:Int)+1:=by omega
 have hb0:(0:Int)≤(n:Int)+1:=by omega
 have hin:i≤n:=by omega
 have htn:((i:Int)+1).toNat=i+1:=by omega
 have htm:((n:Int)+1).toNat=n+1:=by omega
 have hb2:¬ (c=i+1):=by omega
 have hb3:(i:Int)≤(n:Int)+1:=by omega
 have hb4:¬ (c=i):=by omega
 go_enter Tryz.func281,Tryz.ntmps281
 go_wp2_with (simp only[hov])
 go_region_law_o (refine b8 rfl _ _ 33 33 rfl _ _ (by simp[Act.eval,Act.put]) (by simp[Act.eval,Act.put]) (hcp1 _ _ _) ?_)
 go_wp2_with (at_builtin;refine bA _ rfl _ _ 33 33 rfl _ _ rfl rfl (hcp2 _ _) ?_)
 go_ret
 exact⟨rfl,rfl⟩
set_option maxHeartbeats 4000000 in
set_option maxRecDepth 1000000 in
theorem aiU:nC Tryz.prog 281 33 3 9:=by
 intro b n i vb vc nb G w W0 W1 W2 hi hn hG hG63 hap hcpA hcpB
 have tS:Tryz.prog.underlying 33=some (.slice 59):=by kernel_rfl
 have mixed:Tryz.prog.follows .mixedOrders=true:=Checked.mixed Tryz.checked
 have hz2:¬ ((i:Int)=(n:Int)):=by omega
 have hz3:(n:Int)<(n:Int)+1:=by omega
 have hw1:IntKind.i64.wrap ((i:Int)+1)=(i:Int)+1:=by rw[IntKind.wrap_i64];omega
 have hw2:IntKind.i64.wrap ((n:Int)+1)=(n:Int)+1:=by rw[IntKind.wrap_i64];omega
 have hw3:IntKind.i64.wrap ((n:Int)+1 - (i:Int))=(n:Int)+1 - (i:Int):=by rw[IntKind.wrap_i64];omega
 have hb1:(0:Int)≤(i:Int)+1:=by omega
 have hin:i≤n:=by omega
 have htn:((i:Int)+1).toNat=i+1:=by omega
 have hb3:(i:Int)≤(n:Int):=by omega
 have hGi:¬ (G=i):=by omega
 have hGim:¬ (G=i+1):=by omega
 have hci:¬ (n=i):=by omega
 go_enter Tryz.func281,Tryz.ntmps281
 go_wp2_with (first
  | (at_builtin;refine Lib.wpList_append_run _ rfl _ _ _ _ rfl _ _ rfl rfl _ _ (hap _) ?_)
  | (at_builtin;refine bA _ rfl _ _ 33 33 rfl _ _ rfl rfl (hcpA _ _) ?_))
 go_region_law_o (refine b8 rfl _ _ 33 33 rfl (.slice (some ⟨nb,(i+1)*9,none⟩) (n - i) (G - (i+1))) (.slice (some ⟨b,i*9,none⟩) (n - i) (n - i)) (by simp[Act.eval,Act.put]) (by simp[Act.eval,Act.put]) (hcpB _ _ _) ?_)
 go_wp2
 go_ret
 exact⟨rfl,rfl⟩
theorem ag2:Jh 281 adB:=rR tok (te:=TG) (tb:=4) (by kernel_rfl) (by kernel_rfl) (sz:=9) (by kernel_rfl) (MV.mp (by kernel_rfl)) (Wy.mp (by kernel_rfl)) (by kernel_rfl:Tryz.prog.underlying 33=some (.slice 59)) (by kernel_rfl:Tryz.prog.underlying 3=some (.int .i64)) ⟨Tryz.f281,by kernel_rfl,by kernel_rfl,by kernel_rfl⟩ agd Hk aiN aiU
theorem Yp:Jh 240 ad1:=fo 9 (JJ (.s .z (JJ (.s .z (.s (.j [1,4] [(0,[(4,QZ)])] .z) (JJ (.s .z (.s ((JX [(8,ge)] [8,104] [(2,[(8,ge)])] (.s J0 .z))) .z)))))))) (aa VO (aa ag3 (aa ag2 ag))) Tryz.func240
theorem ahF:Jh 197 aeB:=fo 12 (JJ (.s .z (JJ (.s .z (JJ (.s .z (.s (.j [11] [(0,[(11,gt)])] .z) (.s (.s (.j [] [(0,[(91,gt)])] .z) .z) .z)))))))) (aa S9 (aa Pz (aa VK (aa ahl (aa ahk (aa Yw (aa Yv (aa Yu (aa Yt (aa Yr (aa Yq (aa ahj (aa Yp ag))))))))))))) Tryz.func197
shelf_lay_g Go.Proofs.SlLaysF0.n6 Slsf 6 at Tryz 348 as lay348
theorem agC:Jh 348 ac1:=D6 (ρ:=lay348_ren) (n:=17) lay348 (by intro w;kernel_rfl) (by intro w;kernel_rfl) (by kernel_rfl) (MV.mp (by kernel_rfl)) ⟨Tryz.f348,by kernel_rfl,by kernel_rfl,by kernel_rfl⟩
theorem VD:Jh 251 adS:=fo 9 (JJ (.s .z (.s (JJ ((JX [(8,ge)] [2,5,8] [(1,[(2,ge)]),(2,[])] .z))) .z))) ag Tryz.func251
theorem Yc:Jh 387 acM:=fo 9 (JJ (.s (.b (.s (.j [] [(0,[(9,gt)])] .z) .z)) (JJ (.s .z (.s (.b (.s (.j [] [(0,[(42,gt)])] .z) (.c .z (.s (.j [] [(0,[(56,gt)])] .z) .z)))) .z))))) (aa Yd ag) Tryz.func387
theorem agm:Jh 394 acK:=fo 9 .z ag Tryz.func394
theorem agl:Jh 395 acJ:=fo 2 .z ag Tryz.func395
theorem agk:Jh 396 acI:=fo 2 .z ag Tryz.func396
theorem agp:Jh 386 acN:=fo 7 .z (aa Yc (aa agm (aa agl (aa agk ag)))) Tryz.func386
theorem agu:Jh 367 acS:=fo 8 (JJ (.s JE .z)) (aa TK (aa agp (aa Yc ag))) Tryz.func367
theorem agB:Jh 349 ac0:=fo 4 .z (aa VG (aa VD (aa agu ag))) Tryz.func349
theorem agO:Jh 323 adf:=fo 44 (JJ (.s .z (.s (JJ ((JX [(7,.v (.slice (.st 17)) [0]),(18,ge)] [7,9,18,19,20,21,22,23,24,25,26,27,28,29,30,31,32,33,34,35] [(2,[(7,.v (.slice (.st 17)) [0])])] .z))) (JJ (.s .z (.s (JJ ((JX [(10,Q4),(43,ge)] [10,11,12,43] [(4,[(10,Q4)])] .z))) .z)))))) (aa TN (aa OC (aa R9 (aa agC (aa agB ag))))) Tryz.func323
theorem Aj:∀n,K9 Tryz.prog 282 (GH n)
 | 0=>⟨⟨Tryz.f282,by kernel_rfl,by kernel_rfl,by kernel_rfl⟩,λa r hr=>nomatch (show(none:Option _)=some r from hr)⟩
 | n+1=>MZ (nv:=29) (h:=aot) tok mix (aa (Aj n) (aa agO ag)) Tryz.func282 (by kernel_rfl) (by kernel_rfl) (by kernel_rfl) (by kernel_rfl) (by kernel_rfl)
theorem ag1:Jh 282 adA:=Aj 64
theorem ahi:Jh 241 adZ:=fo 3 .z (aa ag1 ag) Tryz.func241
theorem agt:Jh 368 acR:=fo 10 (JJ ((JX [(0,t8),(8,ge)] [0,8,9,34] [(2,[(0,t8)])] (JJ (.s (.b (JJ ((JX [(0,t8),(9,ge)] [0,9,34] [(4,[(0,t8)])] JG)))) .z))))) ag Tryz.func368
theorem agj:Jh 397 acH:=fo 11 (JJ ((JX [(0,t8),(10,ge)] [0,10] [(2,[(0,t8)])] .z))) ag Tryz.func397
theorem agn:Jh 388 acL:=fo 12 (JJ (.s .z (.s ((JX [(0,t8),(10,ge),(11,ge)] [0,10,11] [(2,[(0,t8),(10,ge)])] .z)) .z))) (aa agj ag) Tryz.func388
theorem A4:∀n,K9 Tryz.prog 369 (Hz n)
 | 0=>⟨⟨Tryz.f369,by kernel_rfl,by kernel_rfl,by kernel_rfl⟩,λa r hr=>nomatch (show(none:Option _)=some r from hr)⟩
 | n+1=>MZ (nv:=25) (h:=aoq) tok mix (aa (A4 n) (aa agn ag)) Tryz.func369 (by kernel_rfl) (by kernel_rfl) (by kernel_rfl) (by kernel_rfl) (by kernel_rfl)
theorem ags:Jh 369 acQ:=A4 64
theorem agA:Jh 350 acZ:=fo 10 (JJ (.s .z (.s ((JX [(0,t8),(7,ge),(8,ge)] [0,7,8] [(2,[(0,t8),(7,ge)])] .z)) (JJ ((JX [(0,t8),(6,ge)] [0,6,7,8,9] [(4,[(0,t8)])] (JJ (.b (JJ (.s ((JX [(0,t8),(7,ge),(8,ge)] [0,7,8] [(6,[(0,t8),(7,ge)])] .z)) (.s (.j [0,9] [(0,[(0,t8)])] .z) .z))))))))))) (aa agt (aa ags ag)) Tryz.func350
theorem agN:Jh 324 ade:=fo 2 .z (aa agA ag) Tryz.func324
theorem agW:Jh 291 adt:=fo 1 .z ag Tryz.func291
theorem Yo:Jh 252 adR:=fo 7 .z (aa agW ag) Tryz.func252
theorem agM:Jh 325 adb:=fo 4 .z (aa VD (aa Yo ag)) Tryz.func325
theorem ag0:Jh 283 adz:=fo 39 (JJ (.s .z (.s (JJ ((JX [(5,QR),(14,ge)] [5,7,14,15,16,17,18,19,20,21,22,23,24,25,26,27,28,29,30] [(2,[(5,QR)])] (JJ (.s .z (.s (.j [5,7,16,17,18,19,20,21,22,23,24,25,26,27,28,29] [(0,[(5,QR)])] (.b (JJ (.s (.j [18,19,20,21,22,23,24,25] [(0,[(25,gt)])] .z) .z)))) .z)))))) (JJ (.s .z (.s (JJ ((JX [(8,QM),(38,ge)] [8,9,10,38] [(4,[(8,QM)])] .z))) .z)))))) (aa Pz (aa agN (aa agM ag))) Tryz.func283
theorem agL:Jh 326 ada:=fo 7 (JJ (.s .z (.s (.j [5,6] [(0,[(5,Qp)])] .z) .z))) (aa VF (aa Yf ag)) Tryz.func326
theorem agZ:Jh 284 ady:=fo 7 .z (aa VO (aa agL ag)) Tryz.func284
theorem abS:Jh 81 alg:=fo 2 .z (aa VK ag) Tryz.func81
theorem agK:Jh 327 ac_:=fo 4 .z ag Tryz.func327
theorem Hf:Jh 328 HP:=MZ (nv:=10) (h:=aor) tok mix ag Tryz.func328 (by kernel_rfl) (by kernel_rfl) (by kernel_rfl) (by kernel_rfl) (by kernel_rfl)
theorem agc(w:World)(a b:Value)(h:(Extern.SlicesOverlaps.overlaps #[34,34] #[4] #[a,b]).run Tryz.prog w = .ok (.bool false) w):(callFunc 351 #[a,b]).run Tryz.prog w = .ok (.value (.bool false)) w:=by
 rw[run_callFunc_extern Tryz.func351 (by kernel_rfl) (by kernel_rfl) (by kernel_rfl) (e:=Extern.SlicesOverlaps.overlaps #[34,34] #[4]) (by kernel_rfl),h]
 rfl
set_option maxHeartbeats 4000000 in
set_option maxRecDepth 1000000 in
theorem aiM:lB Tryz.prog 328 34 3 351:=by
 intro b n c i vb vc w W1 W2 hi hroom hc63 hov hcp1 hcp2
 have tS:Tryz.prog.underlying 34=some (.slice 97):=by kernel_rfl
 have mixed:Tryz.prog.follows .mixedOrders=true:=Checked.mixed Tryz.checked
 have hz2:¬ ((i:Int)=(n:Int)):=by omega
 have hw1:IntKind.i64.wrap ((i:Int)+1)=(i:Int)+1:=by rw[IntKind.wrap_i64];omega
 have hw2:IntKind.i64.wrap ((n:Int)+1)=(n:Int)+1:=by rw[IntKind.wrap_i64];omega
 have hb1:(0:Int)≤(i:Int)+1:=by omega
 have hb0:(0:Int)≤(n:Int)+1:=by omega
 have hin:i≤n:=by omega
 have htn:((i:Int)+1).toNat=i+1:=by omega
 have htm:((n:Int)+1).toNat=n+1:=by omega
 have hb2:¬ (c=i+1):=by omega
 have hb3:(i:Int)≤(n:Int)+1:=by omega
 have hb4:¬ (c=i):=by omega
 go_enter Tryz.func328,Tryz.ntmps328
 go_wp2_with (simp only[hov])
 go_region_law_o (refine b8 rfl _ _ 34 34 rfl _ _ (by simp[Act.eval,Act.put]) (by simp[Act.eval,Act.put]) (hcp1 _ _ _) ?_)
 go_wp2_with (at_builtin;refine bA _ rfl _ _ 34 34 rfl _ _ rfl rfl (hcp2 _ _) ?_)
 go_ret
 exact⟨rfl,rfl⟩
set_option maxHeartbeats 4000000 in
set_option maxRecDepth 1000000 in
theorem aiT:nC Tryz.prog 328 34 3 3:=by
 intro b n i vb vc nb G w W0 W1 W2 hi hn hG hG63 hap hcpA hcpB
 have tS:Tryz.prog.underlying 34=some (.slice 97):=by kernel_rfl
 have mixed:Tryz.prog.follows .mixedOrders=true:=Checked.mixed Tryz.checked
 have hz2:¬ ((i:Int)=(n:Int)):=by omega
 have hz3:(n:Int)<(n:Int)+1:=by omega
 have hw1:IntKind.i64.wrap ((i:Int)+1)=(i:Int)+1:=by rw[IntKind.wrap_i64];omega
 have hw2:IntKind.i64.wrap ((n:Int)+1)=(n:Int)+1:=by rw[IntKind.wrap_i64];omega
 have hw3:IntKind.i64.wrap ((n:Int)+1 - (i:Int))=(n:Int)+1 - (i:Int):=by rw[IntKind.wrap_i64];omega
 have hb1:(0:Int)≤(i:Int)+1:=by omega
 have hin:i≤n:=by omega
 have htn:((i:Int)+1).toNat=i+1:=by omega
 have hb3:(i:Int)≤(n:Int):=by omega
 have hGi:¬ (G=i):=by omega
 have hGim:¬ (G=i+1):=by omega
 have hci:¬ (n=i):=by omega
 go_enter Tryz.func328,Tryz.ntmps328
 go_wp2_with (first
  | (at_builtin;refine Lib.wpList_append_run _ rfl _ _ _ _ rfl _ _ rfl rfl _ _ (hap _) ?_)
  | (at_builtin;refine bA _ rfl _ _ 34 34 rfl _ _ rfl rfl (hcpA _ _) ?_))
 go_region_law_o (refine b8 rfl _ _ 34 34 rfl (.slice (some ⟨nb,(i+1)*3,none⟩) (n - i) (G - (i+1))) (.slice (some ⟨b,i*3,none⟩) (n - i) (n - i)) (by simp[Act.eval,Act.put]) (by simp[Act.eval,Act.put]) (hcpB _ _ _) ?_)
 go_wp2
 go_ret
 exact⟨rfl,rfl⟩
theorem agJ:Jh 328 ac9:=rR tok (te:=TD) (tb:=4) (by kernel_rfl) (by kernel_rfl) (sz:=3) (by kernel_rfl) (MV.mp (by kernel_rfl)) (Wy.mp (by kernel_rfl)) (by kernel_rfl:Tryz.prog.underlying 34=some (.slice 97)) (by kernel_rfl:Tryz.prog.underlying 3=some (.int .i64)) ⟨Tryz.f328,by kernel_rfl,by kernel_rfl,by kernel_rfl⟩ agc Hf aiM aiT
theorem agY:Jh 285 adx:=fo 8 (JJ (.s .z (JJ (.s ((JX [(7,ge)] [7,39] [(2,[(7,ge)])] (.s (.s (.j [] [(0,[(39,gt)])] .z) .z) .z))) .z)))) (aa abS (aa agK (aa agJ ag))) Tryz.func285
theorem ahh:Jh 242 adY:=fo 59 (JJ (.b (JJ (.s .z (.s (JJ ((JX [(0,pp),(9,QD),(24,ge)] [0,8,9,12,14,15,16,18,19,24,25,26,27,28,29,30,31,32,33,34,35,36,37,38,39,40,41,42,43,44,45,46,47,48,49,50,51,52,53,54,55,56,57,58,66,109] [(1,JY),(2,JK)] (JJ (.s .z (.s (.j [0,8,9,12,14,15,16,18,19,26,27,28,29,30,31,32,33,34,35,36,37,38,39,40,41,42,43,44,45,46,47,48,49,50,51,52,53,54,55,56,57,58,66,109] [(0,JK),(1,JY)] (.b (JJ (.s .z ((JX [(0,pp),(9,QD),(35,ge)] [0,8,9,14,15,16,18,19,31,35,36,37,38,39,40,41,42,43,44,45,46,47,48,49,50,51,52,53,54,55,56,57,58,66,109] [(1,JY),(3,JK),(4,JK)] (JJ (.s .z (.s (.j [0,8,9,14,15,16,18,19,37,38,39,40,41,42,43,44,45,46,47,48,49,50,51,52,53,54,55,56,57,58,66,109] [(0,JK),(1,JY),(3,JK)] (.b (JJ (.s .z (JJ (.s .z (JJ ((JX [(0,pp),(9,QD),(15,QZ),(58,ge)] [0,8,9,15,18,19,43,46,51,54,55,58,66,109] [(1,JY),(6,JK)] (JJ (.s .z (.s (.j [0,8,9,15,18,19,66,109] [(0,[(0,pp),(9,QD),(15,QZ)]),(1,JY)] (.b (JJ (.s .z (.b (.s (.j [] [(0,[(66,gt)])] .z) (.c .z (JJ (.c .z (JJ (.c .z (JJ (.c .z (.s (.j [0] [(0,[(0,pp),(109,gt)])] .z) .z)))))))))))))) .z)))))))))))) .z))))))))) .z)))))) .z))))) (aa S9 (aa VJ (aa Yv (aa Yu (aa Yt (aa Yr (aa Yq (aa Yp (aa ag0 (aa agZ (aa agY ag))))))))))) Tryz.func242
theorem ahE:Jh 198 aeA:=fo 8 .z (aa Yw (aa ahi (aa ahh ag))) Tryz.func198
theorem ah8:Jh 162 ae9:=fo 11 (JJ (.s .z (JJ (.s JD (JJ (.s .z (.s (.j [5,6,10] [(0,[(5,ge),(6,QD),(10,pp)])] .z) .z))))))) (aa PD (aa Vd (aa ahG (aa ahF (aa ahE ag))))) Tryz.func162
theorem aiE:Jh 110 afV:=fo 10 (JJ (.s .z (JJ (.s ((JX [(2,QV),(6,QU)] [2,6,7,8,9] [(2,[(2,QV),(6,QU)])] .z)) .z)))) (aa PD (aa ah8 ag)) Tryz.func110
theorem amV:Jh 49 alN:=fo 8 (JJ (.s .z (.s (.s (.j [] [(0,[(36,gt)])] .z) .z) .z))) (aa PD (aa Rq (aa Vd (aa YR (aa aiH (aa YQ (aa YP (aa aiG (aa aiE ag))))))))) Tryz.func49
theorem aiD:Jh 111 afU:=fo 3 .z ag Tryz.func111
theorem aiC:Jh 112 afT:=fo 9 (JJ (.s .z (.s (JJ ((JX [(3,ge),(8,ge)] [3,5,8] [(2,[(3,ge)])] (JJ (.s .z (.s (.j [3,5] [(0,[(3,ge)])] .z) .z)))))) .z))) (aa Pz ag) Tryz.func112
theorem aiB:Jh 113 afS:=fo 2 .z (aa Pz ag) Tryz.func113
set_option maxHeartbeats 4000000 in
set_option maxRecDepth 1000000 in
theorem ajB:li Tryz.prog 114:=by
 constructor
 ·intro b n cap i w hn hj
  go_enter Tryz.func114,Tryz.ntmps114
  go_wp2
  all_goals (go_ret;exact⟨rfl,rfl⟩)
 ·intro p w;cases p
  ·go_enter Tryz.func114,Tryz.ntmps114
   go_wp2
   all_goals (go_ret;exact⟨rfl,rfl⟩)
  ·go_enter Tryz.func114,Tryz.ntmps114
   go_wp2
   all_goals (go_ret;exact⟨rfl,rfl⟩)
set_option maxHeartbeats 4000000 in
set_option maxRecDepth 1000000 in
theorem ajw:lF Tryz.prog 114 32 45 14:=by
 intro b n cap i j w hn hm hlt hj i0 hi0 hz1 A hA news s1 hsrc s2 s3 W1 W2 hW hcl
 have hic:i≤cap:=by omega
 have hjc:j≤cap:=by omega
 have tS:Tryz.prog.underlying 32=some (.slice 45):=by kernel_rfl
 have mixed:Tryz.prog.follows .mixedOrders=true:=Checked.mixed Tryz.checked
 go_enter Tryz.func114,Tryz.ntmps114
 go_wp2_with fail
 go_region_law_o (refine step_append_room rfl (.tmp 22) (.tmp 25) 32 rfl 45 i0 14 tS hi0 hz1 b 0 i cap (by simp[Act.eval,Act.put]) A (n - j) (cap - j) news (by simp[Act.eval,Act.put]) s1.out hsrc.out s2.out (by omega) s3.out ?_;rw[← hW.out])
 go_wp2
 go_ret
 exact⟨rfl,rfl⟩
theorem aiA:Jh 114 afR:=pH tok (te:=TH) (by kernel_rfl) (by kernel_rfl) (sz:=14) (by kernel_rfl) (MV.mp (by kernel_rfl)) (by kernel_rfl:Tryz.prog.underlying 32=some (.slice 45)) ⟨Tryz.f114,by kernel_rfl,by kernel_rfl,by kernel_rfl⟩ ajB ajw
theorem amU:Jh 50 alM:=fo 8 (JJ (.s .z (.s (.b J2) (.s (.j [2,6,73] [(0,[(2,.box (.st 10) [0,1,2,3,4,5,6])])] (JJ (.s (.j [] [(0,[(73,gt)])] .z) .z))) .z)))) (aa Ve (aa ZU (aa ZM (aa abR (aa aiD (aa aiC (aa aiB (aa aiA (aa YO (aa uq ag)))))))))) Tryz.func50
theorem YN:Jh 116 afP:=fo 23 (JJ (.s .z (.s (JJ ((JX [(5,QU),(12,ge)] [5,7,9,12,13,14,15,16,17,18,19,20,21,22] [(2,[(5,QU)])] (JJ (.s .z (.s (.b (JJ (.s .z ((JX [(5,QU),(22,ge)] [5,9,22] [(4,[(5,QU)])] (JJ (.s .z (.s (.j [5,9] [(0,[(5,QU)])] .z) .z)))))))) .z)))))) .z))) ag Tryz.func116
theorem aiz:Jh 117 afO:=fo 15 (JJ (.s .z (.s (JJ ((JX [(5,f0),(14,ge)] [5,7,14,26] [(2,[(5,f0)])] (JJ (.s .z (.s (.j [5,7,26] [(0,[(5,f0)])] (.b (JJ JE))) .z)))))) .z))) ag Tryz.func117
theorem YC:Jh 201 aez:=fo 2 .z (aa YG ag) Tryz.func201
theorem ahD:Jh 202 aey:=fo 3 .z ag Tryz.func202
theorem YF:Jh 164 ae7:=fo 5 .z (aa YC (aa ahD ag)) Tryz.func164
theorem aiy:Jh 118 afN:=fo 3 (JJ (.s (.b JF) .z)) (aa YF ag) Tryz.func118
theorem ah3:Jh 169 ae2:=fo 4 .z ag Tryz.func169
theorem ah2:Jh 170 ae1:=fo 2 .z ag Tryz.func170
theorem aix:Jh 120 afL:=fo 13 (JJ (.s (JJ ((JX [(0,QL),(4,QZ),(12,ge)] [0,1,4,8,9,12] [(2,[(0,QL),(4,QZ)])] (JJ (.s .z (.s (.j [0,4,8,9] [(0,[(0,QL),(4,QZ)])] .z) .z)))))) .z)) (aa Vf (aa abV (aa YQ (aa ah3 (aa ah2 ag))))) Tryz.func120
theorem amT:Jh 51 alL:=fo 79 (JJ (.s .z (JJ (.s (JJ ((JX [(2,QT),(3,QZ),(78,ge)] [2,3,6,7,20,78] [(1,[(2,QT)]),(3,[(2,QT),(3,QZ)])] (JJ (.s .z (.s (.b (JJ (.s .z (.s (.j [3,7] [(0,[(3,QZ),(7,ge)])] .z) .z)))) .z)))))) .z)))) (aa Rq (aa S9 (aa YP (aa YN (aa aiz (aa aiy (aa YM (aa aix (aa VO ag))))))))) Tryz.func51
theorem aiw:Jh 122 afJ:=fo 10 (JJ (.s .z (JJ (.s J5 .z)))) (aa Ve (aa Pz (aa uq (aa DW ag)))) Tryz.func122
theorem amS:Jh 52 alK:=fo 9 .z (aa Rq (aa S9 (aa Pz (aa aiw ag)))) Tryz.func52
theorem aiv:Jh 123 afI:=fo 10 (JJ (.s .z (.s (JJ ((JX [(3,f0),(9,ge)] [3,5,9,22] [(2,[(3,f0)])] (JJ (.s .z (.s (.j [3,5,22] [(0,[(3,f0)])] JO) .z)))))) .z))) ag Tryz.func123
theorem ah1:Jh 171 ae0:=fo 3 .z ag Tryz.func171
theorem aiu:Jh 124 afH:=fo 16 (JJ (.s .z (.s (JJ ((JX [(13,Qy),(15,ge)] [5,13,15] [(2,[(13,Qy)])] (JJ (.s .z (.s (.j [5,13] [(0,[(13,Qy)])] .z) .z)))))) .z))) (aa PD (aa YR (aa VI (aa ah1 ag)))) Tryz.func124
theorem ait:Jh 125 afG:=fo 12 (JJ (.s .z (JJ (.s (JJ ((JX [(3,.row (.st 502) false),(4,f0),(11,ge)] [3,4,6,7,11,37] [(2,[(4,f0)])] (JJ (.s .z (.s (.j [3,4,6,37] [(0,[(3,.row (.st 502) false),(4,f0)])] (.b (JJ (.s .z JD)))) .z)))))) .z)))) ag Tryz.func125
theorem ais:Jh 126 afF:=fo 15 (JJ (.s .z (.s (JJ ((JX [(5,f0),(14,ge)] [5,7,14,25] [(2,[(5,f0)])] (JJ (.s .z (.s (.j [5,7,25] [(0,[(5,f0)])] (.b (JJ J5))) .z)))))) .z))) ag Tryz.func126
theorem VN:Jh 131 afA:=fo 9 JZ ag Tryz.func131
theorem air:Jh 127 afE:=fo 8 (JJ (.s .z (JJ (.s (JJ ((JX [(0,Qx),(5,ge),(6,ge)] [0,5,6,7] [(2,[(0,Qx),(5,ge)])] (JJ (.s (.j [0,5,7] [(0,[(0,Qx),(5,ge)])] .z) .z))))) JW)))) (aa VN ag) Tryz.func127
set_option maxHeartbeats 4000000 in
set_option maxRecDepth 1000000 in
theorem ai2:acC Tryz.prog 128 6 3 7:=by
 intro vs u now b1 b2 w hl h1 hu hb1 hb2 hc1 hc2
 match vs,hl with
 | [v0,v1,v2,v3,v4,v5],_=>
 simp only[M4,WW,KV]at hu;subst hu
 have o0:v0.oneCell'=true:=h1 _ (by simp)
 have o1:v1.oneCell'=true:=h1 _ (by simp)
 have o2:v2.oneCell'=true:=h1 _ (by simp)
 have o4:v4.oneCell'=true:=h1 _ (by simp)
 have o5:v5.oneCell'=true:=h1 _ (by simp)
 have mixed:Tryz.prog.follows .mixedOrders=true:=Checked.mixed Tryz.checked
 have d1:(w.alloc (.cells #[v0,v1,v2,.int .i64 u,v4,v5] 47 (0,0))).cell? ⟨b1,0,none⟩=some (.pointer (some ⟨b2,0,none⟩)):=by rw[World.cell?_alloc_old _ _ _ (Zq hb1)];exact hc1
 have d2:(w.alloc (.cells #[v0,v1,v2,.int .i64 u,v4,v5] 47 (0,0))).cell? ⟨b2,7,none⟩=some (.int .i64 now):=by rw[World.cell?_alloc_old _ _ _ (Zq hb2)];exact hc2
 go_enter Tryz.func128,Tryz.ntmps128
 go_wp2
 go_region_o
 go_wp2
 go_ret
 exact⟨rfl,((Below.refl _ w).alloc (Ku _) _).drew,WL _⟩
theorem aiq:Jh 128 afD:=It (F:=fam) (n:=9) (u:=λ(p:Jd)=>p.Until) ⟨Tryz.f128,by kernel_rfl,by kernel_rfl,by kernel_rfl⟩ (by kernel_rfl) (λ_=>rfl) ai2
theorem abT:Jh 69 alq:=fo 2 .z (aa Vf ag) Tryz.func69
theorem ahC:Jh 207 aew:=fo 3 .z ag Tryz.func207
theorem ahB:Jh 208 aev:=fo 4 .z ag Tryz.func208
theorem agw:Jh 356 acV:=fo 11 (JJ (.s .z (.s (JJ ((JX [(5,QW),(10,ge)] [5,7,10,33] [(2,[(5,QW)])] (JJ (.s .z (.s (.j [5,7,33] [(0,[(5,QW)])] (.b (JJ JV))) .z)))))) .z))) (aa YF ag) Tryz.func356
theorem agG:Jh 332 ac5:=fo 11 (JJ (.s .z (.s (JJ ((JX [(3,QW),(10,ge)] [3,5,10,20] [(2,[(3,QW)])] (JJ (.s .z (.s (.j [3,5,20] [(0,[(3,QW)])] (.b (JJ JU))) .z)))))) .z))) (aa Pz (aa Rp (aa Ye (aa agw ag)))) Tryz.func332
theorem Yk:Jh 290 adu:=fo 7 .z (aa agG ag) Tryz.func290
theorem agy:Jh 354 acX:=fo 10 (JJ (.s (JJ ((JX [(0,ge),(9,ge)] [0,6,9] [(2,[(0,ge)])] .z))) .z)) ag Tryz.func354
theorem agx:Jh 355 acW:=fo 1 (JJ (.s (.s (.j [] [(0,[(8,gt)])] .z) .z) .z)) ag Tryz.func355
theorem agH:Jh 331 ac6:=fo 61 (JJ (.s .z (JJ (.s .z (.s (JJ ((JX [(10,QM),(11,ge),(28,ge)] [10,11,12,28,29,30,31,32,33,34,35,36,37,38,39,40,41,42,43,44,45,46,47,48,49,50,51,52,53,54,55,56,57,58] [(2,[(10,QM),(11,ge)])] .z))) (.s (JJ ((JX [(10,QM),(11,ge),(60,ge)] [10,11,13,14,60] [(4,[(10,QM)])] .z))) .z)))))) (aa agy (aa agx ag)) Tryz.func331
theorem Gj:K9 Tryz.prog 289 (p7 0):=⟨⟨Tryz.f289,by kernel_rfl,by kernel_rfl,by kernel_rfl⟩,λa r hr=>nomatch (show(none:Option _)=some r from hr)⟩
set_option maxHeartbeats 4000000 in
theorem F3(n:Nat)(ih:K9 Tryz.prog 289 (p7 n)):K9 Tryz.prog 289 (p7 (n+1)):=MZ (nv:=110) (h:=aos) tok mix (aa ih (aa ih (aa TN (aa OC (aa R9 (aa Yk (aa Yg (aa agH ag)))))))) Tryz.func289 (by kernel_rfl) (by kernel_rfl) (by kernel_rfl) (by kernel_rfl) (by kernel_rfl)
theorem GR(n:Nat):K9 Tryz.prog 289 (p7 n):=Nat.rec (motive:=λn=>K9 Tryz.prog 289 (p7 n)) Gj (λn ih=>F3 n ih) n
theorem agX:Jh 289 adv:=GR 64
theorem VE:Jh 247 adW:=fo 3 .z (aa R_ (aa agX ag)) Tryz.func247
theorem ahg:Jh 248 adV:=fo 9 JZ ag Tryz.func248
theorem ahf:Jh 249 adU:=fo 3 .z ag Tryz.func249
theorem ahA:Jh 209 aeu:=fo 30 (JJ (.s .z (JJ (.s (JJ ((JX [(7,ge),(29,ge)] [7,9,29,55] [(2,[(7,ge)])] (JJ (.s .z (.s (.j [7,9,55] [(0,[(7,ge)])] (.b (JJ (.s (.j [] [(0,[(55,gt)])] .z) .z)))) .z)))))) .z)))) (aa S9 (aa OC (aa VE (aa ahg (aa ahf ag))))) Tryz.func209
theorem ajo(p:Option Addr)(n cap:Nat)(w:World):Calls Tryz.prog 206 #[.slice p n cap] w λe w'=>e = .returned (.func (.func 245) #[] #[.pointer (some ⟨w.heap.size,0,none⟩)])∧w'=w.alloc (.cells #[.slice p n cap] 33 (0,0)):=by
 go_enter Tryz.func206,Tryz.ntmps206
 go_wp2
 go_ret
 exact⟨rfl,rfl⟩
set_option maxHeartbeats 4000000 in
set_option maxRecDepth 1000000 in
theorem ajn:yf Tryz.prog 245 59 9:=by
 intro l bx n cap p J W hn hp hbx hcell hY h0;refine callsIn_of_wp Tryz.func245 rfl trivial ?_ rfl;simp only[Tryz.ntmps245,List.size_toArray,Ri,QeK,Nat.reduceAdd,Nat.reduceSub,Array.replicate_succ,Array.replicate_zero,List.push_toArray,List.append_toArray,OY,SE]
 gi_wp2
 gi_loopw [3] (λi wr=>∃k:Nat,k≤n∧i = .int .i64 ((k:Int) - 1)∧J k wr) (λi _=>(Go.RowKit.intOf i+1).toNat)
 case atStart=>exact⟨n,Ku _,by rw[show wrap64 ((n:Int) - 1)=(n:Int) - 1 by unfold maxLen at hn;simp only[wrap64];omega],h0⟩
 case round=>
  obtain⟨k,hk,rfl,hJ⟩:=hrel
  have hcw:wr.cell? ⟨bx,0,none⟩=some (.slice p n cap):=by rw[← hcell];simp[World.cell?,hbx k wr hJ]
  cases k with
  | zero=>
   gi_wp2
   go_end0
   exact⟨⟨_,rfl⟩,hJ⟩
  | succ k=>
   have e1:(((k+1:Nat):Int) - 1)=(k:Int):=by omega
   rw[e1];have hlt:k<n:=hk;rcases hp with hp | ⟨b,rfl⟩
   ·omega
   obtain⟨f,hf,fn,tmps,assign,body,hy,hR⟩:=hY k wr hJ hlt b rfl
   have c0:=hf 0 (by decide)
   rw[RS]at c0
   have c1:=hf 1 (by decide)
   have c2:=hf 2 (by decide)
   have c3:=hf 3 (by decide)
   have c4:=hf 4 (by decide)
   have c5:=hf 5 (by decide)
   have c6:=hf 6 (by decide)
   have c7:=hf 7 (by decide)
   have c8:=hf 8 (by decide)
   rw[show(⟨(List.range 9).map f⟩:Array Value) = #[f 0,f 1,f 2,f 3,f 4,f 5,f 6,f 7,f 8]from rfl]at hy
   gi_wp2
   refine hR.mono ?_;rintro e W3 ⟨rfl,hJ3⟩
   gi_wp2
   go_roundw
   case rel=>exact⟨k,by omega,by rw[show wrap64 ((k:Int) - 1)=(k:Int) - 1 by unfold maxLen at hn;simp only[wrap64];omega],hJ3⟩
   case measure=>simp[Go.RowKit.intOf,wrap64];unfold maxLen at hn;omega
theorem ah0:Jh 172 aeZ:=ajr (nv:=48) (fB:=206) (fC:=245) (te:=59) (Zi:=33) (Lj:=ant) (SB:=ajx) (h:=aow) tok (aa PD (aa Vf (aa Vb (aa ahC (aa ahB (aa ahA ag)))))) mix Tryz.func172 (by kernel_rfl) (by kernel_rfl) (by kernel_rfl) (by kernel_rfl) ⟨Tryz.f206,by kernel_rfl,by kernel_rfl,by kernel_rfl⟩ ⟨Tryz.f245,by kernel_rfl,by kernel_rfl,by kernel_rfl⟩ ajo (λti h=>by cases h;exact ajn) (by kernel_rfl)
theorem YA:Jh 213 aeo:=fo 4 .z ag Tryz.func213
theorem ahz:Jh 210 aes:=fo 47 (JJ (.s .z (.s (JJ ((JX [(5,QE),(23,ge)] [5,7,14,17,23,24,25,26,27,28,29,30,31,32,33,34,35,36,37,38,39,40,41,42] [(2,[(5,QE)])] .z))) (.s (JJ ((JX [(5,QE),(46,ge)] [5,9,10,11,46] [(4,[(5,QE)])] (JJ (.s .z (.s (.j [5,9,10,11] [(0,[(5,QE)])] .z) .z)))))) .z)))) (aa S9 (aa YA (aa OC (aa VE ag)))) Tryz.func210
theorem ahe:Jh 250 adT:=fo 54 (JJ (.s .z (.s (JJ ((JX [(37,ge)] [4,8,10,37,38,39,40,41,42,43,44,45,46,47,48,49,50,51,52,53,74] [(1,[(4,ge)]),(2,[])] (JJ (.s .z (.s (.j [4,8,10,39,40,41,42,43,44,45,46,47,48,49,50,51,52,53,74] [(0,[]),(1,[(4,ge)])] (.b (JJ (.s (.s (.j [41,42,43,44,45,46,47,48,49] [(0,[(49,gt)])] .z) .z) (JJ ((JX [(53,ge)] [4,10,53,74] [(1,[(4,ge)]),(4,[])] (JJ (.s .z (.s (.b (JJ J4)) .z)))))))))) .z)))))) .z))) (aa Pz (aa OC (aa R9 (aa Yk ag)))) Tryz.func250
theorem ahy:Jh 211 aer:=fo 20 (JJ (.s .z (JJ (.s (JJ ((JX [(0,QE),(3,ge),(19,ge)] [0,3,6,19] [(2,[(0,QE),(3,ge)])] .z))) .z)))) (aa R_ (aa OC (aa VE (aa ahe ag)))) Tryz.func211
theorem ahx:Jh 212 aep:=fo 94 (JJ (.s .z (.s (JJ ((JX [(4,Qt),(22,ge)] [4,6,7,8,9,10,15,22,23,24,25,26,27,28,29,30,31,32,33,34,35,36,37,38,39,40,41,42,43,44,45,46,47,48,49,50,51,52,53,54,55,56,57,58,59,60,61,62,63,64,65,66,67,68,69,70,71,72,73,74,75,76,77,78,79,80,81,82,83,84,85,86,87,88,89,90,91] [(2,[(4,Qt)])] (JJ (.s .z (.s (.j [4,6,7,8,9,10,24,25,26,27,28,29,30,31,32,33,34,35,36,37,38,39,40,41,42,43,44,45,46,47,48,49,50,51,52,53,54,55,56,57,58,59,60,61,62,63,64,65,66,67,68,69,70,71,72,73,74,75,76,77,78,79,80,81,82,83,84,85,86,87,88,89,90] [(0,[(4,Qt)])] (.b (JJ (.s .z (.s (.s (.j [36,37,38,39,40,41,42,43,44,45,46,47,48,49,50,51,52,53,54,55,56] [(0,[(56,gt)])] .z) .z) (JJ (.s (.j [63,64,65,66,67,68,69,70,71,72,73,74,75,76,77,78,79,80,81,82,83,84,85,86,87] [(0,[(87,gt)])] .z) .z))))))) .z)))))) (JJ (.s (.g [(11,f8)] [11,12,92,120] (.s (.j [] [(0,[(120,gt)])] .z) .z)) .z))))) (aa VG (aa VD (aa Yo ag))) Tryz.func212
theorem ahZ:Jh 173 aeY:=fo 9 (JJ (.s .z (JJ (.s .z (.s ((JX [(5,QE),(7,f0)] [5,7,8] [(2,[(7,f0)])] .z)) .z))))) (aa ahz (aa ahy (aa ahx (aa YA ag)))) Tryz.func173
theorem ahY:Jh 174 aeX:=fo 3 .z ag Tryz.func174
theorem ahX:Jh 175 aeW:=fo 3 .z ag Tryz.func175
shelf_lay Go.Proofs.Lays.n189 Nm 189 at Tryz as lay176
theorem YE:Jh 176 aeV:=Cz (ρ:=lay176_ren) lay176 ⟨Tryz.f176,by kernel_rfl,by kernel_rfl,by kernel_rfl⟩
theorem aip:Jh 129 afC:=fo 48 (JJ (.s .z (.s (JJ ((JX [(2,QV),(16,ge)] [2,4,6,7,11,16,17,18,19,20,21,22,23,24,25,26,27,28,29,30,31,32,33,34,35,36,37,38,39,40,41,42,43] [(2,[(2,QV)])] (JJ (.s .z (.s (.b (JJ (.s .z (JJ ((JX [(2,QV),(26,ge)] [2,6,7,21,22,26,27,28,29,30,31,32,33,34,35,36,37,38,39,40,41,42] [(4,[(2,QV)])] .z)))))) .z)))))) (.s (JJ ((JX [(3,f0),(47,ge)] [3,9,47] [(6,[(3,f0)])] (JJ (.s .z (.s (.j [3,9] [(0,[(3,f0)])] .z) .z)))))) .z)))) (aa PD (aa Vf (aa abT (aa ah0 (aa ahZ (aa ahY (aa ahX (aa YE ag)))))))) Tryz.func129
theorem amR:Jh 53 alJ:=fo 122 (JJ (.s (.b (.s (.j [11,12,13,14,15,16,17,18,19,20,21,22,23,24,25] [(0,[(11,gt)])] .z) .z)) (JJ (.s .z (.s (JJ ((JX [(0,QL),(67,ge)] [0,5,45,64,67,68,69,70,71,72,73,74] [(3,[(0,QL)])] .z))) (.s (JJ ((JX [(0,QL),(81,ge)] [0,7,78,81,82,83,84,85,86,87,88,89,90,91,92,93,94,95,96] [(5,[(0,QL)])] .z))) (JJ (.s .z (JJ (.s (JJ ((JX [(8,QT),(121,ge)] [8,10,121] [(7,[(8,QT)])] (JJ (.s .z (.s (.j [8,10] [(0,[(8,QT)])] .z) .z)))))) .z)))))))))) (aa PD (aa Rq (aa Vb (aa YN (aa aiv (aa aiu (aa ait (aa ais (aa air (aa aiq (aa aip ag))))))))))) Tryz.func53
theorem YD:Jh 177 aeU:=fo 2 .z ag Tryz.func177
theorem ahW:Jh 178 aeT:=fo 2 .z (aa VN ag) Tryz.func178
theorem ahV:Jh 179 aeS:=fo 3 .z ag Tryz.func179
theorem ahb:Jh 265 adO:=fo 13 (JJ (.s .z (.s (JJ ((JX [(7,QW),(12,ge)] [7,9,12,31] [(2,[(7,QW)])] (JJ (.s .z (.s (.j [7,9,31] [(0,[(7,QW)])] (.b (JJ (.s (.j [] [(0,[(31,gt)])] .z) .z)))) .z)))))) .z))) (aa Rp ag) Tryz.func265
theorem ahc:Jh 264 adP:=fo 7 .z (aa Rp (aa SY (aa ahb ag))) Tryz.func264
theorem ahw:Jh 216 aen:=fo 19 (JJ (.s .z (.s (JJ ((JX [(11,f0),(18,ge)] [11,13,15,18,33] [(2,[(11,f0)])] (JJ (.s .z (.s (.j [11,13,33] [(0,[(11,f0)])] (.b (JJ JV))) .z)))))) .z))) (aa YC (aa ahc ag)) Tryz.func216
theorem ahU:Jh 180 aeR:=fo 77 (JJ (.s (.s (.j [15,16,17,18,19,20,21,22,23,24,25,26,27,28,29,30,31,32,33,34,35,36,37,38,39,40,41,42,43,44,45,46] [(0,[(46,gt)])] .z) .z) (JJ (.s .z (.s (JJ ((JX [(10,f0),(57,ge)] [10,12,50,51,54,57,58,59,60,61,62,63,64,65,66,67,68,69,70,71] [(2,[(10,f0)])] (JJ (.s .z (.s (.j [10,12,59,60,61,62,63,64,65,66,67,68,69,70] [(0,[(10,f0)])] .z) .z)))))) (JJ (.s (JJ ((JX [(76,ge)] [8,9,14,76,93] [(1,[(8,ge),(9,ge)]),(4,[])] (JJ (.s .z (.s (.b (JJ (.s (.j [] [(0,[(93,gt)])] .z) .z))) .z)))))) .z))))))) (aa YE (aa YD (aa ahw ag))) Tryz.func180
theorem aio:Jh 130 afB:=fo 13 (JJ (.s .z (JJ (.s ((JX [(9,ge)] [9,30] [(2,[(9,ge)])] (.s (.s JM .z) .z))) (.s (.b JV) .z))))) (aa PD (aa YD (aa ahW (aa ahV (aa ahU (aa R_ ag)))))) Tryz.func130
theorem amQ:Jh 54 alI:=fo 6 .z (aa Rq (aa aio ag)) Tryz.func54
theorem ain:Jh 132 afz:=fo 3 .z ag Tryz.func132
set_option maxHeartbeats 4000000 in
set_option maxRecDepth 1000000 in
theorem ajA:li Tryz.prog 133:=by
 constructor
 ·intro b n cap i w hn hj
  go_enter Tryz.func133,Tryz.ntmps133
  go_wp2
  all_goals (go_ret;exact⟨rfl,rfl⟩)
 ·intro p w;cases p
  ·go_enter Tryz.func133,Tryz.ntmps133
   go_wp2
   all_goals (go_ret;exact⟨rfl,rfl⟩)
  ·go_enter Tryz.func133,Tryz.ntmps133
   go_wp2
   all_goals (go_ret;exact⟨rfl,rfl⟩)
set_option maxHeartbeats 4000000 in
set_option maxRecDepth 1000000 in
theorem ajv:lF Tryz.prog 133 35 47 6:=by
 intro b n cap i j w hn hm hlt hj i0 hi0 hz1 A hA news s1 hsrc s2 s3 W1 W2 hW hcl
 have hic:i≤cap:=by omega
 have hjc:j≤cap:=by omega
 have tS:Tryz.prog.underlying 35=some (.slice 47):=by kernel_rfl
 have mixed:Tryz.prog.follows .mixedOrders=true:=Checked.mixed Tryz.checked
 go_enter Tryz.func133,Tryz.ntmps133
 go_wp2_with fail
 go_region_law_o (refine step_append_room rfl (.tmp 22) (.tmp 25) 35 rfl 47 i0 6 tS hi0 hz1 b 0 i cap (by simp[Act.eval,Act.put]) A (n - j) (cap - j) news (by simp[Act.eval,Act.put]) s1.out hsrc.out s2.out (by omega) s3.out ?_;rw[← hW.out])
 go_wp2
 go_ret
 exact⟨rfl,rfl⟩
theorem ail:Jh 133 afy:=pH tok (te:=Vz) (by kernel_rfl) (by kernel_rfl) (sz:=6) (by kernel_rfl) (MV.mp (by kernel_rfl)) (by kernel_rfl:Tryz.prog.underlying 35=some (.slice 47)) ⟨Tryz.f133,by kernel_rfl,by kernel_rfl,by kernel_rfl⟩ ajA ajv
theorem amP:Jh 55 alH:=fo 7 .z (aa PD (aa VN (aa ain (aa ail ag)))) Tryz.func55
theorem amO:Jh 56 alG:=fo 3 .z (aa Rq ag) Tryz.func56
theorem ang:Jh 21 ame:=fo 8 .z (aa amY (aa amX (aa amW (aa amV (aa amU (aa amT (aa amS (aa amR (aa amQ (aa amP (aa amO (aa Rq ag)))))))))))) Tryz.func21
theorem ok9:Jh 9 sp9:=fo 9 h9 (aa PD (aa ang ag)) Tryz.func9
theorem aii:Jh 140 afr:=fo 9 JZ ag Tryz.func140
theorem amK:Jh 61 alB:=fo 2 .z (aa aii ag) Tryz.func61
theorem amJ:Jh 62 alA:=fo 2 .z ag Tryz.func62
theorem anf:Jh 23 amc:=fo 73 (JJ (.s .z (.s (JJ ((JX [(3,QY),(18,ge)] [3,5,18,19,20,21,22,23,24,25,26,27] [(2,[(3,QY)])] .z))) (.s (JJ ((JX [(3,QY),(32,ge)] [3,7,32,33,34,35,36,37,38,39,40,41] [(4,[(3,QY)])] .z))) (.s (JJ ((JX [(3,QY),(46,ge)] [3,9,46,47,48,49,50,51,52,53,54,55] [(6,[(3,QY)])] .z))) (.s (JJ ((JX [(3,QY),(60,ge)] [3,11,13,60,61,62,63,64,65,66,67,68,69,70,71,72] [(8,[(3,QY)])] (JJ (.s .z (.s (.b (JJ (.s .z (JJ ((JX [(3,QY),(72,ge)] [3,13,68,72] [(10,[(3,QY)])] .z)))))) .z)))))) .z)))))) (aa amK (aa amJ ag)) Tryz.func23
theorem amI:Jh 63 alz:=fo 8 h63 ag Tryz.func63
theorem amH:Jh 64 aly:=fo 2 .z ag Tryz.func64
theorem amG:Jh 65 alx:=fo 2 .z ag Tryz.func65
theorem amF:Jh 66 alv:=fo 2 .z ag Tryz.func66
theorem amE:Jh 67 alu:=fo 2 .z ag Tryz.func67
theorem amD:Jh 68 alr:=fo 2 .z ag Tryz.func68
theorem ane:Jh 24 amb:=fo 4 .z (aa amI (aa amH (aa amG (aa amF (aa amE (aa amD ag)))))) Tryz.func24
set_option maxHeartbeats 4000000 in
set_option maxRecDepth 1000000 in
theorem aop:Sy Tryz.prog 25 69 70 90:=by
 intro p n cap fid bound captured w R b h
 have ec:∀args w,(callFunc 69 args).run Tryz.prog w = .ok (.enter 69 args) w:=enters_of Tryz.func69 (by kernel_rfl) rfl
 go_enter Tryz.func25,Tryz.ntmps25
 go_wp2_with (go_at_fn 69;refine h.mono ?_;rintro e w' ⟨rfl,hR⟩)
 go_ret
 exact⟨rfl,hR⟩
set_option maxHeartbeats 4000000 in
set_option maxRecDepth 1000000 in
theorem aol:Sw Tryz.prog 70 90 59 9:=by
 intro vs fid bound captured bx w R b hl h1 hent hbx hcell h
 match vs,hl with
 | [v0,v1,v2,v3,v4,v5,v6,v7,v8],_=>
 have o0:v0.oneCell'=true:=h1 _ (by simp)
 have o1:v1.oneCell'=true:=h1 _ (by simp)
 have o2:v2.oneCell'=true:=h1 _ (by simp)
 have o3:v3.oneCell'=true:=h1 _ (by simp)
 have o4:v4.oneCell'=true:=h1 _ (by simp)
 have o5:v5.oneCell'=true:=h1 _ (by simp)
 have o6:v6.oneCell'=true:=h1 _ (by simp)
 have o7:v7.oneCell'=true:=h1 _ (by simp)
 have o8:v8.oneCell'=true:=h1 _ (by simp)
 rw[show(⟨bound++[.agg ⟨[v0,v1,v2,v3,v4,v5,v6,v7,v8]⟩]++captured⟩:Array Value)=(bound++.agg #[v0,v1,v2,v3,v4,v5,v6,v7,v8]::captured).toArray by simp]at h
 obtain⟨fn,hf,hf1,hf2⟩:=hent
 have aao:∀args w,(callFunc fid args).run Tryz.prog w = .ok (.enter fid args) w:=by
  cases hb:fn.body with
  | none=>rw[hb]at hf2;cases hf2
  | some bd=>exact enters_of hf hf1 hb
 clear hf hf1 hf2
 have hcw:(w.alloc (.cells #[v0,v1,v2,v3,v4,v5,v6,v7,v8] 59 (0,0))).cell? ⟨bx,0,none⟩=some (.func (.func fid) ⟨bound⟩ ⟨captured⟩):=by rw[World.cell?_alloc_old _ _ _ (Zq hbx)];simp[World.cell?,hcell]
 go_enter Tryz.func70,Tryz.ntmps70
 go_wp2_with (go_at_fn fid;refine h.mono ?_;rintro e w' ⟨rfl,hR⟩)
 go_ret
 exact⟨rfl,hR⟩
theorem anb:Jh 25 ama:=sV abT ⟨Tryz.f25,by kernel_rfl,by kernel_rfl,by kernel_rfl⟩ ⟨Tryz.f70,by kernel_rfl,by kernel_rfl,by kernel_rfl⟩ (by kernel_rfl) aop aol
theorem ana:Jh 26 al_:=fo 8 .z (aa S9 (aa Vd (aa Pz ag))) Tryz.func26
theorem amC:Jh 74 alm:=fo 2 .z (aa YK ag) Tryz.func74
set_option maxHeartbeats 4000000 in
set_option maxRecDepth 1000000 in
theorem aoo:Sy Tryz.prog 27 74 75 92:=by
 intro p n cap fid bound captured w R b h
 have ec:∀args w,(callFunc 74 args).run Tryz.prog w = .ok (.enter 74 args) w:=enters_of Tryz.func74 (by kernel_rfl) rfl
 go_enter Tryz.func27,Tryz.ntmps27
 go_wp2_with (go_at_fn 74;refine h.mono ?_;rintro e w' ⟨rfl,hR⟩)
 go_ret
 exact⟨rfl,hR⟩
set_option maxHeartbeats 4000000 in
set_option maxRecDepth 1000000 in
theorem aok:Sw Tryz.prog 75 92 42 8:=by
 intro vs fid bound captured bx w R b hl h1 hent hbx hcell h
 match vs,hl with
 | [v0,v1,v2,v3,v4,v5,v6,v7],_=>
 have o0:v0.oneCell'=true:=h1 _ (by simp)
 have o1:v1.oneCell'=true:=h1 _ (by simp)
 have o2:v2.oneCell'=true:=h1 _ (by simp)
 have o3:v3.oneCell'=true:=h1 _ (by simp)
 have o4:v4.oneCell'=true:=h1 _ (by simp)
 have o5:v5.oneCell'=true:=h1 _ (by simp)
 have o6:v6.oneCell'=true:=h1 _ (by simp)
 have o7:v7.oneCell'=true:=h1 _ (by simp)
 rw[show(⟨bound++[.agg ⟨[v0,v1,v2,v3,v4,v5,v6,v7]⟩]++captured⟩:Array Value)=(bound++.agg #[v0,v1,v2,v3,v4,v5,v6,v7]::captured).toArray by simp]at h
 obtain⟨fn,hf,hf1,hf2⟩:=hent
 have aao:∀args w,(callFunc fid args).run Tryz.prog w = .ok (.enter fid args) w:=by
  cases hb:fn.body with
  | none=>rw[hb]at hf2;cases hf2
  | some bd=>exact enters_of hf hf1 hb
 clear hf hf1 hf2
 have hcw:(w.alloc (.cells #[v0,v1,v2,v3,v4,v5,v6,v7] 42 (0,0))).cell? ⟨bx,0,none⟩=some (.func (.func fid) ⟨bound⟩ ⟨captured⟩):=by rw[World.cell?_alloc_old _ _ _ (Zq hbx)];simp[World.cell?,hcell]
 go_enter Tryz.func75,Tryz.ntmps75
 go_wp2_with (go_at_fn fid;refine h.mono ?_;rintro e w' ⟨rfl,hR⟩)
 go_ret
 exact⟨rfl,hR⟩
theorem am_:Jh 27 al9:=sV amC ⟨Tryz.f27,by kernel_rfl,by kernel_rfl,by kernel_rfl⟩ ⟨Tryz.f75,by kernel_rfl,by kernel_rfl,by kernel_rfl⟩ (by kernel_rfl) aoo aok
theorem am9:Jh 28 al8:=fo 15 (JJ (.s .z (.s (JJ ((JX [(5,QW),(14,ge)] [4,5,7,8,9,14] [(1,[(4,gt)]),(2,[(5,QW)])] (JJ (.s .z (.s (.j [4,5,7,8,9] [(0,[(5,QW)]),(1,[(4,gt)])] .z) .z)))))) .z))) (aa Rp (aa SY ag)) Tryz.func28
theorem amB:Jh 78 ali:=fo 2 .z (aa ZM ag) Tryz.func78
set_option maxHeartbeats 4000000 in
set_option maxRecDepth 1000000 in
theorem aon:Sy Tryz.prog 29 78 79 94:=by
 intro p n cap fid bound captured w R b h
 have ec:∀args w,(callFunc 78 args).run Tryz.prog w = .ok (.enter 78 args) w:=enters_of Tryz.func78 (by kernel_rfl) rfl
 go_enter Tryz.func29,Tryz.ntmps29
 go_wp2_with (go_at_fn 78;refine h.mono ?_;rintro e w' ⟨rfl,hR⟩)
 go_ret
 exact⟨rfl,hR⟩
set_option maxHeartbeats 4000000 in
set_option maxRecDepth 1000000 in
theorem aoj:Sw Tryz.prog 79 94 45 14:=by
 intro vs fid bound captured bx w R b hl h1 hent hbx hcell h
 match vs,hl with
 | [v0,v1,v2,v3,v4,v5,v6,v7,v8,v9,v10,v11,v12,v13],_=>
 have o0:v0.oneCell'=true:=h1 _ (by simp)
 have o1:v1.oneCell'=true:=h1 _ (by simp)
 have o2:v2.oneCell'=true:=h1 _ (by simp)
 have o3:v3.oneCell'=true:=h1 _ (by simp)
 have o4:v4.oneCell'=true:=h1 _ (by simp)
 have o5:v5.oneCell'=true:=h1 _ (by simp)
 have o6:v6.oneCell'=true:=h1 _ (by simp)
 have o7:v7.oneCell'=true:=h1 _ (by simp)
 have o8:v8.oneCell'=true:=h1 _ (by simp)
 have o9:v9.oneCell'=true:=h1 _ (by simp)
 have o10:v10.oneCell'=true:=h1 _ (by simp)
 have o11:v11.oneCell'=true:=h1 _ (by simp)
 have o12:v12.oneCell'=true:=h1 _ (by simp)
 have o13:v13.oneCell'=true:=h1 _ (by simp)
 rw[show(⟨bound++[.agg ⟨[v0,v1,v2,v3,v4,v5,v6,v7,v8,v9,v10,v11,v12,v13]⟩]++captured⟩:Array Value)=(bound++.agg #[v0,v1,v2,v3,v4,v5,v6,v7,v8,v9,v10,v11,v12,v13]::captured).toArray by simp]at h
 obtain⟨fn,hf,hf1,hf2⟩:=hent
 have aao:∀args w,(callFunc fid args).run Tryz.prog w = .ok (.enter fid args) w:=by
  cases hb:fn.body with
  | none=>rw[hb]at hf2;cases hf2
  | some bd=>exact enters_of hf hf1 hb
 clear hf hf1 hf2
 have hcw:(w.alloc (.cells #[v0,v1,v2,v3,v4,v5,v6,v7,v8,v9,v10,v11,v12,v13] 45 (0,0))).cell? ⟨bx,0,none⟩=some (.func (.func fid) ⟨bound⟩ ⟨captured⟩):=by rw[World.cell?_alloc_old _ _ _ (Zq hbx)];simp[World.cell?,hcell]
 go_enter Tryz.func79,Tryz.ntmps79
 go_wp2_with (go_at_fn fid;refine h.mono ?_;rintro e w' ⟨rfl,hR⟩)
 go_ret
 exact⟨rfl,hR⟩
theorem am8:Jh 29 al7:=sV amB ⟨Tryz.f29,by kernel_rfl,by kernel_rfl,by kernel_rfl⟩ ⟨Tryz.f79,by kernel_rfl,by kernel_rfl,by kernel_rfl⟩ (by kernel_rfl) aon aoj
theorem am7:Jh 30 al6:=fo 38 (JJ (.s .z (.s (JJ ((JX [(5,ge),(6,ge),(13,ge)] [5,6,8,13,14,15,16,17,18,19,20,21,22,23,24,25,26,27,28,29,30,31,32,33,34,35] [(2,[(5,ge),(6,ge)])] (JJ (.s .z (.s (.j [5,6,8,15,16,17,18,19,20,21,22,23,24,25,26,27,28,29,30,31,32,33,34] [(0,[(5,ge),(6,ge)])] (.b (JJ (.s (.j [6,17,18,19,20,21,22,23] [(0,[(6,ge)])] .z) (.s (.j [24,25,26,27,28,29,30,31,32] [(0,[(32,gt)])] .z) .z))))) .z)))))) (.s (.j [4,36,37] [(0,[]),(1,[(4,gt)])] .z) .z)))) (aa ZU ag) Tryz.func30
set_option maxHeartbeats 4000000 in
set_option maxRecDepth 1000000 in
theorem aom:Sy Tryz.prog 31 81 82 98:=by
 intro p n cap fid bound captured w R b h
 have ec:∀args w,(callFunc 81 args).run Tryz.prog w = .ok (.enter 81 args) w:=enters_of Tryz.func81 (by kernel_rfl) rfl
 go_enter Tryz.func31,Tryz.ntmps31
 go_wp2_with (go_at_fn 81;refine h.mono ?_;rintro e w' ⟨rfl,hR⟩)
 go_ret
 exact⟨rfl,hR⟩
set_option maxHeartbeats 4000000 in
set_option maxRecDepth 1000000 in
theorem aoi:Sw Tryz.prog 82 98 97 3:=by
 intro vs fid bound captured bx w R b hl h1 hent hbx hcell h
 match vs,hl with
 | [v0,v1,v2],_=>
 have o0:v0.oneCell'=true:=h1 _ (by simp)
 have o1:v1.oneCell'=true:=h1 _ (by simp)
 have o2:v2.oneCell'=true:=h1 _ (by simp)
 rw[show(⟨bound++[.agg ⟨[v0,v1,v2]⟩]++captured⟩:Array Value)=(bound++.agg #[v0,v1,v2]::captured).toArray by simp]at h
 obtain⟨fn,hf,hf1,hf2⟩:=hent
 have aao:∀args w,(callFunc fid args).run Tryz.prog w = .ok (.enter fid args) w:=by
  cases hb:fn.body with
  | none=>rw[hb]at hf2;cases hf2
  | some bd=>exact enters_of hf hf1 hb
 clear hf hf1 hf2
 have hcw:(w.alloc (.cells #[v0,v1,v2] 97 (0,0))).cell? ⟨bx,0,none⟩=some (.func (.func fid) ⟨bound⟩ ⟨captured⟩):=by rw[World.cell?_alloc_old _ _ _ (Zq hbx)];simp[World.cell?,hcell]
 go_enter Tryz.func82,Tryz.ntmps82
 go_wp2_with (go_at_fn fid;refine h.mono ?_;rintro e w' ⟨rfl,hR⟩)
 go_ret
 exact⟨rfl,hR⟩
theorem am6:Jh 31 al5:=sV abS ⟨Tryz.f31,by kernel_rfl,by kernel_rfl,by kernel_rfl⟩ ⟨Tryz.f82,by kernel_rfl,by kernel_rfl,by kernel_rfl⟩ (by kernel_rfl) aom aoi
theorem ok32:Jh 32 al4:=fo 6 .z (aa Vd ag) Tryz.func32
theorem anl:Jh 13 amm:=fo 4 .z (aa abY (aa anf (aa ane (aa anb (aa ana (aa am_ (aa am9 (aa am8 (aa am7 (aa am6 (aa ok32 ag))))))))))) Tryz.func13
theorem ok5:Jh 5 sp5:=fo 7 h5 (aa ok7 (aa ok9 (aa anl ag))) Tryz.func5
theorem ok6:Jh 6 sp6:=fo 2 h6 ag Tryz.func6
theorem ZV:Jh 14 aml:=fo 6 JN ag Tryz.func14
theorem amy:Jh 84 ale:=fo 4 (JJ (.s .z (.s ((JX [(3,ge)] [3,14] [(2,[(3,ge)])] (.s (.s (.j [] [(0,[(14,gt)])] .z) .z) .z))) .z))) ag Tryz.func84
theorem abW:Jh 36 al0:=fo 7 h36 (aa amy ag) Tryz.func36
theorem amA:Jh 83 alf:=fo 8 (JJ (.s (JJ ((JX [(4,Q8),(6,ge)] [4,5,6,7] [(1,[(4,Q8),(5,gt)]),(2,[(4,Q8)])] .z))) .z)) ag Tryz.func83
theorem am5:Jh 33 al3:=fo 3 .z (aa abW (aa amA ag)) Tryz.func33
theorem ank:Jh 15 amk:=fo 5 (JJ (.s .z (.s (JJ ((JX [(3,t6),(4,ge)] [3,4] [(2,[(3,t6)])] (JJ (.s (.j [3] [(0,[(3,t6)])] .z) .z))))) .z))) (aa am5 ag) Tryz.func15
theorem ok16:Jh 16 amj:=fo 3 h16 (aa ZV ag) Tryz.func16
theorem anj:Jh 17 ami:=fo 9 (JJ (.s .z (JJ (.s .z (JJ (.s (.j [5,7] [(0,[(5,QX)])] (JJ (.c (JJ (.s (.j [7] [(0,[(7,Qo)])] .z) (.s (.j [7] [(0,[(7,Qo)])] .z) .z))) .z))) (.s (JJ ((JX [(5,QX),(8,ge)] [5,8,104] [(2,[(5,QX)])] (JJ (.s (.j [5,104] [(0,[(5,QX)])] (.b J0)) .z))))) .z))))))) (aa ZV (aa ok16 ag)) Tryz.func17
theorem Ds:∀n,K9 Tryz.prog 34 (Ii n)
 | 0=>⟨⟨Tryz.f34,by kernel_rfl,by kernel_rfl,by kernel_rfl⟩,λa r hr=>nomatch (show(none:Option _)=some r from hr)⟩
 | n+1=>MZ (nv:=1) (h:=h34) tok mix (aa (Ds n) ag) Tryz.func34 (by kernel_rfl) (by kernel_rfl) (by kernel_rfl) (by kernel_rfl) (by kernel_rfl)
theorem am4:Jh 34 al2:=Ds 64
theorem ani:Jh 18 amh:=fo 8 (JJ (.s .z (.s (JJ ((JX [(3,f8),(4,ge)] [3,4] [(2,[(3,f8)])] .z))) (JJ (.s (JJ ((JX [(3,f8),(5,ge)] [3,5,6,7] [(4,[(3,f8)])] (JJ (.s (.b (JJ (.s .z (.s (JJ ((JX [(3,f8),(7,ge)] [3,7] [(6,[(3,f8)])] .z))) .z)))) .z))))) .z))))) (aa am4 ag) Tryz.func18
theorem abX:Jh 35 al1:=fo 6 JN ag Tryz.func35
theorem am3:Jh 37 alZ:=fo 2 .z ag Tryz.func37
theorem anh:Jh 19 amg:=fo 19 (JJ (.s .z (JJ (.s .z (.s (JJ ((JX [(6,QO),(8,ge)] [6,8,9,10,59] [(2,[(6,QO)])] (JJ (.s (.b (JJ (.s (.j [9,59] [(0,[(9,Q8)])] (.s (.j [] [(0,[(59,gt)])] .z) .z)) (.s (JJ ((JX [(9,Q8),(10,ge)] [9,10] [(4,[(9,Q8)])] .z))) .z)))) .z))))) (.s (JJ ((JX [(6,QO),(11,ge)] [6,11,12,13,14,15,16,17,18] [(6,[(6,QO)])] (JJ (.s (.b (JJ (.s .z ((JX [(6,QO),(13,ge)] [6,13,14,15,16,17,18] [(8,[(6,QO)])] (JJ (.s (.b (JJ (.s .z ((JX [(6,QO),(14,ge),(15,ge)] [6,14,15,16,17,18] [(10,[(6,QO)])] (JJ (.s (.b (JJ (.s (.j [16] [(0,[(16,ge)])] .z) (JJ (.s .z (JJ ((JX [(6,QO),(18,ge)] [6,18] [(12,[(6,QO)])] (JJ (.s (.j [6] [(0,[(6,QO)])] .z) .z)))))))))) .z))))))) .z))))))) .z))))) .z)))))) (aa abX (aa abX (aa abW (aa am3 ag)))) Tryz.func19
theorem ok8:Jh 8 sp8:=fo 30 h8 (aa ZV (aa ank (aa ok16 (aa anj (aa ani (aa anh ag)))))) Tryz.func8
theorem ano:Jh 10 amo:=fo 7 h10 ag Tryz.func10
theorem anm:Jh 11 amn:=fo 7 h11 ag Tryz.func11
theorem ok3:Jh 3 sp3:=fo 16 h3 (aa ok5 (aa ok6 (aa ok7 (aa ok8 (aa ok9 (aa ano (aa anm ag))))))) Tryz.func3
end Go.Fx.D
