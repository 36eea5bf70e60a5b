/-
  Each of these functions does what its function over plain data says, where that gives an answer (printed by a program). Conditions: none.
-/
import Derived.Test.YtkagmokhbmbjdaaGreatDoorFxD
import Derived.Ground.SlsfProg
import Derived.Shelf.Lay
import Derived.Test.YtkagmokhbmbjdaaGreatDoorD
import Derived.Test.YtkagmokhbmbjdaaGreatDoorFxC
import Derived.Test.YtkagmokhbmbjdaaGreatDoorChecked
import Derived.WalkKit
import Derived.TacticsInMore
import Derived.Lib.IndexBytes
import Derived.Deep.LoopGhost
import Derived.Shelf.RegionOpenPlain
import Derived.Lib.Walk
import Derived.LoopNIn
import Derived.LoopIn
namespace Go.Fx.D
open Go Go.Fx Go.Proofs Go.Shelf Go.RowKit Go.Lib Go.Sort
set_option linter.unusedVariables false
set_option maxRecDepth 100000
theorem rk {t : TypeId} {i : TI fam} (j : TypeInfo) (h1 : Tryz.prog.underlying t = some i.desc:=by kernel_rfl) (h2 : Tryz.prog.info? t = some j:=by kernel_rfl) (h3 : j.zero = some (j.zero.getD .nilFunc):=by kernel_rfl) (h4 : (Nat.beq j.size i.size && Nat.beq j.bytes i.bytes && Nat.beq (j.zero.getD .nilFunc).cells.size i.size && zok i.zero (j.zero.getD .nilFunc).cells.toList && (aggV (j.zero.getD .nilFunc) == db i.desc)) = true:=by kernel_rfl) (h5 : tyOk i = true:=by kernel_rfl) (h6 : eqOkB Tryz.prog t i = true:=by kernel_rfl) : RowOk Tryz.prog t i:=⟨h1,⟨j,_,h2,h3,h4⟩,h5,h6⟩
theorem I1 : RowOk Tryz.prog 3 row3:=rk Tryz.t3
theorem Ja : RowOk Tryz.prog 4 row4:=rk Tryz.t4
theorem IS : RowOk Tryz.prog 5 row5:=rk Tryz.t5
theorem I3 : RowOk Tryz.prog 9 row9:=rk Tryz.t9
theorem CS : RowOk Tryz.prog 24 row24:=rk Tryz.t24
theorem C8 : RowOk Tryz.prog 25 row25:=rk Tryz.t25
theorem IM : RowOk Tryz.prog 27 row27:=rk Tryz.t27
theorem CR : RowOk Tryz.prog 28 row28:=rk Tryz.t28
theorem Df : RowOk Tryz.prog 29 row29:=rk Tryz.t29
theorem CU : RowOk Tryz.prog 30 row30:=rk Tryz.t30
theorem Dj : RowOk Tryz.prog 31 row31:=rk Tryz.t31
theorem Dp : RowOk Tryz.prog 32 row32:=rk Tryz.t32
theorem Ii : RowOk Tryz.prog 34 row34:=rk Tryz.t34
theorem Hv : RowOk Tryz.prog 40 row40:=rk Tryz.t40
theorem IQ : RowOk Tryz.prog 42 row42:=rk Tryz.t42
theorem C4 : RowOk Tryz.prog 43 row43:=rk Tryz.t43
theorem Di : RowOk Tryz.prog 44 row44:=rk Tryz.t44
theorem IR : RowOk Tryz.prog 46 row46:=rk Tryz.t46
theorem H4 : RowOk Tryz.prog 48 row48:=rk Tryz.t48
theorem Iz : RowOk Tryz.prog 50 row50:=rk Tryz.t50
theorem HD : RowOk Tryz.prog 53 row53:=rk Tryz.t53
theorem H9 : RowOk Tryz.prog 60 row60:=rk Tryz.t60
theorem Ik : RowOk Tryz.prog 62 row62:=rk Tryz.t62
theorem Im : RowOk Tryz.prog 68 row68:=rk Tryz.t68
theorem Ic : RowOk Tryz.prog 71 row71:=rk Tryz.t71
theorem IH : RowOk Tryz.prog 75 row75:=rk Tryz.t75
theorem De : RowOk Tryz.prog 76 row76:=rk Tryz.t76
theorem HO : RowOk Tryz.prog 78 row78:=rk Tryz.t78
theorem HE : RowOk Tryz.prog 81 row81:=rk Tryz.t81
theorem H6 : RowOk Tryz.prog 91 row91:=rk Tryz.t91
theorem In : RowOk Tryz.prog 93 row93:=rk Tryz.t93
theorem Iw : RowOk Tryz.prog 96 row96:=rk Tryz.t96
theorem GJ : RowOk Tryz.prog 103 Ev:=rk Tryz.t103
theorem GZ : RowOk Tryz.prog 126 E5:=rk Tryz.t126
theorem F4 : RowOk Tryz.prog 137 FY:=rk Tryz.t137
theorem Gr : RowOk Tryz.prog 191 E9:=rk Tryz.t191
theorem Gd : RowOk Tryz.prog 209 F1:=rk Tryz.t209
theorem Gk : RowOk Tryz.prog 221 Fw:=rk Tryz.t221
theorem F7 : RowOk Tryz.prog 223 Ff:=rk Tryz.t223
theorem Hb : RowOk Tryz.prog 239 Fm:=rk Tryz.t239
theorem Hk : RowOk Tryz.prog 242 Fb:=rk Tryz.t242
theorem Hd : RowOk Tryz.prog 244 FT:=rk Tryz.t244
theorem Gw : RowOk Tryz.prog 250 FM:=rk Tryz.t250
theorem GT : RowOk Tryz.prog 253 F3:=rk Tryz.t253
theorem Ha : RowOk Tryz.prog 274 FC:=rk Tryz.t274
theorem G0 : RowOk Tryz.prog 278 Ep:=rk Tryz.t278
theorem Hm : RowOk Tryz.prog 292 FP:=rk Tryz.t292
theorem Gg : RowOk Tryz.prog 315 Eg:=rk Tryz.t315
theorem GE : RowOk Tryz.prog 333 E_:=rk Tryz.t333
theorem Hh : RowOk Tryz.prog 345 Fz:=rk Tryz.t345
theorem Gi : RowOk Tryz.prog 362 Fe:=rk Tryz.t362
theorem GV : RowOk Tryz.prog 364 EG:=rk Tryz.t364
theorem tok : TblOk Tryz.prog (look tbl):=tblOk (all_cons I1 (all_cons Ja (all_cons IS (all_cons I3 (all_cons CS (all_cons C8 (all_cons IM (all_cons CR (all_cons Df (all_cons CU (all_cons Dj (all_cons Dp (all_cons Ii (all_cons Hv (all_cons IQ (all_cons C4 (all_cons Di (all_cons IR (all_cons H4 (all_cons Iz (all_cons HD (all_cons H9 (all_cons Ik (all_cons Im (all_cons Ic (all_cons IH (all_cons De (all_cons HO (all_cons HE (all_cons H6 (all_cons In (all_cons Iw (all_cons GJ (all_cons GZ (all_cons F4 (all_cons Gr (all_cons Gd (all_cons Gk (all_cons F7 (all_cons Hb (all_cons Hk (all_cons Hd (all_cons Gw (all_cons GT (all_cons Ha (all_cons G0 (all_cons Hm (all_cons Gg (all_cons GE (all_cons Hh (all_cons Gi (all_cons GV all_nil))))))))))))))))))))))))))))))))))))))))))))))))))))
theorem mix : Tryz.prog.follows .mixedOrders = true:=Checked.mixed Tryz.checked
theorem fo {Γ : Ctx fam} {nv : Nat} {h : Hint} (hΓ : CtxOk Tryz.prog Γ) {f : FuncId} {fn : Func} {sp : Spec fam} (hf : Tryz.prog.funcs[f]? = some fn) (hnm : (fn.name == "runtime.NumGoroutine") = false:=by kernel_rfl) (hbn : fn.body.isNone = false:=by kernel_rfl) (hlen : Nat.ble sp.ks.length fn.ntmps = true:=by kernel_rfl) (hrs : sp.rs.all (fun k => !k.isBox) = true:=by kernel_rfl) (hD : (fun a => tFunc (look tbl) Γ nv fn h sp.ks sp.rs a) = sp.D:=by kernel_rfl) : FnOk Tryz.prog f sp:=fnOk tok mix hΓ hf hnm hbn hlen hrs hD
theorem ok10 : FnOk Tryz.prog 10 sp10:=fo (nv:=2) (h:=h10) aj Tryz.func10
set_option maxHeartbeats 4000000 in
set_option maxRecDepth 1000000 in
theorem hw84 (s : ByteArray) (w : World) (hascii : ∀ (j : Nat) b,s.data.toList[j]? = some b → b.toNat < 128) :
  Calls Tryz.prog 84 #[.string s] w fun e w' => e = .returned (.bool (nmR 12 s)) ∧ ∃ k,w' = w.iter s k:=by
 have HA : Aside (∀ (j : Nat) b,s.data.toList[j]? = some b → b.toNat < 128):=hascii
 clear hascii
 go_enter Tryz.func84,Tryz.ntmps84
 go_wp2
 go_loopg [4] s.size (fun g s2 wx => ∃ i : Nat,i + g = s.size ∧ wx = w.iter s i ∧ Hid (∀ (j : Nat) b,s.data.toList[j]? = some b → j < i → nmB b = true))
 case atStart => exact ⟨0,by omega,rfl,fun j b _ h => absurd h (Nat.not_lt_zero _)⟩
 case round =>
  obtain ⟨i,hig,rfl,hN⟩:=hrel
  cases gk with
  | zero =>
   obtain rfl : i = s.size:=by omega
   have hall:=IU hN.out
   have HL : Aside (s.data.toList.all nmB = true):=hall
   clear hall
   have hnx:=run_next_end (P:=Tryz.prog) w s s.size
   go_wp2
   ·rename_i he
    go_ret
    refine ⟨?_,_,rfl⟩
    unfold nmR
    rw [Lib.toList_data] at he
    rw [he]
    rfl
   ·go_ret
    refine ⟨?_,_,rfl⟩
    unfold nmR
    rw [HL.out,← IY s 12,← Lib.toList_data]
    rfl
  | succ g =>
   have hi : i < s.size:=by omega
   have ha : (s[i]'hi).toNat < 128:=HA.out i _ (Lib.data_getElem? s i hi)
   have hnx:=fun ty => run_next_ascii (P:=Tryz.prog) w s i ty hi ha
   obtain ⟨c,hc⟩ : ∃ c : Nat,c = (s[i]'hi).toNat:=⟨_,rfl⟩
   rw [← hc] at hnx ha
   have HC : Aside (c = (s[i]'hi).toNat):=hc
   clear hc
   by_cases hz : 97 ≤ c ∧ c ≤ 122
   ·have z1 : ¬ ((c : Int) < 97):=by omega
    have z2 : ¬ ((c : Int) > 122):=by omega
    go_wp2
    go_roundg g
    case measure => omega
    case rel => exact ⟨i + 1,by omega,rfl,zk hi hN.out HC.out (.inl hz)⟩
   by_cases hd : 48 ≤ c ∧ c ≤ 57
   ·have z1 : ((c : Int) < 97):=by omega
    have z2 : ¬ ((c : Int) < 48):=by omega
    have z3 : ¬ ((c : Int) > 57):=by omega
    go_wp2
    go_roundg g
    case measure => omega
    case rel => exact ⟨i + 1,by omega,rfl,zk hi hN.out HC.out (.inr (.inl hd))⟩
   by_cases hh : c = 45
   ·have HH : Aside (c = 45):=hh
    clear hz hd
    subst hh
    go_wp2
    go_roundg g
    case measure => omega
    case rel => exact ⟨i + 1,by omega,rfl,zk hi hN.out HC.out (.inr (.inr rfl))⟩
   have HF:=HW hi HC.out (by omega)
   have HF2 : Aside (s.data.toList.all nmB = false):=HF
   clear HF
   have z5 : ¬ ((c : Int) = 45):=by omega
   by_cases h1 : c < 97
   ·have z1 : ((c : Int) < 97):=by omega
    by_cases h2 : c < 48
    ·have z2 : ((c : Int) < 48):=by omega
     clear h1 h2 hz hd hh
     go_wp2
     go_ret
     refine ⟨?_,_,rfl⟩
     unfold nmR; rw [HF2.out]
     rfl
    ·have z2 : ¬ ((c : Int) < 48):=by omega
     have z3 : ((c : Int) > 57):=by omega
     clear h1 h2 hz hd hh
     go_wp2
     go_ret
     refine ⟨?_,_,rfl⟩
     unfold nmR; rw [HF2.out]
     rfl
   ·have z1 : ¬ ((c : Int) < 97):=by omega
    have z2 : ((c : Int) > 122):=by omega
    have z3 : ¬ ((c : Int) < 48):=by omega
    have z4 : ((c : Int) > 57):=by omega
    clear h1 hz hd hh
    go_wp2
    go_ret
    refine ⟨?_,_,rfl⟩
    unfold nmR; rw [HF2.out]
    rfl
theorem ok84 : FnOk Tryz.prog 84 sp84:=H2 ⟨Tryz.f84,by kernel_rfl,by kernel_rfl,by kernel_rfl⟩ hw84
theorem ok38 : FnOk Tryz.prog 38 sp38:=fo (nv:=10) (h:=h38) (aa ok84 aj) Tryz.func38
theorem ok189 : FnOk Tryz.prog 189 sp189:=fo (nv:=6) (h:=h189) aj Tryz.func189
theorem ok190 : FnOk Tryz.prog 190 sp190:=⟨⟨Tryz.f190,by kernel_rfl,by kernel_rfl,by kernel_rfl⟩,fun a r hr => nomatch (show (none : Option _) = some r from hr)⟩
theorem ok145 : FnOk Tryz.prog 145 sp145:=fo (nv:=6) (h:=h145) (aa ok189 (aa ok190 aj)) Tryz.func145
theorem ok85 : FnOk Tryz.prog 85 sp85:=fo (nv:=5) (h:=h85) (aa ok145 aj) Tryz.func85
theorem ok223 : FnOk Tryz.prog 223 sp223:=⟨⟨Tryz.f223,by kernel_rfl,by kernel_rfl,by kernel_rfl⟩,fun a r hr => nomatch (show (none : Option _) = some r from hr)⟩
theorem hw224 (s : ByteArray) (c : UInt8) (w : World) : Calls Tryz.prog 224 #[.string s,.string ⟨#[c]⟩] w fun e w' => e = .returned (.int .i64 (Lib.countByte s.data.toList c)) ∧ w' = w:=by
 go_enter Tryz.func224,Tryz.ntmps224
 go_wp2
 rw [run_callFunc_extern Tryz.func269 (by kernel_rfl) (by kernel_rfl) (by kernel_rfl) (e:=Extern.BytealgCount.count) (by kernel_rfl),Lib.run_countString]
 simp only [Result.andThen]
 rw [Oper.upon_value]
 go_wp2
 go_ret
 exact ⟨rfl,rfl⟩
theorem ok224 : FnOk Tryz.prog 224 sp224:=H_ ⟨Tryz.f224,by kernel_rfl,by kernel_rfl,by kernel_rfl⟩ hw224
theorem ok225 : FnOk Tryz.prog 225 sp225:=⟨⟨Tryz.f225,by kernel_rfl,by kernel_rfl,by kernel_rfl⟩,fun a r hr => nomatch (show (none : Option _) = some r from hr)⟩
theorem ok191 : FnOk Tryz.prog 191 sp191:=fo (nv:=12) (h:=h191) (aa ok223 (aa ok224 (aa ok225 aj))) Tryz.func191
theorem ok146 : FnOk Tryz.prog 146 sp146:=fo (nv:=2) (h:=h146) (aa ok191 aj) Tryz.func146
theorem ok192 : FnOk Tryz.prog 192 sp192:=fo (nv:=9) (h:=h192) aj Tryz.func192
theorem ok147 : FnOk Tryz.prog 147 sp147:=fo (nv:=2) (h:=h147) (aa ok192 aj) Tryz.func147
theorem ok148 : FnOk Tryz.prog 148 sp148:=fo (nv:=1) (h:=h148) (aa ok84 aj) Tryz.func148
theorem ok86 : FnOk Tryz.prog 86 sp86:=fo (nv:=1) (h:=h86) (aa ok146 (aa ok147 (aa ok148 aj))) Tryz.func86
theorem ok193 : FnOk Tryz.prog 193 sp193:=fo (nv:=9) (h:=h193) aj Tryz.func193
theorem ok149 : FnOk Tryz.prog 149 sp149:=fo (nv:=2) (h:=h149) (aa ok193 aj) Tryz.func149
theorem ok150 : FnOk Tryz.prog 150 sp150:=fo (nv:=2) (h:=h150) aj Tryz.func150
theorem ok87 : FnOk Tryz.prog 87 sp87:=fo (nv:=1) (h:=h87) (aa ok149 (aa ok150 aj)) Tryz.func87
theorem ok39 : FnOk Tryz.prog 39 sp39:=fo (nv:=14) (h:=h39) (aa ok85 (aa ok86 (aa ok87 aj))) Tryz.func39
theorem ok88 : FnOk Tryz.prog 88 sp88:=fo (nv:=14) (h:=h88) (aa ok85 aj) Tryz.func88
theorem GR : FnOk Tryz.prog 100 Gq:=fnOk (nv:=1) (h:=h100) tok mix aj Tryz.func100 (by kernel_rfl) (by kernel_rfl) (by kernel_rfl) (by kernel_rfl) (by kernel_rfl)
set_option maxHeartbeats 2000000 in
theorem IK (p : Option Addr) (cap : Nat) (w : World) : Calls Tryz.prog 100 #[.slice p 0 cap] w fun e w' => ∃ p',e = .returned (.slice p' 0 0) ∧ RowKit.Below w.heap.size w w' ∧ w.drawn ≤ w'.drawn:=by
 have q:=nc (P:=Tryz.prog) (t:=76) De.und
 cases p with
 | none =>
  go_enter Tryz.func100,Tryz.ntmps100
  go_wp2
  go_ret
  exact ⟨_,rfl,.refl _ _,Nat.le_refl _⟩
 | some p =>
  go_enter Tryz.func100,Tryz.ntmps100
  go_wp2
  go_ret
  exact ⟨_,rfl,(RowKit.Below.refl _ w).alloc (Nat.le_refl _) _,Nat.le_refl _⟩
theorem ok100 : FnOk Tryz.prog 100 sp100:=fb GR IK
theorem ok151 : FnOk Tryz.prog 151 sp151:=fo (nv:=9) (h:=h151) aj Tryz.func151
theorem ok152 : FnOk Tryz.prog 152 sp152:=fo (nv:=3) (h:=h152) aj Tryz.func152
theorem ok89 : FnOk Tryz.prog 89 sp89:=fo (nv:=8) (h:=h89) (aa ok100 (aa ok151 (aa ok152 aj))) Tryz.func89
theorem ok40 : FnOk Tryz.prog 40 sp40:=fo (nv:=53) (h:=h40) (aa ok88 (aa ok89 aj)) Tryz.func40
theorem ok23 : FnOk Tryz.prog 23 sp23:=fo (nv:=5) (h:=h23) (aa ok38 (aa ok39 (aa ok40 aj))) Tryz.func23
theorem ok90 : FnOk Tryz.prog 90 sp90:=fo (nv:=9) (h:=h90) aj Tryz.func90
theorem ok41 : FnOk Tryz.prog 41 sp41:=fo (nv:=2) (h:=h41) (aa ok90 aj) Tryz.func41
theorem ok42 : FnOk Tryz.prog 42 sp42:=fo (nv:=2) (h:=h42) aj Tryz.func42
theorem ok24 : FnOk Tryz.prog 24 sp24:=fo (nv:=73) (h:=h24) (aa ok41 (aa ok42 aj)) Tryz.func24
theorem ok43 : FnOk Tryz.prog 43 sp43:=fo (nv:=8) (h:=h43) aj Tryz.func43
theorem ok44 : FnOk Tryz.prog 44 sp44:=⟨⟨Tryz.f44,by kernel_rfl,by kernel_rfl,by kernel_rfl⟩,fun a r hr => nomatch (show (none : Option _) = some r from hr)⟩
theorem ok45 : FnOk Tryz.prog 45 sp45:=⟨⟨Tryz.f45,by kernel_rfl,by kernel_rfl,by kernel_rfl⟩,fun a r hr => nomatch (show (none : Option _) = some r from hr)⟩
theorem ok46 : FnOk Tryz.prog 46 sp46:=⟨⟨Tryz.f46,by kernel_rfl,by kernel_rfl,by kernel_rfl⟩,fun a r hr => nomatch (show (none : Option _) = some r from hr)⟩
theorem ok47 : FnOk Tryz.prog 47 sp47:=⟨⟨Tryz.f47,by kernel_rfl,by kernel_rfl,by kernel_rfl⟩,fun a r hr => nomatch (show (none : Option _) = some r from hr)⟩
theorem ok48 : FnOk Tryz.prog 48 sp48:=⟨⟨Tryz.f48,by kernel_rfl,by kernel_rfl,by kernel_rfl⟩,fun a r hr => nomatch (show (none : Option _) = some r from hr)⟩
theorem ok25 : FnOk Tryz.prog 25 sp25:=fo (nv:=4) (h:=h25) (aa ok43 (aa ok44 (aa ok45 (aa ok46 (aa ok47 (aa ok48 aj)))))) Tryz.func25
theorem ok64 : FnOk Tryz.prog 64 sp64:=fo (nv:=9) (h:=h64) aj Tryz.func64
theorem ok49 : FnOk Tryz.prog 49 sp49:=fo (nv:=2) (h:=h49) (aa ok64 aj) Tryz.func49
set_option maxHeartbeats 4000000 in
set_option maxRecDepth 1000000 in
theorem hB26 : EachB Tryz.prog 26 49 50 84:=by
 intro p n cap fid bound captured w R b h
 have ec : ∀ args w,(callFunc 49 args).run Tryz.prog w = .ok (.enter 49 args) w:=enters_of Tryz.func49 (by kernel_rfl) rfl
 go_enter Tryz.func26,Tryz.ntmps26
 go_wp2_with (go_at_fn 49; refine h.mono ?_; rintro e w' ⟨rfl,hR⟩)
 go_ret
 exact ⟨rfl,hR⟩
set_option maxHeartbeats 4000000 in
set_option maxRecDepth 1000000 in
theorem hC26 : EachC Tryz.prog 50 84 68 9:=by
 intro vs fid bound captured bx w R b hl h1 hent hbx hcell h
 match vs,hl with
 | [v0,v1,v2,v3,v4,v5,v6,v7,v8],_ =>
 have o0 : v0.oneCell' = true:=h1 _ (by simp)
 have o1 : v1.oneCell' = true:=h1 _ (by simp)
 have o2 : v2.oneCell' = true:=h1 _ (by simp)
 have o3 : v3.oneCell' = true:=h1 _ (by simp)
 have o4 : v4.oneCell' = true:=h1 _ (by simp)
 have o5 : v5.oneCell' = true:=h1 _ (by simp)
 have o6 : v6.oneCell' = true:=h1 _ (by simp)
 have o7 : v7.oneCell' = true:=h1 _ (by simp)
 have o8 : v8.oneCell' = true:=h1 _ (by simp)
 rw [show (⟨bound ++ [.agg ⟨[v0,v1,v2,v3,v4,v5,v6,v7,v8]⟩] ++ captured⟩ : Array Value) = (bound ++ .agg #[v0,v1,v2,v3,v4,v5,v6,v7,v8] :: captured).toArray by simp] at h
 obtain ⟨fn,hf,hf1,hf2⟩:=hent
 have efid : ∀ args w,(callFunc fid args).run Tryz.prog w = .ok (.enter fid args) w:=by
  cases hb : fn.body with
  | none => rw [hb] at hf2; cases hf2
  | some bd => exact enters_of hf hf1 hb
 clear hf hf1 hf2
 have hcw : (w.alloc (.cells #[v0,v1,v2,v3,v4,v5,v6,v7,v8] 68 (0,0))).cell? ⟨bx,0,none⟩ = some (.func (.func fid) ⟨bound⟩ ⟨captured⟩):=by
  rw [World.cell?_alloc_old _ _ _ (Nat.ne_of_lt hbx)]
  simp [World.cell?,hcell]
 go_enter Tryz.func50,Tryz.ntmps50
 go_wp2_with (go_at_fn fid; refine h.mono ?_; rintro e w' ⟨rfl,hR⟩)
 go_ret
 exact ⟨rfl,hR⟩
theorem ok26 : FnOk Tryz.prog 26 sp26:=vS ok49 ⟨Tryz.f26,by kernel_rfl,by kernel_rfl,by kernel_rfl⟩ ⟨Tryz.f50,by kernel_rfl,by kernel_rfl,by kernel_rfl⟩ (by kernel_rfl) hB26 hC26
theorem ok96 : FnOk Tryz.prog 96 sp96:=fo (nv:=9) (h:=h96) aj Tryz.func96
theorem ok106 : FnOk Tryz.prog 106 sp106:=fo (nv:=3) (h:=h106) aj Tryz.func106
theorem ok66 : FnOk Tryz.prog 66 sp66:=fo (nv:=4) (h:=h66) (aa ok96 (aa ok106 aj)) Tryz.func66
theorem GA : FnOk Tryz.prog 153 G3:=fnOk (nv:=1) (h:=h153) tok mix aj Tryz.func153 (by kernel_rfl) (by kernel_rfl) (by kernel_rfl) (by kernel_rfl) (by kernel_rfl)
set_option maxHeartbeats 2000000 in
theorem Iq (p : Option Addr) (cap : Nat) (w : World) : Calls Tryz.prog 153 #[.slice p 0 cap] w fun e w' => ∃ p',e = .returned (.slice p' 0 0) ∧ RowKit.Below w.heap.size w w' ∧ w.drawn ≤ w'.drawn:=by
 have q:=nc (P:=Tryz.prog) (t:=43) C4.und
 cases p with
 | none =>
  go_enter Tryz.func153,Tryz.ntmps153
  go_wp2
  go_ret
  exact ⟨_,rfl,.refl _ _,Nat.le_refl _⟩
 | some p =>
  go_enter Tryz.func153,Tryz.ntmps153
  go_wp2
  go_ret
  exact ⟨_,rfl,(RowKit.Below.refl _ w).alloc (Nat.le_refl _) _,Nat.le_refl _⟩
theorem ok153 : FnOk Tryz.prog 153 sp153:=fb GA Iq
theorem ok154 : FnOk Tryz.prog 154 sp154:=fo (nv:=4) (h:=h154) aj Tryz.func154
theorem ok91 : FnOk Tryz.prog 91 sp91:=fo (nv:=3) (h:=h91) (aa ok153 (aa ok154 aj)) Tryz.func91
theorem ok51 : FnOk Tryz.prog 51 sp51:=fo (nv:=7) (h:=h51) (aa ok66 (aa ok91 aj)) Tryz.func51
theorem ok93 : FnOk Tryz.prog 93 sp93:=fo (nv:=9) (h:=h93) aj Tryz.func93
theorem ok155 : FnOk Tryz.prog 155 sp155:=fo (nv:=4) (h:=h155) aj Tryz.func155
theorem ok92 : FnOk Tryz.prog 92 sp92:=fo (nv:=3) (h:=h92) (aa ok93 (aa ok155 aj)) Tryz.func92
theorem ok52 : FnOk Tryz.prog 52 sp52:=fo (nv:=7) (h:=h52) (aa ok92 aj) Tryz.func52
theorem ok53 : FnOk Tryz.prog 53 sp53:=fo (nv:=2) (h:=h53) aj Tryz.func53
theorem ok27 : FnOk Tryz.prog 27 sp27:=fo (nv:=8) (h:=h27) (aa ok51 (aa ok52 (aa ok53 aj))) Tryz.func27
theorem ok54 : FnOk Tryz.prog 54 sp54:=fo (nv:=2) (h:=h54) (aa ok93 aj) Tryz.func54
set_option maxHeartbeats 4000000 in
set_option maxRecDepth 1000000 in
theorem hB28 : EachB Tryz.prog 28 54 55 86:=by
 intro p n cap fid bound captured w R b h
 have ec : ∀ args w,(callFunc 54 args).run Tryz.prog w = .ok (.enter 54 args) w:=enters_of Tryz.func54 (by kernel_rfl) rfl
 go_enter Tryz.func28,Tryz.ntmps28
 go_wp2_with (go_at_fn 54; refine h.mono ?_; rintro e w' ⟨rfl,hR⟩)
 go_ret
 exact ⟨rfl,hR⟩
set_option maxHeartbeats 4000000 in
set_option maxRecDepth 1000000 in
theorem hC28 : EachC Tryz.prog 55 86 42 8:=by
 intro vs fid bound captured bx w R b hl h1 hent hbx hcell h
 match vs,hl with
 | [v0,v1,v2,v3,v4,v5,v6,v7],_ =>
 have o0 : v0.oneCell' = true:=h1 _ (by simp)
 have o1 : v1.oneCell' = true:=h1 _ (by simp)
 have o2 : v2.oneCell' = true:=h1 _ (by simp)
 have o3 : v3.oneCell' = true:=h1 _ (by simp)
 have o4 : v4.oneCell' = true:=h1 _ (by simp)
 have o5 : v5.oneCell' = true:=h1 _ (by simp)
 have o6 : v6.oneCell' = true:=h1 _ (by simp)
 have o7 : v7.oneCell' = true:=h1 _ (by simp)
 rw [show (⟨bound ++ [.agg ⟨[v0,v1,v2,v3,v4,v5,v6,v7]⟩] ++ captured⟩ : Array Value) = (bound ++ .agg #[v0,v1,v2,v3,v4,v5,v6,v7] :: captured).toArray by simp] at h
 obtain ⟨fn,hf,hf1,hf2⟩:=hent
 have efid : ∀ args w,(callFunc fid args).run Tryz.prog w = .ok (.enter fid args) w:=by
  cases hb : fn.body with
  | none => rw [hb] at hf2; cases hf2
  | some bd => exact enters_of hf hf1 hb
 clear hf hf1 hf2
 have hcw : (w.alloc (.cells #[v0,v1,v2,v3,v4,v5,v6,v7] 42 (0,0))).cell? ⟨bx,0,none⟩ = some (.func (.func fid) ⟨bound⟩ ⟨captured⟩):=by
  rw [World.cell?_alloc_old _ _ _ (Nat.ne_of_lt hbx)]
  simp [World.cell?,hcell]
 go_enter Tryz.func55,Tryz.ntmps55
 go_wp2_with (go_at_fn fid; refine h.mono ?_; rintro e w' ⟨rfl,hR⟩)
 go_ret
 exact ⟨rfl,hR⟩
theorem ok28 : FnOk Tryz.prog 28 sp28:=vS ok54 ⟨Tryz.f28,by kernel_rfl,by kernel_rfl,by kernel_rfl⟩ ⟨Tryz.f55,by kernel_rfl,by kernel_rfl,by kernel_rfl⟩ (by kernel_rfl) hB28 hC28
theorem ok94 : FnOk Tryz.prog 94 sp94:=fo (nv:=2) (h:=h94) aj Tryz.func94
theorem ok95 : FnOk Tryz.prog 95 sp95:=fo (nv:=3) (h:=h95) (aa ok94 aj) Tryz.func95
theorem ok56 : FnOk Tryz.prog 56 sp56:=fo (nv:=5) (h:=h56) (aa ok94 (aa ok95 aj)) Tryz.func56
theorem ok57 : FnOk Tryz.prog 57 sp57:=fo (nv:=4) (h:=h57) aj Tryz.func57
theorem ok29 : FnOk Tryz.prog 29 sp29:=fo (nv:=15) (h:=h29) (aa ok56 (aa ok57 aj)) Tryz.func29
theorem ok58 : FnOk Tryz.prog 58 sp58:=fo (nv:=2) (h:=h58) (aa ok96 aj) Tryz.func58
set_option maxHeartbeats 4000000 in
set_option maxRecDepth 1000000 in
theorem hB30 : EachB Tryz.prog 30 58 59 88:=by
 intro p n cap fid bound captured w R b h
 have ec : ∀ args w,(callFunc 58 args).run Tryz.prog w = .ok (.enter 58 args) w:=enters_of Tryz.func58 (by kernel_rfl) rfl
 go_enter Tryz.func30,Tryz.ntmps30
 go_wp2_with (go_at_fn 58; refine h.mono ?_; rintro e w' ⟨rfl,hR⟩)
 go_ret
 exact ⟨rfl,hR⟩
set_option maxHeartbeats 4000000 in
set_option maxRecDepth 1000000 in
theorem hC30 : EachC Tryz.prog 59 88 46 14:=by
 intro vs fid bound captured bx w R b hl h1 hent hbx hcell h
 match vs,hl with
 | [v0,v1,v2,v3,v4,v5,v6,v7,v8,v9,v10,v11,v12,v13],_ =>
 have o0 : v0.oneCell' = true:=h1 _ (by simp)
 have o1 : v1.oneCell' = true:=h1 _ (by simp)
 have o2 : v2.oneCell' = true:=h1 _ (by simp)
 have o3 : v3.oneCell' = true:=h1 _ (by simp)
 have o4 : v4.oneCell' = true:=h1 _ (by simp)
 have o5 : v5.oneCell' = true:=h1 _ (by simp)
 have o6 : v6.oneCell' = true:=h1 _ (by simp)
 have o7 : v7.oneCell' = true:=h1 _ (by simp)
 have o8 : v8.oneCell' = true:=h1 _ (by simp)
 have o9 : v9.oneCell' = true:=h1 _ (by simp)
 have o10 : v10.oneCell' = true:=h1 _ (by simp)
 have o11 : v11.oneCell' = true:=h1 _ (by simp)
 have o12 : v12.oneCell' = true:=h1 _ (by simp)
 have o13 : v13.oneCell' = true:=h1 _ (by simp)
 rw [show (⟨bound ++ [.agg ⟨[v0,v1,v2,v3,v4,v5,v6,v7,v8,v9,v10,v11,v12,v13]⟩] ++ captured⟩ : Array Value) = (bound ++ .agg #[v0,v1,v2,v3,v4,v5,v6,v7,v8,v9,v10,v11,v12,v13] :: captured).toArray by simp] at h
 obtain ⟨fn,hf,hf1,hf2⟩:=hent
 have efid : ∀ args w,(callFunc fid args).run Tryz.prog w = .ok (.enter fid args) w:=by
  cases hb : fn.body with
  | none => rw [hb] at hf2; cases hf2
  | some bd => exact enters_of hf hf1 hb
 clear hf hf1 hf2
 have hcw : (w.alloc (.cells #[v0,v1,v2,v3,v4,v5,v6,v7,v8,v9,v10,v11,v12,v13] 46 (0,0))).cell? ⟨bx,0,none⟩ = some (.func (.func fid) ⟨bound⟩ ⟨captured⟩):=by
  rw [World.cell?_alloc_old _ _ _ (Nat.ne_of_lt hbx)]
  simp [World.cell?,hcell]
 go_enter Tryz.func59,Tryz.ntmps59
 go_wp2_with (go_at_fn fid; refine h.mono ?_; rintro e w' ⟨rfl,hR⟩)
 go_ret
 exact ⟨rfl,hR⟩
theorem ok30 : FnOk Tryz.prog 30 sp30:=vS ok58 ⟨Tryz.f30,by kernel_rfl,by kernel_rfl,by kernel_rfl⟩ ⟨Tryz.f59,by kernel_rfl,by kernel_rfl,by kernel_rfl⟩ (by kernel_rfl) hB30 hC30
theorem ok60 : FnOk Tryz.prog 60 sp60:=fo (nv:=3) (h:=h60) (aa ok88 (aa ok89 aj)) Tryz.func60
theorem ok31 : FnOk Tryz.prog 31 sp31:=fo (nv:=38) (h:=h31) (aa ok60 aj) Tryz.func31
theorem ok97 : FnOk Tryz.prog 97 sp97:=fo (nv:=9) (h:=h97) aj Tryz.func97
theorem ok61 : FnOk Tryz.prog 61 sp61:=fo (nv:=2) (h:=h61) (aa ok97 aj) Tryz.func61
set_option maxHeartbeats 4000000 in
set_option maxRecDepth 1000000 in
theorem hB32 : EachB Tryz.prog 32 61 62 92:=by
 intro p n cap fid bound captured w R b h
 have ec : ∀ args w,(callFunc 61 args).run Tryz.prog w = .ok (.enter 61 args) w:=enters_of Tryz.func61 (by kernel_rfl) rfl
 go_enter Tryz.func32,Tryz.ntmps32
 go_wp2_with (go_at_fn 61; refine h.mono ?_; rintro e w' ⟨rfl,hR⟩)
 go_ret
 exact ⟨rfl,hR⟩
set_option maxHeartbeats 4000000 in
set_option maxRecDepth 1000000 in
theorem hC32 : EachC Tryz.prog 62 92 91 3:=by
 intro vs fid bound captured bx w R b hl h1 hent hbx hcell h
 match vs,hl with
 | [v0,v1,v2],_ =>
 have o0 : v0.oneCell' = true:=h1 _ (by simp)
 have o1 : v1.oneCell' = true:=h1 _ (by simp)
 have o2 : v2.oneCell' = true:=h1 _ (by simp)
 rw [show (⟨bound ++ [.agg ⟨[v0,v1,v2]⟩] ++ captured⟩ : Array Value) = (bound ++ .agg #[v0,v1,v2] :: captured).toArray by simp] at h
 obtain ⟨fn,hf,hf1,hf2⟩:=hent
 have efid : ∀ args w,(callFunc fid args).run Tryz.prog w = .ok (.enter fid args) w:=by
  cases hb : fn.body with
  | none => rw [hb] at hf2; cases hf2
  | some bd => exact enters_of hf hf1 hb
 clear hf hf1 hf2
 have hcw : (w.alloc (.cells #[v0,v1,v2] 91 (0,0))).cell? ⟨bx,0,none⟩ = some (.func (.func fid) ⟨bound⟩ ⟨captured⟩):=by
  rw [World.cell?_alloc_old _ _ _ (Nat.ne_of_lt hbx)]
  simp [World.cell?,hcell]
 go_enter Tryz.func62,Tryz.ntmps62
 go_wp2_with (go_at_fn fid; refine h.mono ?_; rintro e w' ⟨rfl,hR⟩)
 go_ret
 exact ⟨rfl,hR⟩
theorem ok32 : FnOk Tryz.prog 32 sp32:=vS ok61 ⟨Tryz.f32,by kernel_rfl,by kernel_rfl,by kernel_rfl⟩ ⟨Tryz.f62,by kernel_rfl,by kernel_rfl,by kernel_rfl⟩ (by kernel_rfl) hB32 hC32
theorem ok33 : FnOk Tryz.prog 33 sp33:=⟨⟨Tryz.f33,by kernel_rfl,by kernel_rfl,by kernel_rfl⟩,fun a r hr => nomatch (show (none : Option _) = some r from hr)⟩
theorem ok15 : FnOk Tryz.prog 15 sp15:=fo (nv:=4) (h:=h15) (aa ok23 (aa ok24 (aa ok25 (aa ok26 (aa ok27 (aa ok28 (aa ok29 (aa ok30 (aa ok31 (aa ok32 (aa ok33 aj))))))))))) Tryz.func15
theorem IA : FnOk Tryz.prog 98 H1:=fnOk (nv:=1) (h:=h98) tok mix aj Tryz.func98 (by kernel_rfl) (by kernel_rfl) (by kernel_rfl) (by kernel_rfl) (by kernel_rfl)
set_option maxHeartbeats 2000000 in
theorem I_ (p : Option Addr) (cap : Nat) (w : World) : Calls Tryz.prog 98 #[.slice p 0 cap] w fun e w' => ∃ p',e = .returned (.slice p' 0 0) ∧ RowKit.Below w.heap.size w w' ∧ w.drawn ≤ w'.drawn:=by
 have q:=nc (P:=Tryz.prog) (t:=24) CS.und
 cases p with
 | none =>
  go_enter Tryz.func98,Tryz.ntmps98
  go_wp2
  go_ret
  exact ⟨_,rfl,.refl _ _,Nat.le_refl _⟩
 | some p =>
  go_enter Tryz.func98,Tryz.ntmps98
  go_wp2
  go_ret
  exact ⟨_,rfl,(RowKit.Below.refl _ w).alloc (Nat.le_refl _) _,Nat.le_refl _⟩
theorem ok98 : FnOk Tryz.prog 98 sp98:=fb IA I_
theorem IB : FnOk Tryz.prog 99 IJ:=fnOk (nv:=1) (h:=h99) tok mix aj Tryz.func99 (by kernel_rfl) (by kernel_rfl) (by kernel_rfl) (by kernel_rfl) (by kernel_rfl)
set_option maxHeartbeats 2000000 in
theorem I9 (p : Option Addr) (cap : Nat) (w : World) : Calls Tryz.prog 99 #[.slice p 0 cap] w fun e w' => ∃ p',e = .returned (.slice p' 0 0) ∧ RowKit.Below w.heap.size w w' ∧ w.drawn ≤ w'.drawn:=by
 have q:=nc (P:=Tryz.prog) (t:=25) C8.und
 cases p with
 | none =>
  go_enter Tryz.func99,Tryz.ntmps99
  go_wp2
  go_ret
  exact ⟨_,rfl,.refl _ _,Nat.le_refl _⟩
 | some p =>
  go_enter Tryz.func99,Tryz.ntmps99
  go_wp2
  go_ret
  exact ⟨_,rfl,(RowKit.Below.refl _ w).alloc (Nat.le_refl _) _,Nat.le_refl _⟩
theorem ok99 : FnOk Tryz.prog 99 sp99:=fb IB I9
theorem F8 : FnOk Tryz.prog 101 Hl:=fnOk (nv:=1) (h:=h101) tok mix aj Tryz.func101 (by kernel_rfl) (by kernel_rfl) (by kernel_rfl) (by kernel_rfl) (by kernel_rfl)
set_option maxHeartbeats 2000000 in
theorem Ip (p : Option Addr) (cap : Nat) (w : World) : Calls Tryz.prog 101 #[.slice p 0 cap] w fun e w' => ∃ p',e = .returned (.slice p' 0 0) ∧ RowKit.Below w.heap.size w w' ∧ w.drawn ≤ w'.drawn:=by
 have q:=nc (P:=Tryz.prog) (t:=28) CR.und
 cases p with
 | none =>
  go_enter Tryz.func101,Tryz.ntmps101
  go_wp2
  go_ret
  exact ⟨_,rfl,.refl _ _,Nat.le_refl _⟩
 | some p =>
  go_enter Tryz.func101,Tryz.ntmps101
  go_wp2
  go_ret
  exact ⟨_,rfl,(RowKit.Below.refl _ w).alloc (Nat.le_refl _) _,Nat.le_refl _⟩
theorem ok101 : FnOk Tryz.prog 101 sp101:=fb F8 Ip
theorem GD : FnOk Tryz.prog 102 Hf:=fnOk (nv:=1) (h:=h102) tok mix aj Tryz.func102 (by kernel_rfl) (by kernel_rfl) (by kernel_rfl) (by kernel_rfl) (by kernel_rfl)
set_option maxHeartbeats 2000000 in
theorem It (p : Option Addr) (cap : Nat) (w : World) : Calls Tryz.prog 102 #[.slice p 0 cap] w fun e w' => ∃ p',e = .returned (.slice p' 0 0) ∧ RowKit.Below w.heap.size w w' ∧ w.drawn ≤ w'.drawn:=by
 have q:=nc (P:=Tryz.prog) (t:=30) CU.und
 cases p with
 | none =>
  go_enter Tryz.func102,Tryz.ntmps102
  go_wp2
  go_ret
  exact ⟨_,rfl,.refl _ _,Nat.le_refl _⟩
 | some p =>
  go_enter Tryz.func102,Tryz.ntmps102
  go_wp2
  go_ret
  exact ⟨_,rfl,(RowKit.Below.refl _ w).alloc (Nat.le_refl _) _,Nat.le_refl _⟩
theorem ok102 : FnOk Tryz.prog 102 sp102:=fb GD It
theorem GO : FnOk Tryz.prog 103 GN:=fnOk (nv:=1) (h:=h103) tok mix aj Tryz.func103 (by kernel_rfl) (by kernel_rfl) (by kernel_rfl) (by kernel_rfl) (by kernel_rfl)
set_option maxHeartbeats 2000000 in
theorem HM (p : Option Addr) (cap : Nat) (w : World) : Calls Tryz.prog 103 #[.slice p 0 cap] w fun e w' => ∃ p',e = .returned (.slice p' 0 0) ∧ RowKit.Below w.heap.size w w' ∧ w.drawn ≤ w'.drawn:=by
 have q:=nc (P:=Tryz.prog) (t:=31) Dj.und
 cases p with
 | none =>
  go_enter Tryz.func103,Tryz.ntmps103
  go_wp2
  go_ret
  exact ⟨_,rfl,.refl _ _,Nat.le_refl _⟩
 | some p =>
  go_enter Tryz.func103,Tryz.ntmps103
  go_wp2
  go_ret
  exact ⟨_,rfl,(RowKit.Below.refl _ w).alloc (Nat.le_refl _) _,Nat.le_refl _⟩
theorem ok103 : FnOk Tryz.prog 103 sp103:=fb GO HM
theorem G7 : FnOk Tryz.prog 104 Gn:=fnOk (nv:=1) (h:=h104) tok mix aj Tryz.func104 (by kernel_rfl) (by kernel_rfl) (by kernel_rfl) (by kernel_rfl) (by kernel_rfl)
set_option maxHeartbeats 2000000 in
theorem IE (p : Option Addr) (cap : Nat) (w : World) : Calls Tryz.prog 104 #[.slice p 0 cap] w fun e w' => ∃ p',e = .returned (.slice p' 0 0) ∧ RowKit.Below w.heap.size w w' ∧ w.drawn ≤ w'.drawn:=by
 have q:=nc (P:=Tryz.prog) (t:=32) Dp.und
 cases p with
 | none =>
  go_enter Tryz.func104,Tryz.ntmps104
  go_wp2
  go_ret
  exact ⟨_,rfl,.refl _ _,Nat.le_refl _⟩
 | some p =>
  go_enter Tryz.func104,Tryz.ntmps104
  go_wp2
  go_ret
  exact ⟨_,rfl,(RowKit.Below.refl _ w).alloc (Nat.le_refl _) _,Nat.le_refl _⟩
theorem ok104 : FnOk Tryz.prog 104 sp104:=fb G7 IE
theorem G5 : FnOk Tryz.prog 105 GM:=fnOk (nv:=1) (h:=h105) tok mix aj Tryz.func105 (by kernel_rfl) (by kernel_rfl) (by kernel_rfl) (by kernel_rfl) (by kernel_rfl)
set_option maxHeartbeats 2000000 in
theorem Hz (p : Option Addr) (cap : Nat) (w : World) : Calls Tryz.prog 105 #[.slice p 0 cap] w fun e w' => ∃ p',e = .returned (.slice p' 0 0) ∧ RowKit.Below w.heap.size w w' ∧ w.drawn ≤ w'.drawn:=by
 have q:=nc (P:=Tryz.prog) (t:=29) Df.und
 cases p with
 | none =>
  go_enter Tryz.func105,Tryz.ntmps105
  go_wp2
  go_ret
  exact ⟨_,rfl,.refl _ _,Nat.le_refl _⟩
 | some p =>
  go_enter Tryz.func105,Tryz.ntmps105
  go_wp2
  go_ret
  exact ⟨_,rfl,(RowKit.Below.refl _ w).alloc (Nat.le_refl _) _,Nat.le_refl _⟩
theorem ok105 : FnOk Tryz.prog 105 sp105:=fb G5 Hz
theorem ok63 : FnOk Tryz.prog 63 sp63:=fo (nv:=62) (h:=h63) (aa ok91 (aa ok98 (aa ok99 (aa ok100 (aa ok101 (aa ok102 (aa ok103 (aa ok104 (aa ok105 aj))))))))) Tryz.func63
theorem A4 : FnOk Tryz.prog 63 Hj:=fo (nv:=62) (h:=Ia) (aa ok91 (aa ok98 (aa ok99 (aa ok100 (aa ok101 (aa ok102 (aa ok103 (aa ok104 (aa ok105 aj))))))))) Tryz.func63
theorem ok65 : FnOk Tryz.prog 65 sp65:=fo (nv:=3) (h:=h65) aj Tryz.func65
theorem ok67 : FnOk Tryz.prog 67 sp67:=⟨⟨Tryz.f67,by kernel_rfl,by kernel_rfl,by kernel_rfl⟩,fun a r hr => nomatch (show (none : Option _) = some r from hr)⟩
set_option maxHeartbeats 4000000 in
set_option maxRecDepth 1000000 in
theorem dn68 : sI Tryz.prog 68:=by
 constructor
 ·intro b n cap i w hn hj
  go_enter Tryz.func68,Tryz.ntmps68
  go_wp2
  all_goals (go_ret; exact ⟨rfl,rfl⟩)
 ·intro p w
  cases p
  ·go_enter Tryz.func68,Tryz.ntmps68
   go_wp2
   all_goals (go_ret; exact ⟨rfl,rfl⟩)
  ·go_enter Tryz.func68,Tryz.ntmps68
   go_wp2
   all_goals (go_ret; exact ⟨rfl,rfl⟩)
set_option maxHeartbeats 4000000 in
set_option maxRecDepth 1000000 in
theorem dw68 : sk Tryz.prog 68 30 68 9:=by
 intro b n cap i j w hn hm hlt hj i0 hi0 hz1 A hA news s1 hsrc s2 s3 W1 W2 hW hcl
 have hic : i ≤ cap:=by omega
 have hjc : j ≤ cap:=by omega
 have tS : Tryz.prog.underlying 30 = some (.slice 68):=by kernel_rfl
 have mixed : Tryz.prog.follows .mixedOrders = true:=Checked.mixed Tryz.checked
 go_enter Tryz.func68,Tryz.ntmps68
 go_wp2_with fail
 go_region_law_o (refine step_append_room rfl (.tmp 22) (.tmp 25) 30 rfl 68 i0 9 tS hi0 hz1 b 0 i cap (by simp [Act.eval,Act.put]) A (n - j) (cap - j) news (by simp [Act.eval,Act.put]) s1.out hsrc.out s2.out (by omega) s3.out ?_; rw [← hW.out])
 go_wp2
 go_ret
 exact ⟨rfl,rfl⟩
theorem ok68 : FnOk Tryz.prog 68 sp68:=xP tok (te:=row68) (by kernel_rfl) (by kernel_rfl) (sz:=9) (by kernel_rfl) (Nat.blt_eq.mp (by kernel_rfl)) (by kernel_rfl : Tryz.prog.underlying 30 = some (.slice 68)) ⟨Tryz.f68,by kernel_rfl,by kernel_rfl,by kernel_rfl⟩ dn68 dw68
theorem ok69 : FnOk Tryz.prog 69 sp69:=fo (nv:=9) (h:=h69) aj Tryz.func69
set_option maxHeartbeats 4000000 in
set_option maxRecDepth 1000000 in
theorem dn70 : sI Tryz.prog 70:=by
 constructor
 ·intro b n cap i w hn hj
  go_enter Tryz.func70,Tryz.ntmps70
  go_wp2
  all_goals (go_ret; exact ⟨rfl,rfl⟩)
 ·intro p w
  cases p
  ·go_enter Tryz.func70,Tryz.ntmps70
   go_wp2
   all_goals (go_ret; exact ⟨rfl,rfl⟩)
  ·go_enter Tryz.func70,Tryz.ntmps70
   go_wp2
   all_goals (go_ret; exact ⟨rfl,rfl⟩)
set_option maxHeartbeats 4000000 in
set_option maxRecDepth 1000000 in
theorem dw70 : sk Tryz.prog 70 44 3 1:=by
 intro b n cap i j w hn hm hlt hj i0 hi0 hz1 A hA news s1 hsrc s2 s3 W1 W2 hW hcl
 have hic : i ≤ cap:=by omega
 have hjc : j ≤ cap:=by omega
 have hA2:=hA
 rw [Nat.mul_one] at hA2
 have hcl2:=hcl
 simp only [Nat.mul_one] at hcl2
 have tS : Tryz.prog.underlying 44 = some (.slice 3):=by kernel_rfl
 have mixed : Tryz.prog.follows .mixedOrders = true:=Checked.mixed Tryz.checked
 go_enter Tryz.func70,Tryz.ntmps70
 go_wp2_with fail
 go_region_law_o (refine step_append_room rfl (.tmp 22) (.tmp 25) 44 rfl 3 i0 1 tS hi0 hz1 b 0 i cap (by simp [Act.eval,Act.put]) A (n - j) (cap - j) news (by simp [Act.eval,Act.put]) s1.out hsrc.out s2.out (by omega) s3.out ?_; rw [← hW.out])
 go_wp2
 go_ret
 exact ⟨rfl,rfl⟩
theorem ok70 : FnOk Tryz.prog 70 sp70:=xP tok (te:=row3) (by kernel_rfl) (by kernel_rfl) (sz:=1) (by kernel_rfl) (Nat.blt_eq.mp (by kernel_rfl)) (by kernel_rfl : Tryz.prog.underlying 44 = some (.slice 3)) ⟨Tryz.f70,by kernel_rfl,by kernel_rfl,by kernel_rfl⟩ dn70 dw70
theorem ok34 : FnOk Tryz.prog 34 sp34:=fo (nv:=17) (h:=h34) (aa ok63 (aa ok64 (aa ok65 (aa ok66 (aa ok67 (aa ok68 (aa ok69 (aa ok70 aj)))))))) Tryz.func34
theorem ok71 : FnOk Tryz.prog 71 sp71:=⟨⟨Tryz.f71,by kernel_rfl,by kernel_rfl,by kernel_rfl⟩,fun a r hr => nomatch (show (none : Option _) = some r from hr)⟩
theorem ok82 : FnOk Tryz.prog 82 sp82:=⟨⟨Tryz.f82,by kernel_rfl,by kernel_rfl,by kernel_rfl⟩,fun a r hr => nomatch (show (none : Option _) = some r from hr)⟩
theorem ok72 : FnOk Tryz.prog 72 sp72:=fo (nv:=7) (h:=h72) (aa ok82 aj) Tryz.func72
theorem ok165 : FnOk Tryz.prog 165 sp165:=fo (nv:=4) (h:=h165) aj Tryz.func165
theorem ok111 : FnOk Tryz.prog 111 sp111:=fo (nv:=62) (h:=h111) (aa ok98 (aa ok99 (aa ok100 (aa ok101 (aa ok102 (aa ok103 (aa ok104 (aa ok105 (aa ok153 (aa ok165 aj)))))))))) Tryz.func111
theorem ok112 : FnOk Tryz.prog 112 sp112:=fo (nv:=2) (h:=h112) aj Tryz.func112
theorem Io : FnOk Tryz.prog 113 ID:=fnOk (nv:=10) (h:=h113) tok mix aj Tryz.func113 (by kernel_rfl) (by kernel_rfl) (by kernel_rfl) (by kernel_rfl) (by kernel_rfl)
theorem ov113 (w : World) (a b : Value) (h : (Extern.SlicesOverlaps.overlaps #[28,28] #[4] #[a,b]).run Tryz.prog w = .ok (.bool false) w) : (callFunc 166 #[a,b]).run Tryz.prog w = .ok (.value (.bool false)) w:=by
 rw [run_callFunc_extern Tryz.func166 (by kernel_rfl) (by kernel_rfl) (by kernel_rfl) (e:=Extern.SlicesOverlaps.overlaps #[28,28] #[4]) (by kernel_rfl),h]
 rfl
set_option maxHeartbeats 4000000 in
set_option maxRecDepth 1000000 in
theorem iw113 : mC Tryz.prog 113 28 8 166:=by
 intro b n c i vb vc w W1 W2 hi hroom hc63 hov hcp1 hcp2
 have tS : Tryz.prog.underlying 28 = some (.slice 42):=by kernel_rfl
 have mixed : Tryz.prog.follows .mixedOrders = true:=Checked.mixed Tryz.checked
 have hz2 : ¬ ((i : Int) = (n : Int)):=by omega
 have hw1 : IntKind.i64.wrap ((i : Int) + 1) = (i : Int) + 1:=by rw [IntKind.wrap_i64]; omega
 have hw2 : IntKind.i64.wrap ((n : Int) + 1) = (n : Int) + 1:=by rw [IntKind.wrap_i64]; omega
 have hb1 : (0 : Int) ≤ (i : Int) + 1:=by omega
 have hb0 : (0 : Int) ≤ (n : Int) + 1:=by omega
 have hin : i ≤ n:=by omega
 have htn : ((i : Int) + 1).toNat = i + 1:=by omega
 have htm : ((n : Int) + 1).toNat = n + 1:=by omega
 have hb2 : ¬ (c = i + 1):=by omega
 have hb3 : (i : Int) ≤ (n : Int) + 1:=by omega
 have hb4 : ¬ (c = i):=by omega
 go_enter Tryz.func113,Tryz.ntmps113
 go_wp2_with (simp only [hov])
 go_region_law_o (refine bS rfl _ _ 28 28 rfl _ _ (by simp [Act.eval,Act.put]) (by simp [Act.eval,Act.put]) (hcp1 _ _ _) ?_)
 go_wp2_with (at_builtin; refine bg _ rfl _ _ 28 28 rfl _ _ rfl rfl (hcp2 _ _) ?_)
 go_ret
 exact ⟨rfl,rfl⟩
set_option maxHeartbeats 4000000 in
set_option maxRecDepth 1000000 in
theorem ig113 : pN Tryz.prog 113 28 3 8:=by
 intro b n i vb vc nb G w W0 W1 W2 hi hn hG hG63 hap hcpA hcpB
 have tS : Tryz.prog.underlying 28 = some (.slice 42):=by kernel_rfl
 have mixed : Tryz.prog.follows .mixedOrders = true:=Checked.mixed Tryz.checked
 have hz2 : ¬ ((i : Int) = (n : Int)):=by omega
 have hz3 : (n : Int) < (n : Int) + 1:=by omega
 have hw1 : IntKind.i64.wrap ((i : Int) + 1) = (i : Int) + 1:=by rw [IntKind.wrap_i64]; omega
 have hw2 : IntKind.i64.wrap ((n : Int) + 1) = (n : Int) + 1:=by rw [IntKind.wrap_i64]; omega
 have hw3 : IntKind.i64.wrap ((n : Int) + 1 - (i : Int)) = (n : Int) + 1 - (i : Int):=by rw [IntKind.wrap_i64]; omega
 have hb1 : (0 : Int) ≤ (i : Int) + 1:=by omega
 have hin : i ≤ n:=by omega
 have htn : ((i : Int) + 1).toNat = i + 1:=by omega
 have hb3 : (i : Int) ≤ (n : Int):=by omega
 have hGi : ¬ (G = i):=by omega
 have hGim : ¬ (G = i + 1):=by omega
 have hci : ¬ (n = i):=by omega
 go_enter Tryz.func113,Tryz.ntmps113
 go_wp2_with (first
  | (at_builtin; refine Lib.wpList_append_run _ rfl _ _ _ _ rfl _ _ rfl rfl _ _ (hap _) ?_)
  | (at_builtin; refine bg _ rfl _ _ 28 28 rfl _ _ rfl rfl (hcpA _ _) ?_))
 go_region_law_o (refine bS rfl _ _ 28 28 rfl (.slice (some ⟨nb,(i + 1) * 8,none⟩) (n - i) (G - (i + 1))) (.slice (some ⟨b,i * 8,none⟩) (n - i) (n - i)) (by simp [Act.eval,Act.put]) (by simp [Act.eval,Act.put]) (hcpB _ _ _) ?_)
 go_wp2
 go_ret
 exact ⟨rfl,rfl⟩
theorem ok113 : FnOk Tryz.prog 113 sp113:=uQ tok (te:=row42) (tb:=4) (by kernel_rfl) (by kernel_rfl) (sz:=8) (by kernel_rfl) (Nat.blt_eq.mp (by kernel_rfl)) (Nat.ble_eq.mp (by kernel_rfl)) (by kernel_rfl : Tryz.prog.underlying 28 = some (.slice 42)) (by kernel_rfl : Tryz.prog.underlying 3 = some (.int .i64)) ⟨Tryz.f113,by kernel_rfl,by kernel_rfl,by kernel_rfl⟩ ov113 Io iw113 ig113
theorem ok73 : FnOk Tryz.prog 73 sp73:=fo (nv:=8) (h:=h73) (aa ok92 (aa ok111 (aa ok112 (aa ok113 aj)))) Tryz.func73
theorem ok114 : FnOk Tryz.prog 114 sp114:=fo (nv:=15) (h:=h114) aj Tryz.func114
theorem ok115 : FnOk Tryz.prog 115 sp115:=fo (nv:=9) (h:=h115) (aa ok92 (aa ok111 aj)) Tryz.func115
theorem ok168 : FnOk Tryz.prog 168 sp168:=fo (nv:=9) (h:=h168) aj Tryz.func168
theorem ok116 : FnOk Tryz.prog 116 sp116:=fo (nv:=8) (h:=h116) (aa ok168 aj) Tryz.func116
theorem Gl : FnOk Tryz.prog 117 F9:=fnOk (nv:=1) (h:=h117) tok mix aj Tryz.func117 (by kernel_rfl) (by kernel_rfl) (by kernel_rfl) (by kernel_rfl) (by kernel_rfl)
set_option maxHeartbeats 2000000 in
theorem HI (p : Option Addr) (cap : Nat) (w : World) : Calls Tryz.prog 117 #[.slice p 0 cap] w fun e w' => ∃ p',e = .returned (.slice p' 0 0) ∧ RowKit.Below w.heap.size w w' ∧ w.drawn ≤ w'.drawn:=by
 have q:=nc (P:=Tryz.prog) (t:=44) Di.und
 cases p with
 | none =>
  go_enter Tryz.func117,Tryz.ntmps117
  go_wp2
  go_ret
  exact ⟨_,rfl,.refl _ _,Nat.le_refl _⟩
 | some p =>
  go_enter Tryz.func117,Tryz.ntmps117
  go_wp2
  go_ret
  exact ⟨_,rfl,(RowKit.Below.refl _ w).alloc (Nat.le_refl _) _,Nat.le_refl _⟩
theorem ok117 : FnOk Tryz.prog 117 sp117:=fb Gl HI
theorem ok118 : FnOk Tryz.prog 118 sp118:=⟨⟨Tryz.f118,by kernel_rfl,by kernel_rfl,by kernel_rfl⟩,fun a r hr => nomatch (show (none : Option _) = some r from hr)⟩
theorem ok231 : FnOk Tryz.prog 231 sp231:=fo (nv:=12) (h:=h231) (aa ok56 aj) Tryz.func231
theorem ok200 : FnOk Tryz.prog 200 sp200:=fo (nv:=8) (h:=h200) (aa ok52 (aa ok231 aj)) Tryz.func200
theorem ok232 : FnOk Tryz.prog 232 sp232:=fo (nv:=3) (h:=h232) aj Tryz.func232
theorem ok233 : FnOk Tryz.prog 233 sp233:=fo (nv:=12) (h:=h233) aj Tryz.func233
theorem ok275 : FnOk Tryz.prog 275 sp275:=fo (nv:=4) (h:=h275) aj Tryz.func275
theorem ok234 : FnOk Tryz.prog 234 sp234:=fo (nv:=8) (h:=h234) (aa ok275 aj) Tryz.func234
theorem ok235 : FnOk Tryz.prog 235 sp235:=fo (nv:=4) (h:=h235) (aa ok57 (aa ok275 aj)) Tryz.func235
theorem ok329 : FnOk Tryz.prog 329 sp329:=fo (nv:=13) (h:=h329) aj Tryz.func329
theorem ok353 : FnOk Tryz.prog 353 sp353:=⟨⟨Tryz.f353,by kernel_rfl,by kernel_rfl,by kernel_rfl⟩,fun a r hr => nomatch (show (none : Option _) = some r from hr)⟩
theorem ok330 : FnOk Tryz.prog 330 sp330:=fo (nv:=4) (h:=h330) (aa ok353 aj) Tryz.func330
theorem ok288 : FnOk Tryz.prog 288 sp288:=fo (nv:=16) (h:=h288) (aa ok56 (aa ok329 (aa ok330 aj))) Tryz.func288
theorem ok247 : FnOk Tryz.prog 247 sp247:=fo (nv:=7) (h:=h247) (aa ok288 aj) Tryz.func247
theorem ok221 : FnOk Tryz.prog 221 sp221:=fo (nv:=9) (h:=h221) (aa ok56 aj) Tryz.func221
theorem ok188 : FnOk Tryz.prog 188 sp188:=fo (nv:=12) (h:=h188) (aa ok221 aj) Tryz.func188
theorem ok363 : FnOk Tryz.prog 363 sp363:=fo (nv:=14) (h:=h363) aj Tryz.func363
theorem ok377 : FnOk Tryz.prog 377 sp377:=⟨⟨Tryz.f377,by kernel_rfl,by kernel_rfl,by kernel_rfl⟩,fun a r hr => nomatch (show (none : Option _) = some r from hr)⟩
theorem ok364 : FnOk Tryz.prog 364 sp364:=fo (nv:=19) (h:=h364) (aa ok377 aj) Tryz.func364
theorem ok344 : FnOk Tryz.prog 344 sp344:=fo (nv:=8) (h:=h344) (aa ok363 (aa ok364 aj)) Tryz.func344
theorem ok315 : FnOk Tryz.prog 315 sp315:=fo (nv:=5) (h:=h315) (aa ok94 (aa ok95 (aa ok344 aj))) Tryz.func315
theorem ok316 : FnOk Tryz.prog 316 sp316:=fo (nv:=4) (h:=h316) (aa ok85 aj) Tryz.func316
theorem ok313 : FnOk Tryz.prog 313 sp313:=fo (nv:=15) (h:=h313) (aa ok89 (aa ok188 (aa ok315 (aa ok316 aj)))) Tryz.func313
theorem ok314 : FnOk Tryz.prog 314 sp314:=⟨⟨Tryz.f314,by kernel_rfl,by kernel_rfl,by kernel_rfl⟩,fun a r hr => nomatch (show (none : Option _) = some r from hr)⟩
theorem ok276 : FnOk Tryz.prog 276 sp276:=fo (nv:=7) (h:=h276) (aa ok313 (aa ok314 aj)) Tryz.func276
theorem ok236 : FnOk Tryz.prog 236 sp236:=fo (nv:=8) (h:=h236) (aa ok56 (aa ok57 (aa ok247 (aa ok276 aj)))) Tryz.func236
theorem ok277 : FnOk Tryz.prog 277 sp277:=fo (nv:=9) (h:=h277) (aa ok288 aj) Tryz.func277
theorem ok278 : FnOk Tryz.prog 278 sp278:=fo (nv:=10) (h:=h278) (aa ok89 (aa ok276 (aa ok315 aj))) Tryz.func278
theorem ok237 : FnOk Tryz.prog 237 sp237:=fo (nv:=4) (h:=h237) (aa ok57 (aa ok277 (aa ok278 aj))) Tryz.func237
theorem ok238 : FnOk Tryz.prog 238 sp238:=fo (nv:=4) (h:=h238) (aa ok57 aj) Tryz.func238
theorem ok345 : FnOk Tryz.prog 345 sp345:=⟨⟨Tryz.f345,by kernel_rfl,by kernel_rfl,by kernel_rfl⟩,fun a r hr => nomatch (show (none : Option _) = some r from hr)⟩
theorem ok317 : FnOk Tryz.prog 317 sp317:=fo (nv:=7) (h:=h317) (aa ok313 (aa ok345 aj)) Tryz.func317
theorem ok318 : FnOk Tryz.prog 318 sp318:=fo (nv:=12) (h:=h318) (aa ok221 aj) Tryz.func318
theorem ok279 : FnOk Tryz.prog 279 sp279:=fo (nv:=20) (h:=h279) (aa ok56 (aa ok57 (aa ok188 (aa ok247 (aa ok316 (aa ok317 (aa ok318 aj))))))) Tryz.func279
theorem ok239 : FnOk Tryz.prog 239 sp239:=fo (nv:=6) (h:=h239) (aa ok279 aj) Tryz.func239
set_option maxHeartbeats 4000000 in
set_option maxRecDepth 1000000 in
theorem dn240 : sI Tryz.prog 240:=by
 constructor
 ·intro b n cap i w hn hj
  go_enter Tryz.func240,Tryz.ntmps240
  go_wp2
  all_goals (go_ret; exact ⟨rfl,rfl⟩)
 ·intro p w
  cases p
  ·go_enter Tryz.func240,Tryz.ntmps240
   go_wp2
   all_goals (go_ret; exact ⟨rfl,rfl⟩)
  ·go_enter Tryz.func240,Tryz.ntmps240
   go_wp2
   all_goals (go_ret; exact ⟨rfl,rfl⟩)
set_option maxHeartbeats 4000000 in
set_option maxRecDepth 1000000 in
theorem dw240 : sk Tryz.prog 240 31 91 3:=by
 intro b n cap i j w hn hm hlt hj i0 hi0 hz1 A hA news s1 hsrc s2 s3 W1 W2 hW hcl
 have hic : i ≤ cap:=by omega
 have hjc : j ≤ cap:=by omega
 have tS : Tryz.prog.underlying 31 = some (.slice 91):=by kernel_rfl
 have mixed : Tryz.prog.follows .mixedOrders = true:=Checked.mixed Tryz.checked
 go_enter Tryz.func240,Tryz.ntmps240
 go_wp2_with fail
 go_region_law_o (refine step_append_room rfl (.tmp 22) (.tmp 25) 31 rfl 91 i0 3 tS hi0 hz1 b 0 i cap (by simp [Act.eval,Act.put]) A (n - j) (cap - j) news (by simp [Act.eval,Act.put]) s1.out hsrc.out s2.out (by omega) s3.out ?_; rw [← hW.out])
 go_wp2
 go_ret
 exact ⟨rfl,rfl⟩
theorem ok240 : FnOk Tryz.prog 240 sp240:=xP tok (te:=row91) (by kernel_rfl) (by kernel_rfl) (sz:=3) (by kernel_rfl) (Nat.blt_eq.mp (by kernel_rfl)) (by kernel_rfl : Tryz.prog.underlying 31 = some (.slice 91)) ⟨Tryz.f240,by kernel_rfl,by kernel_rfl,by kernel_rfl⟩ dn240 dw240
theorem IG : FnOk Tryz.prog 170 HB:=fnOk (nv:=10) (h:=h170) tok mix aj Tryz.func170 (by kernel_rfl) (by kernel_rfl) (by kernel_rfl) (by kernel_rfl) (by kernel_rfl)
theorem ov170 (w : World) (a b : Value) (h : (Extern.SlicesOverlaps.overlaps #[29,29] #[4] #[a,b]).run Tryz.prog w = .ok (.bool false) w) : (callFunc 203 #[a,b]).run Tryz.prog w = .ok (.value (.bool false)) w:=by
 rw [run_callFunc_extern Tryz.func203 (by kernel_rfl) (by kernel_rfl) (by kernel_rfl) (e:=Extern.SlicesOverlaps.overlaps #[29,29] #[4]) (by kernel_rfl),h]
 rfl
set_option maxHeartbeats 4000000 in
set_option maxRecDepth 1000000 in
theorem iw170 : mC Tryz.prog 170 29 14 203:=by
 intro b n c i vb vc w W1 W2 hi hroom hc63 hov hcp1 hcp2
 have tS : Tryz.prog.underlying 29 = some (.slice 46):=by kernel_rfl
 have mixed : Tryz.prog.follows .mixedOrders = true:=Checked.mixed Tryz.checked
 have hz2 : ¬ ((i : Int) = (n : Int)):=by omega
 have hw1 : IntKind.i64.wrap ((i : Int) + 1) = (i : Int) + 1:=by rw [IntKind.wrap_i64]; omega
 have hw2 : IntKind.i64.wrap ((n : Int) + 1) = (n : Int) + 1:=by rw [IntKind.wrap_i64]; omega
 have hb1 : (0 : Int) ≤ (i : Int) + 1:=by omega
 have hb0 : (0 : Int) ≤ (n : Int) + 1:=by omega
 have hin : i ≤ n:=by omega
 have htn : ((i : Int) + 1).toNat = i + 1:=by omega
 have htm : ((n : Int) + 1).toNat = n + 1:=by omega
 have hb2 : ¬ (c = i + 1):=by omega
 have hb3 : (i : Int) ≤ (n : Int) + 1:=by omega
 have hb4 : ¬ (c = i):=by omega
 go_enter Tryz.func170,Tryz.ntmps170
 go_wp2_with (simp only [hov])
 go_region_law_o (refine bS rfl _ _ 29 29 rfl _ _ (by simp [Act.eval,Act.put]) (by simp [Act.eval,Act.put]) (hcp1 _ _ _) ?_)
 go_wp2_with (at_builtin; refine bg _ rfl _ _ 29 29 rfl _ _ rfl rfl (hcp2 _ _) ?_)
 go_ret
 exact ⟨rfl,rfl⟩
set_option maxHeartbeats 4000000 in
set_option maxRecDepth 1000000 in
theorem ig170 : pN Tryz.prog 170 29 3 14:=by
 intro b n i vb vc nb G w W0 W1 W2 hi hn hG hG63 hap hcpA hcpB
 have tS : Tryz.prog.underlying 29 = some (.slice 46):=by kernel_rfl
 have mixed : Tryz.prog.follows .mixedOrders = true:=Checked.mixed Tryz.checked
 have hz2 : ¬ ((i : Int) = (n : Int)):=by omega
 have hz3 : (n : Int) < (n : Int) + 1:=by omega
 have hw1 : IntKind.i64.wrap ((i : Int) + 1) = (i : Int) + 1:=by rw [IntKind.wrap_i64]; omega
 have hw2 : IntKind.i64.wrap ((n : Int) + 1) = (n : Int) + 1:=by rw [IntKind.wrap_i64]; omega
 have hw3 : IntKind.i64.wrap ((n : Int) + 1 - (i : Int)) = (n : Int) + 1 - (i : Int):=by rw [IntKind.wrap_i64]; omega
 have hb1 : (0 : Int) ≤ (i : Int) + 1:=by omega
 have hin : i ≤ n:=by omega
 have htn : ((i : Int) + 1).toNat = i + 1:=by omega
 have hb3 : (i : Int) ≤ (n : Int):=by omega
 have hGi : ¬ (G = i):=by omega
 have hGim : ¬ (G = i + 1):=by omega
 have hci : ¬ (n = i):=by omega
 go_enter Tryz.func170,Tryz.ntmps170
 go_wp2_with (first
  | (at_builtin; refine Lib.wpList_append_run _ rfl _ _ _ _ rfl _ _ rfl rfl _ _ (hap _) ?_)
  | (at_builtin; refine bg _ rfl _ _ 29 29 rfl _ _ rfl rfl (hcpA _ _) ?_))
 go_region_law_o (refine bS rfl _ _ 29 29 rfl (.slice (some ⟨nb,(i + 1) * 14,none⟩) (n - i) (G - (i + 1))) (.slice (some ⟨b,i * 14,none⟩) (n - i) (n - i)) (by simp [Act.eval,Act.put]) (by simp [Act.eval,Act.put]) (hcpB _ _ _) ?_)
 go_wp2
 go_ret
 exact ⟨rfl,rfl⟩
theorem ok170 : FnOk Tryz.prog 170 sp170:=uQ tok (te:=row46) (tb:=4) (by kernel_rfl) (by kernel_rfl) (sz:=14) (by kernel_rfl) (Nat.blt_eq.mp (by kernel_rfl)) (Nat.ble_eq.mp (by kernel_rfl)) (by kernel_rfl : Tryz.prog.underlying 29 = some (.slice 46)) (by kernel_rfl : Tryz.prog.underlying 3 = some (.int .i64)) ⟨Tryz.f170,by kernel_rfl,by kernel_rfl,by kernel_rfl⟩ ov170 IG iw170 ig170
theorem ok125 : FnOk Tryz.prog 125 sp125:=fo (nv:=7) (h:=h125) (aa ok66 (aa ok170 aj)) Tryz.func125
theorem ok131 : FnOk Tryz.prog 131 sp131:=fo (nv:=5) (h:=h131) (aa ok91 (aa ok125 (aa A4 aj))) Tryz.func131
theorem ok173 : FnOk Tryz.prog 173 sp173:=fo (nv:=4) (h:=h173) aj Tryz.func173
theorem ok207 : FnOk Tryz.prog 207 sp207:=fo (nv:=9) (h:=h207) aj Tryz.func207
theorem ok346 : FnOk Tryz.prog 346 sp346:=fo (nv:=3) (h:=h346) aj Tryz.func346
theorem ok319 : FnOk Tryz.prog 319 sp319:=fo (nv:=4) (h:=h319) (aa ok207 (aa ok346 aj)) Tryz.func319
set_option maxHeartbeats 4000000 in
set_option maxRecDepth 1000000 in
theorem dn320 : sI Tryz.prog 320:=by
 constructor
 ·intro b n cap i w hn hj
  go_enter Tryz.func320,Tryz.ntmps320
  go_wp2
  all_goals (go_ret; exact ⟨rfl,rfl⟩)
 ·intro p w
  cases p
  ·go_enter Tryz.func320,Tryz.ntmps320
   go_wp2
   all_goals (go_ret; exact ⟨rfl,rfl⟩)
  ·go_enter Tryz.func320,Tryz.ntmps320
   go_wp2
   all_goals (go_ret; exact ⟨rfl,rfl⟩)
set_option maxHeartbeats 4000000 in
set_option maxRecDepth 1000000 in
theorem dw320 : sk Tryz.prog 320 43 71 8:=by
 intro b n cap i j w hn hm hlt hj i0 hi0 hz1 A hA news s1 hsrc s2 s3 W1 W2 hW hcl
 have hic : i ≤ cap:=by omega
 have hjc : j ≤ cap:=by omega
 have tS : Tryz.prog.underlying 43 = some (.slice 71):=by kernel_rfl
 have mixed : Tryz.prog.follows .mixedOrders = true:=Checked.mixed Tryz.checked
 go_enter Tryz.func320,Tryz.ntmps320
 go_wp2_with fail
 go_region_law_o (refine step_append_room rfl (.tmp 22) (.tmp 25) 43 rfl 71 i0 8 tS hi0 hz1 b 0 i cap (by simp [Act.eval,Act.put]) A (n - j) (cap - j) news (by simp [Act.eval,Act.put]) s1.out hsrc.out s2.out (by omega) s3.out ?_; rw [← hW.out])
 go_wp2
 go_ret
 exact ⟨rfl,rfl⟩
theorem ok320 : FnOk Tryz.prog 320 sp320:=xP tok (te:=row71) (by kernel_rfl) (by kernel_rfl) (sz:=8) (by kernel_rfl) (Nat.blt_eq.mp (by kernel_rfl)) (by kernel_rfl : Tryz.prog.underlying 43 = some (.slice 71)) ⟨Tryz.f320,by kernel_rfl,by kernel_rfl,by kernel_rfl⟩ dn320 dw320
theorem ok280 : FnOk Tryz.prog 280 sp280:=fo (nv:=8) (h:=h280) (aa ok173 (aa ok319 (aa ok320 aj))) Tryz.func280
theorem Il : FnOk Tryz.prog 281 Hx:=fnOk (nv:=10) (h:=h281) tok mix aj Tryz.func281 (by kernel_rfl) (by kernel_rfl) (by kernel_rfl) (by kernel_rfl) (by kernel_rfl)
theorem ov281 (w : World) (a b : Value) (h : (Extern.SlicesOverlaps.overlaps #[30,30] #[4] #[a,b]).run Tryz.prog w = .ok (.bool false) w) : (callFunc 321 #[a,b]).run Tryz.prog w = .ok (.value (.bool false)) w:=by
 rw [run_callFunc_extern Tryz.func321 (by kernel_rfl) (by kernel_rfl) (by kernel_rfl) (e:=Extern.SlicesOverlaps.overlaps #[30,30] #[4]) (by kernel_rfl),h]
 rfl
set_option maxHeartbeats 4000000 in
set_option maxRecDepth 1000000 in
theorem iw281 : mC Tryz.prog 281 30 9 321:=by
 intro b n c i vb vc w W1 W2 hi hroom hc63 hov hcp1 hcp2
 have tS : Tryz.prog.underlying 30 = some (.slice 68):=by kernel_rfl
 have mixed : Tryz.prog.follows .mixedOrders = true:=Checked.mixed Tryz.checked
 have hz2 : ¬ ((i : Int) = (n : Int)):=by omega
 have hw1 : IntKind.i64.wrap ((i : Int) + 1) = (i : Int) + 1:=by rw [IntKind.wrap_i64]; omega
 have hw2 : IntKind.i64.wrap ((n : Int) + 1) = (n : Int) + 1:=by rw [IntKind.wrap_i64]; omega
 have hb1 : (0 : Int) ≤ (i : Int) + 1:=by omega
 have hb0 : (0 : Int) ≤ (n : Int) + 1:=by omega
 have hin : i ≤ n:=by omega
 have htn : ((i : Int) + 1).toNat = i + 1:=by omega
 have htm : ((n : Int) + 1).toNat = n + 1:=by omega
 have hb2 : ¬ (c = i + 1):=by omega
 have hb3 : (i : Int) ≤ (n : Int) + 1:=by omega
 have hb4 : ¬ (c = i):=by omega
 go_enter Tryz.func281,Tryz.ntmps281
 go_wp2_with (simp only [hov])
 go_region_law_o (refine bS rfl _ _ 30 30 rfl _ _ (by simp [Act.eval,Act.put]) (by simp [Act.eval,Act.put]) (hcp1 _ _ _) ?_)
 go_wp2_with (at_builtin; refine bg _ rfl _ _ 30 30 rfl _ _ rfl rfl (hcp2 _ _) ?_)
 go_ret
 exact ⟨rfl,rfl⟩
set_option maxHeartbeats 4000000 in
set_option maxRecDepth 1000000 in
theorem ig281 : pN Tryz.prog 281 30 3 9:=by
 intro b n i vb vc nb G w W0 W1 W2 hi hn hG hG63 hap hcpA hcpB
 have tS : Tryz.prog.underlying 30 = some (.slice 68):=by kernel_rfl
 have mixed : Tryz.prog.follows .mixedOrders = true:=Checked.mixed Tryz.checked
 have hz2 : ¬ ((i : Int) = (n : Int)):=by omega
 have hz3 : (n : Int) < (n : Int) + 1:=by omega
 have hw1 : IntKind.i64.wrap ((i : Int) + 1) = (i : Int) + 1:=by rw [IntKind.wrap_i64]; omega
 have hw2 : IntKind.i64.wrap ((n : Int) + 1) = (n : Int) + 1:=by rw [IntKind.wrap_i64]; omega
 have hw3 : IntKind.i64.wrap ((n : Int) + 1 - (i : Int)) = (n : Int) + 1 - (i : Int):=by rw [IntKind.wrap_i64]; omega
 have hb1 : (0 : Int) ≤ (i : Int) + 1:=by omega
 have hin : i ≤ n:=by omega
 have htn : ((i : Int) + 1).toNat = i + 1:=by omega
 have hb3 : (i : Int) ≤ (n : Int):=by omega
 have hGi : ¬ (G = i):=by omega
 have hGim : ¬ (G = i + 1):=by omega
 have hci : ¬ (n = i):=by omega
 go_enter Tryz.func281,Tryz.ntmps281
 go_wp2_with (first
  | (at_builtin; refine Lib.wpList_append_run _ rfl _ _ _ _ rfl _ _ rfl rfl _ _ (hap _) ?_)
  | (at_builtin; refine bg _ rfl _ _ 30 30 rfl _ _ rfl rfl (hcpA _ _) ?_))
 go_region_law_o (refine bS rfl _ _ 30 30 rfl (.slice (some ⟨nb,(i + 1) * 9,none⟩) (n - i) (G - (i + 1))) (.slice (some ⟨b,i * 9,none⟩) (n - i) (n - i)) (by simp [Act.eval,Act.put]) (by simp [Act.eval,Act.put]) (hcpB _ _ _) ?_)
 go_wp2
 go_ret
 exact ⟨rfl,rfl⟩
theorem ok281 : FnOk Tryz.prog 281 sp281:=uQ tok (te:=row68) (tb:=4) (by kernel_rfl) (by kernel_rfl) (sz:=9) (by kernel_rfl) (Nat.blt_eq.mp (by kernel_rfl)) (Nat.ble_eq.mp (by kernel_rfl)) (by kernel_rfl : Tryz.prog.underlying 30 = some (.slice 68)) (by kernel_rfl : Tryz.prog.underlying 3 = some (.int .i64)) ⟨Tryz.f281,by kernel_rfl,by kernel_rfl,by kernel_rfl⟩ ov281 Il iw281 ig281
theorem ok241 : FnOk Tryz.prog 241 sp241:=fo (nv:=9) (h:=h241) (aa ok131 (aa ok280 (aa ok281 aj))) Tryz.func241
theorem ok201 : FnOk Tryz.prog 201 sp201:=fo (nv:=12) (h:=h201) (aa ok51 (aa ok53 (aa ok97 (aa ok232 (aa ok233 (aa ok234 (aa ok235 (aa ok236 (aa ok237 (aa ok238 (aa ok239 (aa ok240 (aa ok241 aj))))))))))))) Tryz.func201
shelf_lay_g Go.Proofs.SlLaysF0.n6 Slsf 6 at Tryz 348 as lay348
theorem ok348 : FnOk Tryz.prog 348 sp348:=Ga (ρ:=lay348_ren) (n:=15) lay348 (by intro w; kernel_rfl) (by intro w; kernel_rfl) (by kernel_rfl) (Nat.blt_eq.mp (by kernel_rfl)) ⟨Tryz.f348,by kernel_rfl,by kernel_rfl,by kernel_rfl⟩
theorem ok349 : FnOk Tryz.prog 349 sp349:=⟨⟨Tryz.f349,by kernel_rfl,by kernel_rfl,by kernel_rfl⟩,fun a r hr => nomatch (show (none : Option _) = some r from hr)⟩
theorem ok323 : FnOk Tryz.prog 323 sp323:=fo (nv:=44) (h:=h323) (aa ok88 (aa ok247 (aa ok276 (aa ok348 (aa ok349 aj))))) Tryz.func323
theorem CY : ∀ n,FnOk Tryz.prog 282 (Iy n)
 | 0 => ⟨⟨Tryz.f282,by kernel_rfl,by kernel_rfl,by kernel_rfl⟩,fun a r hr => nomatch (show (none : Option _) = some r from hr)⟩
 | n + 1 => fnOk (nv:=29) (h:=h282) tok mix (aa (CY n) (aa ok323 aj)) Tryz.func282 (by kernel_rfl) (by kernel_rfl) (by kernel_rfl) (by kernel_rfl) (by kernel_rfl)
theorem ok282 : FnOk Tryz.prog 282 sp282:=CY 64
theorem ok242 : FnOk Tryz.prog 242 sp242:=fo (nv:=3) (h:=h242) (aa ok282 aj) Tryz.func242
theorem ok368 : FnOk Tryz.prog 368 sp368:=fo (nv:=10) (h:=h368) aj Tryz.func368
theorem ok397 : FnOk Tryz.prog 397 sp397:=fo (nv:=11) (h:=h397) aj Tryz.func397
theorem ok388 : FnOk Tryz.prog 388 sp388:=fo (nv:=12) (h:=h388) (aa ok397 aj) Tryz.func388
theorem Dc : ∀ n,FnOk Tryz.prog 369 (HX n)
 | 0 => ⟨⟨Tryz.f369,by kernel_rfl,by kernel_rfl,by kernel_rfl⟩,fun a r hr => nomatch (show (none : Option _) = some r from hr)⟩
 | n + 1 => fnOk (nv:=25) (h:=h369) tok mix (aa (Dc n) (aa ok388 aj)) Tryz.func369 (by kernel_rfl) (by kernel_rfl) (by kernel_rfl) (by kernel_rfl) (by kernel_rfl)
theorem ok369 : FnOk Tryz.prog 369 sp369:=Dc 64
theorem ok350 : FnOk Tryz.prog 350 sp350:=fo (nv:=10) (h:=h350) (aa ok368 (aa ok369 aj)) Tryz.func350
theorem ok324 : FnOk Tryz.prog 324 sp324:=fo (nv:=2) (h:=h324) (aa ok350 aj) Tryz.func324
theorem ok252 : FnOk Tryz.prog 252 sp252:=fo (nv:=9) (h:=h252) aj Tryz.func252
theorem ok291 : FnOk Tryz.prog 291 sp291:=fo (nv:=1) (h:=h291) aj Tryz.func291
theorem ok253 : FnOk Tryz.prog 253 sp253:=fo (nv:=7) (h:=h253) (aa ok291 aj) Tryz.func253
theorem ok325 : FnOk Tryz.prog 325 sp325:=fo (nv:=4) (h:=h325) (aa ok252 (aa ok253 aj)) Tryz.func325
theorem ok283 : FnOk Tryz.prog 283 sp283:=fo (nv:=39) (h:=h283) (aa ok53 (aa ok324 (aa ok325 aj))) Tryz.func283
theorem ok284 : FnOk Tryz.prog 284 sp284:=⟨⟨Tryz.f284,by kernel_rfl,by kernel_rfl,by kernel_rfl⟩,fun a r hr => nomatch (show (none : Option _) = some r from hr)⟩
theorem ok327 : FnOk Tryz.prog 327 sp327:=fo (nv:=4) (h:=h327) aj Tryz.func327
theorem Ix : FnOk Tryz.prog 328 Is:=fnOk (nv:=10) (h:=h328) tok mix aj Tryz.func328 (by kernel_rfl) (by kernel_rfl) (by kernel_rfl) (by kernel_rfl) (by kernel_rfl)
theorem ov328 (w : World) (a b : Value) (h : (Extern.SlicesOverlaps.overlaps #[31,31] #[4] #[a,b]).run Tryz.prog w = .ok (.bool false) w) : (callFunc 351 #[a,b]).run Tryz.prog w = .ok (.value (.bool false)) w:=by
 rw [run_callFunc_extern Tryz.func351 (by kernel_rfl) (by kernel_rfl) (by kernel_rfl) (e:=Extern.SlicesOverlaps.overlaps #[31,31] #[4]) (by kernel_rfl),h]
 rfl
set_option maxHeartbeats 4000000 in
set_option maxRecDepth 1000000 in
theorem iw328 : mC Tryz.prog 328 31 3 351:=by
 intro b n c i vb vc w W1 W2 hi hroom hc63 hov hcp1 hcp2
 have tS : Tryz.prog.underlying 31 = some (.slice 91):=by kernel_rfl
 have mixed : Tryz.prog.follows .mixedOrders = true:=Checked.mixed Tryz.checked
 have hz2 : ¬ ((i : Int) = (n : Int)):=by omega
 have hw1 : IntKind.i64.wrap ((i : Int) + 1) = (i : Int) + 1:=by rw [IntKind.wrap_i64]; omega
 have hw2 : IntKind.i64.wrap ((n : Int) + 1) = (n : Int) + 1:=by rw [IntKind.wrap_i64]; omega
 have hb1 : (0 : Int) ≤ (i : Int) + 1:=by omega
 have hb0 : (0 : Int) ≤ (n : Int) + 1:=by omega
 have hin : i ≤ n:=by omega
 have htn : ((i : Int) + 1).toNat = i + 1:=by omega
 have htm : ((n : Int) + 1).toNat = n + 1:=by omega
 have hb2 : ¬ (c = i + 1):=by omega
 have hb3 : (i : Int) ≤ (n : Int) + 1:=by omega
 have hb4 : ¬ (c = i):=by omega
 go_enter Tryz.func328,Tryz.ntmps328
 go_wp2_with (simp only [hov])
 go_region_law_o (refine bS rfl _ _ 31 31 rfl _ _ (by simp [Act.eval,Act.put]) (by simp [Act.eval,Act.put]) (hcp1 _ _ _) ?_)
 go_wp2_with (at_builtin; refine bg _ rfl _ _ 31 31 rfl _ _ rfl rfl (hcp2 _ _) ?_)
 go_ret
 exact ⟨rfl,rfl⟩
set_option maxHeartbeats 4000000 in
set_option maxRecDepth 1000000 in
theorem ig328 : pN Tryz.prog 328 31 3 3:=by
 intro b n i vb vc nb G w W0 W1 W2 hi hn hG hG63 hap hcpA hcpB
 have tS : Tryz.prog.underlying 31 = some (.slice 91):=by kernel_rfl
 have mixed : Tryz.prog.follows .mixedOrders = true:=Checked.mixed Tryz.checked
 have hz2 : ¬ ((i : Int) = (n : Int)):=by omega
 have hz3 : (n : Int) < (n : Int) + 1:=by omega
 have hw1 : IntKind.i64.wrap ((i : Int) + 1) = (i : Int) + 1:=by rw [IntKind.wrap_i64]; omega
 have hw2 : IntKind.i64.wrap ((n : Int) + 1) = (n : Int) + 1:=by rw [IntKind.wrap_i64]; omega
 have hw3 : IntKind.i64.wrap ((n : Int) + 1 - (i : Int)) = (n : Int) + 1 - (i : Int):=by rw [IntKind.wrap_i64]; omega
 have hb1 : (0 : Int) ≤ (i : Int) + 1:=by omega
 have hin : i ≤ n:=by omega
 have htn : ((i : Int) + 1).toNat = i + 1:=by omega
 have hb3 : (i : Int) ≤ (n : Int):=by omega
 have hGi : ¬ (G = i):=by omega
 have hGim : ¬ (G = i + 1):=by omega
 have hci : ¬ (n = i):=by omega
 go_enter Tryz.func328,Tryz.ntmps328
 go_wp2_with (first
  | (at_builtin; refine Lib.wpList_append_run _ rfl _ _ _ _ rfl _ _ rfl rfl _ _ (hap _) ?_)
  | (at_builtin; refine bg _ rfl _ _ 31 31 rfl _ _ rfl rfl (hcpA _ _) ?_))
 go_region_law_o (refine bS rfl _ _ 31 31 rfl (.slice (some ⟨nb,(i + 1) * 3,none⟩) (n - i) (G - (i + 1))) (.slice (some ⟨b,i * 3,none⟩) (n - i) (n - i)) (by simp [Act.eval,Act.put]) (by simp [Act.eval,Act.put]) (hcpB _ _ _) ?_)
 go_wp2
 go_ret
 exact ⟨rfl,rfl⟩
theorem ok328 : FnOk Tryz.prog 328 sp328:=uQ tok (te:=row91) (tb:=4) (by kernel_rfl) (by kernel_rfl) (sz:=3) (by kernel_rfl) (Nat.blt_eq.mp (by kernel_rfl)) (Nat.ble_eq.mp (by kernel_rfl)) (by kernel_rfl : Tryz.prog.underlying 31 = some (.slice 91)) (by kernel_rfl : Tryz.prog.underlying 3 = some (.int .i64)) ⟨Tryz.f328,by kernel_rfl,by kernel_rfl,by kernel_rfl⟩ ov328 Ix iw328 ig328
theorem ok285 : FnOk Tryz.prog 285 sp285:=fo (nv:=8) (h:=h285) (aa ok61 (aa ok327 (aa ok328 aj))) Tryz.func285
theorem ok243 : FnOk Tryz.prog 243 sp243:=fo (nv:=59) (h:=h243) (aa ok51 (aa ok153 (aa ok235 (aa ok236 (aa ok237 (aa ok238 (aa ok239 (aa ok241 (aa ok283 (aa ok284 (aa ok285 aj))))))))))) Tryz.func243
theorem ok202 : FnOk Tryz.prog 202 sp202:=fo (nv:=8) (h:=h202) (aa ok234 (aa ok242 (aa ok243 aj))) Tryz.func202
theorem ok169 : FnOk Tryz.prog 169 sp169:=fo (nv:=11) (h:=h169) (aa ok34 (aa ok52 (aa ok200 (aa ok201 (aa ok202 aj))))) Tryz.func169
theorem ok120 : FnOk Tryz.prog 120 sp120:=fo (nv:=10) (h:=h120) (aa ok34 (aa ok169 aj)) Tryz.func120
theorem ok74 : FnOk Tryz.prog 74 sp74:=fo (nv:=8) (h:=h74) (aa ok34 (aa ok52 (aa ok82 (aa ok114 (aa ok115 (aa ok116 (aa ok117 (aa ok118 (aa ok120 aj))))))))) Tryz.func74
theorem ok172 : FnOk Tryz.prog 172 sp172:=fo (nv:=8) (h:=h172) (aa ok207 aj) Tryz.func172
theorem ok174 : FnOk Tryz.prog 174 sp174:=⟨⟨Tryz.f174,by kernel_rfl,by kernel_rfl,by kernel_rfl⟩,fun a r hr => nomatch (show (none : Option _) = some r from hr)⟩
theorem Iv : FnOk Tryz.prog 175 Iu:=fnOk (nv:=10) (h:=h175) tok mix aj Tryz.func175 (by kernel_rfl) (by kernel_rfl) (by kernel_rfl) (by kernel_rfl) (by kernel_rfl)
theorem ov175 (w : World) (a b : Value) (h : (Extern.SlicesOverlaps.overlaps #[43,43] #[4] #[a,b]).run Tryz.prog w = .ok (.bool false) w) : (callFunc 208 #[a,b]).run Tryz.prog w = .ok (.value (.bool false)) w:=by
 rw [run_callFunc_extern Tryz.func208 (by kernel_rfl) (by kernel_rfl) (by kernel_rfl) (e:=Extern.SlicesOverlaps.overlaps #[43,43] #[4]) (by kernel_rfl),h]
 rfl
set_option maxHeartbeats 4000000 in
set_option maxRecDepth 1000000 in
theorem iw175 : mC Tryz.prog 175 43 8 208:=by
 intro b n c i vb vc w W1 W2 hi hroom hc63 hov hcp1 hcp2
 have tS : Tryz.prog.underlying 43 = some (.slice 71):=by kernel_rfl
 have mixed : Tryz.prog.follows .mixedOrders = true:=Checked.mixed Tryz.checked
 have hz2 : ¬ ((i : Int) = (n : Int)):=by omega
 have hw1 : IntKind.i64.wrap ((i : Int) + 1) = (i : Int) + 1:=by rw [IntKind.wrap_i64]; omega
 have hw2 : IntKind.i64.wrap ((n : Int) + 1) = (n : Int) + 1:=by rw [IntKind.wrap_i64]; omega
 have hb1 : (0 : Int) ≤ (i : Int) + 1:=by omega
 have hb0 : (0 : Int) ≤ (n : Int) + 1:=by omega
 have hin : i ≤ n:=by omega
 have htn : ((i : Int) + 1).toNat = i + 1:=by omega
 have htm : ((n : Int) + 1).toNat = n + 1:=by omega
 have hb2 : ¬ (c = i + 1):=by omega
 have hb3 : (i : Int) ≤ (n : Int) + 1:=by omega
 have hb4 : ¬ (c = i):=by omega
 go_enter Tryz.func175,Tryz.ntmps175
 go_wp2_with (simp only [hov])
 go_region_law_o (refine bS rfl _ _ 43 43 rfl _ _ (by simp [Act.eval,Act.put]) (by simp [Act.eval,Act.put]) (hcp1 _ _ _) ?_)
 go_wp2_with (at_builtin; refine bg _ rfl _ _ 43 43 rfl _ _ rfl rfl (hcp2 _ _) ?_)
 go_ret
 exact ⟨rfl,rfl⟩
set_option maxHeartbeats 4000000 in
set_option maxRecDepth 1000000 in
theorem ig175 : pN Tryz.prog 175 43 3 8:=by
 intro b n i vb vc nb G w W0 W1 W2 hi hn hG hG63 hap hcpA hcpB
 have tS : Tryz.prog.underlying 43 = some (.slice 71):=by kernel_rfl
 have mixed : Tryz.prog.follows .mixedOrders = true:=Checked.mixed Tryz.checked
 have hz2 : ¬ ((i : Int) = (n : Int)):=by omega
 have hz3 : (n : Int) < (n : Int) + 1:=by omega
 have hw1 : IntKind.i64.wrap ((i : Int) + 1) = (i : Int) + 1:=by rw [IntKind.wrap_i64]; omega
 have hw2 : IntKind.i64.wrap ((n : Int) + 1) = (n : Int) + 1:=by rw [IntKind.wrap_i64]; omega
 have hw3 : IntKind.i64.wrap ((n : Int) + 1 - (i : Int)) = (n : Int) + 1 - (i : Int):=by rw [IntKind.wrap_i64]; omega
 have hb1 : (0 : Int) ≤ (i : Int) + 1:=by omega
 have hin : i ≤ n:=by omega
 have htn : ((i : Int) + 1).toNat = i + 1:=by omega
 have hb3 : (i : Int) ≤ (n : Int):=by omega
 have hGi : ¬ (G = i):=by omega
 have hGim : ¬ (G = i + 1):=by omega
 have hci : ¬ (n = i):=by omega
 go_enter Tryz.func175,Tryz.ntmps175
 go_wp2_with (first
  | (at_builtin; refine Lib.wpList_append_run _ rfl _ _ _ _ rfl _ _ rfl rfl _ _ (hap _) ?_)
  | (at_builtin; refine bg _ rfl _ _ 43 43 rfl _ _ rfl rfl (hcpA _ _) ?_))
 go_region_law_o (refine bS rfl _ _ 43 43 rfl (.slice (some ⟨nb,(i + 1) * 8,none⟩) (n - i) (G - (i + 1))) (.slice (some ⟨b,i * 8,none⟩) (n - i) (n - i)) (by simp [Act.eval,Act.put]) (by simp [Act.eval,Act.put]) (hcpB _ _ _) ?_)
 go_wp2
 go_ret
 exact ⟨rfl,rfl⟩
theorem ok175 : FnOk Tryz.prog 175 sp175:=uQ tok (te:=row71) (tb:=4) (by kernel_rfl) (by kernel_rfl) (sz:=8) (by kernel_rfl) (Nat.blt_eq.mp (by kernel_rfl)) (Nat.ble_eq.mp (by kernel_rfl)) (by kernel_rfl : Tryz.prog.underlying 43 = some (.slice 71)) (by kernel_rfl : Tryz.prog.underlying 3 = some (.int .i64)) ⟨Tryz.f175,by kernel_rfl,by kernel_rfl,by kernel_rfl⟩ ov175 Iv iw175 ig175
theorem ok129 : FnOk Tryz.prog 129 sp129:=fo (nv:=8) (h:=h129) (aa ok172 (aa ok173 (aa ok174 (aa ok175 aj)))) Tryz.func129
theorem ok107 : FnOk Tryz.prog 107 sp107:=fo (nv:=4) (h:=h107) (aa ok129 aj) Tryz.func107
theorem ok121 : FnOk Tryz.prog 121 sp121:=fo (nv:=3) (h:=h121) aj Tryz.func121
theorem ok122 : FnOk Tryz.prog 122 sp122:=fo (nv:=9) (h:=h122) (aa ok53 aj) Tryz.func122
theorem ok123 : FnOk Tryz.prog 123 sp123:=fo (nv:=2) (h:=h123) (aa ok53 aj) Tryz.func123
theorem ok124 : FnOk Tryz.prog 124 sp124:=⟨⟨Tryz.f124,by kernel_rfl,by kernel_rfl,by kernel_rfl⟩,fun a r hr => nomatch (show (none : Option _) = some r from hr)⟩
theorem ok75 : FnOk Tryz.prog 75 sp75:=fo (nv:=8) (h:=h75) (aa ok60 (aa ok66 (aa ok96 (aa ok107 (aa ok121 (aa ok122 (aa ok123 (aa ok124 (aa ok125 (aa A4 aj)))))))))) Tryz.func75
theorem ok126 : FnOk Tryz.prog 126 sp126:=fo (nv:=23) (h:=h126) aj Tryz.func126
theorem ok127 : FnOk Tryz.prog 127 sp127:=fo (nv:=15) (h:=h127) aj Tryz.func127
theorem ok205 : FnOk Tryz.prog 205 sp205:=fo (nv:=2) (h:=h205) (aa ok168 aj) Tryz.func205
theorem ok206 : FnOk Tryz.prog 206 sp206:=fo (nv:=3) (h:=h206) aj Tryz.func206
theorem ok171 : FnOk Tryz.prog 171 sp171:=fo (nv:=5) (h:=h171) (aa ok205 (aa ok206 aj)) Tryz.func171
theorem ok128 : FnOk Tryz.prog 128 sp128:=fo (nv:=3) (h:=h128) (aa ok171 aj) Tryz.func128
theorem ok176 : FnOk Tryz.prog 176 sp176:=⟨⟨Tryz.f176,by kernel_rfl,by kernel_rfl,by kernel_rfl⟩,fun a r hr => nomatch (show (none : Option _) = some r from hr)⟩
theorem ok177 : FnOk Tryz.prog 177 sp177:=⟨⟨Tryz.f177,by kernel_rfl,by kernel_rfl,by kernel_rfl⟩,fun a r hr => nomatch (show (none : Option _) = some r from hr)⟩
theorem ok130 : FnOk Tryz.prog 130 sp130:=fo (nv:=13) (h:=h130) (aa ok64 (aa ok68 (aa ok116 (aa ok176 (aa ok177 aj))))) Tryz.func130
theorem ok76 : FnOk Tryz.prog 76 sp76:=fo (nv:=79) (h:=h76) (aa ok51 (aa ok82 (aa ok117 (aa ok126 (aa ok127 (aa ok128 (aa ok129 (aa ok130 (aa ok131 aj))))))))) Tryz.func76
theorem ok77 : FnOk Tryz.prog 77 sp77:=⟨⟨Tryz.f77,by kernel_rfl,by kernel_rfl,by kernel_rfl⟩,fun a r hr => nomatch (show (none : Option _) = some r from hr)⟩
theorem ok133 : FnOk Tryz.prog 133 sp133:=fo (nv:=10) (h:=h133) aj Tryz.func133
theorem ok158 : FnOk Tryz.prog 158 sp158:=fo (nv:=8) (h:=h158) (aa ok97 aj) Tryz.func158
theorem ok178 : FnOk Tryz.prog 178 sp178:=fo (nv:=3) (h:=h178) aj Tryz.func178
theorem ok134 : FnOk Tryz.prog 134 sp134:=fo (nv:=16) (h:=h134) (aa ok34 (aa ok114 (aa ok158 (aa ok178 aj)))) Tryz.func134
theorem ok135 : FnOk Tryz.prog 135 sp135:=fo (nv:=12) (h:=h135) aj Tryz.func135
theorem ok136 : FnOk Tryz.prog 136 sp136:=⟨⟨Tryz.f136,by kernel_rfl,by kernel_rfl,by kernel_rfl⟩,fun a r hr => nomatch (show (none : Option _) = some r from hr)⟩
theorem ok141 : FnOk Tryz.prog 141 sp141:=fo (nv:=9) (h:=h141) aj Tryz.func141
theorem ok137 : FnOk Tryz.prog 137 sp137:=fo (nv:=8) (h:=h137) (aa ok141 aj) Tryz.func137
theorem ok138 : FnOk Tryz.prog 138 sp138:=⟨⟨Tryz.f138,by kernel_rfl,by kernel_rfl,by kernel_rfl⟩,fun a r hr => nomatch (show (none : Option _) = some r from hr)⟩
theorem ok211 : FnOk Tryz.prog 211 sp211:=fo (nv:=3) (h:=h211) aj Tryz.func211
theorem ok212 : FnOk Tryz.prog 212 sp212:=fo (nv:=4) (h:=h212) aj Tryz.func212
theorem ok213 : FnOk Tryz.prog 213 sp213:=⟨⟨Tryz.f213,by kernel_rfl,by kernel_rfl,by kernel_rfl⟩,fun a r hr => nomatch (show (none : Option _) = some r from hr)⟩
theorem hB179 (p : Option Addr) (n cap : Nat) (w : World) : Calls Tryz.prog 210 #[.slice p n cap] w fun e w' => e = .returned (.func (.func 246) #[] #[.pointer (some ⟨w.heap.size,0,none⟩)]) ∧ w' = w.alloc (.cells #[.slice p n cap] 30 (0,0)):=by
 go_enter Tryz.func210,Tryz.ntmps210
 go_wp2
 go_ret
 exact ⟨rfl,rfl⟩
set_option maxHeartbeats 4000000 in
set_option maxRecDepth 1000000 in
theorem hC179 : Bd Tryz.prog 246 68 9:=by
 intro l bx n cap p J W hn hp hbx hcell hY h0
 refine callsIn_of_wp Tryz.func246 rfl trivial ?_ rfl
 simp only [Tryz.ntmps246,List.size_toArray,List.length_cons,List.length_nil,Nat.reduceAdd,Nat.reduceSub,Array.replicate_succ,Array.replicate_zero,List.push_toArray,List.append_toArray,List.nil_append,List.cons_append]
 gi_wp2
 gi_loopw [3] (fun i wr => ∃ k : Nat,k ≤ n ∧ i = .int .i64 ((k : Int) - 1) ∧ J k wr) (fun i _ => (Go.RowKit.intOf i + 1).toNat)
 case atStart => exact ⟨n,Nat.le_refl _,by rw [show wrap64 ((n : Int) - 1) = (n : Int) - 1 by unfold maxLen at hn; simp only [wrap64]; omega],h0⟩
 case round =>
  obtain ⟨k,hk,rfl,hJ⟩:=hrel
  have hcw : wr.cell? ⟨bx,0,none⟩ = some (.slice p n cap):=by rw [← hcell]; simp [World.cell?,hbx k wr hJ]
  cases k with
  | zero =>
   gi_wp2
   go_end0
   exact ⟨⟨_,rfl⟩,hJ⟩
  | succ k =>
   have e1 : (((k + 1 : Nat) : Int) - 1) = (k : Int):=by omega
   rw [e1]
   have hlt : k < n:=hk
   rcases hp with hp | ⟨b,rfl⟩
   ·omega
   obtain ⟨f,hf,fn,tmps,assign,body,hy,hR⟩:=hY k wr hJ hlt b rfl
   have c0:=hf 0 (by decide)
   rw [Nat.add_zero] at c0
   have c1:=hf 1 (by decide)
   have c2:=hf 2 (by decide)
   have c3:=hf 3 (by decide)
   have c4:=hf 4 (by decide)
   have c5:=hf 5 (by decide)
   have c6:=hf 6 (by decide)
   have c7:=hf 7 (by decide)
   have c8:=hf 8 (by decide)
   rw [show (⟨(List.range 9).map f⟩ : Array Value) = #[f 0,f 1,f 2,f 3,f 4,f 5,f 6,f 7,f 8] from rfl] at hy
   gi_wp2
   refine hR.mono ?_
   rintro e W3 ⟨rfl,hJ3⟩
   gi_wp2
   go_roundw
   case rel => exact ⟨k,by omega,by rw [show wrap64 ((k : Int) - 1) = (k : Int) - 1 by unfold maxLen at hn; simp only [wrap64]; omega],hJ3⟩
   case measure => simp [Go.RowKit.intOf,wrap64]; unfold maxLen at hn; omega
theorem ok179 : FnOk Tryz.prog 179 sp179:=fnOkR (nv:=48) (fB:=210) (fC:=246) (te:=68) (tsl:=30) (ks0:=k179) (dr0:=dr179) (h:=h179) tok (aa ok64 (aa ok102 (aa ok211 (aa ok212 (aa ok213 aj))))) mix Tryz.func179 (by kernel_rfl) (by kernel_rfl) (by kernel_rfl) (by kernel_rfl) ⟨Tryz.f210,by kernel_rfl,by kernel_rfl,by kernel_rfl⟩ ⟨Tryz.f246,by kernel_rfl,by kernel_rfl,by kernel_rfl⟩ hB179 (fun ti h => by cases h; exact hC179) (by kernel_rfl)
theorem ok217 : FnOk Tryz.prog 217 sp217:=⟨⟨Tryz.f217,by kernel_rfl,by kernel_rfl,by kernel_rfl⟩,fun a r hr => nomatch (show (none : Option _) = some r from hr)⟩
theorem ok356 : FnOk Tryz.prog 356 sp356:=fo (nv:=11) (h:=h356) (aa ok171 aj) Tryz.func356
theorem ok332 : FnOk Tryz.prog 332 sp332:=fo (nv:=11) (h:=h332) (aa ok53 (aa ok56 (aa ok330 (aa ok356 aj)))) Tryz.func332
theorem ok290 : FnOk Tryz.prog 290 sp290:=fo (nv:=7) (h:=h290) (aa ok332 aj) Tryz.func290
theorem ok331 : FnOk Tryz.prog 331 sp331:=⟨⟨Tryz.f331,by kernel_rfl,by kernel_rfl,by kernel_rfl⟩,fun a r hr => nomatch (show (none : Option _) = some r from hr)⟩
theorem H0 : FnOk Tryz.prog 289 (sd 0):=⟨⟨Tryz.f289,by kernel_rfl,by kernel_rfl,by kernel_rfl⟩,fun a r hr => nomatch (show (none : Option _) = some r from hr)⟩
set_option maxHeartbeats 4000000 in
theorem HK (n : Nat) (ih : FnOk Tryz.prog 289 (sd n)) : FnOk Tryz.prog 289 (sd (n + 1)):=fnOk (nv:=110) (h:=h289) tok mix (aa ih (aa ih (aa ok88 (aa ok247 (aa ok276 (aa ok290 (aa ok317 (aa ok331 aj)))))))) Tryz.func289 (by kernel_rfl) (by kernel_rfl) (by kernel_rfl) (by kernel_rfl) (by kernel_rfl)
theorem Ir (n : Nat) : FnOk Tryz.prog 289 (sd n):=Nat.rec (motive:=fun n => FnOk Tryz.prog 289 (sd n)) H0 (fun n ih => HK n ih) n
theorem ok289 : FnOk Tryz.prog 289 sp289:=Ir 64
theorem ok248 : FnOk Tryz.prog 248 sp248:=fo (nv:=3) (h:=h248) (aa ok188 (aa ok289 aj)) Tryz.func248
theorem ok214 : FnOk Tryz.prog 214 sp214:=fo (nv:=47) (h:=h214) (aa ok51 (aa ok217 (aa ok247 (aa ok248 aj)))) Tryz.func214
theorem ok251 : FnOk Tryz.prog 251 sp251:=fo (nv:=54) (h:=h251) (aa ok53 (aa ok247 (aa ok276 (aa ok290 aj)))) Tryz.func251
theorem ok215 : FnOk Tryz.prog 215 sp215:=fo (nv:=20) (h:=h215) (aa ok188 (aa ok247 (aa ok248 (aa ok251 aj)))) Tryz.func215
theorem ok216 : FnOk Tryz.prog 216 sp216:=⟨⟨Tryz.f216,by kernel_rfl,by kernel_rfl,by kernel_rfl⟩,fun a r hr => nomatch (show (none : Option _) = some r from hr)⟩
theorem ok180 : FnOk Tryz.prog 180 sp180:=fo (nv:=9) (h:=h180) (aa ok214 (aa ok215 (aa ok216 aj))) Tryz.func180
theorem ok181 : FnOk Tryz.prog 181 sp181:=⟨⟨Tryz.f181,by kernel_rfl,by kernel_rfl,by kernel_rfl⟩,fun a r hr => nomatch (show (none : Option _) = some r from hr)⟩
theorem ok182 : FnOk Tryz.prog 182 sp182:=fo (nv:=3) (h:=h182) aj Tryz.func182
theorem ok260 : FnOk Tryz.prog 260 sp260:=⟨⟨Tryz.f260,by kernel_rfl,by kernel_rfl,by kernel_rfl⟩,fun a r hr => nomatch (show (none : Option _) = some r from hr)⟩
theorem ok254 : FnOk Tryz.prog 254 sp254:=fo (nv:=8) (h:=h254) (aa ok260 aj) Tryz.func254
theorem ok255 : FnOk Tryz.prog 255 sp255:=⟨⟨Tryz.f255,by kernel_rfl,by kernel_rfl,by kernel_rfl⟩,fun a r hr => nomatch (show (none : Option _) = some r from hr)⟩
theorem ok257 : FnOk Tryz.prog 257 sp257:=⟨⟨Tryz.f257,by kernel_rfl,by kernel_rfl,by kernel_rfl⟩,fun a r hr => nomatch (show (none : Option _) = some r from hr)⟩
theorem CN : ∀ n,FnOk Tryz.prog 218 (Ij n)
 | 0 => ⟨⟨Tryz.f218,by kernel_rfl,by kernel_rfl,by kernel_rfl⟩,fun a r hr => nomatch (show (none : Option _) = some r from hr)⟩
 | n + 1 => fnOk (nv:=19) (h:=h218) tok mix (aa (CN n) (aa ok254 (aa ok255 (aa ok257 aj)))) Tryz.func218 (by kernel_rfl) (by kernel_rfl) (by kernel_rfl) (by kernel_rfl) (by kernel_rfl)
theorem ok218 : FnOk Tryz.prog 218 sp218:=CN 64
theorem ok264 : FnOk Tryz.prog 264 sp264:=fo (nv:=3) (h:=h264) aj Tryz.func264
theorem ok219 : FnOk Tryz.prog 219 sp219:=fo (nv:=1) (h:=h219) (aa ok264 aj) Tryz.func219
theorem ok183 : FnOk Tryz.prog 183 sp183:=fo (nv:=1) (h:=h183) (aa ok218 (aa ok219 aj)) Tryz.func183
theorem ok139 : FnOk Tryz.prog 139 sp139:=fo (nv:=48) (h:=h139) (aa ok34 (aa ok49 (aa ok64 (aa ok179 (aa ok180 (aa ok181 (aa ok182 (aa ok183 aj)))))))) Tryz.func139
theorem ok78 : FnOk Tryz.prog 78 sp78:=fo (nv:=122) (h:=h78) (aa ok82 (aa ok102 (aa ok126 (aa ok133 (aa ok134 (aa ok135 (aa ok136 (aa ok137 (aa ok138 (aa ok139 aj)))))))))) Tryz.func78
theorem ok79 : FnOk Tryz.prog 79 sp79:=⟨⟨Tryz.f79,by kernel_rfl,by kernel_rfl,by kernel_rfl⟩,fun a r hr => nomatch (show (none : Option _) = some r from hr)⟩
theorem ok80 : FnOk Tryz.prog 80 sp80:=⟨⟨Tryz.f80,by kernel_rfl,by kernel_rfl,by kernel_rfl⟩,fun a r hr => nomatch (show (none : Option _) = some r from hr)⟩
theorem ok81 : FnOk Tryz.prog 81 sp81:=⟨⟨Tryz.f81,by kernel_rfl,by kernel_rfl,by kernel_rfl⟩,fun a r hr => nomatch (show (none : Option _) = some r from hr)⟩
theorem ok35 : FnOk Tryz.prog 35 sp35:=fo (nv:=8) (h:=h35) (aa ok71 (aa ok72 (aa ok73 (aa ok74 (aa ok75 (aa ok76 (aa ok77 (aa ok78 (aa ok79 (aa ok80 (aa ok81 (aa ok82 aj)))))))))))) Tryz.func35
theorem ok17 : FnOk Tryz.prog 17 sp17:=fo (nv:=9) (h:=h17) (aa ok34 (aa ok35 aj)) Tryz.func17
theorem ok7 : FnOk Tryz.prog 7 sp7:=fo (nv:=7) (h:=h7) (aa ok10 (aa ok15 (aa ok17 aj))) Tryz.func7
theorem ok8 : FnOk Tryz.prog 8 sp8:=fo (nv:=6) (h:=h8) aj Tryz.func8
theorem ok9 : FnOk Tryz.prog 9 sp9:=fo (nv:=9) (h:=h9) (aa ok17 aj) Tryz.func9
theorem ok12 : FnOk Tryz.prog 12 sp12:=fo (nv:=1) (h:=h12) aj Tryz.func12
theorem ok13 : FnOk Tryz.prog 13 sp13:=fo (nv:=1) (h:=h13) (aa ok12 aj) Tryz.func13
theorem ok16 : FnOk Tryz.prog 16 sp16:=fo (nv:=7) (h:=h16) aj Tryz.func16
theorem ok18 : FnOk Tryz.prog 18 sp18:=fo (nv:=7) (h:=h18) aj Tryz.func18
theorem ok5 : FnOk Tryz.prog 5 sp5:=fo (nv:=26) (h:=h5) (aa ok7 (aa ok8 (aa ok9 (aa ok10 (aa ok12 (aa ok13 (aa ok16 (aa ok17 (aa ok18 aj))))))))) Tryz.func5
end Go.Fx.D
