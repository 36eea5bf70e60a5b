/-
  Each of these functions does what its function over plain data says, where that gives an answer (printed by a program). Conditions: none.
-/
import Derived.Test.YtdnbceoohjpkeaaGreatFxD
import Derived.Ground.SlsfProg
import Derived.Shelf.Lay
import Derived.Test.YtdnbceoohjpkeaaGreatD
import Derived.Test.YtdnbceoohjpkeaaGreatFxC
import Derived.Test.YtdnbceoohjpkeaaGreatChecked
import Derived.WalkKit
namespace Go.Fx.D
open Go Go.Fx Go.Proofs Go.Shelf Go.RowKit Go.Lib Go.Sort
set_option linter.unusedVariables false
set_option maxRecDepth 100000
theorem rk {t : TypeId} {i : TI fam} (j : TypeInfo) (h1 : Tryz.prog.underlying t = some i.desc:=by kernel_rfl) (h2 : Tryz.prog.info? t = some j:=by kernel_rfl) (h3 : j.zero = some (j.zero.getD .nilFunc):=by kernel_rfl) (h4 : (Nat.beq j.size i.size && Nat.beq j.bytes i.bytes && Nat.beq (j.zero.getD .nilFunc).cells.size i.size && zok i.zero (j.zero.getD .nilFunc).cells.toList && (aggV (j.zero.getD .nilFunc) == fu i.desc)) = true:=by kernel_rfl) (h5 : tyOk i = true:=by kernel_rfl) (h6 : eqOkB Tryz.prog t i = true:=by kernel_rfl) : RowOk Tryz.prog t i:=⟨h1,⟨j,_,h2,h3,h4⟩,h5,h6⟩
theorem CD : RowOk Tryz.prog 3 row3:=rk Tryz.t3
theorem CJ : RowOk Tryz.prog 4 row4:=rk Tryz.t4
theorem Cl : RowOk Tryz.prog 5 row5:=rk Tryz.t5
theorem Cr : RowOk Tryz.prog 9 row9:=rk Tryz.t9
theorem yq : RowOk Tryz.prog 24 row24:=rk Tryz.t24
theorem yM : RowOk Tryz.prog 25 row25:=rk Tryz.t25
theorem BV : RowOk Tryz.prog 27 row27:=rk Tryz.t27
theorem yw : RowOk Tryz.prog 28 row28:=rk Tryz.t28
theorem yp : RowOk Tryz.prog 29 row29:=rk Tryz.t29
theorem yt : RowOk Tryz.prog 30 row30:=rk Tryz.t30
theorem yO : RowOk Tryz.prog 31 row31:=rk Tryz.t31
theorem yW : RowOk Tryz.prog 32 row32:=rk Tryz.t32
theorem B8 : RowOk Tryz.prog 34 row34:=rk Tryz.t34
theorem B7 : RowOk Tryz.prog 36 row36:=rk Tryz.t36
theorem Bu : RowOk Tryz.prog 38 row38:=rk Tryz.t38
theorem BR : RowOk Tryz.prog 40 row40:=rk Tryz.t40
theorem BO : RowOk Tryz.prog 42 row42:=rk Tryz.t42
theorem yS : RowOk Tryz.prog 45 row45:=rk Tryz.t45
theorem BZ : RowOk Tryz.prog 47 row47:=rk Tryz.t47
theorem B6 : RowOk Tryz.prog 49 row49:=rk Tryz.t49
theorem BU : RowOk Tryz.prog 51 row51:=rk Tryz.t51
theorem Cc : RowOk Tryz.prog 64 row64:=rk Tryz.t64
theorem BT : RowOk Tryz.prog 66 row66:=rk Tryz.t66
theorem BQ : RowOk Tryz.prog 73 row73:=rk Tryz.t73
theorem yv : RowOk Tryz.prog 74 row74:=rk Tryz.t74
theorem Ce : RowOk Tryz.prog 76 row76:=rk Tryz.t76
theorem AD : RowOk Tryz.prog 113 zW:=rk Tryz.t113
theorem A7 : RowOk Tryz.prog 121 zI:=rk Tryz.t121
theorem AJ : RowOk Tryz.prog 122 Ac:=rk Tryz.t122
theorem Au : RowOk Tryz.prog 130 zH:=rk Tryz.t130
theorem AF : RowOk Tryz.prog 144 zV:=rk Tryz.t144
theorem AC : RowOk Tryz.prog 147 Af:=rk Tryz.t147
theorem Bc : RowOk Tryz.prog 152 Ai:=rk Tryz.t152
theorem A6 : RowOk Tryz.prog 173 z7:=rk Tryz.t173
theorem Bd : RowOk Tryz.prog 177 Aa:=rk Tryz.t177
theorem A1 : RowOk Tryz.prog 179 Ad:=rk Tryz.t179
theorem A9 : RowOk Tryz.prog 189 Al:=rk Tryz.t189
theorem Be : RowOk Tryz.prog 215 zL:=rk Tryz.t215
theorem AO : RowOk Tryz.prog 217 z3:=rk Tryz.t217
theorem tok : TblOk Tryz.prog (look tbl):=tblOk (all_cons CD (all_cons CJ (all_cons Cl (all_cons Cr (all_cons yq (all_cons yM (all_cons BV (all_cons yw (all_cons yp (all_cons yt (all_cons yO (all_cons yW (all_cons B8 (all_cons B7 (all_cons Bu (all_cons BR (all_cons BO (all_cons yS (all_cons BZ (all_cons B6 (all_cons BU (all_cons Cc (all_cons BT (all_cons BQ (all_cons yv (all_cons Ce (all_cons AD (all_cons A7 (all_cons AJ (all_cons Au (all_cons AF (all_cons AC (all_cons Bc (all_cons A6 (all_cons Bd (all_cons A1 (all_cons A9 (all_cons Be (all_cons AO all_nil)))))))))))))))))))))))))))))))))))))))
theorem mix : Tryz.prog.follows .mixedOrders = true:=Checked.mixed Tryz.checked
theorem fo {Γ : Ctx fam} {nv : Nat} {h : Hint} (hΓ : CtxOk Tryz.prog Γ) {f : FuncId} {fn : Func} {sp : Spec fam} (hf : Tryz.prog.funcs[f]? = some fn) (hnm : (fn.name == "runtime.NumGoroutine") = false:=by kernel_rfl) (hbn : fn.body.isNone = false:=by kernel_rfl) (hlen : Nat.ble sp.ks.length fn.ntmps = true:=by kernel_rfl) (hrs : sp.rs.all (fun k => !k.isBox) = true:=by kernel_rfl) (hD : (fun a => tFunc (look tbl) Γ nv fn h sp.ks sp.rs a) = sp.D:=by kernel_rfl) : FnOk Tryz.prog f sp:=fnOk tok mix hΓ hf hnm hbn hlen hrs hD
theorem Bo : FnOk Tryz.prog 58 Ci:=fnOk (nv:=1) (h:=h58) tok mix am Tryz.func58 (by kernel_rfl) (by kernel_rfl) (by kernel_rfl) (by kernel_rfl) (by kernel_rfl)
set_option maxHeartbeats 2000000 in
theorem CH (p : Option Addr) (cap : Nat) (w : World) : Calls Tryz.prog 58 #[.slice p 0 cap] w fun e w' => ∃ p',e = .returned (.slice p' 0 0) ∧ RowKit.Below w.heap.size w w' ∧ w.drawn ≤ w'.drawn:=by
 have q:=mC (P:=Tryz.prog) (t:=24) yq.und
 cases p with
 | none =>
  go_enter Tryz.func58,Tryz.ntmps58
  go_wp2
  go_ret
  exact ⟨_,rfl,.refl _ _,Nat.le_refl _⟩
 | some p =>
  go_enter Tryz.func58,Tryz.ntmps58
  go_wp2
  go_ret
  exact ⟨_,rfl,(RowKit.Below.refl _ w).alloc (Nat.le_refl _) _,Nat.le_refl _⟩
theorem ok58 : FnOk Tryz.prog 58 sp58:=eY Bo CH
theorem BW : FnOk Tryz.prog 59 Bq:=fnOk (nv:=1) (h:=h59) tok mix am Tryz.func59 (by kernel_rfl) (by kernel_rfl) (by kernel_rfl) (by kernel_rfl) (by kernel_rfl)
set_option maxHeartbeats 2000000 in
theorem CO (p : Option Addr) (cap : Nat) (w : World) : Calls Tryz.prog 59 #[.slice p 0 cap] w fun e w' => ∃ p',e = .returned (.slice p' 0 0) ∧ RowKit.Below w.heap.size w w' ∧ w.drawn ≤ w'.drawn:=by
 have q:=mC (P:=Tryz.prog) (t:=25) yM.und
 cases p with
 | none =>
  go_enter Tryz.func59,Tryz.ntmps59
  go_wp2
  go_ret
  exact ⟨_,rfl,.refl _ _,Nat.le_refl _⟩
 | some p =>
  go_enter Tryz.func59,Tryz.ntmps59
  go_wp2
  go_ret
  exact ⟨_,rfl,(RowKit.Below.refl _ w).alloc (Nat.le_refl _) _,Nat.le_refl _⟩
theorem ok59 : FnOk Tryz.prog 59 sp59:=eY BW CO
theorem Bm : FnOk Tryz.prog 60 Bz:=fnOk (nv:=1) (h:=h60) tok mix am Tryz.func60 (by kernel_rfl) (by kernel_rfl) (by kernel_rfl) (by kernel_rfl) (by kernel_rfl)
set_option maxHeartbeats 2000000 in
theorem CG (p : Option Addr) (cap : Nat) (w : World) : Calls Tryz.prog 60 #[.slice p 0 cap] w fun e w' => ∃ p',e = .returned (.slice p' 0 0) ∧ RowKit.Below w.heap.size w w' ∧ w.drawn ≤ w'.drawn:=by
 have q:=mC (P:=Tryz.prog) (t:=74) yv.und
 cases p with
 | none =>
  go_enter Tryz.func60,Tryz.ntmps60
  go_wp2
  go_ret
  exact ⟨_,rfl,.refl _ _,Nat.le_refl _⟩
 | some p =>
  go_enter Tryz.func60,Tryz.ntmps60
  go_wp2
  go_ret
  exact ⟨_,rfl,(RowKit.Below.refl _ w).alloc (Nat.le_refl _) _,Nat.le_refl _⟩
theorem ok60 : FnOk Tryz.prog 60 sp60:=eY Bm CG
theorem Bt : FnOk Tryz.prog 61 BL:=fnOk (nv:=1) (h:=h61) tok mix am Tryz.func61 (by kernel_rfl) (by kernel_rfl) (by kernel_rfl) (by kernel_rfl) (by kernel_rfl)
set_option maxHeartbeats 2000000 in
theorem Ck (p : Option Addr) (cap : Nat) (w : World) : Calls Tryz.prog 61 #[.slice p 0 cap] w fun e w' => ∃ p',e = .returned (.slice p' 0 0) ∧ RowKit.Below w.heap.size w w' ∧ w.drawn ≤ w'.drawn:=by
 have q:=mC (P:=Tryz.prog) (t:=28) yw.und
 cases p with
 | none =>
  go_enter Tryz.func61,Tryz.ntmps61
  go_wp2
  go_ret
  exact ⟨_,rfl,.refl _ _,Nat.le_refl _⟩
 | some p =>
  go_enter Tryz.func61,Tryz.ntmps61
  go_wp2
  go_ret
  exact ⟨_,rfl,(RowKit.Below.refl _ w).alloc (Nat.le_refl _) _,Nat.le_refl _⟩
theorem ok61 : FnOk Tryz.prog 61 sp61:=eY Bt Ck
theorem B9 : FnOk Tryz.prog 62 BJ:=fnOk (nv:=1) (h:=h62) tok mix am Tryz.func62 (by kernel_rfl) (by kernel_rfl) (by kernel_rfl) (by kernel_rfl) (by kernel_rfl)
set_option maxHeartbeats 2000000 in
theorem Cm (p : Option Addr) (cap : Nat) (w : World) : Calls Tryz.prog 62 #[.slice p 0 cap] w fun e w' => ∃ p',e = .returned (.slice p' 0 0) ∧ RowKit.Below w.heap.size w w' ∧ w.drawn ≤ w'.drawn:=by
 have q:=mC (P:=Tryz.prog) (t:=30) yt.und
 cases p with
 | none =>
  go_enter Tryz.func62,Tryz.ntmps62
  go_wp2
  go_ret
  exact ⟨_,rfl,.refl _ _,Nat.le_refl _⟩
 | some p =>
  go_enter Tryz.func62,Tryz.ntmps62
  go_wp2
  go_ret
  exact ⟨_,rfl,(RowKit.Below.refl _ w).alloc (Nat.le_refl _) _,Nat.le_refl _⟩
theorem ok62 : FnOk Tryz.prog 62 sp62:=eY B9 Cm
theorem BS : FnOk Tryz.prog 63 Br:=fnOk (nv:=1) (h:=h63) tok mix am Tryz.func63 (by kernel_rfl) (by kernel_rfl) (by kernel_rfl) (by kernel_rfl) (by kernel_rfl)
set_option maxHeartbeats 2000000 in
theorem CQ (p : Option Addr) (cap : Nat) (w : World) : Calls Tryz.prog 63 #[.slice p 0 cap] w fun e w' => ∃ p',e = .returned (.slice p' 0 0) ∧ RowKit.Below w.heap.size w w' ∧ w.drawn ≤ w'.drawn:=by
 have q:=mC (P:=Tryz.prog) (t:=31) yO.und
 cases p with
 | none =>
  go_enter Tryz.func63,Tryz.ntmps63
  go_wp2
  go_ret
  exact ⟨_,rfl,.refl _ _,Nat.le_refl _⟩
 | some p =>
  go_enter Tryz.func63,Tryz.ntmps63
  go_wp2
  go_ret
  exact ⟨_,rfl,(RowKit.Below.refl _ w).alloc (Nat.le_refl _) _,Nat.le_refl _⟩
theorem ok63 : FnOk Tryz.prog 63 sp63:=eY BS CQ
theorem BA : FnOk Tryz.prog 64 BX:=fnOk (nv:=1) (h:=h64) tok mix am Tryz.func64 (by kernel_rfl) (by kernel_rfl) (by kernel_rfl) (by kernel_rfl) (by kernel_rfl)
set_option maxHeartbeats 2000000 in
theorem Cn (p : Option Addr) (cap : Nat) (w : World) : Calls Tryz.prog 64 #[.slice p 0 cap] w fun e w' => ∃ p',e = .returned (.slice p' 0 0) ∧ RowKit.Below w.heap.size w w' ∧ w.drawn ≤ w'.drawn:=by
 have q:=mC (P:=Tryz.prog) (t:=32) yW.und
 cases p with
 | none =>
  go_enter Tryz.func64,Tryz.ntmps64
  go_wp2
  go_ret
  exact ⟨_,rfl,.refl _ _,Nat.le_refl _⟩
 | some p =>
  go_enter Tryz.func64,Tryz.ntmps64
  go_wp2
  go_ret
  exact ⟨_,rfl,(RowKit.Below.refl _ w).alloc (Nat.le_refl _) _,Nat.le_refl _⟩
theorem ok64 : FnOk Tryz.prog 64 sp64:=eY BA Cn
theorem BN : FnOk Tryz.prog 65 Bn:=fnOk (nv:=1) (h:=h65) tok mix am Tryz.func65 (by kernel_rfl) (by kernel_rfl) (by kernel_rfl) (by kernel_rfl) (by kernel_rfl)
set_option maxHeartbeats 2000000 in
theorem CN (p : Option Addr) (cap : Nat) (w : World) : Calls Tryz.prog 65 #[.slice p 0 cap] w fun e w' => ∃ p',e = .returned (.slice p' 0 0) ∧ RowKit.Below w.heap.size w w' ∧ w.drawn ≤ w'.drawn:=by
 have q:=mC (P:=Tryz.prog) (t:=29) yp.und
 cases p with
 | none =>
  go_enter Tryz.func65,Tryz.ntmps65
  go_wp2
  go_ret
  exact ⟨_,rfl,.refl _ _,Nat.le_refl _⟩
 | some p =>
  go_enter Tryz.func65,Tryz.ntmps65
  go_wp2
  go_ret
  exact ⟨_,rfl,(RowKit.Below.refl _ w).alloc (Nat.le_refl _) _,Nat.le_refl _⟩
theorem ok65 : FnOk Tryz.prog 65 sp65:=eY BN CN
theorem BI : FnOk Tryz.prog 86 BD:=fnOk (nv:=1) (h:=h86) tok mix am Tryz.func86 (by kernel_rfl) (by kernel_rfl) (by kernel_rfl) (by kernel_rfl) (by kernel_rfl)
set_option maxHeartbeats 2000000 in
theorem CS (p : Option Addr) (cap : Nat) (w : World) : Calls Tryz.prog 86 #[.slice p 0 cap] w fun e w' => ∃ p',e = .returned (.slice p' 0 0) ∧ RowKit.Below w.heap.size w w' ∧ w.drawn ≤ w'.drawn:=by
 have q:=mC (P:=Tryz.prog) (t:=45) yS.und
 cases p with
 | none =>
  go_enter Tryz.func86,Tryz.ntmps86
  go_wp2
  go_ret
  exact ⟨_,rfl,.refl _ _,Nat.le_refl _⟩
 | some p =>
  go_enter Tryz.func86,Tryz.ntmps86
  go_wp2
  go_ret
  exact ⟨_,rfl,(RowKit.Below.refl _ w).alloc (Nat.le_refl _) _,Nat.le_refl _⟩
theorem ok86 : FnOk Tryz.prog 86 sp86:=eY BI CS
theorem ok90 : FnOk Tryz.prog 90 sp90:=fo (nv:=4) (h:=h90) am Tryz.func90
theorem ok66 : FnOk Tryz.prog 66 sp66:=fo (nv:=3) (h:=h66) (ae ok86 (ae ok90 am)) Tryz.func66
theorem ok30 : FnOk Tryz.prog 30 sp30:=fo (nv:=62) (h:=h30) (ae ok58 (ae ok59 (ae ok60 (ae ok61 (ae ok62 (ae ok63 (ae ok64 (ae ok65 (ae ok66 am))))))))) Tryz.func30
theorem ok31 : FnOk Tryz.prog 31 sp31:=fo (nv:=9) (h:=h31) am Tryz.func31
theorem ok32 : FnOk Tryz.prog 32 sp32:=fo (nv:=3) (h:=h32) am Tryz.func32
theorem ok67 : FnOk Tryz.prog 67 sp67:=fo (nv:=9) (h:=h67) am Tryz.func67
theorem ok68 : FnOk Tryz.prog 68 sp68:=fo (nv:=3) (h:=h68) am Tryz.func68
theorem ok33 : FnOk Tryz.prog 33 sp33:=fo (nv:=4) (h:=h33) (ae ok67 (ae ok68 am)) Tryz.func33
theorem ok107 : FnOk Tryz.prog 107 sp107:=fo (nv:=4) (h:=h107) am Tryz.func107
theorem ok133 : FnOk Tryz.prog 133 sp133:=fo (nv:=9) (h:=h133) am Tryz.func133
theorem ok122 : FnOk Tryz.prog 122 sp122:=fo (nv:=8) (h:=h122) (ae ok133 am) Tryz.func122
theorem ok123 : FnOk Tryz.prog 123 sp123:=fo (nv:=3) (h:=h123) am Tryz.func123
theorem BH : FnOk Tryz.prog 124 Ca:=fnOk (nv:=10) (h:=h124) tok mix am Tryz.func124 (by kernel_rfl) (by kernel_rfl) (by kernel_rfl) (by kernel_rfl) (by kernel_rfl)
theorem ov124 (w : World) (a b : Value) (h : (Extern.SlicesOverlaps.overlaps #[45,45] #[4] #[a,b]).run Tryz.prog w = .ok (.bool false) w) : (callFunc 144 #[a,b]).run Tryz.prog w = .ok (.value (.bool false)) w:=by
 rw [run_callFunc_extern Tryz.func144 (by kernel_rfl) (by kernel_rfl) (by kernel_rfl) (e:=Extern.SlicesOverlaps.overlaps #[45,45] #[4]) (by kernel_rfl),h]
 rfl
set_option maxHeartbeats 4000000 in
set_option maxRecDepth 1000000 in
theorem iw124 : mT Tryz.prog 124 45 8 144:=by
 intro b n c i vb vc w W1 W2 hi hroom hc63 hov hcp1 hcp2
 have tS : Tryz.prog.underlying 45 = some (.slice 40):=by kernel_rfl
 have mixed : Tryz.prog.follows .mixedOrders = true:=Checked.mixed Tryz.checked
 have hz2 : ¬ ((i : Int) = (n : Int)):=by omega
 have hw1 : IntKind.i64.wrap ((i : Int) + 1) = (i : Int) + 1:=by rw [IntKind.wrap_i64]; omega
 have hw2 : IntKind.i64.wrap ((n : Int) + 1) = (n : Int) + 1:=by rw [IntKind.wrap_i64]; omega
 have hb1 : (0 : Int) ≤ (i : Int) + 1:=by omega
 have hb0 : (0 : Int) ≤ (n : Int) + 1:=by omega
 have hin : i ≤ n:=by omega
 have htn : ((i : Int) + 1).toNat = i + 1:=by omega
 have htm : ((n : Int) + 1).toNat = n + 1:=by omega
 have hb2 : ¬ (c = i + 1):=by omega
 have hb3 : (i : Int) ≤ (n : Int) + 1:=by omega
 have hb4 : ¬ (c = i):=by omega
 go_enter Tryz.func124,Tryz.ntmps124
 go_wp2_with (simp only [hov])
 go_region_law_o (refine b7 rfl _ _ 45 45 rfl _ _ (by simp [Act.eval,Act.put]) (by simp [Act.eval,Act.put]) (hcp1 _ _ _) ?_)
 go_wp2_with (at_builtin; refine bg _ rfl _ _ 45 45 rfl _ _ rfl rfl (hcp2 _ _) ?_)
 go_ret
 exact ⟨rfl,rfl⟩
set_option maxHeartbeats 4000000 in
set_option maxRecDepth 1000000 in
theorem ig124 : pG Tryz.prog 124 45 3 8:=by
 intro b n i vb vc nb G w W0 W1 W2 hi hn hG hG63 hap hcpA hcpB
 have tS : Tryz.prog.underlying 45 = some (.slice 40):=by kernel_rfl
 have mixed : Tryz.prog.follows .mixedOrders = true:=Checked.mixed Tryz.checked
 have hz2 : ¬ ((i : Int) = (n : Int)):=by omega
 have hz3 : (n : Int) < (n : Int) + 1:=by omega
 have hw1 : IntKind.i64.wrap ((i : Int) + 1) = (i : Int) + 1:=by rw [IntKind.wrap_i64]; omega
 have hw2 : IntKind.i64.wrap ((n : Int) + 1) = (n : Int) + 1:=by rw [IntKind.wrap_i64]; omega
 have hw3 : IntKind.i64.wrap ((n : Int) + 1 - (i : Int)) = (n : Int) + 1 - (i : Int):=by rw [IntKind.wrap_i64]; omega
 have hb1 : (0 : Int) ≤ (i : Int) + 1:=by omega
 have hin : i ≤ n:=by omega
 have htn : ((i : Int) + 1).toNat = i + 1:=by omega
 have hb3 : (i : Int) ≤ (n : Int):=by omega
 have hGi : ¬ (G = i):=by omega
 have hGim : ¬ (G = i + 1):=by omega
 have hci : ¬ (n = i):=by omega
 go_enter Tryz.func124,Tryz.ntmps124
 go_wp2_with (first
  | (at_builtin; refine Lib.wpList_append_run _ rfl _ _ _ _ rfl _ _ rfl rfl _ _ (hap _) ?_)
  | (at_builtin; refine bg _ rfl _ _ 45 45 rfl _ _ rfl rfl (hcpA _ _) ?_))
 go_region_law_o (refine b7 rfl _ _ 45 45 rfl (.slice (some ⟨nb,(i + 1) * 8,none⟩) (n - i) (G - (i + 1))) (.slice (some ⟨b,i * 8,none⟩) (n - i) (n - i)) (by simp [Act.eval,Act.put]) (by simp [Act.eval,Act.put]) (hcpB _ _ _) ?_)
 go_wp2
 go_ret
 exact ⟨rfl,rfl⟩
theorem ok124 : FnOk Tryz.prog 124 sp124:=uj tok (te:=row40) (tb:=4) (by kernel_rfl) (by kernel_rfl) (sz:=8) (by kernel_rfl) (Nat.blt_eq.mp (by kernel_rfl)) (Nat.ble_eq.mp (by kernel_rfl)) (by kernel_rfl : Tryz.prog.underlying 45 = some (.slice 40)) (by kernel_rfl : Tryz.prog.underlying 3 = some (.int .i64)) ⟨Tryz.f124,by kernel_rfl,by kernel_rfl,by kernel_rfl⟩ ov124 BH iw124 ig124
theorem ok91 : FnOk Tryz.prog 91 sp91:=fo (nv:=8) (h:=h91) (ae ok107 (ae ok122 (ae ok123 (ae ok124 am)))) Tryz.func91
theorem ok69 : FnOk Tryz.prog 69 sp69:=fo (nv:=4) (h:=h69) (ae ok91 am) Tryz.func69
theorem ok92 : FnOk Tryz.prog 92 sp92:=fo (nv:=8) (h:=h92) (ae ok31 am) Tryz.func92
theorem ok40 : FnOk Tryz.prog 40 sp40:=fo (nv:=9) (h:=h40) am Tryz.func40
theorem ok70 : FnOk Tryz.prog 70 sp70:=fo (nv:=7) (h:=h70) (ae ok92 am) Tryz.func70
theorem ok34 : FnOk Tryz.prog 34 sp34:=fo (nv:=6) (h:=h34) (ae ok69 (ae ok70 am)) Tryz.func34
set_option maxHeartbeats 4000000 in
set_option maxRecDepth 1000000 in
theorem dn35 : se Tryz.prog 35:=by
 constructor
 ·intro b n cap i w hn hj
  go_enter Tryz.func35,Tryz.ntmps35
  go_wp2
  all_goals (go_ret; exact ⟨rfl,rfl⟩)
 ·intro p w
  cases p
  ·go_enter Tryz.func35,Tryz.ntmps35
   go_wp2
   all_goals (go_ret; exact ⟨rfl,rfl⟩)
  ·go_enter Tryz.func35,Tryz.ntmps35
   go_wp2
   all_goals (go_ret; exact ⟨rfl,rfl⟩)
set_option maxHeartbeats 4000000 in
set_option maxRecDepth 1000000 in
theorem dw35 : rX Tryz.prog 35 30 42 9:=by
 intro b n cap i j w hn hm hlt hj i0 hi0 hz1 A hA news s1 hsrc s2 s3 W1 W2 hW hcl
 have hic : i ≤ cap:=by omega
 have hjc : j ≤ cap:=by omega
 have tS : Tryz.prog.underlying 30 = some (.slice 42):=by kernel_rfl
 have mixed : Tryz.prog.follows .mixedOrders = true:=Checked.mixed Tryz.checked
 go_enter Tryz.func35,Tryz.ntmps35
 go_wp2_with fail
 go_region_law_o (refine step_append_room rfl (.tmp 22) (.tmp 25) 30 rfl 42 i0 9 tS hi0 hz1 b 0 i cap (by simp [Act.eval,Act.put]) A (n - j) (cap - j) news (by simp [Act.eval,Act.put]) s1.out hsrc.out s2.out (by omega) s3.out ?_; rw [← hW.out])
 go_wp2
 go_ret
 exact ⟨rfl,rfl⟩
theorem ok35 : FnOk Tryz.prog 35 sp35:=wz tok (te:=row42) (by kernel_rfl) (by kernel_rfl) (sz:=9) (by kernel_rfl) (Nat.blt_eq.mp (by kernel_rfl)) (by kernel_rfl : Tryz.prog.underlying 30 = some (.slice 42)) ⟨Tryz.f35,by kernel_rfl,by kernel_rfl,by kernel_rfl⟩ dn35 dw35
theorem ok36 : FnOk Tryz.prog 36 sp36:=fo (nv:=9) (h:=h36) am Tryz.func36
theorem ok37 : FnOk Tryz.prog 37 sp37:=fo (nv:=8) (h:=h37) am Tryz.func37
theorem ok14 : FnOk Tryz.prog 14 sp14:=fo (nv:=17) (h:=h14) (ae ok30 (ae ok31 (ae ok32 (ae ok33 (ae ok34 (ae ok35 (ae ok36 (ae ok37 am)))))))) Tryz.func14
theorem ok71 : FnOk Tryz.prog 71 sp71:=fo (nv:=9) (h:=h71) am Tryz.func71
theorem ok72 : FnOk Tryz.prog 72 sp72:=fo (nv:=4) (h:=h72) am Tryz.func72
theorem ok38 : FnOk Tryz.prog 38 sp38:=fo (nv:=3) (h:=h38) (ae ok71 (ae ok72 am)) Tryz.func38
theorem ok15 : FnOk Tryz.prog 15 sp15:=fo (nv:=7) (h:=h15) (ae ok38 am) Tryz.func15
theorem ok96 : FnOk Tryz.prog 96 sp96:=fo (nv:=2) (h:=h96) am Tryz.func96
theorem ok97 : FnOk Tryz.prog 97 sp97:=fo (nv:=3) (h:=h97) (ae ok96 am) Tryz.func97
theorem ok73 : FnOk Tryz.prog 73 sp73:=fo (nv:=5) (h:=h73) (ae ok96 (ae ok97 am)) Tryz.func73
theorem ok39 : FnOk Tryz.prog 39 sp39:=fo (nv:=12) (h:=h39) (ae ok73 am) Tryz.func39
theorem ok16 : FnOk Tryz.prog 16 sp16:=fo (nv:=8) (h:=h16) (ae ok15 (ae ok39 am)) Tryz.func16
theorem ok41 : FnOk Tryz.prog 41 sp41:=fo (nv:=3) (h:=h41) am Tryz.func41
theorem ok42 : FnOk Tryz.prog 42 sp42:=fo (nv:=7) (h:=h42) (ae ok33 (ae ok66 am)) Tryz.func42
theorem ok43 : FnOk Tryz.prog 43 sp43:=fo (nv:=12) (h:=h43) am Tryz.func43
theorem ok44 : FnOk Tryz.prog 44 sp44:=fo (nv:=2) (h:=h44) am Tryz.func44
theorem ok74 : FnOk Tryz.prog 74 sp74:=fo (nv:=4) (h:=h74) am Tryz.func74
theorem ok45 : FnOk Tryz.prog 45 sp45:=fo (nv:=8) (h:=h45) (ae ok74 am) Tryz.func45
theorem ok75 : FnOk Tryz.prog 75 sp75:=fo (nv:=4) (h:=h75) am Tryz.func75
theorem ok46 : FnOk Tryz.prog 46 sp46:=fo (nv:=4) (h:=h46) (ae ok74 (ae ok75 am)) Tryz.func46
theorem ok125 : FnOk Tryz.prog 125 sp125:=fo (nv:=13) (h:=h125) am Tryz.func125
theorem ok161 : FnOk Tryz.prog 161 sp161:=fo (nv:=2) (h:=h161) am Tryz.func161
theorem ok146 : FnOk Tryz.prog 146 sp146:=fo (nv:=2) (h:=h146) (ae ok161 am) Tryz.func146
theorem ok126 : FnOk Tryz.prog 126 sp126:=fo (nv:=4) (h:=h126) (ae ok146 am) Tryz.func126
theorem ok98 : FnOk Tryz.prog 98 sp98:=fo (nv:=16) (h:=h98) (ae ok73 (ae ok125 (ae ok126 am))) Tryz.func98
theorem ok76 : FnOk Tryz.prog 76 sp76:=fo (nv:=7) (h:=h76) (ae ok98 am) Tryz.func76
theorem ok127 : FnOk Tryz.prog 127 sp127:=fo (nv:=9) (h:=h127) am Tryz.func127
theorem ok128 : FnOk Tryz.prog 128 sp128:=fo (nv:=3) (h:=h128) am Tryz.func128
theorem ok101 : FnOk Tryz.prog 101 sp101:=fo (nv:=8) (h:=h101) (ae ok60 (ae ok127 (ae ok128 am))) Tryz.func101
theorem ok147 : FnOk Tryz.prog 147 sp147:=fo (nv:=14) (h:=h147) am Tryz.func147
theorem ok175 : FnOk Tryz.prog 175 sp175:=fo (nv:=3) (h:=h175) am Tryz.func175
theorem ok162 : FnOk Tryz.prog 162 sp162:=fo (nv:=1) (h:=h162) (ae ok175 am) Tryz.func162
theorem ok148 : FnOk Tryz.prog 148 sp148:=fo (nv:=19) (h:=h148) (ae ok162 am) Tryz.func148
theorem ok129 : FnOk Tryz.prog 129 sp129:=fo (nv:=8) (h:=h129) (ae ok147 (ae ok148 am)) Tryz.func129
theorem ok102 : FnOk Tryz.prog 102 sp102:=fo (nv:=5) (h:=h102) (ae ok96 (ae ok97 (ae ok129 am))) Tryz.func102
theorem ok163 : FnOk Tryz.prog 163 sp163:=fo (nv:=6) (h:=h163) am Tryz.func163
theorem ok182 : FnOk Tryz.prog 182 sp182:=fo (nv:=9) (h:=h182) am Tryz.func182
theorem ok164 : FnOk Tryz.prog 164 sp164:=fo (nv:=12) (h:=h164) (ae ok182 am) Tryz.func164
theorem ok149 : FnOk Tryz.prog 149 sp149:=fo (nv:=6) (h:=h149) (ae ok163 (ae ok164 am)) Tryz.func149
theorem ok130 : FnOk Tryz.prog 130 sp130:=fo (nv:=5) (h:=h130) (ae ok149 am) Tryz.func130
theorem ok103 : FnOk Tryz.prog 103 sp103:=fo (nv:=4) (h:=h103) (ae ok130 am) Tryz.func103
theorem ok132 : FnOk Tryz.prog 132 sp132:=fo (nv:=9) (h:=h132) (ae ok73 am) Tryz.func132
theorem ok105 : FnOk Tryz.prog 105 sp105:=fo (nv:=12) (h:=h105) (ae ok132 am) Tryz.func105
theorem ok99 : FnOk Tryz.prog 99 sp99:=fo (nv:=15) (h:=h99) (ae ok101 (ae ok102 (ae ok103 (ae ok105 am)))) Tryz.func99
theorem ok100 : FnOk Tryz.prog 100 sp100:=fo (nv:=2) (h:=h100) am Tryz.func100
theorem ok77 : FnOk Tryz.prog 77 sp77:=fo (nv:=7) (h:=h77) (ae ok99 (ae ok100 am)) Tryz.func77
theorem ok47 : FnOk Tryz.prog 47 sp47:=fo (nv:=8) (h:=h47) (ae ok73 (ae ok75 (ae ok76 (ae ok77 am)))) Tryz.func47
theorem ok78 : FnOk Tryz.prog 78 sp78:=fo (nv:=9) (h:=h78) (ae ok98 am) Tryz.func78
theorem ok79 : FnOk Tryz.prog 79 sp79:=fo (nv:=10) (h:=h79) (ae ok77 (ae ok101 (ae ok102 am))) Tryz.func79
theorem ok48 : FnOk Tryz.prog 48 sp48:=fo (nv:=4) (h:=h48) (ae ok75 (ae ok78 (ae ok79 am))) Tryz.func48
theorem ok49 : FnOk Tryz.prog 49 sp49:=fo (nv:=4) (h:=h49) (ae ok75 am) Tryz.func49
theorem ok131 : FnOk Tryz.prog 131 sp131:=fo (nv:=2) (h:=h131) am Tryz.func131
theorem ok104 : FnOk Tryz.prog 104 sp104:=fo (nv:=7) (h:=h104) (ae ok99 (ae ok131 am)) Tryz.func104
theorem ok106 : FnOk Tryz.prog 106 sp106:=fo (nv:=12) (h:=h106) (ae ok132 am) Tryz.func106
theorem ok80 : FnOk Tryz.prog 80 sp80:=fo (nv:=20) (h:=h80) (ae ok73 (ae ok75 (ae ok76 (ae ok103 (ae ok104 (ae ok105 (ae ok106 am))))))) Tryz.func80
theorem ok50 : FnOk Tryz.prog 50 sp50:=fo (nv:=6) (h:=h50) (ae ok80 am) Tryz.func50
set_option maxHeartbeats 4000000 in
set_option maxRecDepth 1000000 in
theorem dn51 : se Tryz.prog 51:=by
 constructor
 ·intro b n cap i w hn hj
  go_enter Tryz.func51,Tryz.ntmps51
  go_wp2
  all_goals (go_ret; exact ⟨rfl,rfl⟩)
 ·intro p w
  cases p
  ·go_enter Tryz.func51,Tryz.ntmps51
   go_wp2
   all_goals (go_ret; exact ⟨rfl,rfl⟩)
  ·go_enter Tryz.func51,Tryz.ntmps51
   go_wp2
   all_goals (go_ret; exact ⟨rfl,rfl⟩)
set_option maxHeartbeats 4000000 in
set_option maxRecDepth 1000000 in
theorem dw51 : rX Tryz.prog 51 31 51 3:=by
 intro b n cap i j w hn hm hlt hj i0 hi0 hz1 A hA news s1 hsrc s2 s3 W1 W2 hW hcl
 have hic : i ≤ cap:=by omega
 have hjc : j ≤ cap:=by omega
 have tS : Tryz.prog.underlying 31 = some (.slice 51):=by kernel_rfl
 have mixed : Tryz.prog.follows .mixedOrders = true:=Checked.mixed Tryz.checked
 go_enter Tryz.func51,Tryz.ntmps51
 go_wp2_with fail
 go_region_law_o (refine step_append_room rfl (.tmp 22) (.tmp 25) 31 rfl 51 i0 3 tS hi0 hz1 b 0 i cap (by simp [Act.eval,Act.put]) A (n - j) (cap - j) news (by simp [Act.eval,Act.put]) s1.out hsrc.out s2.out (by omega) s3.out ?_; rw [← hW.out])
 go_wp2
 go_ret
 exact ⟨rfl,rfl⟩
theorem ok51 : FnOk Tryz.prog 51 sp51:=wz tok (te:=row51) (by kernel_rfl) (by kernel_rfl) (sz:=3) (by kernel_rfl) (Nat.blt_eq.mp (by kernel_rfl)) (by kernel_rfl : Tryz.prog.underlying 31 = some (.slice 51)) ⟨Tryz.f51,by kernel_rfl,by kernel_rfl,by kernel_rfl⟩ dn51 dw51
theorem ok134 : FnOk Tryz.prog 134 sp134:=fo (nv:=3) (h:=h134) am Tryz.func134
theorem ok108 : FnOk Tryz.prog 108 sp108:=fo (nv:=4) (h:=h108) (ae ok133 (ae ok134 am)) Tryz.func108
set_option maxHeartbeats 4000000 in
set_option maxRecDepth 1000000 in
theorem dn109 : se Tryz.prog 109:=by
 constructor
 ·intro b n cap i w hn hj
  go_enter Tryz.func109,Tryz.ntmps109
  go_wp2
  all_goals (go_ret; exact ⟨rfl,rfl⟩)
 ·intro p w
  cases p
  ·go_enter Tryz.func109,Tryz.ntmps109
   go_wp2
   all_goals (go_ret; exact ⟨rfl,rfl⟩)
  ·go_enter Tryz.func109,Tryz.ntmps109
   go_wp2
   all_goals (go_ret; exact ⟨rfl,rfl⟩)
set_option maxHeartbeats 4000000 in
set_option maxRecDepth 1000000 in
theorem dw109 : rX Tryz.prog 109 45 40 8:=by
 intro b n cap i j w hn hm hlt hj i0 hi0 hz1 A hA news s1 hsrc s2 s3 W1 W2 hW hcl
 have hic : i ≤ cap:=by omega
 have hjc : j ≤ cap:=by omega
 have tS : Tryz.prog.underlying 45 = some (.slice 40):=by kernel_rfl
 have mixed : Tryz.prog.follows .mixedOrders = true:=Checked.mixed Tryz.checked
 go_enter Tryz.func109,Tryz.ntmps109
 go_wp2_with fail
 go_region_law_o (refine step_append_room rfl (.tmp 22) (.tmp 25) 45 rfl 40 i0 8 tS hi0 hz1 b 0 i cap (by simp [Act.eval,Act.put]) A (n - j) (cap - j) news (by simp [Act.eval,Act.put]) s1.out hsrc.out s2.out (by omega) s3.out ?_; rw [← hW.out])
 go_wp2
 go_ret
 exact ⟨rfl,rfl⟩
theorem ok109 : FnOk Tryz.prog 109 sp109:=wz tok (te:=row40) (by kernel_rfl) (by kernel_rfl) (sz:=8) (by kernel_rfl) (Nat.blt_eq.mp (by kernel_rfl)) (by kernel_rfl : Tryz.prog.underlying 45 = some (.slice 40)) ⟨Tryz.f109,by kernel_rfl,by kernel_rfl,by kernel_rfl⟩ dn109 dw109
theorem ok81 : FnOk Tryz.prog 81 sp81:=fo (nv:=8) (h:=h81) (ae ok107 (ae ok108 (ae ok109 am))) Tryz.func81
theorem Cg : FnOk Tryz.prog 135 BC:=fnOk (nv:=10) (h:=h135) tok mix am Tryz.func135 (by kernel_rfl) (by kernel_rfl) (by kernel_rfl) (by kernel_rfl) (by kernel_rfl)
theorem ov135 (w : World) (a b : Value) (h : (Extern.SlicesOverlaps.overlaps #[29,29] #[4] #[a,b]).run Tryz.prog w = .ok (.bool false) w) : (callFunc 150 #[a,b]).run Tryz.prog w = .ok (.value (.bool false)) w:=by
 rw [run_callFunc_extern Tryz.func150 (by kernel_rfl) (by kernel_rfl) (by kernel_rfl) (e:=Extern.SlicesOverlaps.overlaps #[29,29] #[4]) (by kernel_rfl),h]
 rfl
set_option maxHeartbeats 4000000 in
set_option maxRecDepth 1000000 in
theorem iw135 : mT Tryz.prog 135 29 14 150:=by
 intro b n c i vb vc w W1 W2 hi hroom hc63 hov hcp1 hcp2
 have tS : Tryz.prog.underlying 29 = some (.slice 47):=by kernel_rfl
 have mixed : Tryz.prog.follows .mixedOrders = true:=Checked.mixed Tryz.checked
 have hz2 : ¬ ((i : Int) = (n : Int)):=by omega
 have hw1 : IntKind.i64.wrap ((i : Int) + 1) = (i : Int) + 1:=by rw [IntKind.wrap_i64]; omega
 have hw2 : IntKind.i64.wrap ((n : Int) + 1) = (n : Int) + 1:=by rw [IntKind.wrap_i64]; omega
 have hb1 : (0 : Int) ≤ (i : Int) + 1:=by omega
 have hb0 : (0 : Int) ≤ (n : Int) + 1:=by omega
 have hin : i ≤ n:=by omega
 have htn : ((i : Int) + 1).toNat = i + 1:=by omega
 have htm : ((n : Int) + 1).toNat = n + 1:=by omega
 have hb2 : ¬ (c = i + 1):=by omega
 have hb3 : (i : Int) ≤ (n : Int) + 1:=by omega
 have hb4 : ¬ (c = i):=by omega
 go_enter Tryz.func135,Tryz.ntmps135
 go_wp2_with (simp only [hov])
 go_region_law_o (refine b7 rfl _ _ 29 29 rfl _ _ (by simp [Act.eval,Act.put]) (by simp [Act.eval,Act.put]) (hcp1 _ _ _) ?_)
 go_wp2_with (at_builtin; refine bg _ rfl _ _ 29 29 rfl _ _ rfl rfl (hcp2 _ _) ?_)
 go_ret
 exact ⟨rfl,rfl⟩
set_option maxHeartbeats 4000000 in
set_option maxRecDepth 1000000 in
theorem ig135 : pG Tryz.prog 135 29 3 14:=by
 intro b n i vb vc nb G w W0 W1 W2 hi hn hG hG63 hap hcpA hcpB
 have tS : Tryz.prog.underlying 29 = some (.slice 47):=by kernel_rfl
 have mixed : Tryz.prog.follows .mixedOrders = true:=Checked.mixed Tryz.checked
 have hz2 : ¬ ((i : Int) = (n : Int)):=by omega
 have hz3 : (n : Int) < (n : Int) + 1:=by omega
 have hw1 : IntKind.i64.wrap ((i : Int) + 1) = (i : Int) + 1:=by rw [IntKind.wrap_i64]; omega
 have hw2 : IntKind.i64.wrap ((n : Int) + 1) = (n : Int) + 1:=by rw [IntKind.wrap_i64]; omega
 have hw3 : IntKind.i64.wrap ((n : Int) + 1 - (i : Int)) = (n : Int) + 1 - (i : Int):=by rw [IntKind.wrap_i64]; omega
 have hb1 : (0 : Int) ≤ (i : Int) + 1:=by omega
 have hin : i ≤ n:=by omega
 have htn : ((i : Int) + 1).toNat = i + 1:=by omega
 have hb3 : (i : Int) ≤ (n : Int):=by omega
 have hGi : ¬ (G = i):=by omega
 have hGim : ¬ (G = i + 1):=by omega
 have hci : ¬ (n = i):=by omega
 go_enter Tryz.func135,Tryz.ntmps135
 go_wp2_with (first
  | (at_builtin; refine Lib.wpList_append_run _ rfl _ _ _ _ rfl _ _ rfl rfl _ _ (hap _) ?_)
  | (at_builtin; refine bg _ rfl _ _ 29 29 rfl _ _ rfl rfl (hcpA _ _) ?_))
 go_region_law_o (refine b7 rfl _ _ 29 29 rfl (.slice (some ⟨nb,(i + 1) * 14,none⟩) (n - i) (G - (i + 1))) (.slice (some ⟨b,i * 14,none⟩) (n - i) (n - i)) (by simp [Act.eval,Act.put]) (by simp [Act.eval,Act.put]) (hcpB _ _ _) ?_)
 go_wp2
 go_ret
 exact ⟨rfl,rfl⟩
theorem ok135 : FnOk Tryz.prog 135 sp135:=uj tok (te:=row47) (tb:=4) (by kernel_rfl) (by kernel_rfl) (sz:=14) (by kernel_rfl) (Nat.blt_eq.mp (by kernel_rfl)) (Nat.ble_eq.mp (by kernel_rfl)) (by kernel_rfl : Tryz.prog.underlying 29 = some (.slice 47)) (by kernel_rfl : Tryz.prog.underlying 3 = some (.int .i64)) ⟨Tryz.f135,by kernel_rfl,by kernel_rfl,by kernel_rfl⟩ ov135 Cg iw135 ig135
theorem ok110 : FnOk Tryz.prog 110 sp110:=fo (nv:=7) (h:=h110) (ae ok33 (ae ok135 am)) Tryz.func110
theorem ok82 : FnOk Tryz.prog 82 sp82:=fo (nv:=5) (h:=h82) (ae ok30 (ae ok66 (ae ok110 am))) Tryz.func82
theorem Cq : FnOk Tryz.prog 83 Cy:=fnOk (nv:=10) (h:=h83) tok mix am Tryz.func83 (by kernel_rfl) (by kernel_rfl) (by kernel_rfl) (by kernel_rfl) (by kernel_rfl)
theorem ov83 (w : World) (a b : Value) (h : (Extern.SlicesOverlaps.overlaps #[30,30] #[4] #[a,b]).run Tryz.prog w = .ok (.bool false) w) : (callFunc 111 #[a,b]).run Tryz.prog w = .ok (.value (.bool false)) w:=by
 rw [run_callFunc_extern Tryz.func111 (by kernel_rfl) (by kernel_rfl) (by kernel_rfl) (e:=Extern.SlicesOverlaps.overlaps #[30,30] #[4]) (by kernel_rfl),h]
 rfl
set_option maxHeartbeats 4000000 in
set_option maxRecDepth 1000000 in
theorem iw83 : mT Tryz.prog 83 30 9 111:=by
 intro b n c i vb vc w W1 W2 hi hroom hc63 hov hcp1 hcp2
 have tS : Tryz.prog.underlying 30 = some (.slice 42):=by kernel_rfl
 have mixed : Tryz.prog.follows .mixedOrders = true:=Checked.mixed Tryz.checked
 have hz2 : ¬ ((i : Int) = (n : Int)):=by omega
 have hw1 : IntKind.i64.wrap ((i : Int) + 1) = (i : Int) + 1:=by rw [IntKind.wrap_i64]; omega
 have hw2 : IntKind.i64.wrap ((n : Int) + 1) = (n : Int) + 1:=by rw [IntKind.wrap_i64]; omega
 have hb1 : (0 : Int) ≤ (i : Int) + 1:=by omega
 have hb0 : (0 : Int) ≤ (n : Int) + 1:=by omega
 have hin : i ≤ n:=by omega
 have htn : ((i : Int) + 1).toNat = i + 1:=by omega
 have htm : ((n : Int) + 1).toNat = n + 1:=by omega
 have hb2 : ¬ (c = i + 1):=by omega
 have hb3 : (i : Int) ≤ (n : Int) + 1:=by omega
 have hb4 : ¬ (c = i):=by omega
 go_enter Tryz.func83,Tryz.ntmps83
 go_wp2_with (simp only [hov])
 go_region_law_o (refine b7 rfl _ _ 30 30 rfl _ _ (by simp [Act.eval,Act.put]) (by simp [Act.eval,Act.put]) (hcp1 _ _ _) ?_)
 go_wp2_with (at_builtin; refine bg _ rfl _ _ 30 30 rfl _ _ rfl rfl (hcp2 _ _) ?_)
 go_ret
 exact ⟨rfl,rfl⟩
set_option maxHeartbeats 4000000 in
set_option maxRecDepth 1000000 in
theorem ig83 : pG Tryz.prog 83 30 3 9:=by
 intro b n i vb vc nb G w W0 W1 W2 hi hn hG hG63 hap hcpA hcpB
 have tS : Tryz.prog.underlying 30 = some (.slice 42):=by kernel_rfl
 have mixed : Tryz.prog.follows .mixedOrders = true:=Checked.mixed Tryz.checked
 have hz2 : ¬ ((i : Int) = (n : Int)):=by omega
 have hz3 : (n : Int) < (n : Int) + 1:=by omega
 have hw1 : IntKind.i64.wrap ((i : Int) + 1) = (i : Int) + 1:=by rw [IntKind.wrap_i64]; omega
 have hw2 : IntKind.i64.wrap ((n : Int) + 1) = (n : Int) + 1:=by rw [IntKind.wrap_i64]; omega
 have hw3 : IntKind.i64.wrap ((n : Int) + 1 - (i : Int)) = (n : Int) + 1 - (i : Int):=by rw [IntKind.wrap_i64]; omega
 have hb1 : (0 : Int) ≤ (i : Int) + 1:=by omega
 have hin : i ≤ n:=by omega
 have htn : ((i : Int) + 1).toNat = i + 1:=by omega
 have hb3 : (i : Int) ≤ (n : Int):=by omega
 have hGi : ¬ (G = i):=by omega
 have hGim : ¬ (G = i + 1):=by omega
 have hci : ¬ (n = i):=by omega
 go_enter Tryz.func83,Tryz.ntmps83
 go_wp2_with (first
  | (at_builtin; refine Lib.wpList_append_run _ rfl _ _ _ _ rfl _ _ rfl rfl _ _ (hap _) ?_)
  | (at_builtin; refine bg _ rfl _ _ 30 30 rfl _ _ rfl rfl (hcpA _ _) ?_))
 go_region_law_o (refine b7 rfl _ _ 30 30 rfl (.slice (some ⟨nb,(i + 1) * 9,none⟩) (n - i) (G - (i + 1))) (.slice (some ⟨b,i * 9,none⟩) (n - i) (n - i)) (by simp [Act.eval,Act.put]) (by simp [Act.eval,Act.put]) (hcpB _ _ _) ?_)
 go_wp2
 go_ret
 exact ⟨rfl,rfl⟩
theorem ok83 : FnOk Tryz.prog 83 sp83:=uj tok (te:=row42) (tb:=4) (by kernel_rfl) (by kernel_rfl) (sz:=9) (by kernel_rfl) (Nat.blt_eq.mp (by kernel_rfl)) (Nat.ble_eq.mp (by kernel_rfl)) (by kernel_rfl : Tryz.prog.underlying 30 = some (.slice 42)) (by kernel_rfl : Tryz.prog.underlying 3 = some (.int .i64)) ⟨Tryz.f83,by kernel_rfl,by kernel_rfl,by kernel_rfl⟩ ov83 Cq iw83 ig83
theorem ok52 : FnOk Tryz.prog 52 sp52:=fo (nv:=9) (h:=h52) (ae ok81 (ae ok82 (ae ok83 am))) Tryz.func52
theorem ok17 : FnOk Tryz.prog 17 sp17:=fo (nv:=12) (h:=h17) (ae ok40 (ae ok41 (ae ok42 (ae ok43 (ae ok44 (ae ok45 (ae ok46 (ae ok47 (ae ok48 (ae ok49 (ae ok50 (ae ok51 (ae ok52 am))))))))))))) Tryz.func17
theorem ok137 : FnOk Tryz.prog 137 sp137:=fo (nv:=14) (h:=h137) (ae ok130 am) Tryz.func137
shelf_lay_g Go.Proofs.SlLaysF0.n6 Slsf 6 at Tryz 138 as lay138
theorem ok138 : FnOk Tryz.prog 138 sp138:=AM (ρ:=lay138_ren) (n:=12) lay138 (by intro w; kernel_rfl) (by intro w; kernel_rfl) (by kernel_rfl) (Nat.blt_eq.mp (by kernel_rfl)) ⟨Tryz.f138,by kernel_rfl,by kernel_rfl,by kernel_rfl⟩
theorem ok116 : FnOk Tryz.prog 116 sp116:=fo (nv:=9) (h:=h116) am Tryz.func116
theorem ok177 : FnOk Tryz.prog 177 sp177:=fo (nv:=9) (h:=h177) (ae ok147 am) Tryz.func177
theorem ok189 : FnOk Tryz.prog 189 sp189:=fo (nv:=9) (h:=h189) am Tryz.func189
theorem ok190 : FnOk Tryz.prog 190 sp190:=fo (nv:=2) (h:=h190) am Tryz.func190
theorem ok191 : FnOk Tryz.prog 191 sp191:=fo (nv:=2) (h:=h191) am Tryz.func191
theorem ok176 : FnOk Tryz.prog 176 sp176:=fo (nv:=7) (h:=h176) (ae ok177 (ae ok189 (ae ok190 (ae ok191 am)))) Tryz.func176
theorem ok155 : FnOk Tryz.prog 155 sp155:=fo (nv:=8) (h:=h155) (ae ok96 (ae ok176 (ae ok177 am))) Tryz.func155
theorem ok178 : FnOk Tryz.prog 178 sp178:=fo (nv:=1) (h:=h178) am Tryz.func178
theorem ok156 : FnOk Tryz.prog 156 sp156:=fo (nv:=7) (h:=h156) (ae ok178 am) Tryz.func156
theorem ok139 : FnOk Tryz.prog 139 sp139:=fo (nv:=4) (h:=h139) (ae ok116 (ae ok155 (ae ok156 am))) Tryz.func139
theorem ok113 : FnOk Tryz.prog 113 sp113:=fo (nv:=44) (h:=h113) (ae ok76 (ae ok77 (ae ok137 (ae ok138 (ae ok139 am))))) Tryz.func113
theorem Ao : ∀ n,FnOk Tryz.prog 84 (Cu n)
 | 0 => ⟨⟨Tryz.f84,by kernel_rfl,by kernel_rfl,by kernel_rfl⟩,fun a r hr => nomatch (show (none : Option _) = some r from hr)⟩
 | n + 1 => fnOk (nv:=29) (h:=h84) tok mix (ae (Ao n) (ae ok113 am)) Tryz.func84 (by kernel_rfl) (by kernel_rfl) (by kernel_rfl) (by kernel_rfl) (by kernel_rfl)
theorem ok84 : FnOk Tryz.prog 84 sp84:=Ao 64
theorem ok53 : FnOk Tryz.prog 53 sp53:=fo (nv:=3) (h:=h53) (ae ok84 am) Tryz.func53
theorem ok157 : FnOk Tryz.prog 157 sp157:=fo (nv:=10) (h:=h157) am Tryz.func157
theorem ok192 : FnOk Tryz.prog 192 sp192:=fo (nv:=11) (h:=h192) am Tryz.func192
theorem ok179 : FnOk Tryz.prog 179 sp179:=fo (nv:=12) (h:=h179) (ae ok192 am) Tryz.func179
theorem yL : ∀ n,FnOk Tryz.prog 158 (Bw n)
 | 0 => ⟨⟨Tryz.f158,by kernel_rfl,by kernel_rfl,by kernel_rfl⟩,fun a r hr => nomatch (show (none : Option _) = some r from hr)⟩
 | n + 1 => fnOk (nv:=25) (h:=h158) tok mix (ae (yL n) (ae ok179 am)) Tryz.func158 (by kernel_rfl) (by kernel_rfl) (by kernel_rfl) (by kernel_rfl) (by kernel_rfl)
theorem ok158 : FnOk Tryz.prog 158 sp158:=yL 64
theorem ok140 : FnOk Tryz.prog 140 sp140:=fo (nv:=10) (h:=h140) (ae ok157 (ae ok158 am)) Tryz.func140
theorem ok114 : FnOk Tryz.prog 114 sp114:=fo (nv:=2) (h:=h114) (ae ok140 am) Tryz.func114
theorem ok141 : FnOk Tryz.prog 141 sp141:=fo (nv:=1) (h:=h141) am Tryz.func141
theorem ok117 : FnOk Tryz.prog 117 sp117:=fo (nv:=7) (h:=h117) (ae ok141 am) Tryz.func117
theorem ok115 : FnOk Tryz.prog 115 sp115:=fo (nv:=4) (h:=h115) (ae ok116 (ae ok117 am)) Tryz.func115
theorem ok85 : FnOk Tryz.prog 85 sp85:=fo (nv:=39) (h:=h85) (ae ok44 (ae ok114 (ae ok115 am))) Tryz.func85
theorem ok118 : FnOk Tryz.prog 118 sp118:=fo (nv:=7) (h:=h118) (ae ok107 (ae ok108 am)) Tryz.func118
theorem ok87 : FnOk Tryz.prog 87 sp87:=fo (nv:=7) (h:=h87) (ae ok82 (ae ok118 am)) Tryz.func87
theorem ok119 : FnOk Tryz.prog 119 sp119:=fo (nv:=2) (h:=h119) (ae ok40 am) Tryz.func119
theorem ok120 : FnOk Tryz.prog 120 sp120:=fo (nv:=4) (h:=h120) am Tryz.func120
theorem Cf : FnOk Tryz.prog 121 Bp:=fnOk (nv:=10) (h:=h121) tok mix am Tryz.func121 (by kernel_rfl) (by kernel_rfl) (by kernel_rfl) (by kernel_rfl) (by kernel_rfl)
theorem ov121 (w : World) (a b : Value) (h : (Extern.SlicesOverlaps.overlaps #[31,31] #[4] #[a,b]).run Tryz.prog w = .ok (.bool false) w) : (callFunc 142 #[a,b]).run Tryz.prog w = .ok (.value (.bool false)) w:=by
 rw [run_callFunc_extern Tryz.func142 (by kernel_rfl) (by kernel_rfl) (by kernel_rfl) (e:=Extern.SlicesOverlaps.overlaps #[31,31] #[4]) (by kernel_rfl),h]
 rfl
set_option maxHeartbeats 4000000 in
set_option maxRecDepth 1000000 in
theorem iw121 : mT Tryz.prog 121 31 3 142:=by
 intro b n c i vb vc w W1 W2 hi hroom hc63 hov hcp1 hcp2
 have tS : Tryz.prog.underlying 31 = some (.slice 51):=by kernel_rfl
 have mixed : Tryz.prog.follows .mixedOrders = true:=Checked.mixed Tryz.checked
 have hz2 : ¬ ((i : Int) = (n : Int)):=by omega
 have hw1 : IntKind.i64.wrap ((i : Int) + 1) = (i : Int) + 1:=by rw [IntKind.wrap_i64]; omega
 have hw2 : IntKind.i64.wrap ((n : Int) + 1) = (n : Int) + 1:=by rw [IntKind.wrap_i64]; omega
 have hb1 : (0 : Int) ≤ (i : Int) + 1:=by omega
 have hb0 : (0 : Int) ≤ (n : Int) + 1:=by omega
 have hin : i ≤ n:=by omega
 have htn : ((i : Int) + 1).toNat = i + 1:=by omega
 have htm : ((n : Int) + 1).toNat = n + 1:=by omega
 have hb2 : ¬ (c = i + 1):=by omega
 have hb3 : (i : Int) ≤ (n : Int) + 1:=by omega
 have hb4 : ¬ (c = i):=by omega
 go_enter Tryz.func121,Tryz.ntmps121
 go_wp2_with (simp only [hov])
 go_region_law_o (refine b7 rfl _ _ 31 31 rfl _ _ (by simp [Act.eval,Act.put]) (by simp [Act.eval,Act.put]) (hcp1 _ _ _) ?_)
 go_wp2_with (at_builtin; refine bg _ rfl _ _ 31 31 rfl _ _ rfl rfl (hcp2 _ _) ?_)
 go_ret
 exact ⟨rfl,rfl⟩
set_option maxHeartbeats 4000000 in
set_option maxRecDepth 1000000 in
theorem ig121 : pG Tryz.prog 121 31 3 3:=by
 intro b n i vb vc nb G w W0 W1 W2 hi hn hG hG63 hap hcpA hcpB
 have tS : Tryz.prog.underlying 31 = some (.slice 51):=by kernel_rfl
 have mixed : Tryz.prog.follows .mixedOrders = true:=Checked.mixed Tryz.checked
 have hz2 : ¬ ((i : Int) = (n : Int)):=by omega
 have hz3 : (n : Int) < (n : Int) + 1:=by omega
 have hw1 : IntKind.i64.wrap ((i : Int) + 1) = (i : Int) + 1:=by rw [IntKind.wrap_i64]; omega
 have hw2 : IntKind.i64.wrap ((n : Int) + 1) = (n : Int) + 1:=by rw [IntKind.wrap_i64]; omega
 have hw3 : IntKind.i64.wrap ((n : Int) + 1 - (i : Int)) = (n : Int) + 1 - (i : Int):=by rw [IntKind.wrap_i64]; omega
 have hb1 : (0 : Int) ≤ (i : Int) + 1:=by omega
 have hin : i ≤ n:=by omega
 have htn : ((i : Int) + 1).toNat = i + 1:=by omega
 have hb3 : (i : Int) ≤ (n : Int):=by omega
 have hGi : ¬ (G = i):=by omega
 have hGim : ¬ (G = i + 1):=by omega
 have hci : ¬ (n = i):=by omega
 go_enter Tryz.func121,Tryz.ntmps121
 go_wp2_with (first
  | (at_builtin; refine Lib.wpList_append_run _ rfl _ _ _ _ rfl _ _ rfl rfl _ _ (hap _) ?_)
  | (at_builtin; refine bg _ rfl _ _ 31 31 rfl _ _ rfl rfl (hcpA _ _) ?_))
 go_region_law_o (refine b7 rfl _ _ 31 31 rfl (.slice (some ⟨nb,(i + 1) * 3,none⟩) (n - i) (G - (i + 1))) (.slice (some ⟨b,i * 3,none⟩) (n - i) (n - i)) (by simp [Act.eval,Act.put]) (by simp [Act.eval,Act.put]) (hcpB _ _ _) ?_)
 go_wp2
 go_ret
 exact ⟨rfl,rfl⟩
theorem ok121 : FnOk Tryz.prog 121 sp121:=uj tok (te:=row51) (tb:=4) (by kernel_rfl) (by kernel_rfl) (sz:=3) (by kernel_rfl) (Nat.blt_eq.mp (by kernel_rfl)) (Nat.ble_eq.mp (by kernel_rfl)) (by kernel_rfl : Tryz.prog.underlying 31 = some (.slice 51)) (by kernel_rfl : Tryz.prog.underlying 3 = some (.int .i64)) ⟨Tryz.f121,by kernel_rfl,by kernel_rfl,by kernel_rfl⟩ ov121 Cf iw121 ig121
theorem ok88 : FnOk Tryz.prog 88 sp88:=fo (nv:=8) (h:=h88) (ae ok119 (ae ok120 (ae ok121 am))) Tryz.func88
theorem ok54 : FnOk Tryz.prog 54 sp54:=fo (nv:=59) (h:=h54) (ae ok42 (ae ok46 (ae ok47 (ae ok48 (ae ok49 (ae ok50 (ae ok52 (ae ok85 (ae ok86 (ae ok87 (ae ok88 am))))))))))) Tryz.func54
theorem ok18 : FnOk Tryz.prog 18 sp18:=fo (nv:=8) (h:=h18) (ae ok45 (ae ok53 (ae ok54 am))) Tryz.func18
theorem ok7 : FnOk Tryz.prog 7 sp7:=fo (nv:=11) (h:=h7) (ae ok14 (ae ok15 (ae ok16 (ae ok17 (ae ok18 am))))) Tryz.func7
theorem ok10 : FnOk Tryz.prog 10 sp10:=fo (nv:=1) (h:=h10) am Tryz.func10
theorem ok19 : FnOk Tryz.prog 19 sp19:=fo (nv:=7) (h:=h19) am Tryz.func19
theorem ok22 : FnOk Tryz.prog 22 sp22:=fo (nv:=1) (h:=h22) am Tryz.func22
theorem ok23 : FnOk Tryz.prog 23 sp23:=fo (nv:=7) (h:=h23) am Tryz.func23
theorem ok11 : FnOk Tryz.prog 11 sp11:=fo (nv:=8) (h:=h11) (ae ok19 (ae ok22 (ae ok23 am))) Tryz.func11
theorem ok13 : FnOk Tryz.prog 13 sp13:=fo (nv:=7) (h:=h13) am Tryz.func13
theorem ok24 : FnOk Tryz.prog 24 sp24:=fo (nv:=1) (h:=h24) am Tryz.func24
theorem ok25 : FnOk Tryz.prog 25 sp25:=fo (nv:=2) (h:=h25) am Tryz.func25
theorem ok56 : FnOk Tryz.prog 56 sp56:=fo (nv:=8) (h:=h56) am Tryz.func56
theorem ok89 : FnOk Tryz.prog 89 sp89:=fo (nv:=4) (h:=h89) am Tryz.func89
theorem ok57 : FnOk Tryz.prog 57 sp57:=fo (nv:=7) (h:=h57) (ae ok89 am) Tryz.func57
theorem ok26 : FnOk Tryz.prog 26 sp26:=fo (nv:=3) (h:=h26) (ae ok56 (ae ok57 am)) Tryz.func26
theorem ok27 : FnOk Tryz.prog 27 sp27:=fo (nv:=6) (h:=h27) (ae ok25 am) Tryz.func27
theorem ok28 : FnOk Tryz.prog 28 sp28:=fo (nv:=7) (h:=h28) am Tryz.func28
theorem ok29 : FnOk Tryz.prog 29 sp29:=fo (nv:=2) (h:=h29) am Tryz.func29
theorem ok12 : FnOk Tryz.prog 12 sp12:=fo (nv:=10) (h:=h12) (ae ok13 (ae ok24 (ae ok25 (ae ok26 (ae ok27 (ae ok28 (ae ok29 am))))))) Tryz.func12
theorem ok4 : FnOk Tryz.prog 4 sp4:=fo (nv:=6) (h:=h4) (ae ok7 (ae ok10 (ae ok11 (ae ok12 (ae ok13 am))))) Tryz.func4
theorem ok5 : FnOk Tryz.prog 5 sp5:=fo (nv:=6) (h:=h5) am Tryz.func5
theorem ok6 : FnOk Tryz.prog 6 sp6:=fo (nv:=9) (h:=h6) (ae ok10 (ae ok10 (ae ok11 am))) Tryz.func6
theorem ok8 : FnOk Tryz.prog 8 sp8:=fo (nv:=7) (h:=h8) am Tryz.func8
theorem ok20 : FnOk Tryz.prog 20 sp20:=fo (nv:=5) (h:=h20) am Tryz.func20
theorem ok55 : FnOk Tryz.prog 55 sp55:=fo (nv:=5) (h:=h55) am Tryz.func55
theorem ok21 : FnOk Tryz.prog 21 sp21:=fo (nv:=7) (h:=h21) (ae ok55 am) Tryz.func21
theorem ok9 : FnOk Tryz.prog 9 sp9:=fo (nv:=6) (h:=h9) (ae ok19 (ae ok20 (ae ok21 am))) Tryz.func9
theorem ok3 : FnOk Tryz.prog 3 sp3:=fo (nv:=12) (h:=h3) (ae ok4 (ae ok4 (ae ok5 (ae ok6 (ae ok7 (ae ok8 (ae ok9 am))))))) Tryz.func3
end Go.Fx.D
