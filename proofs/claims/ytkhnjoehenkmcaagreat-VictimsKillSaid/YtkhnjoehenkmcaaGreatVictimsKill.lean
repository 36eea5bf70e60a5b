/-
  The law VictimsKill returns true at every input, and its arguments read as they did. Conditions: none beyond the given statement's.
-/
import Derived.Test.YtkhnjoehenkmcaaGreatC
import Derived.Test.YtkhnjoehenkmcaaGreatU
import Derived.Test.YtkhnjoehenkmcaaGreatFxC
import Derived.Test.YtkhnjoehenkmcaaGreatK
import Derived.Test.YtkhnjoehenkmcaaGreatRows
import Derived.WalkKit
import Derived.ProofKit
import Derived.OpenShut
import Derived.JoinedCond
namespace Go.Proofs.YtkhnjoehenkmcaaGreat.victimsKill
open Go.ChangeShapes Go.WideShapes Go.ChangeAt Go.RowKit Go.Fx Go.Fx.D
set_option linter.unusedVariables false
set_option maxRecDepth 100000
theorem own : ownKnob Tryz.prog.godebug = none:=by kernel_rfl
theorem contract (H : Type) (enc : TypeId × Value → H) (W : World) (base : Nat) (args : Array Value) (ds gs : List (DataW H)) (before : List MemPlace)
  (hval : ∀ (j : Nat) t v,Tryz.f6.params[j]? = some t → args[j]? = some v → Value.okWide Tryz.prog W .any base t v)
  (hW : DataW.Whole enc Tryz.prog Tryz.f6.params.toList Rows.victimsKillSpec.vars false W args.toList ds gs before) :
  Calls Tryz.prog 6 args W fun e W' => ∃ v,e = .returned v ∧ Rows.victimsKillSpec.post enc Tryz.prog Tryz.f6 false true false false W args v W':=by
 have hW':=hW
 obtain ⟨p,q,hA0,hV,rfl,hfz,hnd⟩:=hW
 have hA : DataW.TrodAll enc Tryz.prog W 0 (fun _ => true) true Tryz.f6.params.toList args.toList ds p:=hA0
 rw [Tryz.params6] at hA hval
 obtain ⟨v0,vs0,d0,ds0,p0,q0,hargs,rfl,rfl,h0,r0⟩:=trodAll_cons hA
 obtain ⟨v1,vs1,d1,ds1,p1,q1,rfl,rfl,rfl,h1,r1⟩:=trodAll_cons r0
 obtain ⟨rfl,rfl,rfl⟩:=trodAll_nil r1
 obtain rfl : args = #[v0,v1]:=by cases args; simp_all
 obtain ⟨rfl,rfl⟩:=trodVars_none hV
 obtain ⟨a0,w0,k0⟩:=FO (F:=fam) (tt:=.int .i64) (by kernel_rfl) (hval 0 3 v0 rfl rfl) h0
 obtain ⟨a1,w1,k1⟩:=FO (F:=fam) (tt:=.int .i64) (by kernel_rfl) (hval 1 3 v1 rfl rfl) h1
 exact Fa pf.laid (by kernel_rfl) rfl rfl Tryz.underlying4 hW' rfl (C9 (D:=fun a => ao a.1 a.2.1) (a:=(a0,a1,())) ok6 (by kernel_rfl) (xu a0 a1 w0 w1) (Ad k0 (Ad k1 EE)))
set_option maxRecDepth 100000 in
theorem lifted (os : Os) (started : os.Started) (H : Type) (enc : TypeId × Value → H) :
  ReturnsInHanded {} Tryz.checked os 6 .any (Rows.victimsKillSpec.pre6 enc Tryz.prog Tryz.f6 Rows.victimsKillRow.domain false) (Rows.victimsKillSpec.post enc Tryz.prog Tryz.f6 false true false false):=by
 refine returnsInHanded_of_change (C:=Tryz.checked) own started (by kernel_rfl) Tryz.func6
  (ChangeSpec.witness6 (enc:=enc) (C:=Tryz.checked) false ⟨#[],#[.int .i64 0,.int .i64 0],[]⟩ 8 (by kernel_rfl) (by kernel_rfl) (by kernel_rfl) (by kernel_rfl)) ?_
 intro W base args ds gs before hval0 hW hcnd _
 exact contract H enc W base args ds gs before hval0 hW
theorem over : Rows.victimsKillRow.holds Tryz.pinned (OpenSpec.ofChange Rows.victimsKillSpec) :=
 OpenClaim.holds_of_wide 6 Tryz.f6 rfl rfl rfl rfl rfl rfl rfl ⟨rfl,rfl,rfl,rfl,rfl⟩ rfl rfl rfl rfl rfl k.named Tryz.func6 k.closed
  (of_decide_eq_true (by kernel_rfl)) (by unfold Func.isWrapper; first | (rw [if_pos (by decide +kernel)]; kernel_rfl) | (rw [if_neg (by decide +kernel)]; exact ⟨rfl,rfl⟩))
  (fun os started H enc _ => lifted os started H enc)
theorem proved : Rows.VictimsKillSaid:=over
end Go.Proofs.YtkhnjoehenkmcaaGreat.victimsKill
