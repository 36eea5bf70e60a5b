/-
  The law VictimsGrace returns true at every input, and its arguments read as they did. Conditions: none beyond the given statement's.
-/
import Derived.Test.YtkhnjoehenkmcaaGreatC
import Derived.Test.YtkhnjoehenkmcaaGreatU
import Derived.Test.YtkhnjoehenkmcaaGreatFxC
import Derived.Test.YtkhnjoehenkmcaaGreatK
import Derived.Test.YtkhnjoehenkmcaaGreatRows
import Derived.WalkKit
import Derived.ProofKit
import Derived.OpenShut
import Derived.JoinedCond
namespace Go.Proofs.YtkhnjoehenkmcaaGreat.victimsGrace
open Go.ChangeShapes Go.WideShapes Go.ChangeAt Go.RowKit Go.Fx Go.Fx.D
set_option linter.unusedVariables false
set_option maxRecDepth 100000
theorem own : ownKnob Tryz.prog.godebug = none:=by kernel_rfl
theorem contract (H : Type) (enc : TypeId × Value → H) (W : World) (base : Nat) (args : Array Value) (ds gs : List (DataW H)) (before : List MemPlace)
  (hval : ∀ (j : Nat) t v,Tryz.f5.params[j]? = some t → args[j]? = some v → Value.okWide Tryz.prog W .any base t v)
  (hW : DataW.Whole enc Tryz.prog Tryz.f5.params.toList Rows.victimsGraceSpec.vars false W args.toList ds gs before) :
  Calls Tryz.prog 5 args W fun e W' => ∃ v,e = .returned v ∧ Rows.victimsGraceSpec.post enc Tryz.prog Tryz.f5 false true false false W args v W':=by
 have hW':=hW
 obtain ⟨p,q,hA0,hV,rfl,hfz,hnd⟩:=hW
 have hA : DataW.TrodAll enc Tryz.prog W 0 (fun _ => true) true Tryz.f5.params.toList args.toList ds p:=hA0
 rw [Tryz.params5] at hA hval
 obtain ⟨v0,vs0,d0,ds0,p0,q0,hargs,rfl,rfl,h0,r0⟩:=trodAll_cons hA
 obtain ⟨v1,vs1,d1,ds1,p1,q1,rfl,rfl,rfl,h1,r1⟩:=trodAll_cons r0
 obtain ⟨v2,vs2,d2,ds2,p2,q2,rfl,rfl,rfl,h2,r2⟩:=trodAll_cons r1
 obtain ⟨rfl,rfl,rfl⟩:=trodAll_nil r2
 obtain rfl : args = #[v0,v1,v2]:=by cases args; simp_all
 obtain ⟨rfl,rfl⟩:=trodVars_none hV
 obtain ⟨a0,w0,k0⟩:=Ct (F:=fam) (tt:=.int .i64) (by kernel_rfl) (hval 0 3 v0 rfl rfl) h0
 obtain ⟨a1,w1,k1⟩:=Ct (F:=fam) (tt:=.int .i64) (by kernel_rfl) (hval 1 3 v1 rfl rfl) h1
 obtain ⟨a2,w2,k2⟩:=Ct (F:=fam) (tt:=.bool) (by kernel_rfl) (hval 2 4 v2 rfl rfl) h2
 exact D4 pf.laid (by kernel_rfl) rfl rfl Tryz.underlying4 hW' rfl (Cj (D:=fun a => aH a.1 a.2.1 a.2.2.1) (a:=(a0,a1,a2,())) ok5 (by kernel_rfl) (vT a0 a1 a2 w0 w1 w2) (uZ k0 (uZ k1 (uZ k2 Ey))))
set_option maxRecDepth 100000 in
theorem lifted (os : Os) (started : os.Started) (H : Type) (enc : TypeId × Value → H) :
  ReturnsInHanded {} Tryz.checked os 5 .any (Rows.victimsGraceSpec.pre6 enc Tryz.prog Tryz.f5 Rows.victimsGraceRow.domain false) (Rows.victimsGraceSpec.post enc Tryz.prog Tryz.f5 false true false false):=by
 refine returnsInHanded_of_change (C:=Tryz.checked) own started (by kernel_rfl) Tryz.func5
  (ChangeSpec.witness6 (enc:=enc) (C:=Tryz.checked) false ⟨#[],#[.int .i64 0,.int .i64 0,.bool false],[]⟩ 8 (by kernel_rfl) (by kernel_rfl) (by kernel_rfl) (by kernel_rfl)) ?_
 intro W base args ds gs before hval0 hW hcnd _
 exact contract H enc W base args ds gs before hval0 hW
theorem over : Rows.victimsGraceRow.holds Tryz.pinned (OpenSpec.ofChange Rows.victimsGraceSpec) :=
 OpenClaim.holds_of_wide 5 Tryz.f5 rfl rfl rfl rfl rfl rfl rfl ⟨rfl,rfl,rfl,rfl,rfl⟩ rfl rfl rfl rfl rfl k.named Tryz.func5 k.closed
  (of_decide_eq_true (by kernel_rfl)) (by unfold Func.isWrapper; first | (rw [if_pos (by decide +kernel)]; kernel_rfl) | (rw [if_neg (by decide +kernel)]; exact ⟨rfl,rfl⟩))
  (fun os started H enc _ => lifted os started H enc)
theorem proved : Rows.VictimsGraceSaid:=over
end Go.Proofs.YtkhnjoehenkmcaaGreat.victimsGrace
