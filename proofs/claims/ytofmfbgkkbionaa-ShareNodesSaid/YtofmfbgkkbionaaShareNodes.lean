/-
  The law ShareNodes returns true at every input, and its arguments read as they did. Conditions: none beyond the given statement's.
-/
import Derived.Test.YtofmfbgkkbionaaC
import Derived.Test.YtofmfbgkkbionaaL
import Derived.Test.YtofmfbgkkbionaaFxC
import Derived.Test.YtofmfbgkkbionaaK
import Derived.Test.YtofmfbgkkbionaaRows
import Derived.WalkKit
import Derived.ProofKit
import Derived.OpenShut
import Derived.JoinedCond
namespace Go.Proofs.Ytofmfbgkkbionaa.shareNodes
open Go.ChangeShapes Go.WideShapes Go.ChangeAt Go.RowKit Go.Fx Go.Fx.D
set_option linter.unusedVariables false
set_option maxRecDepth 100000
theorem own : ownKnob Try.prog.godebug = none:=by kernel_rfl
theorem contract (H : Type) (enc : TypeId × Value → H) (W : World) (base : Nat) (args : Array Value) (ds gs : List (DataW H)) (before : List MemPlace)
  (hval : ∀ (j : Nat) t v,Try.f3.params[j]? = some t → args[j]? = some v → Value.okWide Try.prog W .any base t v)
  (hW : DataW.Whole enc Try.prog Try.f3.params.toList Rows.shareNodesSpec.vars false W args.toList ds gs before) :
  Calls Try.prog 3 args W fun e W' => ∃ v,e = .returned v ∧ Rows.shareNodesSpec.post enc Try.prog Try.f3 false true false false W args v W':=by
 have hW':=hW
 obtain ⟨p,q,hA0,hV,rfl,hfz,hnd⟩:=hW
 have hA : DataW.TrodAll enc Try.prog W 0 (fun _ => true) true Try.f3.params.toList args.toList ds p:=hA0
 rw [Try.params3] at hA hval
 obtain ⟨v0,vs0,d0,ds0,p0,q0,hargs,rfl,rfl,h0,r0⟩:=trodAll_cons hA
 obtain ⟨v1,vs1,d1,ds1,p1,q1,rfl,rfl,rfl,h1,r1⟩:=trodAll_cons r0
 obtain ⟨v2,vs2,d2,ds2,p2,q2,rfl,rfl,rfl,h2,r2⟩:=trodAll_cons r1
 obtain ⟨rfl,rfl,rfl⟩:=trodAll_nil r2
 obtain rfl : args = #[v0,v1,v2]:=by cases args; simp_all
 obtain ⟨rfl,rfl⟩:=trodVars_none hV
 obtain ⟨a0,w0,k0⟩:=ov (F:=fam) (tt:=.slice (.st 0)) (by kernel_rfl) (hval 0 22 v0 rfl rfl) h0
 obtain ⟨a1,w1,k1⟩:=ov (F:=fam) (tt:=.slice (.bool)) (by kernel_rfl) (hval 1 23 v1 rfl rfl) h1
 obtain ⟨a2,w2,k2⟩:=ov (F:=fam) (tt:=.slice (.int .i64)) (by kernel_rfl) (hval 2 24 v2 rfl rfl) h2
 exact pX pf.laid (by kernel_rfl) rfl rfl Try.underlying4 hW' rfl (nO (D:=fun a => bA a.1 a.2.1 a.2.2.1) (a:=(a0,a1,a2,())) ok3 (by kernel_rfl) (je a0 a1 a2 ) (gM k0 (gM k1 (gM k2 pU))))
set_option maxRecDepth 100000 in
theorem lifted (os : Os) (started : os.Started) (H : Type) (enc : TypeId × Value → H) :
  ReturnsInHanded {} Try.checked os 3 .any (Rows.shareNodesSpec.pre6 enc Try.prog Try.f3 Rows.shareNodesRow.domain false) (Rows.shareNodesSpec.post enc Try.prog Try.f3 false true false false):=by
 refine returnsInHanded_of_change (C:=Try.checked) own started (by kernel_rfl) Try.func3
  (ChangeSpec.witness6 (enc:=enc) (C:=Try.checked) false ⟨#[],#[.slice none 0 0,.slice none 0 0,.slice none 0 0],[]⟩ 8 (by kernel_rfl) (by kernel_rfl) (by kernel_rfl) (by kernel_rfl)) ?_
 intro W base args ds gs before hval0 hW hcnd _
 exact contract H enc W base args ds gs before hval0 hW
theorem over : Rows.shareNodesRow.holds Try.pinned (OpenSpec.ofChange Rows.shareNodesSpec) :=
 OpenClaim.holds_of_wide 3 Try.f3 rfl rfl rfl rfl rfl rfl rfl ⟨rfl,rfl,rfl,rfl,rfl⟩ rfl rfl rfl rfl rfl k.named Try.func3 k.closed
  (of_decide_eq_true (by kernel_rfl)) (by unfold Func.isWrapper; first | (rw [if_pos (by decide +kernel)]; kernel_rfl) | (rw [if_neg (by decide +kernel)]; exact ⟨rfl,rfl⟩))
  (fun os started H enc _ => lifted os started H enc)
theorem proved : Rows.ShareNodesSaid:=over
end Go.Proofs.Ytofmfbgkkbionaa.shareNodes
