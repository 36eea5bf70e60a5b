/-
  The law VictimsOver returns true at every input, and its arguments read as they did. Conditions: none beyond the given statement's.
-/
import Derived.Test.YtdickabkndfjhaaGreatC
import Derived.Test.YtdickabkndfjhaaGreatL
import Derived.Test.YtdickabkndfjhaaGreatFxC
import Derived.Test.YtdickabkndfjhaaGreatK
import Derived.Test.YtdickabkndfjhaaGreatRows
import Derived.WalkKit
import Derived.ProofKit
import Derived.OpenShut
import Derived.JoinedCond
namespace Go.Proofs.YtdickabkndfjhaaGreat.victimsOver
open Go.ChangeShapes Go.WideShapes Go.ChangeAt Go.RowKit Go.Fx Go.Fx.D
set_option linter.unusedVariables false
set_option maxRecDepth 100000
theorem own:ownKnob Tryz.prog.godebug=none:=by kernel_rfl
theorem contract(H:Type)(enc:TypeId×Value→H)(W:World)(base:Nat)(args:Array Value)(ds gs:List (DataW H))(before:List MemPlace)
  (hval:∀(j:Nat) t v,Tryz.f4.params[j]? = some t→args[j]? = some v→Value.okWide Tryz.prog W .any base t v)
  (hW:DataW.Whole enc Tryz.prog Tryz.f4.params.toList Rows.victimsOverSpec.vars false W args.toList ds gs before) :
  Calls Tryz.prog 4 args W λe W'=>∃v,e = .returned v∧Rows.victimsOverSpec.post enc Tryz.prog Tryz.f4 false true false false W args v W':=by
 have hW':=hW;obtain⟨p,q,hA0,hV,rfl,hfz,hnd⟩:=hW;have hA:DataW.TrodAll enc Tryz.prog W 0 (λ_=>true) true Tryz.f4.params.toList args.toList ds p:=hA0;rw[Tryz.params4]at hA hval;obtain⟨v0,Yq,d0,ds0,p0,q0,hargs,rfl,rfl,h0,r0⟩:=trodAll_cons hA;obtain⟨v1,vs1,d1,ds1,p1,q1,rfl,rfl,rfl,h1,r1⟩:=trodAll_cons r0;obtain⟨v2,vs2,d2,ds2,p2,q2,rfl,rfl,rfl,h2,r2⟩:=trodAll_cons r1;obtain⟨rfl,rfl,rfl⟩:=trodAll_nil r2
 obtain rfl:args = #[v0,v1,v2]:=by cases args;simp_all
 obtain⟨rfl,rfl⟩:=trodVars_none hV
 obtain⟨a0,w0,k0⟩:=DC (F:=fam) (tt:=.st 12) (by kernel_rfl) (hval 0 25 v0 rfl rfl) h0
 obtain⟨a1,w1,k1⟩:=DC (F:=fam) (tt:=.slice (.int .i64)) (by kernel_rfl) (hval 1 22 v1 rfl rfl) h1
 obtain⟨a2,w2,k2⟩:=DC (F:=fam) (tt:=.int .i64) (by kernel_rfl) (hval 2 3 v2 rfl rfl) h2
 exact GF pf.laid (by kernel_rfl) rfl rfl Tryz.underlying4 hW' rfl (C0 (D:=λa=>dL a.1 a.2.1 a.2.2.1) (a:=(a0,a1,a2,())) ok4 (by kernel_rfl) (u9 a0 a1 a2 w0 w1 w2) (tQ k0 (tQ k1 (tQ k2 Hi))))
set_option maxRecDepth 100000 in
theorem lifted(os:Os)(started:os.Started)(H:Type)(enc:TypeId×Value→H) :
  ReturnsInHanded {} Tryz.checked os 4 .any (Rows.victimsOverSpec.pre6 enc Tryz.prog Tryz.f4 Rows.victimsOverRow.domain false) (Rows.victimsOverSpec.post enc Tryz.prog Tryz.f4 false true false false):=by
 refine returnsInHanded_of_change (C:=Tryz.checked) own started (by kernel_rfl) Tryz.func4
  (ChangeSpec.witness6 (enc:=enc) (C:=Tryz.checked) false ⟨#[],#[.agg #[.int .i64 0,.slice none 0 0,.slice none 0 0],.slice none 0 0,.int .i64 0],[]⟩ 8 (by kernel_rfl) (by kernel_rfl) (by kernel_rfl) (by kernel_rfl)) ?_
 intro W base args ds gs before hval0 hW hcnd _;exact contract H enc W base args ds gs before hval0 hW
theorem over:Rows.victimsOverRow.holds Tryz.pinned (OpenSpec.ofChange Rows.victimsOverSpec):=
 OpenClaim.holds_of_wide 4 Tryz.f4 rfl rfl rfl rfl rfl rfl rfl ⟨rfl,rfl,rfl,rfl,rfl⟩ rfl rfl rfl rfl rfl k.named Tryz.func4 k.closed
  (of_decide_eq_true (by kernel_rfl)) (by unfold Func.isWrapper;first | (rw[if_pos (by decide +kernel)];kernel_rfl) | (rw[if_neg (by decide +kernel)];exact⟨rfl,rfl⟩))
  (λos started H enc _=>lifted os started H enc)
theorem proved:Rows.VictimsOverSaid:=over
end Go.Proofs.YtdickabkndfjhaaGreat.victimsOver
