/-
  The law VictimsAsk returns true at every input, and its arguments read as they did. Conditions: none beyond the given statement's.
-/
import Derived.Test.YtdickabkndfjhaaGreatC
import Derived.Test.YtdickabkndfjhaaGreatL
import Derived.Test.YtdickabkndfjhaaGreatFxC
import Derived.Test.YtdickabkndfjhaaGreatK
import Derived.Test.YtdickabkndfjhaaGreatRows
import Derived.WalkKit
import Derived.ProofKit
import Derived.OpenShut
import Derived.JoinedCond
namespace Go.Proofs.YtdickabkndfjhaaGreat.victimsAsk
open Go.ChangeShapes Go.WideShapes Go.ChangeAt Go.RowKit Go.Fx Go.Fx.D
set_option linter.unusedVariables false
set_option maxRecDepth 100000
theorem own:ownKnob Tryz.prog.godebug=none:=by kernel_rfl
theorem contract(H:Type)(enc:TypeId×Value→H)(W:World)(base:Nat)(args:Array Value)(ds gs:List (DataW H))(before:List MemPlace)
  (hval:∀(j:Nat) t v,Tryz.f3.params[j]? = some t→args[j]? = some v→Value.okWide Tryz.prog W .any base t v)
  (hW:DataW.Whole enc Tryz.prog Tryz.f3.params.toList Rows.victimsAskSpec.vars false W args.toList ds gs before) :
  Calls Tryz.prog 3 args W λe W'=>∃v,e = .returned v∧Rows.victimsAskSpec.post enc Tryz.prog Tryz.f3 false true false false W args v W':=by
 have hW':=hW;obtain⟨p,q,hA0,hV,rfl,hfz,hnd⟩:=hW;have hA:DataW.TrodAll enc Tryz.prog W 0 (λ_=>true) true Tryz.f3.params.toList args.toList ds p:=hA0;rw[Tryz.params3]at hA hval;obtain⟨v0,YJ,d0,ds0,p0,q0,hargs,rfl,rfl,h0,r0⟩:=trodAll_cons hA;obtain⟨v1,vs1,d1,ds1,p1,q1,rfl,rfl,rfl,h1,r1⟩:=trodAll_cons r0;obtain⟨v2,vs2,d2,ds2,p2,q2,rfl,rfl,rfl,h2,r2⟩:=trodAll_cons r1;obtain⟨rfl,rfl,rfl⟩:=trodAll_nil r2
 obtain rfl:args = #[v0,v1,v2]:=by cases args;simp_all
 obtain⟨rfl,rfl⟩:=trodVars_none hV
 obtain⟨a0,w0,k0⟩:=D3 (F:=fam) (tt:=.st 12) (by kernel_rfl) (hval 0 25 v0 rfl rfl) h0
 obtain⟨a1,w1,k1⟩:=D3 (F:=fam) (tt:=.slice (.int .i64)) (by kernel_rfl) (hval 1 22 v1 rfl rfl) h1
 obtain⟨a2,w2,k2⟩:=D3 (F:=fam) (tt:=.int .i64) (by kernel_rfl) (hval 2 3 v2 rfl rfl) h2
 exact G6 pf.laid (by kernel_rfl) rfl rfl Tryz.underlying4 hW' rfl (Dp (D:=λa=>cP a.1 a.2.1 a.2.2.1) (a:=(a0,a1,a2,())) ok3 (by kernel_rfl) (wN a0 a1 a2) (ut k0 (ut k1 (ut k2 HP))))
set_option maxRecDepth 100000 in
theorem lifted(os:Os)(started:os.Started)(H:Type)(enc:TypeId×Value→H) :
  ReturnsInHanded {} Tryz.checked os 3 .any (Rows.victimsAskSpec.pre6 enc Tryz.prog Tryz.f3 Rows.victimsAskRow.domain false) (Rows.victimsAskSpec.post enc Tryz.prog Tryz.f3 false true false false):=by
 refine returnsInHanded_of_change (C:=Tryz.checked) own started (by kernel_rfl) Tryz.func3
  (ChangeSpec.witness6 (enc:=enc) (C:=Tryz.checked) false ⟨#[],#[.agg #[.int .i64 0,.slice none 0 0,.slice none 0 0],.slice none 0 0,.int .i64 0],[]⟩ 8 (by kernel_rfl) (by kernel_rfl) (by kernel_rfl) (by kernel_rfl)) ?_
 intro W base args ds gs before hval0 hW hcnd _;exact contract H enc W base args ds gs before hval0 hW
theorem over:Rows.victimsAskRow.holds Tryz.pinned (OpenSpec.ofChange Rows.victimsAskSpec):=
 OpenClaim.holds_of_wide 3 Tryz.f3 rfl rfl rfl rfl rfl rfl rfl ⟨rfl,rfl,rfl,rfl,rfl⟩ rfl rfl rfl rfl rfl k.named Tryz.func3 k.closed
  (of_decide_eq_true (by kernel_rfl)) (by unfold Func.isWrapper;first | (rw[if_pos (by decide +kernel)];kernel_rfl) | (rw[if_neg (by decide +kernel)];exact⟨rfl,rfl⟩))
  (λos started H enc _=>lifted os started H enc)
theorem proved:Rows.VictimsAskSaid:=over
end Go.Proofs.YtdickabkndfjhaaGreat.victimsAsk
