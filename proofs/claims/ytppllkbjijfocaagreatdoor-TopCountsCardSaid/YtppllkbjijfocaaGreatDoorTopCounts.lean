/-
  The law TopCounts returns true at every input, and its arguments read as they did. Conditions: none beyond the given statement's.
-/
import Derived.Test.YtppllkbjijfocaaGreatDoorC
import Derived.Test.YtppllkbjijfocaaGreatDoorL2
import Derived.Test.YtppllkbjijfocaaGreatDoorFxC
import Derived.Test.YtppllkbjijfocaaGreatDoorK
import Derived.Test.YtppllkbjijfocaaGreatDoorTie
import Derived.Test.YtppllkbjijfocaaGreatDoorCards
import Derived.Lay
import Derived.LaidOnce
import Derived.SevenTiedAt
import Derived.WalkKit
import Derived.ProofKit
import Derived.OpenShut
import Derived.JoinedCond
namespace Go.Proofs.YtppllkbjijfocaaGreatDoor.topCounts
open Go.ChangeShapes Go.WideShapes Go.ChangeAt Go.RowKit Go.Fx Go.Fx.D
set_option linter.unusedVariables false
set_option maxRecDepth 100000
theorem own:ownKnob Tryz.prog.godebug=none:=by kernel_rfl
theorem contract(H:Type)(enc:TypeId×Value→H)(W:World)(base:Nat)(args:Array Value)(ds gs:List (DataW H))(before:List MemPlace)
  (hval:∀(j:Nat) t v,Tryz.f4.params[j]? = some t→args[j]? = some v→Value.okWide Tryz.prog W .any base t v)
  (hW:DataW.Whole enc Tryz.prog Tryz.f4.params.toList Rows.topCountsSpec.vars false W args.toList ds gs before) :
  Calls Tryz.prog 4 args W λe W'=>∃v,e = .returned v∧Rows.topCountsSpec.post enc Tryz.prog Tryz.f4 false true false false W args v W':=by
 have hW':=hW;obtain⟨p,q,hA0,hV,rfl,hfz,hnd⟩:=hW;have hA:DataW.TrodAll enc Tryz.prog W 0 (λ_=>true) true Tryz.f4.params.toList args.toList ds p:=hA0;rw[Tryz.params4]at hA hval;obtain⟨v0,UZ,d0,ds0,p0,q0,hargs,rfl,rfl,h0,r0⟩:=trodAll_cons hA;obtain⟨rfl,rfl,rfl⟩:=trodAll_nil r0
 obtain rfl:args = #[v0]:=by cases args;simp_all
 obtain⟨rfl,rfl⟩:=trodVars_none hV
 obtain⟨a0,w0,k0⟩:=aiZ (F:=fam) (tt:=.st 12) (by kernel_rfl) (hval 0 25 v0 rfl rfl) h0
 exact Fu pf.laid (by kernel_rfl) rfl rfl Tryz.underlying4 hW' rfl (Bv (D:=λa=>dA a.1) (a:=(a0,())) ok4 (by kernel_rfl) (wh a0 w0) (Cl k0 FG))
set_option maxRecDepth 100000 in
theorem lifted(os:Os)(started:os.Started)(H:Type)(enc:TypeId×Value→H) :
  ReturnsInHanded {} Tryz.checked os 4 .any (λw args=>(Rows.topCountsSpec.pre enc Tryz.prog Tryz.f4 [] false w args∧laidMetH Tryz.prog Rows.topCountsRow.laid w)∧sizedMet enc Tryz.prog Tryz.f4 (OpenSpec.ofChange Rows.topCountsSpec) false w args)
   (Rows.topCountsSpec.post enc Tryz.prog Tryz.f4 false true false false):=by
 refine returnsInHanded_of_change_and (C:=Tryz.checked) (X:=λw _=>laidMetH Tryz.prog Rows.topCountsRow.laid w) (λ_ _ _ hh h=>h.of_heap hh) own started (by kernel_rfl) Tryz.func4
  (ChangeSpec.witness_shaped (enc:=enc) (C:=Tryz.checked) (os:=os) (X:=λw _=>laidMetH Tryz.prog Rows.topCountsRow.laid w) false (World.laidAll Tryz.prog os Rows.topCountsRow.laid) #[.agg #[.int .i64 0,.slice none 0 0,.slice none 0 0]] 8 (World.laidAll_os _ _ _)
   (World.shaped_of_ZipB (by kernel_rfl) (by kernel_rfl)) (by kernel_rfl) (by kernel_rfl) (by kernel_rfl)
   (by rw[MakeChecks.laidMetH_plain _ _ _ (by kernel_rfl)];exact laidMet_laidAll _ (by kernel_rfl) (by kernel_rfl))) ?_
 intro W base args ds gs before hval0 hW _ _ hL _;exact contract H enc W base args ds gs before hval0 hW
theorem over:Rows.topCountsRow.holds Tryz.pinned (OpenSpec.ofChange Rows.topCountsSpec):=
 OpenClaim.holds_of_wide 4 Tryz.f4 rfl rfl rfl rfl rfl rfl rfl ⟨rfl,rfl,rfl,rfl,rfl⟩ rfl rfl rfl rfl rfl k.named Tryz.func4 k.closed
  (of_decide_eq_true (by kernel_rfl)) (by unfold Func.isWrapper;first | (rw[if_pos (by decide +kernel)];kernel_rfl) | (rw[if_neg (by decide +kernel)];exact⟨rfl,rfl⟩))
  (λos started H enc _=>lifted os started H enc)
theorem cWf:Rows.topCountsRow.wfByText (OpenSpec.ofChange Rows.topCountsSpec)=true:=by kernel_rfl
theorem ajK : Tryz.prog.mainIs = some (true,"03a7b23d0a619411a76add75d374eec38670e3b1dc90fe8cb605e606db7b26f5".toList):=by kernel_rfl
theorem Iv : Tryz.prog.funcNamed "dispatch/dispatchtop.TopCounts" = some 4:=by kernel_rfl
theorem H4:true=Tryz.prog.looks []:=by kernel_rfl
theorem IX:([25].all λu=>!Tryz.prog.wantsStandIn u)=true:=by kernel_rfl
theorem anB:Tryz.prog.funcs.toList.all (λfn=>!fn.goes)=true:=by kernel_rfl
theorem Y1(fn:Func)(h:fn∈Tryz.prog.funcs):fn.goes=false:=by have:=Oe.1 anB fn (Array.mem_toList_iff.2 h);simpa using this
theorem Io(f:FuncId):Tryz.prog.goes f=false:=by
 unfold Program.goes
 have h1:(Tryz.prog.funcs.any Func.goes)=false:=by rw[Array.any_eq_false'];intro fn h;rw[Y1 fn h];simp
 rw[h1,Bool.and_false,Bool.or_false,QfC];intro g _
 cases hg:Tryz.prog.funcs[g]? with
 | none=>simp
 | some fn=>simp[Y1 fn (Array.mem_of_getElem? hg)]
theorem ajL:false=Rows.topCountsRow.goesBy Tryz.prog:=by
 unfold OpenClaim.goesBy Program.goesAt Program.goesFrom
 cases Tryz.prog.funcNamed Rows.topCountsRow.func with
 | none=>rfl
 | some f=>rw[Option.any_some,Io];rfl
theorem proved:Rows.TopCountsCardSaid:=
 Claim7.holds_tied_plain_at .later [] [.data,.data,.data,.data,.sentinel,.sentinel,.pinned] true (true,"03a7b23d0a619411a76add75d374eec38670e3b1dc90fe8cb605e606db7b26f5") true over (fun _ h => by cases h) cWf (fun _ h => by cases h) topCounts_row_tie rfl ⟨rfl,rfl⟩ ajK rfl
  (λf fn hf hfn=>by
   obtain rfl:f=4:=Option.some.inj (Iv.symm.trans hf) |>.symm;obtain rfl:fn=Tryz.f4:=(Option.some.inj (Tryz.func4.symm.trans hfn)).symm
   exact⟨H4,λj t ht=>by
    rw[Tryz.params4]at ht
    have hm:t∈[25]:=by simpa using Array.mem_of_getElem? ht
    exact(show Tryz.prog.wantsStandIn t=false by simpa using Oe.1 IX t hm)⟩)
  ajL
end Go.Proofs.YtppllkbjijfocaaGreatDoor.topCounts
