/-
  The law TopTakesBack returns true at every input, and its arguments read as they did. Conditions: none beyond the given statement's.
-/
import Derived.Test.YtkagmokhbmbjdaaGreatDoorC
import Derived.Test.YtkagmokhbmbjdaaGreatDoorW
import Derived.Test.YtkagmokhbmbjdaaGreatDoorFxC
import Derived.Test.YtkagmokhbmbjdaaGreatDoorK
import Derived.Test.YtkagmokhbmbjdaaGreatDoorTie
import Derived.Test.YtkagmokhbmbjdaaGreatDoorCards
import Derived.Lay
import Derived.LaidOnce
import Derived.SevenTiedAt
import Derived.WalkKit
import Derived.ProofKit
import Derived.OpenShut
import Derived.JoinedCond
namespace Go.Proofs.YtkagmokhbmbjdaaGreatDoor.topTakesBack
open Go.ChangeShapes Go.WideShapes Go.ChangeAt Go.RowKit Go.Fx Go.Fx.D
set_option linter.unusedVariables false
set_option maxRecDepth 100000
theorem own:ownKnob Tryz.prog.godebug=none:=by kernel_rfl
theorem contract(H:Type)(enc:TypeId×Value→H)(W:World)(base:Nat)(args:Array Value)(ds gs:List (DataW H))(before:List MemPlace)
  (hval:∀(j:Nat) t v,Tryz.f3.params[j]? = some t→args[j]? = some v→Value.okWide Tryz.prog W .any base t v)
  (hW:DataW.Whole enc Tryz.prog Tryz.f3.params.toList Rows.topTakesBackSpec.vars false W args.toList ds gs before) :
  Calls Tryz.prog 3 args W λe W'=>∃v,e = .returned v∧Rows.topTakesBackSpec.post enc Tryz.prog Tryz.f3 false true false false W args v W':=by
 have hW':=hW;obtain⟨p,q,hA0,hV,rfl,hfz,hnd⟩:=hW;have hA:DataW.TrodAll enc Tryz.prog W 0 (λ_=>true) true Tryz.f3.params.toList args.toList ds p:=hA0;rw[Tryz.params3]at hA hval;obtain⟨v0,vs0,d0,ds0,p0,q0,hargs,rfl,rfl,h0,r0⟩:=trodAll_cons hA;obtain⟨v1,vs1,d1,ds1,p1,q1,rfl,rfl,rfl,h1,r1⟩:=trodAll_cons r0;obtain⟨v2,vs2,d2,ds2,p2,q2,rfl,rfl,rfl,h2,r2⟩:=trodAll_cons r1;obtain⟨rfl,rfl,rfl⟩:=trodAll_nil r2
 obtain rfl:args = #[v0,v1,v2]:=by cases args;simp_all
 obtain⟨rfl,rfl⟩:=trodVars_none hV
 obtain⟨a0,w0,k0⟩:=FQ (F:=fam) (tt:=.int .i64) (by kernel_rfl) (hval 0 3 v0 rfl rfl) h0
 obtain⟨a1,w1,k1⟩:=FQ (F:=fam) (tt:=.int .i64) (by kernel_rfl) (hval 1 3 v1 rfl rfl) h1
 obtain⟨a2,w2,k2⟩:=FQ (F:=fam) (tt:=.bool) (by kernel_rfl) (hval 2 4 v2 rfl rfl) h2
 exact Iq pf.laid (by kernel_rfl) rfl rfl Tryz.underlying4 hW' rfl (Ft (D:=λa=>ak a.1 a.2.1 a.2.2.1) (a:=(a0,a1,a2,())) ok3 (by kernel_rfl) (yt a0 a1 a2 w0 w1 w2) (xD k0 (xD k1 (xD k2 Ii))))
set_option maxRecDepth 100000 in
theorem lifted(os:Os)(started:os.Started)(H:Type)(enc:TypeId×Value→H) :
  ReturnsInHanded {} Tryz.checked os 3 .any (λw args=>(Rows.topTakesBackSpec.pre enc Tryz.prog Tryz.f3 [] false w args∧laidMetH Tryz.prog Rows.topTakesBackRow.laid w)∧sizedMet enc Tryz.prog Tryz.f3 (OpenSpec.ofChange Rows.topTakesBackSpec) false w args)
   (Rows.topTakesBackSpec.post enc Tryz.prog Tryz.f3 false true false false):=by
 refine returnsInHanded_of_change_and (C:=Tryz.checked) (X:=λw _=>laidMetH Tryz.prog Rows.topTakesBackRow.laid w) (λ_ _ _ hh h=>h.of_heap hh) own started (by kernel_rfl) Tryz.func3
  (ChangeSpec.witness_shaped (enc:=enc) (C:=Tryz.checked) (os:=os) (X:=λw _=>laidMetH Tryz.prog Rows.topTakesBackRow.laid w) false (World.laidAll Tryz.prog os Rows.topTakesBackRow.laid) #[.int .i64 0,.int .i64 0,.bool false] 8 (World.laidAll_os _ _ _)
   (World.shaped_of_ZipB (by kernel_rfl) (by kernel_rfl)) (by kernel_rfl) (by kernel_rfl) (by kernel_rfl)
   (by rw[MakeChecks.laidMetH_plain _ _ _ (by kernel_rfl)];exact laidMet_laidAll _ (by kernel_rfl) (by kernel_rfl))) ?_
 intro W base args ds gs before hval0 hW _ _ hL _;exact contract H enc W base args ds gs before hval0 hW
theorem over:Rows.topTakesBackRow.holds Tryz.pinned (OpenSpec.ofChange Rows.topTakesBackSpec):=
 OpenClaim.holds_of_wide 3 Tryz.f3 rfl rfl rfl rfl rfl rfl rfl ⟨rfl,rfl,rfl,rfl,rfl⟩ rfl rfl rfl rfl rfl k.named Tryz.func3 k.closed
  (of_decide_eq_true (by kernel_rfl)) (by unfold Func.isWrapper;first | (rw[if_pos (by decide +kernel)];kernel_rfl) | (rw[if_neg (by decide +kernel)];exact⟨rfl,rfl⟩))
  (λos started H enc _=>lifted os started H enc)
theorem cWf:Rows.topTakesBackRow.wfByText (OpenSpec.ofChange Rows.topTakesBackSpec)=true:=by kernel_rfl
theorem cMain : Tryz.prog.mainIs = some (true,"fe42702ee00ab1ddd7329486b538d36e7ff005ac4c944bbd0e67de9cbd8af58c".toList):=by kernel_rfl
theorem LL : Tryz.prog.funcNamed "dispatch/dispatchtop.TopTakesBack" = some 3:=by kernel_rfl
theorem J9:true=Tryz.prog.looks []:=by kernel_rfl
theorem Lx:([3,3,4].all λu=>!Tryz.prog.wantsStandIn u)=true:=by kernel_rfl
theorem noGo:Tryz.prog.funcs.toList.all (λfn=>!fn.goes)=true:=by kernel_rfl
theorem noGo1(fn:Func)(h:fn∈Tryz.prog.funcs):fn.goes=false:=by have:=List.all_eq_true.1 noGo fn (Array.mem_toList_iff.2 h);simpa using this
theorem K3(f:FuncId):Tryz.prog.goes f=false:=by
 unfold Program.goes
 have h1:(Tryz.prog.funcs.any Func.goes)=false:=by rw[Array.any_eq_false'];intro fn h;rw[noGo1 fn h];simp
 rw[h1,Bool.and_false,Bool.or_false,List.any_eq_false];intro g _
 cases hg:Tryz.prog.funcs[g]? with
 | none=>simp
 | some fn=>simp[noGo1 fn (Array.mem_of_getElem? hg)]
theorem cGoes:false=Rows.topTakesBackRow.goesBy Tryz.prog:=by
 unfold OpenClaim.goesBy Program.goesAt Program.goesFrom
 cases Tryz.prog.funcNamed Rows.topTakesBackRow.func with
 | none=>rfl
 | some f=>rw[Option.any_some,K3];rfl
theorem proved:Rows.TopTakesBackCardSaid:=
 Claim7.holds_tied_plain_at .later [] [.data,.data,.data,.data,.sentinel,.sentinel,.pinned] true (true,"fe42702ee00ab1ddd7329486b538d36e7ff005ac4c944bbd0e67de9cbd8af58c") true over (fun _ h => by cases h) cWf (fun _ h => by cases h) topTakesBack_row_tie rfl ⟨rfl,rfl⟩ cMain rfl
  (λf fn hf hfn=>by
   obtain rfl:f=3:=Option.some.inj (LL.symm.trans hf) |>.symm;obtain rfl:fn=Tryz.f3:=(Option.some.inj (Tryz.func3.symm.trans hfn)).symm
   exact⟨J9,λj t ht=>by
    rw[Tryz.params3]at ht
    have hm:t∈[3,3,4]:=by simpa using Array.mem_of_getElem? ht
    exact(show Tryz.prog.wantsStandIn t=false by simpa using List.all_eq_true.1 Lx t hm)⟩)
  cGoes
end Go.Proofs.YtkagmokhbmbjdaaGreatDoor.topTakesBack
