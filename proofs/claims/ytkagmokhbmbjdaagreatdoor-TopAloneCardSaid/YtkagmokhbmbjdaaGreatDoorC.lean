/-
  Each of these functions does what its function over plain data says, where that gives an answer (printed by a program). Conditions: none.
-/
import Derived.Test.YtkagmokhbmbjdaaGreatDoorFxD
import Derived.Ground.SlsfProg
import Derived.Ground.NamesProg
import Derived.Shelf.Lay
import Derived.Shelf.Strings.SlTrimAscii
import Derived.Shelf.Strconv.Atoi
import Derived.Test.YtkagmokhbmbjdaaGreatDoorD
import Derived.Test.YtkagmokhbmbjdaaGreatDoorFxC
import Derived.Test.YtkagmokhbmbjdaaGreatDoorChecked
import Derived.WalkKit
import Derived.TacticsInMore
import Derived.Lib.IndexBytes
import Derived.Deep.LoopGhost
import Derived.Shelf.RegionOpenPlain
import Derived.Lib.Walk
import Derived.LoopNIn
import Derived.LoopIn
namespace Go.Fx.D
open Go Go.Fx Go.Proofs Go.Shelf Go.RowKit Go.Lib Go.Sort
set_option linter.unusedVariables false
set_option maxRecDepth 100000
theorem rk{t:TypeId}{i:TI fam}(j:TypeInfo)(h1:Tryz.prog.underlying t=some i.desc:=by kernel_rfl)(h2:Tryz.prog.info? t=some j:=by kernel_rfl)(h3:j.zero=some (j.zero.getD .nilFunc):=by kernel_rfl)(h4:(Nat.beq j.size i.size&&Nat.beq j.bytes i.bytes&&Nat.beq (j.zero.getD .nilFunc).cells.size i.size&&zok i.zero (j.zero.getD .nilFunc).cells.toList&&(aggV (j.zero.getD .nilFunc) == dH i.desc))=true:=by kernel_rfl)(h5:tyOk i=true:=by kernel_rfl)(h6:eqOkB Tryz.prog t i=true:=by kernel_rfl):RowOk Tryz.prog t i:=⟨h1,⟨j,_,h2,h3,h4⟩,h5,h6⟩
theorem G6:RowOk Tryz.prog 3 row3:=rk Tryz.t3
theorem Ho:RowOk Tryz.prog 4 row4:=rk Tryz.t4
theorem G3:RowOk Tryz.prog 5 row5:=rk Tryz.t5
theorem Hg:RowOk Tryz.prog 9 row9:=rk Tryz.t9
theorem AX:RowOk Tryz.prog 24 row24:=rk Tryz.t24
theorem Az:RowOk Tryz.prog 25 row25:=rk Tryz.t25
theorem Gi:RowOk Tryz.prog 27 row27:=rk Tryz.t27
theorem AI:RowOk Tryz.prog 28 row28:=rk Tryz.t28
theorem Ap:RowOk Tryz.prog 29 row29:=rk Tryz.t29
theorem AC:RowOk Tryz.prog 30 row30:=rk Tryz.t30
theorem Au:RowOk Tryz.prog 31 row31:=rk Tryz.t31
theorem AU:RowOk Tryz.prog 32 row32:=rk Tryz.t32
theorem Ew:RowOk Tryz.prog 34 row34:=rk Tryz.t34
theorem FA:RowOk Tryz.prog 40 row40:=rk Tryz.t40
theorem Ff:RowOk Tryz.prog 42 row42:=rk Tryz.t42
theorem AW:RowOk Tryz.prog 43 row43:=rk Tryz.t43
theorem Aq:RowOk Tryz.prog 44 row44:=rk Tryz.t44
theorem EJ:RowOk Tryz.prog 46 row46:=rk Tryz.t46
theorem EK:RowOk Tryz.prog 48 row48:=rk Tryz.t48
theorem Ge:RowOk Tryz.prog 50 row50:=rk Tryz.t50
theorem Es:RowOk Tryz.prog 53 row53:=rk Tryz.t53
theorem FI:RowOk Tryz.prog 60 row60:=rk Tryz.t60
theorem GA:RowOk Tryz.prog 62 row62:=rk Tryz.t62
theorem DV:RowOk Tryz.prog 68 row68:=rk Tryz.t68
theorem DU:RowOk Tryz.prog 71 row71:=rk Tryz.t71
theorem DP:RowOk Tryz.prog 75 row75:=rk Tryz.t75
theorem AO:RowOk Tryz.prog 76 row76:=rk Tryz.t76
theorem GN:RowOk Tryz.prog 78 row78:=rk Tryz.t78
theorem Ex:RowOk Tryz.prog 81 row81:=rk Tryz.t81
theorem E1:RowOk Tryz.prog 91 row91:=rk Tryz.t91
theorem E_:RowOk Tryz.prog 93 row93:=rk Tryz.t93
theorem Gn:RowOk Tryz.prog 96 row96:=rk Tryz.t96
theorem CE:RowOk Tryz.prog 103 Cu:=rk Tryz.t103
theorem CP:RowOk Tryz.prog 126 BH:=rk Tryz.t126
theorem Cz:RowOk Tryz.prog 137 BS:=rk Tryz.t137
theorem Dq:RowOk Tryz.prog 191 BK:=rk Tryz.t191
theorem C_:RowOk Tryz.prog 194 BR:=rk Tryz.t194
theorem Db:RowOk Tryz.prog 196 Ch:=rk Tryz.t196
theorem DA:RowOk Tryz.prog 221 Ct:=rk Tryz.t221
theorem CX:RowOk Tryz.prog 223 BG:=rk Tryz.t223
theorem C3:RowOk Tryz.prog 250 Cf:=rk Tryz.t250
theorem Dp:RowOk Tryz.prog 292 BJ:=rk Tryz.t292
theorem CL:RowOk Tryz.prog 315 BT:=rk Tryz.t315
theorem CF:RowOk Tryz.prog 333 B9:=rk Tryz.t333
theorem C5:RowOk Tryz.prog 362 Ca:=rk Tryz.t362
theorem Dl:RowOk Tryz.prog 364 BX:=rk Tryz.t364
theorem tok:TblOk Tryz.prog (look tbl):=tblOk (all_cons G6 (all_cons Ho (all_cons G3 (all_cons Hg (all_cons AX (all_cons Az (all_cons Gi (all_cons AI (all_cons Ap (all_cons AC (all_cons Au (all_cons AU (all_cons Ew (all_cons FA (all_cons Ff (all_cons AW (all_cons Aq (all_cons EJ (all_cons EK (all_cons Ge (all_cons Es (all_cons FI (all_cons GA (all_cons DV (all_cons DU (all_cons DP (all_cons AO (all_cons GN (all_cons Ex (all_cons E1 (all_cons E_ (all_cons Gn (all_cons CE (all_cons CP (all_cons Cz (all_cons Dq (all_cons C_ (all_cons Db (all_cons DA (all_cons CX (all_cons C3 (all_cons Dp (all_cons CL (all_cons CF (all_cons C5 (all_cons Dl all_nil))))))))))))))))))))))))))))))))))))))))))))))
theorem mix:Tryz.prog.follows .mixedOrders=true:=Checked.mixed Tryz.checked
theorem fo {Γ : Ctx fam} {nv : Nat} {h : Hint} (hΓ : CtxOk Tryz.prog Γ) {f : FuncId} {fn : Func} {sp : Spec fam} (hf : Tryz.prog.funcs[f]? = some fn) (hnm : (fn.name == "runtime.NumGoroutine") = false:=by kernel_rfl) (hbn : fn.body.isNone = false:=by kernel_rfl) (hlen : Nat.ble sp.ks.length fn.ntmps = true:=by kernel_rfl) (hrs : sp.rs.all (fun k => !k.isBox) = true:=by kernel_rfl) (hD : (fun a => tFunc (look tbl) Γ nv fn h sp.ks sp.rs a) = sp.D:=by kernel_rfl) : FnOk Tryz.prog f sp:=fnOk tok mix hΓ hf hnm hbn hlen hrs hD
theorem ok10:FnOk Tryz.prog 10 sp10:=fo (nv:=2) (h:=h10) af Tryz.func10
set_option maxHeartbeats 4000000 in
set_option maxRecDepth 1000000 in
theorem hw84(s:ByteArray)(w:World)(hascii:∀(j:Nat) b,s.data.toList[j]? = some b→b.toNat<128) :
  Calls Tryz.prog 84 #[.string s] w λe w'=>e = .returned (.bool (nmR 12 s))∧∃k,w'=w.iter s k:=by
 have HA:Aside (∀(j:Nat) b,s.data.toList[j]? = some b→b.toNat<128):=hascii;clear hascii
 go_enter Tryz.func84,Tryz.ntmps84
 go_wp2
 go_loopg [4] s.size (λg s2 wx=>∃i:Nat,i+g=s.size∧wx=w.iter s i∧Hid (∀(j:Nat) b,s.data.toList[j]? = some b→j<i→nmB b=true))
 case atStart=>exact⟨0,by omega,rfl,λj b _ h=>absurd h (Nat.not_lt_zero _)⟩
 case round=>
  obtain⟨i,hig,rfl,hN⟩:=hrel
  cases gk with
  | zero=>
   obtain rfl:i=s.size:=by omega
   have hall:=G2 hN.out;have HL:Aside (s.data.toList.all nmB=true):=hall;clear hall;have hnx:=run_next_end (P:=Tryz.prog) w s s.size
   go_wp2
   ·rename_i he
    go_ret
    refine⟨?_,_,rfl⟩;unfold nmR;rw[Lib.toList_data]at he;rw[he];rfl
   ·go_ret
    refine⟨?_,_,rfl⟩;unfold nmR;rw[HL.out,← Hn s 12,← Lib.toList_data];rfl
  | succ g=>
   have hi:i<s.size:=by omega
   have ha:(s[i]'hi).toNat<128:=HA.out i _ (Lib.data_getElem? s i hi);have hnx:=λty=>run_next_ascii (P:=Tryz.prog) w s i ty hi ha;obtain⟨c,hc⟩:∃c:Nat,c=(s[i]'hi).toNat:=⟨_,rfl⟩;rw[← hc]at hnx ha;have HC:Aside (c=(s[i]'hi).toNat):=hc;clear hc;by_cases hz:97≤c∧c≤122
   ·have z1:¬ ((c:Int)<97):=by omega
    have z2:¬ ((c:Int)>122):=by omega
    go_wp2
    go_roundg g
    case measure=>omega
    case rel=>exact⟨i+1,by omega,rfl,w_ hi hN.out HC.out (.inl hz)⟩
   by_cases hd:48≤c∧c≤57
   ·have z1:((c:Int)<97):=by omega
    have z2:¬ ((c:Int)<48):=by omega
    have z3:¬ ((c:Int)>57):=by omega
    go_wp2
    go_roundg g
    case measure=>omega
    case rel=>exact⟨i+1,by omega,rfl,w_ hi hN.out HC.out (.inr (.inl hd))⟩
   by_cases hh:c=45
   ·have HH:Aside (c=45):=hh;clear hz hd;subst hh
    go_wp2
    go_roundg g
    case measure=>omega
    case rel=>exact⟨i+1,by omega,rfl,w_ hi hN.out HC.out (.inr (.inr rfl))⟩
   have HF:=E6 hi HC.out (by omega)
   have HF2:Aside (s.data.toList.all nmB=false):=HF;clear HF
   have z5:¬ ((c:Int)=45):=by omega
   by_cases h1:c<97
   ·have z1:((c:Int)<97):=by omega
    by_cases h2:c<48
    ·have z2:((c:Int)<48):=by omega
     clear h1 h2 hz hd hh
     go_wp2
     go_ret
     refine⟨?_,_,rfl⟩;unfold nmR;rw[HF2.out];rfl
    ·have z2:¬ ((c:Int)<48):=by omega
     have z3:((c:Int)>57):=by omega
     clear h1 h2 hz hd hh
     go_wp2
     go_ret
     refine⟨?_,_,rfl⟩;unfold nmR;rw[HF2.out];rfl
   ·have z1:¬ ((c:Int)<97):=by omega
    have z2:((c:Int)>122):=by omega
    have z3:¬ ((c:Int)<48):=by omega
    have z4:((c:Int)>57):=by omega
    clear h1 hz hd hh
    go_wp2
    go_ret
    refine⟨?_,_,rfl⟩;unfold nmR;rw[HF2.out];rfl
theorem ok84:FnOk Tryz.prog 84 sp84:=Fo ⟨Tryz.f84,by kernel_rfl,by kernel_rfl,by kernel_rfl⟩ hw84
theorem ok38:FnOk Tryz.prog 38 sp38:=fo (nv:=10) (h:=h38) (ab ok84 af) Tryz.func38
theorem ok189:FnOk Tryz.prog 189 sp189:=fo (nv:=6) (h:=h189) af Tryz.func189
theorem ok190:FnOk Tryz.prog 190 sp190:=⟨⟨Tryz.f190,by kernel_rfl,by kernel_rfl,by kernel_rfl⟩,λa r hr=>nomatch (show(none:Option _)=some r from hr)⟩
theorem ok145:FnOk Tryz.prog 145 sp145:=fo (nv:=6) (h:=h145) (ab ok189 (ab ok190 af)) Tryz.func145
theorem ok85:FnOk Tryz.prog 85 sp85:=fo (nv:=5) (h:=h85) (ab ok145 af) Tryz.func85
theorem ok223:FnOk Tryz.prog 223 sp223:=⟨⟨Tryz.f223,by kernel_rfl,by kernel_rfl,by kernel_rfl⟩,λa r hr=>nomatch (show(none:Option _)=some r from hr)⟩
theorem hw224(s:ByteArray)(c:UInt8)(w:World):Calls Tryz.prog 224 #[.string s,.string ⟨#[c]⟩] w λe w'=>e = .returned (.int .i64 (Lib.countByte s.data.toList c))∧w'=w:=by
 go_enter Tryz.func224,Tryz.ntmps224
 go_wp2
 rw[run_callFunc_extern Tryz.func269 (by kernel_rfl) (by kernel_rfl) (by kernel_rfl) (e:=Extern.BytealgCount.count) (by kernel_rfl),Lib.run_countString]
 simp only[Result.andThen];rw[Oper.upon_value]
 go_wp2
 go_ret
 exact⟨rfl,rfl⟩
theorem ok224:FnOk Tryz.prog 224 sp224:=FJ ⟨Tryz.f224,by kernel_rfl,by kernel_rfl,by kernel_rfl⟩ hw224
theorem hw298(s:ByteArray)(c:Int)(w:World):Calls Tryz.prog 298 #[.string s,.int .u8 c] w λe w'=>e = .returned (.int .i64 (Lib.indexByte s.data.toList c.toNat.toUInt8))∧w'=w:=by
 go_enter Tryz.func298,Tryz.ntmps298
 go_wp2
 rw[run_callFunc_extern Tryz.func334 (by kernel_rfl) (by kernel_rfl) (by kernel_rfl) (e:=Extern.BytealgIndexByte.indexByte) (by kernel_rfl),Lib.run_indexByteString]
 simp only[Result.andThen];rw[Oper.upon_value]
 go_wp2
 go_ret
 exact⟨rfl,rfl⟩
theorem ok298:FnOk Tryz.prog 298 sp298:=G9 ⟨Tryz.f298,by kernel_rfl,by kernel_rfl,by kernel_rfl⟩ hw298
theorem ok270:FnOk Tryz.prog 270 sp270:=fo (nv:=14) (h:=h270) (ab ok298 af) Tryz.func270
theorem ok225:FnOk Tryz.prog 225 sp225:=fo (nv:=2) (h:=h225) (ab ok270 af) Tryz.func225
theorem ok191:FnOk Tryz.prog 191 sp191:=fo (nv:=12) (h:=h191) (ab ok223 (ab ok224 (ab ok225 af))) Tryz.func191
theorem ok146:FnOk Tryz.prog 146 sp146:=fo (nv:=2) (h:=h146) (ab ok191 af) Tryz.func146
theorem ok192:FnOk Tryz.prog 192 sp192:=fo (nv:=9) (h:=h192) af Tryz.func192
theorem ok147:FnOk Tryz.prog 147 sp147:=fo (nv:=2) (h:=h147) (ab ok192 af) Tryz.func147
theorem ok148:FnOk Tryz.prog 148 sp148:=fo (nv:=1) (h:=h148) (ab ok84 af) Tryz.func148
theorem ok86:FnOk Tryz.prog 86 sp86:=fo (nv:=1) (h:=h86) (ab ok146 (ab ok147 (ab ok148 af))) Tryz.func86
theorem ok193:FnOk Tryz.prog 193 sp193:=fo (nv:=9) (h:=h193) af Tryz.func193
theorem ok149:FnOk Tryz.prog 149 sp149:=fo (nv:=2) (h:=h149) (ab ok193 af) Tryz.func149
theorem ok150:FnOk Tryz.prog 150 sp150:=fo (nv:=2) (h:=h150) af Tryz.func150
theorem ok87:FnOk Tryz.prog 87 sp87:=fo (nv:=1) (h:=h87) (ab ok149 (ab ok150 af)) Tryz.func87
theorem ok39:FnOk Tryz.prog 39 sp39:=fo (nv:=14) (h:=h39) (ab ok85 (ab ok86 (ab ok87 af))) Tryz.func39
theorem ok88:FnOk Tryz.prog 88 sp88:=fo (nv:=14) (h:=h88) (ab ok85 af) Tryz.func88
theorem CN:FnOk Tryz.prog 100 DD:=fnOk (nv:=1) (h:=h100) tok mix af Tryz.func100 (by kernel_rfl) (by kernel_rfl) (by kernel_rfl) (by kernel_rfl) (by kernel_rfl)
set_option maxHeartbeats 2000000 in
theorem Fw(p:Option Addr)(cap:Nat)(w:World):Calls Tryz.prog 100 #[.slice p 0 cap] w λe w'=>∃p',e = .returned (.slice p' 0 0)∧RowKit.Below w.heap.size w w'∧w.drawn≤w'.drawn:=by
 have q:=kZ (P:=Tryz.prog) (t:=76) AO.und
 cases p with
 | none=>
  go_enter Tryz.func100,Tryz.ntmps100
  go_wp2
  go_ret
  exact⟨_,rfl,.refl _ _,Nat.le_refl _⟩
 | some p=>
  go_enter Tryz.func100,Tryz.ntmps100
  go_wp2
  go_ret
  exact⟨_,rfl,(RowKit.Below.refl _ w).alloc (Nat.le_refl _) _,Nat.le_refl _⟩
theorem ok100:FnOk Tryz.prog 100 sp100:=dY CN Fw
theorem ok151:FnOk Tryz.prog 151 sp151:=fo (nv:=9) (h:=h151) af Tryz.func151
theorem ok152:FnOk Tryz.prog 152 sp152:=fo (nv:=3) (h:=h152) af Tryz.func152
theorem ok89:FnOk Tryz.prog 89 sp89:=fo (nv:=8) (h:=h89) (ab ok100 (ab ok151 (ab ok152 af))) Tryz.func89
theorem ok40:FnOk Tryz.prog 40 sp40:=fo (nv:=53) (h:=h40) (ab ok88 (ab ok89 af)) Tryz.func40
theorem ok23:FnOk Tryz.prog 23 sp23:=fo (nv:=5) (h:=h23) (ab ok38 (ab ok39 (ab ok40 af))) Tryz.func23
theorem ok90:FnOk Tryz.prog 90 sp90:=fo (nv:=9) (h:=h90) af Tryz.func90
theorem ok41:FnOk Tryz.prog 41 sp41:=fo (nv:=2) (h:=h41) (ab ok90 af) Tryz.func41
theorem ok42:FnOk Tryz.prog 42 sp42:=fo (nv:=2) (h:=h42) af Tryz.func42
theorem ok24:FnOk Tryz.prog 24 sp24:=fo (nv:=73) (h:=h24) (ab ok41 (ab ok42 af)) Tryz.func24
theorem ok43:FnOk Tryz.prog 43 sp43:=fo (nv:=8) (h:=h43) af Tryz.func43
theorem ok44:FnOk Tryz.prog 44 sp44:=⟨⟨Tryz.f44,by kernel_rfl,by kernel_rfl,by kernel_rfl⟩,λa r hr=>nomatch (show(none:Option _)=some r from hr)⟩
theorem ok45:FnOk Tryz.prog 45 sp45:=⟨⟨Tryz.f45,by kernel_rfl,by kernel_rfl,by kernel_rfl⟩,λa r hr=>nomatch (show(none:Option _)=some r from hr)⟩
theorem ok46:FnOk Tryz.prog 46 sp46:=⟨⟨Tryz.f46,by kernel_rfl,by kernel_rfl,by kernel_rfl⟩,λa r hr=>nomatch (show(none:Option _)=some r from hr)⟩
theorem ok47:FnOk Tryz.prog 47 sp47:=⟨⟨Tryz.f47,by kernel_rfl,by kernel_rfl,by kernel_rfl⟩,λa r hr=>nomatch (show(none:Option _)=some r from hr)⟩
theorem ok48:FnOk Tryz.prog 48 sp48:=⟨⟨Tryz.f48,by kernel_rfl,by kernel_rfl,by kernel_rfl⟩,λa r hr=>nomatch (show(none:Option _)=some r from hr)⟩
theorem ok25:FnOk Tryz.prog 25 sp25:=fo (nv:=4) (h:=h25) (ab ok43 (ab ok44 (ab ok45 (ab ok46 (ab ok47 (ab ok48 af)))))) Tryz.func25
theorem ok64:FnOk Tryz.prog 64 sp64:=fo (nv:=9) (h:=h64) af Tryz.func64
theorem ok49:FnOk Tryz.prog 49 sp49:=fo (nv:=2) (h:=h49) (ab ok64 af) Tryz.func49
set_option maxHeartbeats 4000000 in
set_option maxRecDepth 1000000 in
theorem hB26:EachB Tryz.prog 26 49 50 84:=by
 intro p n cap fid bound captured w R b h
 have ec:∀args w,(callFunc 49 args).run Tryz.prog w = .ok (.enter 49 args) w:=enters_of Tryz.func49 (by kernel_rfl) rfl
 go_enter Tryz.func26,Tryz.ntmps26
 go_wp2_with (go_at_fn 49;refine h.mono ?_;rintro e w' ⟨rfl,hR⟩)
 go_ret
 exact⟨rfl,hR⟩
set_option maxHeartbeats 4000000 in
set_option maxRecDepth 1000000 in
theorem hC26:EachC Tryz.prog 50 84 68 9:=by
 intro vs fid bound captured bx w R b hl h1 hent hbx hcell h
 match vs,hl with
 | [v0,v1,v2,v3,v4,v5,v6,v7,v8],_=>
 have o0:v0.oneCell'=true:=h1 _ (by simp)
 have o1:v1.oneCell'=true:=h1 _ (by simp)
 have o2:v2.oneCell'=true:=h1 _ (by simp)
 have o3:v3.oneCell'=true:=h1 _ (by simp)
 have o4:v4.oneCell'=true:=h1 _ (by simp)
 have o5:v5.oneCell'=true:=h1 _ (by simp)
 have o6:v6.oneCell'=true:=h1 _ (by simp)
 have o7:v7.oneCell'=true:=h1 _ (by simp)
 have o8:v8.oneCell'=true:=h1 _ (by simp)
 rw[show(⟨bound++[.agg ⟨[v0,v1,v2,v3,v4,v5,v6,v7,v8]⟩]++captured⟩:Array Value)=(bound++.agg #[v0,v1,v2,v3,v4,v5,v6,v7,v8]::captured).toArray by simp]at h
 obtain⟨fn,hf,hf1,hf2⟩:=hent
 have efid:∀args w,(callFunc fid args).run Tryz.prog w = .ok (.enter fid args) w:=by
  cases hb:fn.body with
  | none=>rw[hb]at hf2;cases hf2
  | some bd=>exact enters_of hf hf1 hb
 clear hf hf1 hf2
 have hcw:(w.alloc (.cells #[v0,v1,v2,v3,v4,v5,v6,v7,v8] 68 (0,0))).cell? ⟨bx,0,none⟩=some (.func (.func fid) ⟨bound⟩ ⟨captured⟩):=by rw[World.cell?_alloc_old _ _ _ (Nat.ne_of_lt hbx)];simp[World.cell?,hcell]
 go_enter Tryz.func50,Tryz.ntmps50
 go_wp2_with (go_at_fn fid;refine h.mono ?_;rintro e w' ⟨rfl,hR⟩)
 go_ret
 exact⟨rfl,hR⟩
theorem ok26:FnOk Tryz.prog 26 sp26:=tu ok49 ⟨Tryz.f26,by kernel_rfl,by kernel_rfl,by kernel_rfl⟩ ⟨Tryz.f50,by kernel_rfl,by kernel_rfl,by kernel_rfl⟩ (by kernel_rfl) hB26 hC26
theorem ok96:FnOk Tryz.prog 96 sp96:=fo (nv:=9) (h:=h96) af Tryz.func96
theorem ok106:FnOk Tryz.prog 106 sp106:=fo (nv:=3) (h:=h106) af Tryz.func106
theorem ok66:FnOk Tryz.prog 66 sp66:=fo (nv:=4) (h:=h66) (ab ok96 (ab ok106 af)) Tryz.func66
theorem Dx:FnOk Tryz.prog 153 DI:=fnOk (nv:=1) (h:=h153) tok mix af Tryz.func153 (by kernel_rfl) (by kernel_rfl) (by kernel_rfl) (by kernel_rfl) (by kernel_rfl)
set_option maxHeartbeats 2000000 in
theorem Gh(p:Option Addr)(cap:Nat)(w:World):Calls Tryz.prog 153 #[.slice p 0 cap] w λe w'=>∃p',e = .returned (.slice p' 0 0)∧RowKit.Below w.heap.size w w'∧w.drawn≤w'.drawn:=by
 have q:=kZ (P:=Tryz.prog) (t:=43) AW.und
 cases p with
 | none=>
  go_enter Tryz.func153,Tryz.ntmps153
  go_wp2
  go_ret
  exact⟨_,rfl,.refl _ _,Nat.le_refl _⟩
 | some p=>
  go_enter Tryz.func153,Tryz.ntmps153
  go_wp2
  go_ret
  exact⟨_,rfl,(RowKit.Below.refl _ w).alloc (Nat.le_refl _) _,Nat.le_refl _⟩
theorem ok153:FnOk Tryz.prog 153 sp153:=dY Dx Gh
theorem ok154:FnOk Tryz.prog 154 sp154:=fo (nv:=4) (h:=h154) af Tryz.func154
theorem ok91:FnOk Tryz.prog 91 sp91:=fo (nv:=3) (h:=h91) (ab ok153 (ab ok154 af)) Tryz.func91
theorem ok51:FnOk Tryz.prog 51 sp51:=fo (nv:=7) (h:=h51) (ab ok66 (ab ok91 af)) Tryz.func51
theorem ok93:FnOk Tryz.prog 93 sp93:=fo (nv:=9) (h:=h93) af Tryz.func93
theorem ok155:FnOk Tryz.prog 155 sp155:=fo (nv:=4) (h:=h155) af Tryz.func155
theorem ok92:FnOk Tryz.prog 92 sp92:=fo (nv:=3) (h:=h92) (ab ok93 (ab ok155 af)) Tryz.func92
theorem ok52:FnOk Tryz.prog 52 sp52:=fo (nv:=7) (h:=h52) (ab ok92 af) Tryz.func52
theorem ok53:FnOk Tryz.prog 53 sp53:=fo (nv:=2) (h:=h53) af Tryz.func53
theorem ok27:FnOk Tryz.prog 27 sp27:=fo (nv:=8) (h:=h27) (ab ok51 (ab ok52 (ab ok53 af))) Tryz.func27
theorem ok54:FnOk Tryz.prog 54 sp54:=fo (nv:=2) (h:=h54) (ab ok93 af) Tryz.func54
set_option maxHeartbeats 4000000 in
set_option maxRecDepth 1000000 in
theorem hB28:EachB Tryz.prog 28 54 55 86:=by
 intro p n cap fid bound captured w R b h
 have ec:∀args w,(callFunc 54 args).run Tryz.prog w = .ok (.enter 54 args) w:=enters_of Tryz.func54 (by kernel_rfl) rfl
 go_enter Tryz.func28,Tryz.ntmps28
 go_wp2_with (go_at_fn 54;refine h.mono ?_;rintro e w' ⟨rfl,hR⟩)
 go_ret
 exact⟨rfl,hR⟩
set_option maxHeartbeats 4000000 in
set_option maxRecDepth 1000000 in
theorem hC28:EachC Tryz.prog 55 86 42 8:=by
 intro vs fid bound captured bx w R b hl h1 hent hbx hcell h
 match vs,hl with
 | [v0,v1,v2,v3,v4,v5,v6,v7],_=>
 have o0:v0.oneCell'=true:=h1 _ (by simp)
 have o1:v1.oneCell'=true:=h1 _ (by simp)
 have o2:v2.oneCell'=true:=h1 _ (by simp)
 have o3:v3.oneCell'=true:=h1 _ (by simp)
 have o4:v4.oneCell'=true:=h1 _ (by simp)
 have o5:v5.oneCell'=true:=h1 _ (by simp)
 have o6:v6.oneCell'=true:=h1 _ (by simp)
 have o7:v7.oneCell'=true:=h1 _ (by simp)
 rw[show(⟨bound++[.agg ⟨[v0,v1,v2,v3,v4,v5,v6,v7]⟩]++captured⟩:Array Value)=(bound++.agg #[v0,v1,v2,v3,v4,v5,v6,v7]::captured).toArray by simp]at h
 obtain⟨fn,hf,hf1,hf2⟩:=hent
 have efid:∀args w,(callFunc fid args).run Tryz.prog w = .ok (.enter fid args) w:=by
  cases hb:fn.body with
  | none=>rw[hb]at hf2;cases hf2
  | some bd=>exact enters_of hf hf1 hb
 clear hf hf1 hf2
 have hcw:(w.alloc (.cells #[v0,v1,v2,v3,v4,v5,v6,v7] 42 (0,0))).cell? ⟨bx,0,none⟩=some (.func (.func fid) ⟨bound⟩ ⟨captured⟩):=by rw[World.cell?_alloc_old _ _ _ (Nat.ne_of_lt hbx)];simp[World.cell?,hcell]
 go_enter Tryz.func55,Tryz.ntmps55
 go_wp2_with (go_at_fn fid;refine h.mono ?_;rintro e w' ⟨rfl,hR⟩)
 go_ret
 exact⟨rfl,hR⟩
theorem ok28:FnOk Tryz.prog 28 sp28:=tu ok54 ⟨Tryz.f28,by kernel_rfl,by kernel_rfl,by kernel_rfl⟩ ⟨Tryz.f55,by kernel_rfl,by kernel_rfl,by kernel_rfl⟩ (by kernel_rfl) hB28 hC28
theorem ok94:FnOk Tryz.prog 94 sp94:=fo (nv:=2) (h:=h94) af Tryz.func94
theorem ok95:FnOk Tryz.prog 95 sp95:=fo (nv:=3) (h:=h95) (ab ok94 af) Tryz.func95
theorem ok56:FnOk Tryz.prog 56 sp56:=fo (nv:=5) (h:=h56) (ab ok94 (ab ok95 af)) Tryz.func56
theorem ok57:FnOk Tryz.prog 57 sp57:=fo (nv:=4) (h:=h57) af Tryz.func57
theorem ok29:FnOk Tryz.prog 29 sp29:=fo (nv:=15) (h:=h29) (ab ok56 (ab ok57 af)) Tryz.func29
theorem ok58:FnOk Tryz.prog 58 sp58:=fo (nv:=2) (h:=h58) (ab ok96 af) Tryz.func58
set_option maxHeartbeats 4000000 in
set_option maxRecDepth 1000000 in
theorem hB30:EachB Tryz.prog 30 58 59 88:=by
 intro p n cap fid bound captured w R b h
 have ec:∀args w,(callFunc 58 args).run Tryz.prog w = .ok (.enter 58 args) w:=enters_of Tryz.func58 (by kernel_rfl) rfl
 go_enter Tryz.func30,Tryz.ntmps30
 go_wp2_with (go_at_fn 58;refine h.mono ?_;rintro e w' ⟨rfl,hR⟩)
 go_ret
 exact⟨rfl,hR⟩
set_option maxHeartbeats 4000000 in
set_option maxRecDepth 1000000 in
theorem hC30:EachC Tryz.prog 59 88 46 14:=by
 intro vs fid bound captured bx w R b hl h1 hent hbx hcell h
 match vs,hl with
 | [v0,v1,v2,v3,v4,v5,v6,v7,v8,v9,v10,v11,v12,v13],_=>
 have o0:v0.oneCell'=true:=h1 _ (by simp)
 have o1:v1.oneCell'=true:=h1 _ (by simp)
 have o2:v2.oneCell'=true:=h1 _ (by simp)
 have o3:v3.oneCell'=true:=h1 _ (by simp)
 have o4:v4.oneCell'=true:=h1 _ (by simp)
 have o5:v5.oneCell'=true:=h1 _ (by simp)
 have o6:v6.oneCell'=true:=h1 _ (by simp)
 have o7:v7.oneCell'=true:=h1 _ (by simp)
 have o8:v8.oneCell'=true:=h1 _ (by simp)
 have o9:v9.oneCell'=true:=h1 _ (by simp)
 have o10:v10.oneCell'=true:=h1 _ (by simp)
 have o11:v11.oneCell'=true:=h1 _ (by simp)
 have o12:v12.oneCell'=true:=h1 _ (by simp)
 have o13:v13.oneCell'=true:=h1 _ (by simp)
 rw[show(⟨bound++[.agg ⟨[v0,v1,v2,v3,v4,v5,v6,v7,v8,v9,v10,v11,v12,v13]⟩]++captured⟩:Array Value)=(bound++.agg #[v0,v1,v2,v3,v4,v5,v6,v7,v8,v9,v10,v11,v12,v13]::captured).toArray by simp]at h
 obtain⟨fn,hf,hf1,hf2⟩:=hent
 have efid:∀args w,(callFunc fid args).run Tryz.prog w = .ok (.enter fid args) w:=by
  cases hb:fn.body with
  | none=>rw[hb]at hf2;cases hf2
  | some bd=>exact enters_of hf hf1 hb
 clear hf hf1 hf2
 have hcw:(w.alloc (.cells #[v0,v1,v2,v3,v4,v5,v6,v7,v8,v9,v10,v11,v12,v13] 46 (0,0))).cell? ⟨bx,0,none⟩=some (.func (.func fid) ⟨bound⟩ ⟨captured⟩):=by rw[World.cell?_alloc_old _ _ _ (Nat.ne_of_lt hbx)];simp[World.cell?,hcell]
 go_enter Tryz.func59,Tryz.ntmps59
 go_wp2_with (go_at_fn fid;refine h.mono ?_;rintro e w' ⟨rfl,hR⟩)
 go_ret
 exact⟨rfl,hR⟩
theorem ok30:FnOk Tryz.prog 30 sp30:=tu ok58 ⟨Tryz.f30,by kernel_rfl,by kernel_rfl,by kernel_rfl⟩ ⟨Tryz.f59,by kernel_rfl,by kernel_rfl,by kernel_rfl⟩ (by kernel_rfl) hB30 hC30
theorem ok60:FnOk Tryz.prog 60 sp60:=fo (nv:=3) (h:=h60) (ab ok88 (ab ok89 af)) Tryz.func60
theorem ok31:FnOk Tryz.prog 31 sp31:=fo (nv:=38) (h:=h31) (ab ok60 af) Tryz.func31
theorem ok97:FnOk Tryz.prog 97 sp97:=fo (nv:=9) (h:=h97) af Tryz.func97
theorem ok61:FnOk Tryz.prog 61 sp61:=fo (nv:=2) (h:=h61) (ab ok97 af) Tryz.func61
set_option maxHeartbeats 4000000 in
set_option maxRecDepth 1000000 in
theorem hB32:EachB Tryz.prog 32 61 62 92:=by
 intro p n cap fid bound captured w R b h
 have ec:∀args w,(callFunc 61 args).run Tryz.prog w = .ok (.enter 61 args) w:=enters_of Tryz.func61 (by kernel_rfl) rfl
 go_enter Tryz.func32,Tryz.ntmps32
 go_wp2_with (go_at_fn 61;refine h.mono ?_;rintro e w' ⟨rfl,hR⟩)
 go_ret
 exact⟨rfl,hR⟩
set_option maxHeartbeats 4000000 in
set_option maxRecDepth 1000000 in
theorem hC32:EachC Tryz.prog 62 92 91 3:=by
 intro vs fid bound captured bx w R b hl h1 hent hbx hcell h
 match vs,hl with
 | [v0,v1,v2],_=>
 have o0:v0.oneCell'=true:=h1 _ (by simp)
 have o1:v1.oneCell'=true:=h1 _ (by simp)
 have o2:v2.oneCell'=true:=h1 _ (by simp)
 rw[show(⟨bound++[.agg ⟨[v0,v1,v2]⟩]++captured⟩:Array Value)=(bound++.agg #[v0,v1,v2]::captured).toArray by simp]at h
 obtain⟨fn,hf,hf1,hf2⟩:=hent
 have efid:∀args w,(callFunc fid args).run Tryz.prog w = .ok (.enter fid args) w:=by
  cases hb:fn.body with
  | none=>rw[hb]at hf2;cases hf2
  | some bd=>exact enters_of hf hf1 hb
 clear hf hf1 hf2
 have hcw:(w.alloc (.cells #[v0,v1,v2] 91 (0,0))).cell? ⟨bx,0,none⟩=some (.func (.func fid) ⟨bound⟩ ⟨captured⟩):=by rw[World.cell?_alloc_old _ _ _ (Nat.ne_of_lt hbx)];simp[World.cell?,hcell]
 go_enter Tryz.func62,Tryz.ntmps62
 go_wp2_with (go_at_fn fid;refine h.mono ?_;rintro e w' ⟨rfl,hR⟩)
 go_ret
 exact⟨rfl,hR⟩
theorem ok32:FnOk Tryz.prog 32 sp32:=tu ok61 ⟨Tryz.f32,by kernel_rfl,by kernel_rfl,by kernel_rfl⟩ ⟨Tryz.f62,by kernel_rfl,by kernel_rfl,by kernel_rfl⟩ (by kernel_rfl) hB32 hC32
theorem ok33:FnOk Tryz.prog 33 sp33:=⟨⟨Tryz.f33,by kernel_rfl,by kernel_rfl,by kernel_rfl⟩,λa r hr=>nomatch (show(none:Option _)=some r from hr)⟩
theorem ok15:FnOk Tryz.prog 15 sp15:=fo (nv:=4) (h:=h15) (ab ok23 (ab ok24 (ab ok25 (ab ok26 (ab ok27 (ab ok28 (ab ok29 (ab ok30 (ab ok31 (ab ok32 (ab ok33 af))))))))))) Tryz.func15
theorem GK:FnOk Tryz.prog 98 Ej:=fnOk (nv:=1) (h:=h98) tok mix af Tryz.func98 (by kernel_rfl) (by kernel_rfl) (by kernel_rfl) (by kernel_rfl) (by kernel_rfl)
set_option maxHeartbeats 2000000 in
theorem G8(p:Option Addr)(cap:Nat)(w:World):Calls Tryz.prog 98 #[.slice p 0 cap] w λe w'=>∃p',e = .returned (.slice p' 0 0)∧RowKit.Below w.heap.size w w'∧w.drawn≤w'.drawn:=by
 have q:=kZ (P:=Tryz.prog) (t:=24) AX.und
 cases p with
 | none=>
  go_enter Tryz.func98,Tryz.ntmps98
  go_wp2
  go_ret
  exact⟨_,rfl,.refl _ _,Nat.le_refl _⟩
 | some p=>
  go_enter Tryz.func98,Tryz.ntmps98
  go_wp2
  go_ret
  exact⟨_,rfl,(RowKit.Below.refl _ w).alloc (Nat.le_refl _) _,Nat.le_refl _⟩
theorem ok98:FnOk Tryz.prog 98 sp98:=dY GK G8
theorem FN:FnOk Tryz.prog 99 Ga:=fnOk (nv:=1) (h:=h99) tok mix af Tryz.func99 (by kernel_rfl) (by kernel_rfl) (by kernel_rfl) (by kernel_rfl) (by kernel_rfl)
set_option maxHeartbeats 2000000 in
theorem Hh(p:Option Addr)(cap:Nat)(w:World):Calls Tryz.prog 99 #[.slice p 0 cap] w λe w'=>∃p',e = .returned (.slice p' 0 0)∧RowKit.Below w.heap.size w w'∧w.drawn≤w'.drawn:=by
 have q:=kZ (P:=Tryz.prog) (t:=25) Az.und
 cases p with
 | none=>
  go_enter Tryz.func99,Tryz.ntmps99
  go_wp2
  go_ret
  exact⟨_,rfl,.refl _ _,Nat.le_refl _⟩
 | some p=>
  go_enter Tryz.func99,Tryz.ntmps99
  go_wp2
  go_ret
  exact⟨_,rfl,(RowKit.Below.refl _ w).alloc (Nat.le_refl _) _,Nat.le_refl _⟩
theorem ok99:FnOk Tryz.prog 99 sp99:=dY FN Hh
theorem C2:FnOk Tryz.prog 101 C1:=fnOk (nv:=1) (h:=h101) tok mix af Tryz.func101 (by kernel_rfl) (by kernel_rfl) (by kernel_rfl) (by kernel_rfl) (by kernel_rfl)
set_option maxHeartbeats 2000000 in
theorem EV(p:Option Addr)(cap:Nat)(w:World):Calls Tryz.prog 101 #[.slice p 0 cap] w λe w'=>∃p',e = .returned (.slice p' 0 0)∧RowKit.Below w.heap.size w w'∧w.drawn≤w'.drawn:=by
 have q:=kZ (P:=Tryz.prog) (t:=28) AI.und
 cases p with
 | none=>
  go_enter Tryz.func101,Tryz.ntmps101
  go_wp2
  go_ret
  exact⟨_,rfl,.refl _ _,Nat.le_refl _⟩
 | some p=>
  go_enter Tryz.func101,Tryz.ntmps101
  go_wp2
  go_ret
  exact⟨_,rfl,(RowKit.Below.refl _ w).alloc (Nat.le_refl _) _,Nat.le_refl _⟩
theorem ok101:FnOk Tryz.prog 101 sp101:=dY C2 EV
theorem Dw:FnOk Tryz.prog 102 Di:=fnOk (nv:=1) (h:=h102) tok mix af Tryz.func102 (by kernel_rfl) (by kernel_rfl) (by kernel_rfl) (by kernel_rfl) (by kernel_rfl)
set_option maxHeartbeats 2000000 in
theorem DS(p:Option Addr)(cap:Nat)(w:World):Calls Tryz.prog 102 #[.slice p 0 cap] w λe w'=>∃p',e = .returned (.slice p' 0 0)∧RowKit.Below w.heap.size w w'∧w.drawn≤w'.drawn:=by
 have q:=kZ (P:=Tryz.prog) (t:=30) AC.und
 cases p with
 | none=>
  go_enter Tryz.func102,Tryz.ntmps102
  go_wp2
  go_ret
  exact⟨_,rfl,.refl _ _,Nat.le_refl _⟩
 | some p=>
  go_enter Tryz.func102,Tryz.ntmps102
  go_wp2
  go_ret
  exact⟨_,rfl,(RowKit.Below.refl _ w).alloc (Nat.le_refl _) _,Nat.le_refl _⟩
theorem ok102:FnOk Tryz.prog 102 sp102:=dY Dw DS
theorem DJ:FnOk Tryz.prog 103 DK:=fnOk (nv:=1) (h:=h103) tok mix af Tryz.func103 (by kernel_rfl) (by kernel_rfl) (by kernel_rfl) (by kernel_rfl) (by kernel_rfl)
set_option maxHeartbeats 2000000 in
theorem E2(p:Option Addr)(cap:Nat)(w:World):Calls Tryz.prog 103 #[.slice p 0 cap] w λe w'=>∃p',e = .returned (.slice p' 0 0)∧RowKit.Below w.heap.size w w'∧w.drawn≤w'.drawn:=by
 have q:=kZ (P:=Tryz.prog) (t:=31) Au.und
 cases p with
 | none=>
  go_enter Tryz.func103,Tryz.ntmps103
  go_wp2
  go_ret
  exact⟨_,rfl,.refl _ _,Nat.le_refl _⟩
 | some p=>
  go_enter Tryz.func103,Tryz.ntmps103
  go_wp2
  go_ret
  exact⟨_,rfl,(RowKit.Below.refl _ w).alloc (Nat.le_refl _) _,Nat.le_refl _⟩
theorem ok103:FnOk Tryz.prog 103 sp103:=dY DJ E2
theorem Df:FnOk Tryz.prog 104 Dh:=fnOk (nv:=1) (h:=h104) tok mix af Tryz.func104 (by kernel_rfl) (by kernel_rfl) (by kernel_rfl) (by kernel_rfl) (by kernel_rfl)
set_option maxHeartbeats 2000000 in
theorem Ey(p:Option Addr)(cap:Nat)(w:World):Calls Tryz.prog 104 #[.slice p 0 cap] w λe w'=>∃p',e = .returned (.slice p' 0 0)∧RowKit.Below w.heap.size w w'∧w.drawn≤w'.drawn:=by
 have q:=kZ (P:=Tryz.prog) (t:=32) AU.und
 cases p with
 | none=>
  go_enter Tryz.func104,Tryz.ntmps104
  go_wp2
  go_ret
  exact⟨_,rfl,.refl _ _,Nat.le_refl _⟩
 | some p=>
  go_enter Tryz.func104,Tryz.ntmps104
  go_wp2
  go_ret
  exact⟨_,rfl,(RowKit.Below.refl _ w).alloc (Nat.le_refl _) _,Nat.le_refl _⟩
theorem ok104:FnOk Tryz.prog 104 sp104:=dY Df Ey
theorem Dg:FnOk Tryz.prog 105 C9:=fnOk (nv:=1) (h:=h105) tok mix af Tryz.func105 (by kernel_rfl) (by kernel_rfl) (by kernel_rfl) (by kernel_rfl) (by kernel_rfl)
set_option maxHeartbeats 2000000 in
theorem ER(p:Option Addr)(cap:Nat)(w:World):Calls Tryz.prog 105 #[.slice p 0 cap] w λe w'=>∃p',e = .returned (.slice p' 0 0)∧RowKit.Below w.heap.size w w'∧w.drawn≤w'.drawn:=by
 have q:=kZ (P:=Tryz.prog) (t:=29) Ap.und
 cases p with
 | none=>
  go_enter Tryz.func105,Tryz.ntmps105
  go_wp2
  go_ret
  exact⟨_,rfl,.refl _ _,Nat.le_refl _⟩
 | some p=>
  go_enter Tryz.func105,Tryz.ntmps105
  go_wp2
  go_ret
  exact⟨_,rfl,(RowKit.Below.refl _ w).alloc (Nat.le_refl _) _,Nat.le_refl _⟩
theorem ok105:FnOk Tryz.prog 105 sp105:=dY Dg ER
theorem ok63:FnOk Tryz.prog 63 sp63:=fo (nv:=62) (h:=h63) (ab ok91 (ab ok98 (ab ok99 (ab ok100 (ab ok101 (ab ok102 (ab ok103 (ab ok104 (ab ok105 af))))))))) Tryz.func63
theorem zF:FnOk Tryz.prog 63 Dr:=fo (nv:=62) (h:=FS) (ab ok91 (ab ok98 (ab ok99 (ab ok100 (ab ok101 (ab ok102 (ab ok103 (ab ok104 (ab ok105 af))))))))) Tryz.func63
theorem ok65:FnOk Tryz.prog 65 sp65:=⟨⟨Tryz.f65,by kernel_rfl,by kernel_rfl,by kernel_rfl⟩,λa r hr=>nomatch (show(none:Option _)=some r from hr)⟩
theorem ok67:FnOk Tryz.prog 67 sp67:=⟨⟨Tryz.f67,by kernel_rfl,by kernel_rfl,by kernel_rfl⟩,λa r hr=>nomatch (show(none:Option _)=some r from hr)⟩
theorem ok68:FnOk Tryz.prog 68 sp68:=⟨⟨Tryz.f68,by kernel_rfl,by kernel_rfl,by kernel_rfl⟩,λa r hr=>nomatch (show(none:Option _)=some r from hr)⟩
theorem ok34:FnOk Tryz.prog 34 sp34:=fo (nv:=17) (h:=h34) (ab ok63 (ab ok64 (ab ok65 (ab ok66 (ab ok67 (ab ok68 af)))))) Tryz.func34
theorem ok82:FnOk Tryz.prog 82 sp82:=⟨⟨Tryz.f82,by kernel_rfl,by kernel_rfl,by kernel_rfl⟩,λa r hr=>nomatch (show(none:Option _)=some r from hr)⟩
shelf_lay Go.Proofs.Lays.n160 Nm 160 at Tryz as layT226
shelf_lay Go.Proofs.Lays.n172 Nm 172 at Tryz as layA226
theorem hT226(b:UInt8)(r:List UInt8)(h6:r.length≤6)(hd:(b::r).all digB=true)(w:World):Calls Tryz.prog 271 #[.string ⟨⟨b::r⟩⟩,.string cut10] w λe w'=>e = .returned (.string ⟨#[]⟩)∧Below w.heap.size w w'∧w.drawn≤w'.drawn:=by
 have hs:(⟨⟨b::r⟩⟩:ByteArray).size=r.length+1:=rfl
 refine(Any.strings_Trim_set (ρ:=layT226_ren) layT226 (by intro w;kernel_rfl) (by kernel_rfl) ⟨⟨b::r⟩⟩ cut10 w (by decide) (by omega) (by omega) (by decide) An).mono ?_
 rintro e w' ⟨rfl,q,rfl⟩;have e1:Lib.trimS (⟨⟨b::r⟩⟩:ByteArray).data.toList cut10.data.toList = []:=z9 hd;rw[e1]
 exact⟨rfl,yv (((Below.refl _ w).alloc (Nat.le_refl _) _).alloc (by rw[World.size_alloc];omega) _) q,Nat.le_add_right _ _⟩
theorem hA226(b:UInt8)(r:List UInt8)(n:Int)(h6:r.length≤6)(hn:Lib.atoi (b::r)=some n)(w:World):Calls Tryz.prog 272 #[.string ⟨⟨b::r⟩⟩] w λe w'=>e = .returned (.tuple #[.int .i64 n,.nilIface])∧Below w.heap.size w w'∧w.drawn≤w'.drawn:=by
 have hs:(⟨⟨b::r⟩⟩:ByteArray).size=r.length+1:=rfl
 refine(Any.strconv_Atoi (ρ:=layA226_ren) layA226 ⟨⟨b::r⟩⟩ n (by omega) hn w).mono ?_
 rintro e w' ⟨rfl,t,rfl⟩;exact⟨rfl,(zf w _ t).1,(zf w _ t).2⟩
set_option maxHeartbeats 4000000 in
set_option maxRecDepth 1000000 in
theorem hw226:NumW Tryz.prog 226:=by
 intro b r n w h6 h0 hd hn;have hT:=hT226 b r h6 hd;have hA:=hA226 b r n h6 hn;have hs:(⟨⟨b::r⟩⟩:ByteArray).size=r.length+1:=rfl
 have z1:¬ (((r.length+1:Nat):Int)>7):=by omega
 clear hd hn;unfold cut10 at hT
 have e271:∀args w,(callFunc 271 args).run Tryz.prog w = .ok (.enter 271 args) w:=enters_of Tryz.func271 (by kernel_rfl) rfl
 have e272:∀args w,(callFunc 272 args).run Tryz.prog w = .ok (.enter 272 args) w:=enters_of Tryz.func272 (by kernel_rfl) rfl
 rcases h0 with rfl | h0
 ·go_enter Tryz.func226,Tryz.ntmps226
  go_wp2_with (first | (go_at_fn 271;refine(hT w).mono ?_;rintro e w1 ⟨rfl,hb1,hd1⟩) | (go_at_fn 272;refine(hA _).mono ?_;rintro e w2 ⟨rfl,hb2,hd2⟩))
  go_ret2
  exact⟨rfl,hb1.trans (hb2.mono hb1.size),Nat.le_trans hd1 hd2⟩
 ·have z2:¬ (((b.toNat:Nat):Int)=48):=by omega
  go_enter Tryz.func226,Tryz.ntmps226
  by_cases hr:r = []
  ·subst hr
   go_wp2_with (first | (go_at_fn 271;refine(hT w).mono ?_;rintro e w1 ⟨rfl,hb1,hd1⟩) | (go_at_fn 272;refine(hA _).mono ?_;rintro e w2 ⟨rfl,hb2,hd2⟩))
   go_ret2
   exact⟨rfl,hb1.trans (hb2.mono hb1.size),Nat.le_trans hd1 hd2⟩
  ·have z3:((r.length:Int)+1)>1:=by have:r.length≠0:=λh=>hr (List.eq_nil_of_length_eq_zero h);omega
   have z4:¬ (7<(r.length:Int)+1):=by omega
   have z5:((((⟨⟨b::r⟩⟩:ByteArray)[0]'(by rw[hs];omega)).toNat:Int) == 48)=false:=by
    have e:((⟨⟨b::r⟩⟩:ByteArray)[0]'(by rw[hs];omega))=b:=rfl
    rw[e,beq_eq_false_iff_ne];exact z2
   clear hr z2
   go_wp2_with (first | (go_at_fn 271;refine(hT w).mono ?_;rintro e w1 ⟨rfl,hb1,hd1⟩) | (go_at_fn 272;refine(hA _).mono ?_;rintro e w2 ⟨rfl,hb2,hd2⟩))
   go_ret2
   exact⟨rfl,hb1.trans (hb2.mono hb1.size),Nat.le_trans hd1 hd2⟩
theorem ok226:FnOk Tryz.prog 226 sp226:=GZ ⟨Tryz.f226,by kernel_rfl,by kernel_rfl,by kernel_rfl⟩ hw226
theorem ok311:FnOk Tryz.prog 311 sp311:=fo (nv:=8) (h:=h311) (ab ok270 af) Tryz.func311
theorem ok273:FnOk Tryz.prog 273 sp273:=fo (nv:=6) (h:=h273) (ab ok311 af) Tryz.func273
theorem ok227:FnOk Tryz.prog 227 sp227:=fo (nv:=10) (h:=h227) (ab ok226 (ab ok273 af)) Tryz.func227
theorem ok194:FnOk Tryz.prog 194 sp194:=fo (nv:=45) (h:=h194) (ab ok226 (ab ok227 af)) Tryz.func194
theorem ok160:FnOk Tryz.prog 160 sp160:=fo (nv:=2) (h:=h160) (ab ok194 af) Tryz.func160
theorem ok195:FnOk Tryz.prog 195 sp195:=fo (nv:=8) (h:=h195) (ab ok192 af) Tryz.func195
theorem ok196:FnOk Tryz.prog 196 sp196:=fo (nv:=1) (h:=h196) af Tryz.func196
theorem ok161:FnOk Tryz.prog 161 sp161:=fo (nv:=1) (h:=h161) (ab ok146 (ab ok195 (ab ok196 af))) Tryz.func161
theorem ok228:FnOk Tryz.prog 228 sp228:=fo (nv:=10) (h:=h228) af Tryz.func228
theorem ok274:FnOk Tryz.prog 274 sp274:=⟨⟨Tryz.f274,by kernel_rfl,by kernel_rfl,by kernel_rfl⟩,λa r hr=>nomatch (show(none:Option _)=some r from hr)⟩
theorem AV:∀n,FnOk Tryz.prog 229 (GL n)
 | 0=>⟨⟨Tryz.f229,by kernel_rfl,by kernel_rfl,by kernel_rfl⟩,λa r hr=>nomatch (show(none:Option _)=some r from hr)⟩
 | n+1=>fnOk (nv:=25) (h:=h229) tok mix (ab (AV n) (ab ok274 af)) Tryz.func229 (by kernel_rfl) (by kernel_rfl) (by kernel_rfl) (by kernel_rfl) (by kernel_rfl)
theorem ok229:FnOk Tryz.prog 229 sp229:=AV 64
theorem ok197:FnOk Tryz.prog 197 sp197:=fo (nv:=10) (h:=h197) (ab ok228 (ab ok229 af)) Tryz.func197
theorem ok162:FnOk Tryz.prog 162 sp162:=fo (nv:=2) (h:=h162) (ab ok197 af) Tryz.func162
theorem ok163:FnOk Tryz.prog 163 sp163:=⟨⟨Tryz.f163,by kernel_rfl,by kernel_rfl,by kernel_rfl⟩,λa r hr=>nomatch (show(none:Option _)=some r from hr)⟩
theorem ok109:FnOk Tryz.prog 109 sp109:=fo (nv:=51) (h:=h109) (ab ok146 (ab ok160 (ab ok161 (ab ok162 (ab ok163 af))))) Tryz.func109
theorem ok110:FnOk Tryz.prog 110 sp110:=fo (nv:=14) (h:=h110) af Tryz.func110
theorem ok71:FnOk Tryz.prog 71 sp71:=fo (nv:=59) (h:=h71) (ab ok23 (ab ok53 (ab ok60 (ab ok82 (ab ok109 (ab ok110 af)))))) Tryz.func71
theorem ok72:FnOk Tryz.prog 72 sp72:=fo (nv:=7) (h:=h72) (ab ok82 af) Tryz.func72
theorem ok165:FnOk Tryz.prog 165 sp165:=fo (nv:=4) (h:=h165) af Tryz.func165
theorem ok111:FnOk Tryz.prog 111 sp111:=fo (nv:=62) (h:=h111) (ab ok98 (ab ok99 (ab ok100 (ab ok101 (ab ok102 (ab ok103 (ab ok104 (ab ok105 (ab ok153 (ab ok165 af)))))))))) Tryz.func111
theorem ok112:FnOk Tryz.prog 112 sp112:=fo (nv:=2) (h:=h112) af Tryz.func112
theorem GO:FnOk Tryz.prog 113 Eb:=fnOk (nv:=10) (h:=h113) tok mix af Tryz.func113 (by kernel_rfl) (by kernel_rfl) (by kernel_rfl) (by kernel_rfl) (by kernel_rfl)
theorem ov113(w:World)(a b:Value)(h:(Extern.SlicesOverlaps.overlaps #[28,28] #[4] #[a,b]).run Tryz.prog w = .ok (.bool false) w):(callFunc 166 #[a,b]).run Tryz.prog w = .ok (.value (.bool false)) w:=by
 rw[run_callFunc_extern Tryz.func166 (by kernel_rfl) (by kernel_rfl) (by kernel_rfl) (e:=Extern.SlicesOverlaps.overlaps #[28,28] #[4]) (by kernel_rfl),h]
 rfl
set_option maxHeartbeats 4000000 in
set_option maxRecDepth 1000000 in
theorem iw113:nS Tryz.prog 113 28 8 166:=by
 intro b n c i vb vc w W1 W2 hi hroom hc63 hov hcp1 hcp2
 have tS:Tryz.prog.underlying 28=some (.slice 42):=by kernel_rfl
 have mixed:Tryz.prog.follows .mixedOrders=true:=Checked.mixed Tryz.checked
 have hz2:¬ ((i:Int)=(n:Int)):=by omega
 have hw1:IntKind.i64.wrap ((i:Int)+1)=(i:Int)+1:=by rw[IntKind.wrap_i64];omega
 have hw2:IntKind.i64.wrap ((n:Int)+1)=(n:Int)+1:=by rw[IntKind.wrap_i64];omega
 have hb1:(0:Int)≤(i:Int)+1:=by omega
 have hb0:(0:Int)≤(n:Int)+1:=by omega
 have hin:i≤n:=by omega
 have htn:((i:Int)+1).toNat=i+1:=by omega
 have htm:((n:Int)+1).toNat=n+1:=by omega
 have hb2:¬ (c=i+1):=by omega
 have hb3:(i:Int)≤(n:Int)+1:=by omega
 have hb4:¬ (c=i):=by omega
 go_enter Tryz.func113,Tryz.ntmps113
 go_wp2_with (simp only[hov])
 go_region_law_o (refine cj rfl _ _ 28 28 rfl _ _ (by simp[Act.eval,Act.put]) (by simp[Act.eval,Act.put]) (hcp1 _ _ _) ?_)
 go_wp2_with (at_builtin;refine bL _ rfl _ _ 28 28 rfl _ _ rfl rfl (hcp2 _ _) ?_)
 go_ret
 exact⟨rfl,rfl⟩
set_option maxHeartbeats 4000000 in
set_option maxRecDepth 1000000 in
theorem ig113:pU Tryz.prog 113 28 3 8:=by
 intro b n i vb vc nb G w W0 W1 W2 hi hn hG hG63 hap hcpA hcpB
 have tS:Tryz.prog.underlying 28=some (.slice 42):=by kernel_rfl
 have mixed:Tryz.prog.follows .mixedOrders=true:=Checked.mixed Tryz.checked
 have hz2:¬ ((i:Int)=(n:Int)):=by omega
 have hz3:(n:Int)<(n:Int)+1:=by omega
 have hw1:IntKind.i64.wrap ((i:Int)+1)=(i:Int)+1:=by rw[IntKind.wrap_i64];omega
 have hw2:IntKind.i64.wrap ((n:Int)+1)=(n:Int)+1:=by rw[IntKind.wrap_i64];omega
 have hw3:IntKind.i64.wrap ((n:Int)+1 - (i:Int))=(n:Int)+1 - (i:Int):=by rw[IntKind.wrap_i64];omega
 have hb1:(0:Int)≤(i:Int)+1:=by omega
 have hin:i≤n:=by omega
 have htn:((i:Int)+1).toNat=i+1:=by omega
 have hb3:(i:Int)≤(n:Int):=by omega
 have hGi:¬ (G=i):=by omega
 have hGim:¬ (G=i+1):=by omega
 have hci:¬ (n=i):=by omega
 go_enter Tryz.func113,Tryz.ntmps113
 go_wp2_with (first
  | (at_builtin;refine Lib.wpList_append_run _ rfl _ _ _ _ rfl _ _ rfl rfl _ _ (hap _) ?_)
  | (at_builtin;refine bL _ rfl _ _ 28 28 rfl _ _ rfl rfl (hcpA _ _) ?_))
 go_region_law_o (refine cj rfl _ _ 28 28 rfl (.slice (some ⟨nb,(i+1)*8,none⟩) (n - i) (G - (i+1))) (.slice (some ⟨b,i*8,none⟩) (n - i) (n - i)) (by simp[Act.eval,Act.put]) (by simp[Act.eval,Act.put]) (hcpB _ _ _) ?_)
 go_wp2
 go_ret
 exact⟨rfl,rfl⟩
theorem ok113:FnOk Tryz.prog 113 sp113:=vA tok (te:=row42) (tb:=4) (by kernel_rfl) (by kernel_rfl) (sz:=8) (by kernel_rfl) (Nat.blt_eq.mp (by kernel_rfl)) (Nat.ble_eq.mp (by kernel_rfl)) (by kernel_rfl:Tryz.prog.underlying 28=some (.slice 42)) (by kernel_rfl:Tryz.prog.underlying 3=some (.int .i64)) ⟨Tryz.f113,by kernel_rfl,by kernel_rfl,by kernel_rfl⟩ ov113 GO iw113 ig113
theorem ok73:FnOk Tryz.prog 73 sp73:=fo (nv:=8) (h:=h73) (ab ok92 (ab ok111 (ab ok112 (ab ok113 af)))) Tryz.func73
theorem ok114:FnOk Tryz.prog 114 sp114:=fo (nv:=15) (h:=h114) af Tryz.func114
theorem ok115:FnOk Tryz.prog 115 sp115:=fo (nv:=9) (h:=h115) (ab ok92 (ab ok111 af)) Tryz.func115
theorem ok168:FnOk Tryz.prog 168 sp168:=fo (nv:=9) (h:=h168) af Tryz.func168
theorem ok116:FnOk Tryz.prog 116 sp116:=fo (nv:=8) (h:=h116) (ab ok168 af) Tryz.func116
theorem Do:FnOk Tryz.prog 117 CT:=fnOk (nv:=1) (h:=h117) tok mix af Tryz.func117 (by kernel_rfl) (by kernel_rfl) (by kernel_rfl) (by kernel_rfl) (by kernel_rfl)
set_option maxHeartbeats 2000000 in
theorem Fl(p:Option Addr)(cap:Nat)(w:World):Calls Tryz.prog 117 #[.slice p 0 cap] w λe w'=>∃p',e = .returned (.slice p' 0 0)∧RowKit.Below w.heap.size w w'∧w.drawn≤w'.drawn:=by
 have q:=kZ (P:=Tryz.prog) (t:=44) Aq.und
 cases p with
 | none=>
  go_enter Tryz.func117,Tryz.ntmps117
  go_wp2
  go_ret
  exact⟨_,rfl,.refl _ _,Nat.le_refl _⟩
 | some p=>
  go_enter Tryz.func117,Tryz.ntmps117
  go_wp2
  go_ret
  exact⟨_,rfl,(RowKit.Below.refl _ w).alloc (Nat.le_refl _) _,Nat.le_refl _⟩
theorem ok117:FnOk Tryz.prog 117 sp117:=dY Do Fl
theorem ok118:FnOk Tryz.prog 118 sp118:=⟨⟨Tryz.f118,by kernel_rfl,by kernel_rfl,by kernel_rfl⟩,λa r hr=>nomatch (show(none:Option _)=some r from hr)⟩
theorem ok231:FnOk Tryz.prog 231 sp231:=fo (nv:=12) (h:=h231) (ab ok56 af) Tryz.func231
theorem ok200:FnOk Tryz.prog 200 sp200:=fo (nv:=8) (h:=h200) (ab ok52 (ab ok231 af)) Tryz.func200
theorem ok232:FnOk Tryz.prog 232 sp232:=⟨⟨Tryz.f232,by kernel_rfl,by kernel_rfl,by kernel_rfl⟩,λa r hr=>nomatch (show(none:Option _)=some r from hr)⟩
theorem ok233:FnOk Tryz.prog 233 sp233:=⟨⟨Tryz.f233,by kernel_rfl,by kernel_rfl,by kernel_rfl⟩,λa r hr=>nomatch (show(none:Option _)=some r from hr)⟩
theorem ok275:FnOk Tryz.prog 275 sp275:=fo (nv:=4) (h:=h275) af Tryz.func275
theorem ok234:FnOk Tryz.prog 234 sp234:=fo (nv:=8) (h:=h234) (ab ok275 af) Tryz.func234
theorem ok235:FnOk Tryz.prog 235 sp235:=fo (nv:=4) (h:=h235) (ab ok57 (ab ok275 af)) Tryz.func235
theorem ok329:FnOk Tryz.prog 329 sp329:=fo (nv:=13) (h:=h329) af Tryz.func329
theorem ok353:FnOk Tryz.prog 353 sp353:=⟨⟨Tryz.f353,by kernel_rfl,by kernel_rfl,by kernel_rfl⟩,λa r hr=>nomatch (show(none:Option _)=some r from hr)⟩
theorem ok330:FnOk Tryz.prog 330 sp330:=fo (nv:=4) (h:=h330) (ab ok353 af) Tryz.func330
theorem ok288:FnOk Tryz.prog 288 sp288:=fo (nv:=16) (h:=h288) (ab ok56 (ab ok329 (ab ok330 af))) Tryz.func288
theorem ok247:FnOk Tryz.prog 247 sp247:=fo (nv:=7) (h:=h247) (ab ok288 af) Tryz.func247
theorem ok221:FnOk Tryz.prog 221 sp221:=fo (nv:=9) (h:=h221) (ab ok56 af) Tryz.func221
theorem ok188:FnOk Tryz.prog 188 sp188:=fo (nv:=12) (h:=h188) (ab ok221 af) Tryz.func188
theorem ok363:FnOk Tryz.prog 363 sp363:=fo (nv:=14) (h:=h363) af Tryz.func363
theorem ok377:FnOk Tryz.prog 377 sp377:=⟨⟨Tryz.f377,by kernel_rfl,by kernel_rfl,by kernel_rfl⟩,λa r hr=>nomatch (show(none:Option _)=some r from hr)⟩
theorem ok364:FnOk Tryz.prog 364 sp364:=fo (nv:=19) (h:=h364) (ab ok377 af) Tryz.func364
theorem ok344:FnOk Tryz.prog 344 sp344:=fo (nv:=8) (h:=h344) (ab ok363 (ab ok364 af)) Tryz.func344
theorem ok315:FnOk Tryz.prog 315 sp315:=fo (nv:=5) (h:=h315) (ab ok94 (ab ok95 (ab ok344 af))) Tryz.func315
theorem ok316:FnOk Tryz.prog 316 sp316:=fo (nv:=4) (h:=h316) (ab ok85 af) Tryz.func316
theorem ok313:FnOk Tryz.prog 313 sp313:=fo (nv:=15) (h:=h313) (ab ok89 (ab ok188 (ab ok315 (ab ok316 af)))) Tryz.func313
theorem ok314:FnOk Tryz.prog 314 sp314:=⟨⟨Tryz.f314,by kernel_rfl,by kernel_rfl,by kernel_rfl⟩,λa r hr=>nomatch (show(none:Option _)=some r from hr)⟩
theorem ok276:FnOk Tryz.prog 276 sp276:=fo (nv:=7) (h:=h276) (ab ok313 (ab ok314 af)) Tryz.func276
theorem ok236:FnOk Tryz.prog 236 sp236:=fo (nv:=8) (h:=h236) (ab ok56 (ab ok57 (ab ok247 (ab ok276 af)))) Tryz.func236
theorem ok277:FnOk Tryz.prog 277 sp277:=fo (nv:=9) (h:=h277) (ab ok288 af) Tryz.func277
theorem ok278:FnOk Tryz.prog 278 sp278:=fo (nv:=10) (h:=h278) (ab ok89 (ab ok276 (ab ok315 af))) Tryz.func278
theorem ok237:FnOk Tryz.prog 237 sp237:=fo (nv:=4) (h:=h237) (ab ok57 (ab ok277 (ab ok278 af))) Tryz.func237
theorem ok238:FnOk Tryz.prog 238 sp238:=fo (nv:=4) (h:=h238) (ab ok57 af) Tryz.func238
theorem ok345:FnOk Tryz.prog 345 sp345:=⟨⟨Tryz.f345,by kernel_rfl,by kernel_rfl,by kernel_rfl⟩,λa r hr=>nomatch (show(none:Option _)=some r from hr)⟩
theorem ok317:FnOk Tryz.prog 317 sp317:=fo (nv:=7) (h:=h317) (ab ok313 (ab ok345 af)) Tryz.func317
theorem ok318:FnOk Tryz.prog 318 sp318:=fo (nv:=12) (h:=h318) (ab ok221 af) Tryz.func318
theorem ok279:FnOk Tryz.prog 279 sp279:=fo (nv:=20) (h:=h279) (ab ok56 (ab ok57 (ab ok188 (ab ok247 (ab ok316 (ab ok317 (ab ok318 af))))))) Tryz.func279
theorem ok239:FnOk Tryz.prog 239 sp239:=fo (nv:=6) (h:=h239) (ab ok279 af) Tryz.func239
theorem Gu:FnOk Tryz.prog 170 EZ:=fnOk (nv:=10) (h:=h170) tok mix af Tryz.func170 (by kernel_rfl) (by kernel_rfl) (by kernel_rfl) (by kernel_rfl) (by kernel_rfl)
theorem ov170(w:World)(a b:Value)(h:(Extern.SlicesOverlaps.overlaps #[29,29] #[4] #[a,b]).run Tryz.prog w = .ok (.bool false) w):(callFunc 203 #[a,b]).run Tryz.prog w = .ok (.value (.bool false)) w:=by
 rw[run_callFunc_extern Tryz.func203 (by kernel_rfl) (by kernel_rfl) (by kernel_rfl) (e:=Extern.SlicesOverlaps.overlaps #[29,29] #[4]) (by kernel_rfl),h]
 rfl
set_option maxHeartbeats 4000000 in
set_option maxRecDepth 1000000 in
theorem iw170:nS Tryz.prog 170 29 14 203:=by
 intro b n c i vb vc w W1 W2 hi hroom hc63 hov hcp1 hcp2
 have tS:Tryz.prog.underlying 29=some (.slice 46):=by kernel_rfl
 have mixed:Tryz.prog.follows .mixedOrders=true:=Checked.mixed Tryz.checked
 have hz2:¬ ((i:Int)=(n:Int)):=by omega
 have hw1:IntKind.i64.wrap ((i:Int)+1)=(i:Int)+1:=by rw[IntKind.wrap_i64];omega
 have hw2:IntKind.i64.wrap ((n:Int)+1)=(n:Int)+1:=by rw[IntKind.wrap_i64];omega
 have hb1:(0:Int)≤(i:Int)+1:=by omega
 have hb0:(0:Int)≤(n:Int)+1:=by omega
 have hin:i≤n:=by omega
 have htn:((i:Int)+1).toNat=i+1:=by omega
 have htm:((n:Int)+1).toNat=n+1:=by omega
 have hb2:¬ (c=i+1):=by omega
 have hb3:(i:Int)≤(n:Int)+1:=by omega
 have hb4:¬ (c=i):=by omega
 go_enter Tryz.func170,Tryz.ntmps170
 go_wp2_with (simp only[hov])
 go_region_law_o (refine cj rfl _ _ 29 29 rfl _ _ (by simp[Act.eval,Act.put]) (by simp[Act.eval,Act.put]) (hcp1 _ _ _) ?_)
 go_wp2_with (at_builtin;refine bL _ rfl _ _ 29 29 rfl _ _ rfl rfl (hcp2 _ _) ?_)
 go_ret
 exact⟨rfl,rfl⟩
set_option maxHeartbeats 4000000 in
set_option maxRecDepth 1000000 in
theorem ig170:pU Tryz.prog 170 29 3 14:=by
 intro b n i vb vc nb G w W0 W1 W2 hi hn hG hG63 hap hcpA hcpB
 have tS:Tryz.prog.underlying 29=some (.slice 46):=by kernel_rfl
 have mixed:Tryz.prog.follows .mixedOrders=true:=Checked.mixed Tryz.checked
 have hz2:¬ ((i:Int)=(n:Int)):=by omega
 have hz3:(n:Int)<(n:Int)+1:=by omega
 have hw1:IntKind.i64.wrap ((i:Int)+1)=(i:Int)+1:=by rw[IntKind.wrap_i64];omega
 have hw2:IntKind.i64.wrap ((n:Int)+1)=(n:Int)+1:=by rw[IntKind.wrap_i64];omega
 have hw3:IntKind.i64.wrap ((n:Int)+1 - (i:Int))=(n:Int)+1 - (i:Int):=by rw[IntKind.wrap_i64];omega
 have hb1:(0:Int)≤(i:Int)+1:=by omega
 have hin:i≤n:=by omega
 have htn:((i:Int)+1).toNat=i+1:=by omega
 have hb3:(i:Int)≤(n:Int):=by omega
 have hGi:¬ (G=i):=by omega
 have hGim:¬ (G=i+1):=by omega
 have hci:¬ (n=i):=by omega
 go_enter Tryz.func170,Tryz.ntmps170
 go_wp2_with (first
  | (at_builtin;refine Lib.wpList_append_run _ rfl _ _ _ _ rfl _ _ rfl rfl _ _ (hap _) ?_)
  | (at_builtin;refine bL _ rfl _ _ 29 29 rfl _ _ rfl rfl (hcpA _ _) ?_))
 go_region_law_o (refine cj rfl _ _ 29 29 rfl (.slice (some ⟨nb,(i+1)*14,none⟩) (n - i) (G - (i+1))) (.slice (some ⟨b,i*14,none⟩) (n - i) (n - i)) (by simp[Act.eval,Act.put]) (by simp[Act.eval,Act.put]) (hcpB _ _ _) ?_)
 go_wp2
 go_ret
 exact⟨rfl,rfl⟩
theorem ok170:FnOk Tryz.prog 170 sp170:=vA tok (te:=row46) (tb:=4) (by kernel_rfl) (by kernel_rfl) (sz:=14) (by kernel_rfl) (Nat.blt_eq.mp (by kernel_rfl)) (Nat.ble_eq.mp (by kernel_rfl)) (by kernel_rfl:Tryz.prog.underlying 29=some (.slice 46)) (by kernel_rfl:Tryz.prog.underlying 3=some (.int .i64)) ⟨Tryz.f170,by kernel_rfl,by kernel_rfl,by kernel_rfl⟩ ov170 Gu iw170 ig170
theorem ok125:FnOk Tryz.prog 125 sp125:=fo (nv:=7) (h:=h125) (ab ok66 (ab ok170 af)) Tryz.func125
theorem ok131:FnOk Tryz.prog 131 sp131:=fo (nv:=5) (h:=h131) (ab ok91 (ab ok125 (ab zF af))) Tryz.func131
theorem ok173:FnOk Tryz.prog 173 sp173:=fo (nv:=4) (h:=h173) af Tryz.func173
theorem ok207:FnOk Tryz.prog 207 sp207:=fo (nv:=9) (h:=h207) af Tryz.func207
theorem ok346:FnOk Tryz.prog 346 sp346:=fo (nv:=3) (h:=h346) af Tryz.func346
theorem ok319:FnOk Tryz.prog 319 sp319:=fo (nv:=4) (h:=h319) (ab ok207 (ab ok346 af)) Tryz.func319
set_option maxHeartbeats 4000000 in
set_option maxRecDepth 1000000 in
theorem dn320:AQ Tryz.prog 320:=by
 constructor
 ·intro b n cap i w hn hj
  go_enter Tryz.func320,Tryz.ntmps320
  go_wp2
  all_goals (go_ret;exact⟨rfl,rfl⟩)
 ·intro p w;cases p
  ·go_enter Tryz.func320,Tryz.ntmps320
   go_wp2
   all_goals (go_ret;exact⟨rfl,rfl⟩)
  ·go_enter Tryz.func320,Tryz.ntmps320
   go_wp2
   all_goals (go_ret;exact⟨rfl,rfl⟩)
set_option maxHeartbeats 4000000 in
set_option maxRecDepth 1000000 in
theorem dw320:AP Tryz.prog 320 43 71 8:=by
 intro b n cap i j w hn hm hlt hj i0 hi0 hz1 A hA news s1 hsrc s2 s3 W1 W2 hW hcl
 have hic:i≤cap:=by omega
 have hjc:j≤cap:=by omega
 have tS:Tryz.prog.underlying 43=some (.slice 71):=by kernel_rfl
 have mixed:Tryz.prog.follows .mixedOrders=true:=Checked.mixed Tryz.checked
 go_enter Tryz.func320,Tryz.ntmps320
 go_wp2_with fail
 go_region_law_o (refine step_append_room rfl (.tmp 22) (.tmp 25) 43 rfl 71 i0 8 tS hi0 hz1 b 0 i cap (by simp[Act.eval,Act.put]) A (n - j) (cap - j) news (by simp[Act.eval,Act.put]) s1.out hsrc.out s2.out (by omega) s3.out ?_;rw[← hW.out])
 go_wp2
 go_ret
 exact⟨rfl,rfl⟩
theorem ok320:FnOk Tryz.prog 320 sp320:=Ha tok (te:=row71) (by kernel_rfl) (by kernel_rfl) (sz:=8) (by kernel_rfl) (Nat.blt_eq.mp (by kernel_rfl)) (by kernel_rfl:Tryz.prog.underlying 43=some (.slice 71)) ⟨Tryz.f320,by kernel_rfl,by kernel_rfl,by kernel_rfl⟩ dn320 dw320
theorem ok280:FnOk Tryz.prog 280 sp280:=fo (nv:=8) (h:=h280) (ab ok173 (ab ok319 (ab ok320 af))) Tryz.func280
theorem Ek:FnOk Tryz.prog 281 Ev:=fnOk (nv:=10) (h:=h281) tok mix af Tryz.func281 (by kernel_rfl) (by kernel_rfl) (by kernel_rfl) (by kernel_rfl) (by kernel_rfl)
theorem ov281(w:World)(a b:Value)(h:(Extern.SlicesOverlaps.overlaps #[30,30] #[4] #[a,b]).run Tryz.prog w = .ok (.bool false) w):(callFunc 321 #[a,b]).run Tryz.prog w = .ok (.value (.bool false)) w:=by
 rw[run_callFunc_extern Tryz.func321 (by kernel_rfl) (by kernel_rfl) (by kernel_rfl) (e:=Extern.SlicesOverlaps.overlaps #[30,30] #[4]) (by kernel_rfl),h]
 rfl
set_option maxHeartbeats 4000000 in
set_option maxRecDepth 1000000 in
theorem iw281:nS Tryz.prog 281 30 9 321:=by
 intro b n c i vb vc w W1 W2 hi hroom hc63 hov hcp1 hcp2
 have tS:Tryz.prog.underlying 30=some (.slice 68):=by kernel_rfl
 have mixed:Tryz.prog.follows .mixedOrders=true:=Checked.mixed Tryz.checked
 have hz2:¬ ((i:Int)=(n:Int)):=by omega
 have hw1:IntKind.i64.wrap ((i:Int)+1)=(i:Int)+1:=by rw[IntKind.wrap_i64];omega
 have hw2:IntKind.i64.wrap ((n:Int)+1)=(n:Int)+1:=by rw[IntKind.wrap_i64];omega
 have hb1:(0:Int)≤(i:Int)+1:=by omega
 have hb0:(0:Int)≤(n:Int)+1:=by omega
 have hin:i≤n:=by omega
 have htn:((i:Int)+1).toNat=i+1:=by omega
 have htm:((n:Int)+1).toNat=n+1:=by omega
 have hb2:¬ (c=i+1):=by omega
 have hb3:(i:Int)≤(n:Int)+1:=by omega
 have hb4:¬ (c=i):=by omega
 go_enter Tryz.func281,Tryz.ntmps281
 go_wp2_with (simp only[hov])
 go_region_law_o (refine cj rfl _ _ 30 30 rfl _ _ (by simp[Act.eval,Act.put]) (by simp[Act.eval,Act.put]) (hcp1 _ _ _) ?_)
 go_wp2_with (at_builtin;refine bL _ rfl _ _ 30 30 rfl _ _ rfl rfl (hcp2 _ _) ?_)
 go_ret
 exact⟨rfl,rfl⟩
set_option maxHeartbeats 4000000 in
set_option maxRecDepth 1000000 in
theorem ig281:pU Tryz.prog 281 30 3 9:=by
 intro b n i vb vc nb G w W0 W1 W2 hi hn hG hG63 hap hcpA hcpB
 have tS:Tryz.prog.underlying 30=some (.slice 68):=by kernel_rfl
 have mixed:Tryz.prog.follows .mixedOrders=true:=Checked.mixed Tryz.checked
 have hz2:¬ ((i:Int)=(n:Int)):=by omega
 have hz3:(n:Int)<(n:Int)+1:=by omega
 have hw1:IntKind.i64.wrap ((i:Int)+1)=(i:Int)+1:=by rw[IntKind.wrap_i64];omega
 have hw2:IntKind.i64.wrap ((n:Int)+1)=(n:Int)+1:=by rw[IntKind.wrap_i64];omega
 have hw3:IntKind.i64.wrap ((n:Int)+1 - (i:Int))=(n:Int)+1 - (i:Int):=by rw[IntKind.wrap_i64];omega
 have hb1:(0:Int)≤(i:Int)+1:=by omega
 have hin:i≤n:=by omega
 have htn:((i:Int)+1).toNat=i+1:=by omega
 have hb3:(i:Int)≤(n:Int):=by omega
 have hGi:¬ (G=i):=by omega
 have hGim:¬ (G=i+1):=by omega
 have hci:¬ (n=i):=by omega
 go_enter Tryz.func281,Tryz.ntmps281
 go_wp2_with (first
  | (at_builtin;refine Lib.wpList_append_run _ rfl _ _ _ _ rfl _ _ rfl rfl _ _ (hap _) ?_)
  | (at_builtin;refine bL _ rfl _ _ 30 30 rfl _ _ rfl rfl (hcpA _ _) ?_))
 go_region_law_o (refine cj rfl _ _ 30 30 rfl (.slice (some ⟨nb,(i+1)*9,none⟩) (n - i) (G - (i+1))) (.slice (some ⟨b,i*9,none⟩) (n - i) (n - i)) (by simp[Act.eval,Act.put]) (by simp[Act.eval,Act.put]) (hcpB _ _ _) ?_)
 go_wp2
 go_ret
 exact⟨rfl,rfl⟩
theorem ok281:FnOk Tryz.prog 281 sp281:=vA tok (te:=row68) (tb:=4) (by kernel_rfl) (by kernel_rfl) (sz:=9) (by kernel_rfl) (Nat.blt_eq.mp (by kernel_rfl)) (Nat.ble_eq.mp (by kernel_rfl)) (by kernel_rfl:Tryz.prog.underlying 30=some (.slice 68)) (by kernel_rfl:Tryz.prog.underlying 3=some (.int .i64)) ⟨Tryz.f281,by kernel_rfl,by kernel_rfl,by kernel_rfl⟩ ov281 Ek iw281 ig281
theorem ok241:FnOk Tryz.prog 241 sp241:=fo (nv:=9) (h:=h241) (ab ok131 (ab ok280 (ab ok281 af))) Tryz.func241
theorem ok201:FnOk Tryz.prog 201 sp201:=fo (nv:=12) (h:=h201) (ab ok51 (ab ok97 (ab ok232 (ab ok233 af)))) Tryz.func201
shelf_lay_g Go.Proofs.SlLaysF0.n6 Slsf 6 at Tryz 348 as lay348
theorem ok348:FnOk Tryz.prog 348 sp348:=Da (ρ:=lay348_ren) (n:=15) lay348 (by intro w;kernel_rfl) (by intro w;kernel_rfl) (by kernel_rfl) (Nat.blt_eq.mp (by kernel_rfl)) ⟨Tryz.f348,by kernel_rfl,by kernel_rfl,by kernel_rfl⟩
theorem ok349:FnOk Tryz.prog 349 sp349:=⟨⟨Tryz.f349,by kernel_rfl,by kernel_rfl,by kernel_rfl⟩,λa r hr=>nomatch (show(none:Option _)=some r from hr)⟩
theorem ok323:FnOk Tryz.prog 323 sp323:=fo (nv:=44) (h:=h323) (ab ok88 (ab ok247 (ab ok276 (ab ok348 (ab ok349 af))))) Tryz.func323
theorem AN:∀n,FnOk Tryz.prog 282 (F1 n)
 | 0=>⟨⟨Tryz.f282,by kernel_rfl,by kernel_rfl,by kernel_rfl⟩,λa r hr=>nomatch (show(none:Option _)=some r from hr)⟩
 | n+1=>fnOk (nv:=29) (h:=h282) tok mix (ab (AN n) (ab ok323 af)) Tryz.func282 (by kernel_rfl) (by kernel_rfl) (by kernel_rfl) (by kernel_rfl) (by kernel_rfl)
theorem ok282:FnOk Tryz.prog 282 sp282:=AN 64
theorem ok242:FnOk Tryz.prog 242 sp242:=fo (nv:=3) (h:=h242) (ab ok282 af) Tryz.func242
theorem ok368:FnOk Tryz.prog 368 sp368:=fo (nv:=10) (h:=h368) af Tryz.func368
theorem ok397:FnOk Tryz.prog 397 sp397:=fo (nv:=11) (h:=h397) af Tryz.func397
theorem ok388:FnOk Tryz.prog 388 sp388:=fo (nv:=12) (h:=h388) (ab ok397 af) Tryz.func388
theorem AS:∀n,FnOk Tryz.prog 369 (FO n)
 | 0=>⟨⟨Tryz.f369,by kernel_rfl,by kernel_rfl,by kernel_rfl⟩,λa r hr=>nomatch (show(none:Option _)=some r from hr)⟩
 | n+1=>fnOk (nv:=25) (h:=h369) tok mix (ab (AS n) (ab ok388 af)) Tryz.func369 (by kernel_rfl) (by kernel_rfl) (by kernel_rfl) (by kernel_rfl) (by kernel_rfl)
theorem ok369:FnOk Tryz.prog 369 sp369:=AS 64
theorem ok350:FnOk Tryz.prog 350 sp350:=fo (nv:=10) (h:=h350) (ab ok368 (ab ok369 af)) Tryz.func350
theorem ok324:FnOk Tryz.prog 324 sp324:=fo (nv:=2) (h:=h324) (ab ok350 af) Tryz.func324
theorem ok325:FnOk Tryz.prog 325 sp325:=⟨⟨Tryz.f325,by kernel_rfl,by kernel_rfl,by kernel_rfl⟩,λa r hr=>nomatch (show(none:Option _)=some r from hr)⟩
theorem ok283:FnOk Tryz.prog 283 sp283:=fo (nv:=39) (h:=h283) (ab ok53 (ab ok324 (ab ok325 af))) Tryz.func283
theorem ok284:FnOk Tryz.prog 284 sp284:=⟨⟨Tryz.f284,by kernel_rfl,by kernel_rfl,by kernel_rfl⟩,λa r hr=>nomatch (show(none:Option _)=some r from hr)⟩
theorem ok285:FnOk Tryz.prog 285 sp285:=⟨⟨Tryz.f285,by kernel_rfl,by kernel_rfl,by kernel_rfl⟩,λa r hr=>nomatch (show(none:Option _)=some r from hr)⟩
theorem ok243:FnOk Tryz.prog 243 sp243:=fo (nv:=59) (h:=h243) (ab ok51 (ab ok153 (ab ok235 (ab ok236 (ab ok237 (ab ok238 (ab ok239 (ab ok241 (ab ok283 (ab ok284 (ab ok285 af))))))))))) Tryz.func243
theorem ok202:FnOk Tryz.prog 202 sp202:=fo (nv:=8) (h:=h202) (ab ok234 (ab ok242 (ab ok243 af))) Tryz.func202
theorem ok169:FnOk Tryz.prog 169 sp169:=fo (nv:=11) (h:=h169) (ab ok34 (ab ok52 (ab ok200 (ab ok201 (ab ok202 af))))) Tryz.func169
theorem ok120:FnOk Tryz.prog 120 sp120:=fo (nv:=10) (h:=h120) (ab ok34 (ab ok169 af)) Tryz.func120
theorem ok74:FnOk Tryz.prog 74 sp74:=fo (nv:=8) (h:=h74) (ab ok34 (ab ok52 (ab ok82 (ab ok114 (ab ok115 (ab ok116 (ab ok117 (ab ok118 (ab ok120 af))))))))) Tryz.func74
theorem ok172:FnOk Tryz.prog 172 sp172:=fo (nv:=8) (h:=h172) (ab ok207 af) Tryz.func172
theorem ok174:FnOk Tryz.prog 174 sp174:=fo (nv:=3) (h:=h174) af Tryz.func174
theorem FK:FnOk Tryz.prog 175 FC:=fnOk (nv:=10) (h:=h175) tok mix af Tryz.func175 (by kernel_rfl) (by kernel_rfl) (by kernel_rfl) (by kernel_rfl) (by kernel_rfl)
theorem ov175(w:World)(a b:Value)(h:(Extern.SlicesOverlaps.overlaps #[43,43] #[4] #[a,b]).run Tryz.prog w = .ok (.bool false) w):(callFunc 208 #[a,b]).run Tryz.prog w = .ok (.value (.bool false)) w:=by
 rw[run_callFunc_extern Tryz.func208 (by kernel_rfl) (by kernel_rfl) (by kernel_rfl) (e:=Extern.SlicesOverlaps.overlaps #[43,43] #[4]) (by kernel_rfl),h]
 rfl
set_option maxHeartbeats 4000000 in
set_option maxRecDepth 1000000 in
theorem iw175:nS Tryz.prog 175 43 8 208:=by
 intro b n c i vb vc w W1 W2 hi hroom hc63 hov hcp1 hcp2
 have tS:Tryz.prog.underlying 43=some (.slice 71):=by kernel_rfl
 have mixed:Tryz.prog.follows .mixedOrders=true:=Checked.mixed Tryz.checked
 have hz2:¬ ((i:Int)=(n:Int)):=by omega
 have hw1:IntKind.i64.wrap ((i:Int)+1)=(i:Int)+1:=by rw[IntKind.wrap_i64];omega
 have hw2:IntKind.i64.wrap ((n:Int)+1)=(n:Int)+1:=by rw[IntKind.wrap_i64];omega
 have hb1:(0:Int)≤(i:Int)+1:=by omega
 have hb0:(0:Int)≤(n:Int)+1:=by omega
 have hin:i≤n:=by omega
 have htn:((i:Int)+1).toNat=i+1:=by omega
 have htm:((n:Int)+1).toNat=n+1:=by omega
 have hb2:¬ (c=i+1):=by omega
 have hb3:(i:Int)≤(n:Int)+1:=by omega
 have hb4:¬ (c=i):=by omega
 go_enter Tryz.func175,Tryz.ntmps175
 go_wp2_with (simp only[hov])
 go_region_law_o (refine cj rfl _ _ 43 43 rfl _ _ (by simp[Act.eval,Act.put]) (by simp[Act.eval,Act.put]) (hcp1 _ _ _) ?_)
 go_wp2_with (at_builtin;refine bL _ rfl _ _ 43 43 rfl _ _ rfl rfl (hcp2 _ _) ?_)
 go_ret
 exact⟨rfl,rfl⟩
set_option maxHeartbeats 4000000 in
set_option maxRecDepth 1000000 in
theorem ig175:pU Tryz.prog 175 43 3 8:=by
 intro b n i vb vc nb G w W0 W1 W2 hi hn hG hG63 hap hcpA hcpB
 have tS:Tryz.prog.underlying 43=some (.slice 71):=by kernel_rfl
 have mixed:Tryz.prog.follows .mixedOrders=true:=Checked.mixed Tryz.checked
 have hz2:¬ ((i:Int)=(n:Int)):=by omega
 have hz3:(n:Int)<(n:Int)+1:=by omega
 have hw1:IntKind.i64.wrap ((i:Int)+1)=(i:Int)+1:=by rw[IntKind.wrap_i64];omega
 have hw2:IntKind.i64.wrap ((n:Int)+1)=(n:Int)+1:=by rw[IntKind.wrap_i64];omega
 have hw3:IntKind.i64.wrap ((n:Int)+1 - (i:Int))=(n:Int)+1 - (i:Int):=by rw[IntKind.wrap_i64];omega
 have hb1:(0:Int)≤(i:Int)+1:=by omega
 have hin:i≤n:=by omega
 have htn:((i:Int)+1).toNat=i+1:=by omega
 have hb3:(i:Int)≤(n:Int):=by omega
 have hGi:¬ (G=i):=by omega
 have hGim:¬ (G=i+1):=by omega
 have hci:¬ (n=i):=by omega
 go_enter Tryz.func175,Tryz.ntmps175
 go_wp2_with (first
  | (at_builtin;refine Lib.wpList_append_run _ rfl _ _ _ _ rfl _ _ rfl rfl _ _ (hap _) ?_)
  | (at_builtin;refine bL _ rfl _ _ 43 43 rfl _ _ rfl rfl (hcpA _ _) ?_))
 go_region_law_o (refine cj rfl _ _ 43 43 rfl (.slice (some ⟨nb,(i+1)*8,none⟩) (n - i) (G - (i+1))) (.slice (some ⟨b,i*8,none⟩) (n - i) (n - i)) (by simp[Act.eval,Act.put]) (by simp[Act.eval,Act.put]) (hcpB _ _ _) ?_)
 go_wp2
 go_ret
 exact⟨rfl,rfl⟩
theorem ok175:FnOk Tryz.prog 175 sp175:=vA tok (te:=row71) (tb:=4) (by kernel_rfl) (by kernel_rfl) (sz:=8) (by kernel_rfl) (Nat.blt_eq.mp (by kernel_rfl)) (Nat.ble_eq.mp (by kernel_rfl)) (by kernel_rfl:Tryz.prog.underlying 43=some (.slice 71)) (by kernel_rfl:Tryz.prog.underlying 3=some (.int .i64)) ⟨Tryz.f175,by kernel_rfl,by kernel_rfl,by kernel_rfl⟩ ov175 FK iw175 ig175
theorem ok129:FnOk Tryz.prog 129 sp129:=fo (nv:=8) (h:=h129) (ab ok172 (ab ok173 (ab ok174 (ab ok175 af)))) Tryz.func129
theorem ok107:FnOk Tryz.prog 107 sp107:=fo (nv:=4) (h:=h107) (ab ok129 af) Tryz.func107
theorem ok121:FnOk Tryz.prog 121 sp121:=fo (nv:=3) (h:=h121) af Tryz.func121
theorem ok122:FnOk Tryz.prog 122 sp122:=fo (nv:=9) (h:=h122) (ab ok53 af) Tryz.func122
theorem ok123:FnOk Tryz.prog 123 sp123:=⟨⟨Tryz.f123,by kernel_rfl,by kernel_rfl,by kernel_rfl⟩,λa r hr=>nomatch (show(none:Option _)=some r from hr)⟩
theorem ok124:FnOk Tryz.prog 124 sp124:=⟨⟨Tryz.f124,by kernel_rfl,by kernel_rfl,by kernel_rfl⟩,λa r hr=>nomatch (show(none:Option _)=some r from hr)⟩
theorem ok75:FnOk Tryz.prog 75 sp75:=fo (nv:=8) (h:=h75) (ab ok60 (ab ok66 (ab ok96 (ab ok107 (ab ok121 (ab ok122 (ab ok123 (ab ok124 (ab ok125 (ab zF af)))))))))) Tryz.func75
theorem ok126:FnOk Tryz.prog 126 sp126:=fo (nv:=23) (h:=h126) af Tryz.func126
theorem ok127:FnOk Tryz.prog 127 sp127:=fo (nv:=15) (h:=h127) af Tryz.func127
theorem ok205:FnOk Tryz.prog 205 sp205:=fo (nv:=2) (h:=h205) (ab ok168 af) Tryz.func205
theorem ok206:FnOk Tryz.prog 206 sp206:=fo (nv:=3) (h:=h206) af Tryz.func206
theorem ok171:FnOk Tryz.prog 171 sp171:=fo (nv:=5) (h:=h171) (ab ok205 (ab ok206 af)) Tryz.func171
theorem ok128:FnOk Tryz.prog 128 sp128:=fo (nv:=3) (h:=h128) (ab ok171 af) Tryz.func128
theorem ok176:FnOk Tryz.prog 176 sp176:=⟨⟨Tryz.f176,by kernel_rfl,by kernel_rfl,by kernel_rfl⟩,λa r hr=>nomatch (show(none:Option _)=some r from hr)⟩
theorem ok130:FnOk Tryz.prog 130 sp130:=fo (nv:=13) (h:=h130) (ab ok64 (ab ok68 (ab ok176 af))) Tryz.func130
theorem ok76:FnOk Tryz.prog 76 sp76:=fo (nv:=79) (h:=h76) (ab ok51 (ab ok82 (ab ok117 (ab ok126 (ab ok127 (ab ok128 (ab ok129 (ab ok130 (ab ok131 af))))))))) Tryz.func76
theorem ok77:FnOk Tryz.prog 77 sp77:=⟨⟨Tryz.f77,by kernel_rfl,by kernel_rfl,by kernel_rfl⟩,λa r hr=>nomatch (show(none:Option _)=some r from hr)⟩
theorem ok78:FnOk Tryz.prog 78 sp78:=⟨⟨Tryz.f78,by kernel_rfl,by kernel_rfl,by kernel_rfl⟩,λa r hr=>nomatch (show(none:Option _)=some r from hr)⟩
theorem ok79:FnOk Tryz.prog 79 sp79:=⟨⟨Tryz.f79,by kernel_rfl,by kernel_rfl,by kernel_rfl⟩,λa r hr=>nomatch (show(none:Option _)=some r from hr)⟩
theorem ok80:FnOk Tryz.prog 80 sp80:=⟨⟨Tryz.f80,by kernel_rfl,by kernel_rfl,by kernel_rfl⟩,λa r hr=>nomatch (show(none:Option _)=some r from hr)⟩
theorem ok81:FnOk Tryz.prog 81 sp81:=⟨⟨Tryz.f81,by kernel_rfl,by kernel_rfl,by kernel_rfl⟩,λa r hr=>nomatch (show(none:Option _)=some r from hr)⟩
theorem ok35:FnOk Tryz.prog 35 sp35:=fo (nv:=8) (h:=h35) (ab ok71 (ab ok72 (ab ok73 (ab ok74 (ab ok75 (ab ok76 (ab ok77 (ab ok78 (ab ok79 (ab ok80 (ab ok81 (ab ok82 af)))))))))))) Tryz.func35
theorem ok17:FnOk Tryz.prog 17 sp17:=fo (nv:=9) (h:=h17) (ab ok34 (ab ok35 af)) Tryz.func17
theorem ok7:FnOk Tryz.prog 7 sp7:=fo (nv:=7) (h:=h7) (ab ok10 (ab ok15 (ab ok17 af))) Tryz.func7
theorem ok8:FnOk Tryz.prog 8 sp8:=fo (nv:=6) (h:=h8) af Tryz.func8
theorem ok9:FnOk Tryz.prog 9 sp9:=fo (nv:=9) (h:=h9) (ab ok17 af) Tryz.func9
theorem ok12:FnOk Tryz.prog 12 sp12:=fo (nv:=1) (h:=h12) af Tryz.func12
theorem ok18:FnOk Tryz.prog 18 sp18:=fo (nv:=7) (h:=h18) af Tryz.func18
theorem ok36:FnOk Tryz.prog 36 sp36:=fo (nv:=5) (h:=h36) af Tryz.func36
theorem ok144:FnOk Tryz.prog 144 sp144:=fo (nv:=4) (h:=h144) af Tryz.func144
theorem ok83:FnOk Tryz.prog 83 sp83:=fo (nv:=4) (h:=h83) (ab ok144 af) Tryz.func83
theorem ok37:FnOk Tryz.prog 37 sp37:=fo (nv:=7) (h:=h37) (ab ok83 af) Tryz.func37
theorem ok22:FnOk Tryz.prog 22 sp22:=fo (nv:=14) (h:=h22) (ab ok18 (ab ok36 (ab ok37 af))) Tryz.func22
theorem ok14:FnOk Tryz.prog 14 sp14:=fo (nv:=7) (h:=h14) (ab ok22 af) Tryz.func14
theorem ok19:FnOk Tryz.prog 19 sp19:=fo (nv:=4) (h:=h19) af Tryz.func19
theorem ok20:FnOk Tryz.prog 20 sp20:=fo (nv:=7) (h:=h20) (ab ok36 af) Tryz.func20
theorem ok6:FnOk Tryz.prog 6 sp6:=fo (nv:=12) (h:=h6) (ab ok7 (ab ok8 (ab ok9 (ab ok10 (ab ok12 (ab ok14 (ab ok19 (ab ok20 af)))))))) Tryz.func6
end Go.Fx.D
