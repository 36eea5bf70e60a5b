/-
  Each of these functions does what its function over plain data says, where that gives an answer (printed by a program). Conditions: none.
-/
import Derived.Test.YtkagmokhbmbjdaaGreatDoorFxD
import Derived.Ground.SlsfProg
import Derived.Ground.NamesProg
import Derived.Shelf.Lay
import Derived.Shelf.Strings.SlTrimAscii
import Derived.Shelf.Strconv.Atoi
import Derived.Test.YtkagmokhbmbjdaaGreatDoorD
import Derived.Test.YtkagmokhbmbjdaaGreatDoorFxC
import Derived.Test.YtkagmokhbmbjdaaGreatDoorChecked
import Derived.WalkKit
import Derived.TacticsInMore
import Derived.Lib.IndexBytes
import Derived.Deep.LoopGhost
import Derived.Shelf.RegionOpenPlain
import Derived.Lib.Walk
import Derived.LoopNIn
import Derived.LoopIn
namespace Go.Fx.D
open Go Go.Fx Go.Proofs Go.Shelf Go.RowKit Go.Lib Go.Sort
set_option linter.unusedVariables false
set_option maxRecDepth 100000
theorem rk{t:TypeId}{i:TI fam}(j:TypeInfo)(h1:Tryz.prog.underlying t=some i.desc:=by kernel_rfl)(h2:Tryz.prog.info? t=some j:=by kernel_rfl)(h3:j.zero=some (j.zero.getD .nilFunc):=by kernel_rfl)(h4:(Nat.beq j.size i.size&&Nat.beq j.bytes i.bytes&&Nat.beq (j.zero.getD .nilFunc).cells.size i.size&&zok i.zero (j.zero.getD .nilFunc).cells.toList&&(aggV (j.zero.getD .nilFunc) == dl i.desc))=true:=by kernel_rfl)(h5:tyOk i=true:=by kernel_rfl)(h6:eqOkB Tryz.prog t i=true:=by kernel_rfl):RowOk Tryz.prog t i:=⟨h1,⟨j,_,h2,h3,h4⟩,h5,h6⟩
theorem K6:RowOk Tryz.prog 3 row3:=rk Tryz.t3
theorem J7:RowOk Tryz.prog 4 row4:=rk Tryz.t4
theorem JV:RowOk Tryz.prog 5 row5:=rk Tryz.t5
theorem KB:RowOk Tryz.prog 9 row9:=rk Tryz.t9
theorem Fd:RowOk Tryz.prog 24 row24:=rk Tryz.t24
theorem E_:RowOk Tryz.prog 25 row25:=rk Tryz.t25
theorem I0:RowOk Tryz.prog 27 row27:=rk Tryz.t27
theorem E8:RowOk Tryz.prog 28 row28:=rk Tryz.t28
theorem Fh:RowOk Tryz.prog 29 row29:=rk Tryz.t29
theorem EW:RowOk Tryz.prog 30 row30:=rk Tryz.t30
theorem E4:RowOk Tryz.prog 31 row31:=rk Tryz.t31
theorem E3:RowOk Tryz.prog 32 row32:=rk Tryz.t32
theorem IW:RowOk Tryz.prog 34 row34:=rk Tryz.t34
theorem I5:RowOk Tryz.prog 40 row40:=rk Tryz.t40
theorem Jq:RowOk Tryz.prog 42 row42:=rk Tryz.t42
theorem EM:RowOk Tryz.prog 43 row43:=rk Tryz.t43
theorem EE:RowOk Tryz.prog 44 row44:=rk Tryz.t44
theorem JI:RowOk Tryz.prog 46 row46:=rk Tryz.t46
theorem JG:RowOk Tryz.prog 48 row48:=rk Tryz.t48
theorem IV:RowOk Tryz.prog 50 row50:=rk Tryz.t50
theorem Jx:RowOk Tryz.prog 53 row53:=rk Tryz.t53
theorem Jc:RowOk Tryz.prog 60 row60:=rk Tryz.t60
theorem IR:RowOk Tryz.prog 62 row62:=rk Tryz.t62
theorem JL:RowOk Tryz.prog 68 row68:=rk Tryz.t68
theorem Jv:RowOk Tryz.prog 71 row71:=rk Tryz.t71
theorem JS:RowOk Tryz.prog 75 row75:=rk Tryz.t75
theorem EZ:RowOk Tryz.prog 76 row76:=rk Tryz.t76
theorem Js:RowOk Tryz.prog 78 row78:=rk Tryz.t78
theorem Jz:RowOk Tryz.prog 81 row81:=rk Tryz.t81
theorem JK:RowOk Tryz.prog 91 row91:=rk Tryz.t91
theorem JM:RowOk Tryz.prog 93 row93:=rk Tryz.t93
theorem Jw:RowOk Tryz.prog 96 row96:=rk Tryz.t96
theorem Hg:RowOk Tryz.prog 100 F5:=rk Tryz.t100
theorem Io:RowOk Tryz.prog 103 G8:=rk Tryz.t103
theorem HX:RowOk Tryz.prog 126 F8:=rk Tryz.t126
theorem Hr:RowOk Tryz.prog 137 GG:=rk Tryz.t137
theorem If:RowOk Tryz.prog 191 GN:=rk Tryz.t191
theorem Iy:RowOk Tryz.prog 194 Gx:=rk Tryz.t194
theorem HU:RowOk Tryz.prog 196 Gn:=rk Tryz.t196
theorem Ih:RowOk Tryz.prog 209 GF:=rk Tryz.t209
theorem H5:RowOk Tryz.prog 221 F6:=rk Tryz.t221
theorem In:RowOk Tryz.prog 223 GY:=rk Tryz.t223
theorem H6:RowOk Tryz.prog 239 Gc:=rk Tryz.t239
theorem Hp:RowOk Tryz.prog 242 F3:=rk Tryz.t242
theorem Hf:RowOk Tryz.prog 244 Gf:=rk Tryz.t244
theorem HS:RowOk Tryz.prog 250 GE:=rk Tryz.t250
theorem HK:RowOk Tryz.prog 253 F4:=rk Tryz.t253
theorem HR:RowOk Tryz.prog 274 GR:=rk Tryz.t274
theorem Hy:RowOk Tryz.prog 278 GZ:=rk Tryz.t278
theorem HV:RowOk Tryz.prog 281 GX:=rk Tryz.t281
theorem Ix:RowOk Tryz.prog 292 G0:=rk Tryz.t292
theorem Hz:RowOk Tryz.prog 315 Gh:=rk Tryz.t315
theorem Ic:RowOk Tryz.prog 333 GP:=rk Tryz.t333
theorem H2:RowOk Tryz.prog 345 GC:=rk Tryz.t345
theorem HO:RowOk Tryz.prog 362 Gt:=rk Tryz.t362
theorem H9:RowOk Tryz.prog 364 GA:=rk Tryz.t364
theorem HJ:RowOk Tryz.prog 399 Ga:=rk Tryz.t399
theorem tok:TblOk Tryz.prog (look tbl):=tblOk (all_cons K6 (all_cons J7 (all_cons JV (all_cons KB (all_cons Fd (all_cons E_ (all_cons I0 (all_cons E8 (all_cons Fh (all_cons EW (all_cons E4 (all_cons E3 (all_cons IW (all_cons I5 (all_cons Jq (all_cons EM (all_cons EE (all_cons JI (all_cons JG (all_cons IV (all_cons Jx (all_cons Jc (all_cons IR (all_cons JL (all_cons Jv (all_cons JS (all_cons EZ (all_cons Js (all_cons Jz (all_cons JK (all_cons JM (all_cons Jw (all_cons Hg (all_cons Io (all_cons HX (all_cons Hr (all_cons If (all_cons Iy (all_cons HU (all_cons Ih (all_cons H5 (all_cons In (all_cons H6 (all_cons Hp (all_cons Hf (all_cons HS (all_cons HK (all_cons HR (all_cons Hy (all_cons HV (all_cons Ix (all_cons Hz (all_cons Ic (all_cons H2 (all_cons HO (all_cons H9 (all_cons HJ all_nil)))))))))))))))))))))))))))))))))))))))))))))))))))))))))
theorem mix:Tryz.prog.follows .mixedOrders=true:=Checked.mixed Tryz.checked
theorem fo {Γ : Ctx fam} {nv : Nat} {h : Hint} (hΓ : CtxOk Tryz.prog Γ) {f : FuncId} {fn : Func} {sp : Spec fam} (hf : Tryz.prog.funcs[f]? = some fn) (hnm : (fn.name == "runtime.NumGoroutine") = false:=by kernel_rfl) (hbn : fn.body.isNone = false:=by kernel_rfl) (hlen : Nat.ble sp.ks.length fn.ntmps = true:=by kernel_rfl) (hrs : sp.rs.all (fun k => !k.isBox) = true:=by kernel_rfl) (hD : (fun a => tFunc (look tbl) Γ nv fn h sp.ks sp.rs a) = sp.D:=by kernel_rfl) : FnOk Tryz.prog f sp:=fnOk tok mix hΓ hf hnm hbn hlen hrs hD
theorem ok10:FnOk Tryz.prog 10 sp10:=fo (nv:=2) (h:=h10) ae Tryz.func10
set_option maxHeartbeats 4000000 in
set_option maxRecDepth 1000000 in
theorem hw84(s:ByteArray)(w:World)(hascii:∀(j:Nat) b,s.data.toList[j]? = some b→b.toNat<128) :
  Calls Tryz.prog 84 #[.string s] w λe w'=>e = .returned (.bool (nmR 12 s))∧∃k,w'=w.iter s k:=by
 have HA:Aside (∀(j:Nat) b,s.data.toList[j]? = some b→b.toNat<128):=hascii;clear hascii
 go_enter Tryz.func84,Tryz.ntmps84
 go_wp2
 go_loopg [4] s.size (λg s2 wx=>∃i:Nat,i+g=s.size∧wx=w.iter s i∧Hid (∀(j:Nat) b,s.data.toList[j]? = some b→j<i→nmB b=true))
 case atStart=>exact⟨0,by omega,rfl,λj b _ h=>absurd h (Nat.not_lt_zero _)⟩
 case round=>
  obtain⟨i,hig,rfl,hN⟩:=hrel
  cases gk with
  | zero=>
   obtain rfl:i=s.size:=by omega
   have hall:=Kl hN.out;have HL:Aside (s.data.toList.all nmB=true):=hall;clear hall;have hnx:=run_next_end (P:=Tryz.prog) w s s.size
   go_wp2
   ·rename_i he
    go_ret
    refine⟨?_,_,rfl⟩;unfold nmR;rw[Lib.toList_data]at he;rw[he];rfl
   ·go_ret
    refine⟨?_,_,rfl⟩;unfold nmR;rw[HL.out,← KP s 12,← Lib.toList_data];rfl
  | succ g=>
   have hi:i<s.size:=by omega
   have ha:(s[i]'hi).toNat<128:=HA.out i _ (Lib.data_getElem? s i hi);have hnx:=λty=>run_next_ascii (P:=Tryz.prog) w s i ty hi ha;obtain⟨c,hc⟩:∃c:Nat,c=(s[i]'hi).toNat:=⟨_,rfl⟩;rw[← hc]at hnx ha;have HC:Aside (c=(s[i]'hi).toNat):=hc;clear hc;by_cases hz:97≤c∧c≤122
   ·have z1:¬ ((c:Int)<97):=by omega
    have z2:¬ ((c:Int)>122):=by omega
    go_wp2
    go_roundg g
    case measure=>omega
    case rel=>exact⟨i+1,by omega,rfl,BH hi hN.out HC.out (.inl hz)⟩
   by_cases hd:48≤c∧c≤57
   ·have z1:((c:Int)<97):=by omega
    have z2:¬ ((c:Int)<48):=by omega
    have z3:¬ ((c:Int)>57):=by omega
    go_wp2
    go_roundg g
    case measure=>omega
    case rel=>exact⟨i+1,by omega,rfl,BH hi hN.out HC.out (.inr (.inl hd))⟩
   by_cases hh:c=45
   ·have HH:Aside (c=45):=hh;clear hz hd;subst hh
    go_wp2
    go_roundg g
    case measure=>omega
    case rel=>exact⟨i+1,by omega,rfl,BH hi hN.out HC.out (.inr (.inr rfl))⟩
   have HF:=JB hi HC.out (by omega)
   have HF2:Aside (s.data.toList.all nmB=false):=HF;clear HF
   have z5:¬ ((c:Int)=45):=by omega
   by_cases h1:c<97
   ·have z1:((c:Int)<97):=by omega
    by_cases h2:c<48
    ·have z2:((c:Int)<48):=by omega
     clear h1 h2 hz hd hh
     go_wp2
     go_ret
     refine⟨?_,_,rfl⟩;unfold nmR;rw[HF2.out];rfl
    ·have z2:¬ ((c:Int)<48):=by omega
     have z3:((c:Int)>57):=by omega
     clear h1 h2 hz hd hh
     go_wp2
     go_ret
     refine⟨?_,_,rfl⟩;unfold nmR;rw[HF2.out];rfl
   ·have z1:¬ ((c:Int)<97):=by omega
    have z2:((c:Int)>122):=by omega
    have z3:¬ ((c:Int)<48):=by omega
    have z4:((c:Int)>57):=by omega
    clear h1 hz hd hh
    go_wp2
    go_ret
    refine⟨?_,_,rfl⟩;unfold nmR;rw[HF2.out];rfl
theorem ok84:FnOk Tryz.prog 84 sp84:=I9 ⟨Tryz.f84,by kernel_rfl,by kernel_rfl,by kernel_rfl⟩ hw84
theorem ok38:FnOk Tryz.prog 38 sp38:=fo (nv:=10) (h:=h38) (ab ok84 ae) Tryz.func38
theorem ok189:FnOk Tryz.prog 189 sp189:=fo (nv:=6) (h:=h189) ae Tryz.func189
theorem ok190:FnOk Tryz.prog 190 sp190:=⟨⟨Tryz.f190,by kernel_rfl,by kernel_rfl,by kernel_rfl⟩,λa r hr=>nomatch (show(none:Option _)=some r from hr)⟩
theorem ok145:FnOk Tryz.prog 145 sp145:=fo (nv:=6) (h:=h145) (ab ok189 (ab ok190 ae)) Tryz.func145
theorem ok85:FnOk Tryz.prog 85 sp85:=fo (nv:=5) (h:=h85) (ab ok145 ae) Tryz.func85
theorem ok223:FnOk Tryz.prog 223 sp223:=⟨⟨Tryz.f223,by kernel_rfl,by kernel_rfl,by kernel_rfl⟩,λa r hr=>nomatch (show(none:Option _)=some r from hr)⟩
theorem hw224(s:ByteArray)(c:UInt8)(w:World):Calls Tryz.prog 224 #[.string s,.string ⟨#[c]⟩] w λe w'=>e = .returned (.int .i64 (Lib.countByte s.data.toList c))∧w'=w:=by
 go_enter Tryz.func224,Tryz.ntmps224
 go_wp2
 rw[run_callFunc_extern Tryz.func269 (by kernel_rfl) (by kernel_rfl) (by kernel_rfl) (e:=Extern.BytealgCount.count) (by kernel_rfl),Lib.run_countString]
 simp only[Result.andThen];rw[Oper.upon_value]
 go_wp2
 go_ret
 exact⟨rfl,rfl⟩
theorem ok224:FnOk Tryz.prog 224 sp224:=IT ⟨Tryz.f224,by kernel_rfl,by kernel_rfl,by kernel_rfl⟩ hw224
theorem hw298(s:ByteArray)(c:Int)(w:World):Calls Tryz.prog 298 #[.string s,.int .u8 c] w λe w'=>e = .returned (.int .i64 (Lib.indexByte s.data.toList c.toNat.toUInt8))∧w'=w:=by
 go_enter Tryz.func298,Tryz.ntmps298
 go_wp2
 rw[run_callFunc_extern Tryz.func334 (by kernel_rfl) (by kernel_rfl) (by kernel_rfl) (e:=Extern.BytealgIndexByte.indexByte) (by kernel_rfl),Lib.run_indexByteString]
 simp only[Result.andThen];rw[Oper.upon_value]
 go_wp2
 go_ret
 exact⟨rfl,rfl⟩
theorem ok298:FnOk Tryz.prog 298 sp298:=K1 ⟨Tryz.f298,by kernel_rfl,by kernel_rfl,by kernel_rfl⟩ hw298
theorem ok270:FnOk Tryz.prog 270 sp270:=fo (nv:=14) (h:=h270) (ab ok298 ae) Tryz.func270
theorem ok225:FnOk Tryz.prog 225 sp225:=fo (nv:=2) (h:=h225) (ab ok270 ae) Tryz.func225
theorem ok191:FnOk Tryz.prog 191 sp191:=fo (nv:=12) (h:=h191) (ab ok223 (ab ok224 (ab ok225 ae))) Tryz.func191
theorem ok146:FnOk Tryz.prog 146 sp146:=fo (nv:=2) (h:=h146) (ab ok191 ae) Tryz.func146
theorem ok192:FnOk Tryz.prog 192 sp192:=fo (nv:=9) (h:=h192) ae Tryz.func192
theorem ok147:FnOk Tryz.prog 147 sp147:=fo (nv:=2) (h:=h147) (ab ok192 ae) Tryz.func147
theorem ok148:FnOk Tryz.prog 148 sp148:=fo (nv:=1) (h:=h148) (ab ok84 ae) Tryz.func148
theorem ok86:FnOk Tryz.prog 86 sp86:=fo (nv:=1) (h:=h86) (ab ok146 (ab ok147 (ab ok148 ae))) Tryz.func86
theorem ok193:FnOk Tryz.prog 193 sp193:=fo (nv:=9) (h:=h193) ae Tryz.func193
theorem ok149:FnOk Tryz.prog 149 sp149:=fo (nv:=2) (h:=h149) (ab ok193 ae) Tryz.func149
theorem ok150:FnOk Tryz.prog 150 sp150:=fo (nv:=2) (h:=h150) ae Tryz.func150
theorem ok87:FnOk Tryz.prog 87 sp87:=fo (nv:=1) (h:=h87) (ab ok149 (ab ok150 ae)) Tryz.func87
theorem ok39:FnOk Tryz.prog 39 sp39:=fo (nv:=14) (h:=h39) (ab ok85 (ab ok86 (ab ok87 ae))) Tryz.func39
theorem ok88:FnOk Tryz.prog 88 sp88:=fo (nv:=14) (h:=h88) (ab ok85 ae) Tryz.func88
theorem Iv:FnOk Tryz.prog 100 Im:=fnOk (nv:=1) (h:=h100) tok mix ae Tryz.func100 (by kernel_rfl) (by kernel_rfl) (by kernel_rfl) (by kernel_rfl) (by kernel_rfl)
set_option maxHeartbeats 2000000 in
theorem IQ(p:Option Addr)(cap:Nat)(w:World):Calls Tryz.prog 100 #[.slice p 0 cap] w λe w'=>∃p',e = .returned (.slice p' 0 0)∧RowKit.Below w.heap.size w w'∧w.drawn≤w'.drawn:=by
 have q:=oE (P:=Tryz.prog) (t:=76) EZ.und
 cases p with
 | none=>
  go_enter Tryz.func100,Tryz.ntmps100
  go_wp2
  go_ret
  exact⟨_,rfl,.refl _ _,Nat.le_refl _⟩
 | some p=>
  go_enter Tryz.func100,Tryz.ntmps100
  go_wp2
  go_ret
  exact⟨_,rfl,(RowKit.Below.refl _ w).alloc (Nat.le_refl _) _,Nat.le_refl _⟩
theorem ok100:FnOk Tryz.prog 100 sp100:=fL Iv IQ
theorem ok151:FnOk Tryz.prog 151 sp151:=fo (nv:=9) (h:=h151) ae Tryz.func151
theorem ok152:FnOk Tryz.prog 152 sp152:=fo (nv:=3) (h:=h152) ae Tryz.func152
theorem ok89:FnOk Tryz.prog 89 sp89:=fo (nv:=8) (h:=h89) (ab ok100 (ab ok151 (ab ok152 ae))) Tryz.func89
theorem ok40:FnOk Tryz.prog 40 sp40:=fo (nv:=53) (h:=h40) (ab ok88 (ab ok89 ae)) Tryz.func40
theorem ok23:FnOk Tryz.prog 23 sp23:=fo (nv:=5) (h:=h23) (ab ok38 (ab ok39 (ab ok40 ae))) Tryz.func23
theorem ok90:FnOk Tryz.prog 90 sp90:=fo (nv:=9) (h:=h90) ae Tryz.func90
theorem ok41:FnOk Tryz.prog 41 sp41:=fo (nv:=2) (h:=h41) (ab ok90 ae) Tryz.func41
theorem ok42:FnOk Tryz.prog 42 sp42:=fo (nv:=2) (h:=h42) ae Tryz.func42
theorem ok24:FnOk Tryz.prog 24 sp24:=fo (nv:=73) (h:=h24) (ab ok41 (ab ok42 ae)) Tryz.func24
theorem ok43:FnOk Tryz.prog 43 sp43:=fo (nv:=8) (h:=h43) ae Tryz.func43
theorem ok44:FnOk Tryz.prog 44 sp44:=⟨⟨Tryz.f44,by kernel_rfl,by kernel_rfl,by kernel_rfl⟩,λa r hr=>nomatch (show(none:Option _)=some r from hr)⟩
theorem ok45:FnOk Tryz.prog 45 sp45:=fo (nv:=2) (h:=h45) ae Tryz.func45
theorem ok46:FnOk Tryz.prog 46 sp46:=fo (nv:=2) (h:=h46) ae Tryz.func46
theorem ok47:FnOk Tryz.prog 47 sp47:=⟨⟨Tryz.f47,by kernel_rfl,by kernel_rfl,by kernel_rfl⟩,λa r hr=>nomatch (show(none:Option _)=some r from hr)⟩
theorem ok48:FnOk Tryz.prog 48 sp48:=⟨⟨Tryz.f48,by kernel_rfl,by kernel_rfl,by kernel_rfl⟩,λa r hr=>nomatch (show(none:Option _)=some r from hr)⟩
theorem ok25:FnOk Tryz.prog 25 sp25:=fo (nv:=4) (h:=h25) (ab ok43 (ab ok44 (ab ok45 (ab ok46 (ab ok47 (ab ok48 ae)))))) Tryz.func25
theorem ok64:FnOk Tryz.prog 64 sp64:=fo (nv:=9) (h:=h64) ae Tryz.func64
theorem ok49:FnOk Tryz.prog 49 sp49:=fo (nv:=2) (h:=h49) (ab ok64 ae) Tryz.func49
set_option maxHeartbeats 4000000 in
set_option maxRecDepth 1000000 in
theorem hB26:EachB Tryz.prog 26 49 50 84:=by
 intro p n cap fid bound captured w R b h
 have ec:∀args w,(callFunc 49 args).run Tryz.prog w = .ok (.enter 49 args) w:=enters_of Tryz.func49 (by kernel_rfl) rfl
 go_enter Tryz.func26,Tryz.ntmps26
 go_wp2_with (go_at_fn 49;refine h.mono ?_;rintro e w' ⟨rfl,hR⟩)
 go_ret
 exact⟨rfl,hR⟩
set_option maxHeartbeats 4000000 in
set_option maxRecDepth 1000000 in
theorem hC26:EachC Tryz.prog 50 84 68 9:=by
 intro vs fid bound captured bx w R b hl h1 hent hbx hcell h
 match vs,hl with
 | [v0,v1,v2,v3,v4,v5,v6,v7,v8],_=>
 have o0:v0.oneCell'=true:=h1 _ (by simp)
 have o1:v1.oneCell'=true:=h1 _ (by simp)
 have o2:v2.oneCell'=true:=h1 _ (by simp)
 have o3:v3.oneCell'=true:=h1 _ (by simp)
 have o4:v4.oneCell'=true:=h1 _ (by simp)
 have o5:v5.oneCell'=true:=h1 _ (by simp)
 have o6:v6.oneCell'=true:=h1 _ (by simp)
 have o7:v7.oneCell'=true:=h1 _ (by simp)
 have o8:v8.oneCell'=true:=h1 _ (by simp)
 rw[show(⟨bound++[.agg ⟨[v0,v1,v2,v3,v4,v5,v6,v7,v8]⟩]++captured⟩:Array Value)=(bound++.agg #[v0,v1,v2,v3,v4,v5,v6,v7,v8]::captured).toArray by simp]at h
 obtain⟨fn,hf,hf1,hf2⟩:=hent
 have efid:∀args w,(callFunc fid args).run Tryz.prog w = .ok (.enter fid args) w:=by
  cases hb:fn.body with
  | none=>rw[hb]at hf2;cases hf2
  | some bd=>exact enters_of hf hf1 hb
 clear hf hf1 hf2
 have hcw:(w.alloc (.cells #[v0,v1,v2,v3,v4,v5,v6,v7,v8] 68 (0,0))).cell? ⟨bx,0,none⟩=some (.func (.func fid) ⟨bound⟩ ⟨captured⟩):=by rw[World.cell?_alloc_old _ _ _ (Nat.ne_of_lt hbx)];simp[World.cell?,hcell]
 go_enter Tryz.func50,Tryz.ntmps50
 go_wp2_with (go_at_fn fid;refine h.mono ?_;rintro e w' ⟨rfl,hR⟩)
 go_ret
 exact⟨rfl,hR⟩
theorem ok26:FnOk Tryz.prog 26 sp26:=yd ok49 ⟨Tryz.f26,by kernel_rfl,by kernel_rfl,by kernel_rfl⟩ ⟨Tryz.f50,by kernel_rfl,by kernel_rfl,by kernel_rfl⟩ (by kernel_rfl) hB26 hC26
theorem ok96:FnOk Tryz.prog 96 sp96:=fo (nv:=9) (h:=h96) ae Tryz.func96
theorem ok106:FnOk Tryz.prog 106 sp106:=fo (nv:=3) (h:=h106) ae Tryz.func106
theorem ok66:FnOk Tryz.prog 66 sp66:=fo (nv:=4) (h:=h66) (ab ok96 (ab ok106 ae)) Tryz.func66
theorem HW:FnOk Tryz.prog 153 HZ:=fnOk (nv:=1) (h:=h153) tok mix ae Tryz.func153 (by kernel_rfl) (by kernel_rfl) (by kernel_rfl) (by kernel_rfl) (by kernel_rfl)
set_option maxHeartbeats 2000000 in
theorem JA(p:Option Addr)(cap:Nat)(w:World):Calls Tryz.prog 153 #[.slice p 0 cap] w λe w'=>∃p',e = .returned (.slice p' 0 0)∧RowKit.Below w.heap.size w w'∧w.drawn≤w'.drawn:=by
 have q:=oE (P:=Tryz.prog) (t:=43) EM.und
 cases p with
 | none=>
  go_enter Tryz.func153,Tryz.ntmps153
  go_wp2
  go_ret
  exact⟨_,rfl,.refl _ _,Nat.le_refl _⟩
 | some p=>
  go_enter Tryz.func153,Tryz.ntmps153
  go_wp2
  go_ret
  exact⟨_,rfl,(RowKit.Below.refl _ w).alloc (Nat.le_refl _) _,Nat.le_refl _⟩
theorem ok153:FnOk Tryz.prog 153 sp153:=fL HW JA
theorem ok154:FnOk Tryz.prog 154 sp154:=fo (nv:=4) (h:=h154) ae Tryz.func154
theorem ok91:FnOk Tryz.prog 91 sp91:=fo (nv:=3) (h:=h91) (ab ok153 (ab ok154 ae)) Tryz.func91
theorem ok51:FnOk Tryz.prog 51 sp51:=fo (nv:=7) (h:=h51) (ab ok66 (ab ok91 ae)) Tryz.func51
theorem ok93:FnOk Tryz.prog 93 sp93:=fo (nv:=9) (h:=h93) ae Tryz.func93
theorem ok155:FnOk Tryz.prog 155 sp155:=fo (nv:=4) (h:=h155) ae Tryz.func155
theorem ok92:FnOk Tryz.prog 92 sp92:=fo (nv:=3) (h:=h92) (ab ok93 (ab ok155 ae)) Tryz.func92
theorem ok52:FnOk Tryz.prog 52 sp52:=fo (nv:=7) (h:=h52) (ab ok92 ae) Tryz.func52
theorem ok53:FnOk Tryz.prog 53 sp53:=fo (nv:=2) (h:=h53) ae Tryz.func53
theorem ok27:FnOk Tryz.prog 27 sp27:=fo (nv:=8) (h:=h27) (ab ok51 (ab ok52 (ab ok53 ae))) Tryz.func27
theorem ok54:FnOk Tryz.prog 54 sp54:=fo (nv:=2) (h:=h54) (ab ok93 ae) Tryz.func54
set_option maxHeartbeats 4000000 in
set_option maxRecDepth 1000000 in
theorem hB28:EachB Tryz.prog 28 54 55 86:=by
 intro p n cap fid bound captured w R b h
 have ec:∀args w,(callFunc 54 args).run Tryz.prog w = .ok (.enter 54 args) w:=enters_of Tryz.func54 (by kernel_rfl) rfl
 go_enter Tryz.func28,Tryz.ntmps28
 go_wp2_with (go_at_fn 54;refine h.mono ?_;rintro e w' ⟨rfl,hR⟩)
 go_ret
 exact⟨rfl,hR⟩
set_option maxHeartbeats 4000000 in
set_option maxRecDepth 1000000 in
theorem hC28:EachC Tryz.prog 55 86 42 8:=by
 intro vs fid bound captured bx w R b hl h1 hent hbx hcell h
 match vs,hl with
 | [v0,v1,v2,v3,v4,v5,v6,v7],_=>
 have o0:v0.oneCell'=true:=h1 _ (by simp)
 have o1:v1.oneCell'=true:=h1 _ (by simp)
 have o2:v2.oneCell'=true:=h1 _ (by simp)
 have o3:v3.oneCell'=true:=h1 _ (by simp)
 have o4:v4.oneCell'=true:=h1 _ (by simp)
 have o5:v5.oneCell'=true:=h1 _ (by simp)
 have o6:v6.oneCell'=true:=h1 _ (by simp)
 have o7:v7.oneCell'=true:=h1 _ (by simp)
 rw[show(⟨bound++[.agg ⟨[v0,v1,v2,v3,v4,v5,v6,v7]⟩]++captured⟩:Array Value)=(bound++.agg #[v0,v1,v2,v3,v4,v5,v6,v7]::captured).toArray by simp]at h
 obtain⟨fn,hf,hf1,hf2⟩:=hent
 have efid:∀args w,(callFunc fid args).run Tryz.prog w = .ok (.enter fid args) w:=by
  cases hb:fn.body with
  | none=>rw[hb]at hf2;cases hf2
  | some bd=>exact enters_of hf hf1 hb
 clear hf hf1 hf2
 have hcw:(w.alloc (.cells #[v0,v1,v2,v3,v4,v5,v6,v7] 42 (0,0))).cell? ⟨bx,0,none⟩=some (.func (.func fid) ⟨bound⟩ ⟨captured⟩):=by rw[World.cell?_alloc_old _ _ _ (Nat.ne_of_lt hbx)];simp[World.cell?,hcell]
 go_enter Tryz.func55,Tryz.ntmps55
 go_wp2_with (go_at_fn fid;refine h.mono ?_;rintro e w' ⟨rfl,hR⟩)
 go_ret
 exact⟨rfl,hR⟩
theorem ok28:FnOk Tryz.prog 28 sp28:=yd ok54 ⟨Tryz.f28,by kernel_rfl,by kernel_rfl,by kernel_rfl⟩ ⟨Tryz.f55,by kernel_rfl,by kernel_rfl,by kernel_rfl⟩ (by kernel_rfl) hB28 hC28
theorem ok94:FnOk Tryz.prog 94 sp94:=fo (nv:=2) (h:=h94) ae Tryz.func94
theorem ok95:FnOk Tryz.prog 95 sp95:=fo (nv:=3) (h:=h95) (ab ok94 ae) Tryz.func95
theorem ok56:FnOk Tryz.prog 56 sp56:=fo (nv:=5) (h:=h56) (ab ok94 (ab ok95 ae)) Tryz.func56
theorem ok57:FnOk Tryz.prog 57 sp57:=fo (nv:=4) (h:=h57) ae Tryz.func57
theorem ok29:FnOk Tryz.prog 29 sp29:=fo (nv:=15) (h:=h29) (ab ok56 (ab ok57 ae)) Tryz.func29
theorem ok58:FnOk Tryz.prog 58 sp58:=fo (nv:=2) (h:=h58) (ab ok96 ae) Tryz.func58
set_option maxHeartbeats 4000000 in
set_option maxRecDepth 1000000 in
theorem hB30:EachB Tryz.prog 30 58 59 88:=by
 intro p n cap fid bound captured w R b h
 have ec:∀args w,(callFunc 58 args).run Tryz.prog w = .ok (.enter 58 args) w:=enters_of Tryz.func58 (by kernel_rfl) rfl
 go_enter Tryz.func30,Tryz.ntmps30
 go_wp2_with (go_at_fn 58;refine h.mono ?_;rintro e w' ⟨rfl,hR⟩)
 go_ret
 exact⟨rfl,hR⟩
set_option maxHeartbeats 4000000 in
set_option maxRecDepth 1000000 in
theorem hC30:EachC Tryz.prog 59 88 46 14:=by
 intro vs fid bound captured bx w R b hl h1 hent hbx hcell h
 match vs,hl with
 | [v0,v1,v2,v3,v4,v5,v6,v7,v8,v9,v10,v11,v12,v13],_=>
 have o0:v0.oneCell'=true:=h1 _ (by simp)
 have o1:v1.oneCell'=true:=h1 _ (by simp)
 have o2:v2.oneCell'=true:=h1 _ (by simp)
 have o3:v3.oneCell'=true:=h1 _ (by simp)
 have o4:v4.oneCell'=true:=h1 _ (by simp)
 have o5:v5.oneCell'=true:=h1 _ (by simp)
 have o6:v6.oneCell'=true:=h1 _ (by simp)
 have o7:v7.oneCell'=true:=h1 _ (by simp)
 have o8:v8.oneCell'=true:=h1 _ (by simp)
 have o9:v9.oneCell'=true:=h1 _ (by simp)
 have o10:v10.oneCell'=true:=h1 _ (by simp)
 have o11:v11.oneCell'=true:=h1 _ (by simp)
 have o12:v12.oneCell'=true:=h1 _ (by simp)
 have o13:v13.oneCell'=true:=h1 _ (by simp)
 rw[show(⟨bound++[.agg ⟨[v0,v1,v2,v3,v4,v5,v6,v7,v8,v9,v10,v11,v12,v13]⟩]++captured⟩:Array Value)=(bound++.agg #[v0,v1,v2,v3,v4,v5,v6,v7,v8,v9,v10,v11,v12,v13]::captured).toArray by simp]at h
 obtain⟨fn,hf,hf1,hf2⟩:=hent
 have efid:∀args w,(callFunc fid args).run Tryz.prog w = .ok (.enter fid args) w:=by
  cases hb:fn.body with
  | none=>rw[hb]at hf2;cases hf2
  | some bd=>exact enters_of hf hf1 hb
 clear hf hf1 hf2
 have hcw:(w.alloc (.cells #[v0,v1,v2,v3,v4,v5,v6,v7,v8,v9,v10,v11,v12,v13] 46 (0,0))).cell? ⟨bx,0,none⟩=some (.func (.func fid) ⟨bound⟩ ⟨captured⟩):=by rw[World.cell?_alloc_old _ _ _ (Nat.ne_of_lt hbx)];simp[World.cell?,hcell]
 go_enter Tryz.func59,Tryz.ntmps59
 go_wp2_with (go_at_fn fid;refine h.mono ?_;rintro e w' ⟨rfl,hR⟩)
 go_ret
 exact⟨rfl,hR⟩
theorem ok30:FnOk Tryz.prog 30 sp30:=yd ok58 ⟨Tryz.f30,by kernel_rfl,by kernel_rfl,by kernel_rfl⟩ ⟨Tryz.f59,by kernel_rfl,by kernel_rfl,by kernel_rfl⟩ (by kernel_rfl) hB30 hC30
theorem ok60:FnOk Tryz.prog 60 sp60:=fo (nv:=3) (h:=h60) (ab ok88 (ab ok89 ae)) Tryz.func60
theorem ok31:FnOk Tryz.prog 31 sp31:=fo (nv:=38) (h:=h31) (ab ok60 ae) Tryz.func31
theorem ok97:FnOk Tryz.prog 97 sp97:=fo (nv:=9) (h:=h97) ae Tryz.func97
theorem ok61:FnOk Tryz.prog 61 sp61:=fo (nv:=2) (h:=h61) (ab ok97 ae) Tryz.func61
set_option maxHeartbeats 4000000 in
set_option maxRecDepth 1000000 in
theorem hB32:EachB Tryz.prog 32 61 62 92:=by
 intro p n cap fid bound captured w R b h
 have ec:∀args w,(callFunc 61 args).run Tryz.prog w = .ok (.enter 61 args) w:=enters_of Tryz.func61 (by kernel_rfl) rfl
 go_enter Tryz.func32,Tryz.ntmps32
 go_wp2_with (go_at_fn 61;refine h.mono ?_;rintro e w' ⟨rfl,hR⟩)
 go_ret
 exact⟨rfl,hR⟩
set_option maxHeartbeats 4000000 in
set_option maxRecDepth 1000000 in
theorem hC32:EachC Tryz.prog 62 92 91 3:=by
 intro vs fid bound captured bx w R b hl h1 hent hbx hcell h
 match vs,hl with
 | [v0,v1,v2],_=>
 have o0:v0.oneCell'=true:=h1 _ (by simp)
 have o1:v1.oneCell'=true:=h1 _ (by simp)
 have o2:v2.oneCell'=true:=h1 _ (by simp)
 rw[show(⟨bound++[.agg ⟨[v0,v1,v2]⟩]++captured⟩:Array Value)=(bound++.agg #[v0,v1,v2]::captured).toArray by simp]at h
 obtain⟨fn,hf,hf1,hf2⟩:=hent
 have efid:∀args w,(callFunc fid args).run Tryz.prog w = .ok (.enter fid args) w:=by
  cases hb:fn.body with
  | none=>rw[hb]at hf2;cases hf2
  | some bd=>exact enters_of hf hf1 hb
 clear hf hf1 hf2
 have hcw:(w.alloc (.cells #[v0,v1,v2] 91 (0,0))).cell? ⟨bx,0,none⟩=some (.func (.func fid) ⟨bound⟩ ⟨captured⟩):=by rw[World.cell?_alloc_old _ _ _ (Nat.ne_of_lt hbx)];simp[World.cell?,hcell]
 go_enter Tryz.func62,Tryz.ntmps62
 go_wp2_with (go_at_fn fid;refine h.mono ?_;rintro e w' ⟨rfl,hR⟩)
 go_ret
 exact⟨rfl,hR⟩
theorem ok32:FnOk Tryz.prog 32 sp32:=yd ok61 ⟨Tryz.f32,by kernel_rfl,by kernel_rfl,by kernel_rfl⟩ ⟨Tryz.f62,by kernel_rfl,by kernel_rfl,by kernel_rfl⟩ (by kernel_rfl) hB32 hC32
theorem ok33:FnOk Tryz.prog 33 sp33:=⟨⟨Tryz.f33,by kernel_rfl,by kernel_rfl,by kernel_rfl⟩,λa r hr=>nomatch (show(none:Option _)=some r from hr)⟩
theorem ok15:FnOk Tryz.prog 15 sp15:=fo (nv:=4) (h:=h15) (ab ok23 (ab ok24 (ab ok25 (ab ok26 (ab ok27 (ab ok28 (ab ok29 (ab ok30 (ab ok31 (ab ok32 (ab ok33 ae))))))))))) Tryz.func15
theorem Jt:FnOk Tryz.prog 98 JQ:=fnOk (nv:=1) (h:=h98) tok mix ae Tryz.func98 (by kernel_rfl) (by kernel_rfl) (by kernel_rfl) (by kernel_rfl) (by kernel_rfl)
set_option maxHeartbeats 2000000 in
theorem Lz(p:Option Addr)(cap:Nat)(w:World):Calls Tryz.prog 98 #[.slice p 0 cap] w λe w'=>∃p',e = .returned (.slice p' 0 0)∧RowKit.Below w.heap.size w w'∧w.drawn≤w'.drawn:=by
 have q:=oE (P:=Tryz.prog) (t:=24) Fd.und
 cases p with
 | none=>
  go_enter Tryz.func98,Tryz.ntmps98
  go_wp2
  go_ret
  exact⟨_,rfl,.refl _ _,Nat.le_refl _⟩
 | some p=>
  go_enter Tryz.func98,Tryz.ntmps98
  go_wp2
  go_ret
  exact⟨_,rfl,(RowKit.Below.refl _ w).alloc (Nat.le_refl _) _,Nat.le_refl _⟩
theorem ok98:FnOk Tryz.prog 98 sp98:=fL Jt Lz
theorem JR:FnOk Tryz.prog 99 I1:=fnOk (nv:=1) (h:=h99) tok mix ae Tryz.func99 (by kernel_rfl) (by kernel_rfl) (by kernel_rfl) (by kernel_rfl) (by kernel_rfl)
set_option maxHeartbeats 2000000 in
theorem LB(p:Option Addr)(cap:Nat)(w:World):Calls Tryz.prog 99 #[.slice p 0 cap] w λe w'=>∃p',e = .returned (.slice p' 0 0)∧RowKit.Below w.heap.size w w'∧w.drawn≤w'.drawn:=by
 have q:=oE (P:=Tryz.prog) (t:=25) E_.und
 cases p with
 | none=>
  go_enter Tryz.func99,Tryz.ntmps99
  go_wp2
  go_ret
  exact⟨_,rfl,.refl _ _,Nat.le_refl _⟩
 | some p=>
  go_enter Tryz.func99,Tryz.ntmps99
  go_wp2
  go_ret
  exact⟨_,rfl,(RowKit.Below.refl _ w).alloc (Nat.le_refl _) _,Nat.le_refl _⟩
theorem ok99:FnOk Tryz.prog 99 sp99:=fL JR LB
theorem Hm:FnOk Tryz.prog 101 Ie:=fnOk (nv:=1) (h:=h101) tok mix ae Tryz.func101 (by kernel_rfl) (by kernel_rfl) (by kernel_rfl) (by kernel_rfl) (by kernel_rfl)
set_option maxHeartbeats 2000000 in
theorem Jo(p:Option Addr)(cap:Nat)(w:World):Calls Tryz.prog 101 #[.slice p 0 cap] w λe w'=>∃p',e = .returned (.slice p' 0 0)∧RowKit.Below w.heap.size w w'∧w.drawn≤w'.drawn:=by
 have q:=oE (P:=Tryz.prog) (t:=28) E8.und
 cases p with
 | none=>
  go_enter Tryz.func101,Tryz.ntmps101
  go_wp2
  go_ret
  exact⟨_,rfl,.refl _ _,Nat.le_refl _⟩
 | some p=>
  go_enter Tryz.func101,Tryz.ntmps101
  go_wp2
  go_ret
  exact⟨_,rfl,(RowKit.Below.refl _ w).alloc (Nat.le_refl _) _,Nat.le_refl _⟩
theorem ok101:FnOk Tryz.prog 101 sp101:=fL Hm Jo
theorem HQ:FnOk Tryz.prog 102 Iw:=fnOk (nv:=1) (h:=h102) tok mix ae Tryz.func102 (by kernel_rfl) (by kernel_rfl) (by kernel_rfl) (by kernel_rfl) (by kernel_rfl)
set_option maxHeartbeats 2000000 in
theorem JN(p:Option Addr)(cap:Nat)(w:World):Calls Tryz.prog 102 #[.slice p 0 cap] w λe w'=>∃p',e = .returned (.slice p' 0 0)∧RowKit.Below w.heap.size w w'∧w.drawn≤w'.drawn:=by
 have q:=oE (P:=Tryz.prog) (t:=30) EW.und
 cases p with
 | none=>
  go_enter Tryz.func102,Tryz.ntmps102
  go_wp2
  go_ret
  exact⟨_,rfl,.refl _ _,Nat.le_refl _⟩
 | some p=>
  go_enter Tryz.func102,Tryz.ntmps102
  go_wp2
  go_ret
  exact⟨_,rfl,(RowKit.Below.refl _ w).alloc (Nat.le_refl _) _,Nat.le_refl _⟩
theorem ok102:FnOk Tryz.prog 102 sp102:=fL HQ JN
theorem H_:FnOk Tryz.prog 103 HE:=fnOk (nv:=1) (h:=h103) tok mix ae Tryz.func103 (by kernel_rfl) (by kernel_rfl) (by kernel_rfl) (by kernel_rfl) (by kernel_rfl)
set_option maxHeartbeats 2000000 in
theorem IY(p:Option Addr)(cap:Nat)(w:World):Calls Tryz.prog 103 #[.slice p 0 cap] w λe w'=>∃p',e = .returned (.slice p' 0 0)∧RowKit.Below w.heap.size w w'∧w.drawn≤w'.drawn:=by
 have q:=oE (P:=Tryz.prog) (t:=31) E4.und
 cases p with
 | none=>
  go_enter Tryz.func103,Tryz.ntmps103
  go_wp2
  go_ret
  exact⟨_,rfl,.refl _ _,Nat.le_refl _⟩
 | some p=>
  go_enter Tryz.func103,Tryz.ntmps103
  go_wp2
  go_ret
  exact⟨_,rfl,(RowKit.Below.refl _ w).alloc (Nat.le_refl _) _,Nat.le_refl _⟩
theorem ok103:FnOk Tryz.prog 103 sp103:=fL H_ IY
theorem Hw:FnOk Tryz.prog 104 IB:=fnOk (nv:=1) (h:=h104) tok mix ae Tryz.func104 (by kernel_rfl) (by kernel_rfl) (by kernel_rfl) (by kernel_rfl) (by kernel_rfl)
set_option maxHeartbeats 2000000 in
theorem IU(p:Option Addr)(cap:Nat)(w:World):Calls Tryz.prog 104 #[.slice p 0 cap] w λe w'=>∃p',e = .returned (.slice p' 0 0)∧RowKit.Below w.heap.size w w'∧w.drawn≤w'.drawn:=by
 have q:=oE (P:=Tryz.prog) (t:=32) E3.und
 cases p with
 | none=>
  go_enter Tryz.func104,Tryz.ntmps104
  go_wp2
  go_ret
  exact⟨_,rfl,.refl _ _,Nat.le_refl _⟩
 | some p=>
  go_enter Tryz.func104,Tryz.ntmps104
  go_wp2
  go_ret
  exact⟨_,rfl,(RowKit.Below.refl _ w).alloc (Nat.le_refl _) _,Nat.le_refl _⟩
theorem ok104:FnOk Tryz.prog 104 sp104:=fL Hw IU
theorem Ir:FnOk Tryz.prog 105 IF:=fnOk (nv:=1) (h:=h105) tok mix ae Tryz.func105 (by kernel_rfl) (by kernel_rfl) (by kernel_rfl) (by kernel_rfl) (by kernel_rfl)
set_option maxHeartbeats 2000000 in
theorem I8(p:Option Addr)(cap:Nat)(w:World):Calls Tryz.prog 105 #[.slice p 0 cap] w λe w'=>∃p',e = .returned (.slice p' 0 0)∧RowKit.Below w.heap.size w w'∧w.drawn≤w'.drawn:=by
 have q:=oE (P:=Tryz.prog) (t:=29) Fh.und
 cases p with
 | none=>
  go_enter Tryz.func105,Tryz.ntmps105
  go_wp2
  go_ret
  exact⟨_,rfl,.refl _ _,Nat.le_refl _⟩
 | some p=>
  go_enter Tryz.func105,Tryz.ntmps105
  go_wp2
  go_ret
  exact⟨_,rfl,(RowKit.Below.refl _ w).alloc (Nat.le_refl _) _,Nat.le_refl _⟩
theorem ok105:FnOk Tryz.prog 105 sp105:=fL Ir I8
theorem ok63:FnOk Tryz.prog 63 sp63:=fo (nv:=62) (h:=h63) (ab ok91 (ab ok98 (ab ok99 (ab ok100 (ab ok101 (ab ok102 (ab ok103 (ab ok104 (ab ok105 ae))))))))) Tryz.func63
theorem DH:FnOk Tryz.prog 63 Hi:=fo (nv:=62) (h:=Je) (ab ok91 (ab ok98 (ab ok99 (ab ok100 (ab ok101 (ab ok102 (ab ok103 (ab ok104 (ab ok105 ae))))))))) Tryz.func63
theorem ok65:FnOk Tryz.prog 65 sp65:=fo (nv:=3) (h:=h65) ae Tryz.func65
theorem ok67:FnOk Tryz.prog 67 sp67:=⟨⟨Tryz.f67,by kernel_rfl,by kernel_rfl,by kernel_rfl⟩,λa r hr=>nomatch (show(none:Option _)=some r from hr)⟩
set_option maxHeartbeats 4000000 in
set_option maxRecDepth 1000000 in
theorem dn68:BR Tryz.prog 68:=by
 constructor
 ·intro b n cap i w hn hj
  go_enter Tryz.func68,Tryz.ntmps68
  go_wp2
  all_goals (go_ret;exact⟨rfl,rfl⟩)
 ·intro p w;cases p
  ·go_enter Tryz.func68,Tryz.ntmps68
   go_wp2
   all_goals (go_ret;exact⟨rfl,rfl⟩)
  ·go_enter Tryz.func68,Tryz.ntmps68
   go_wp2
   all_goals (go_ret;exact⟨rfl,rfl⟩)
set_option maxHeartbeats 4000000 in
set_option maxRecDepth 1000000 in
theorem dw68:BD Tryz.prog 68 30 68 9:=by
 intro b n cap i j w hn hm hlt hj i0 hi0 hz1 A hA news s1 hsrc s2 s3 W1 W2 hW hcl
 have hic:i≤cap:=by omega
 have hjc:j≤cap:=by omega
 have tS:Tryz.prog.underlying 30=some (.slice 68):=by kernel_rfl
 have mixed:Tryz.prog.follows .mixedOrders=true:=Checked.mixed Tryz.checked
 go_enter Tryz.func68,Tryz.ntmps68
 go_wp2_with fail
 go_region_law_o (refine step_append_room rfl (.tmp 22) (.tmp 25) 30 rfl 68 i0 9 tS hi0 hz1 b 0 i cap (by simp[Act.eval,Act.put]) A (n - j) (cap - j) news (by simp[Act.eval,Act.put]) s1.out hsrc.out s2.out (by omega) s3.out ?_;rw[← hW.out])
 go_wp2
 go_ret
 exact⟨rfl,rfl⟩
theorem ok68:FnOk Tryz.prog 68 sp68:=F_ tok (te:=row68) (by kernel_rfl) (by kernel_rfl) (sz:=9) (by kernel_rfl) (Nat.blt_eq.mp (by kernel_rfl)) (by kernel_rfl:Tryz.prog.underlying 30=some (.slice 68)) ⟨Tryz.f68,by kernel_rfl,by kernel_rfl,by kernel_rfl⟩ dn68 dw68
theorem ok69:FnOk Tryz.prog 69 sp69:=fo (nv:=9) (h:=h69) ae Tryz.func69
theorem ok70:FnOk Tryz.prog 70 sp70:=⟨⟨Tryz.f70,by kernel_rfl,by kernel_rfl,by kernel_rfl⟩,λa r hr=>nomatch (show(none:Option _)=some r from hr)⟩
theorem ok34:FnOk Tryz.prog 34 sp34:=fo (nv:=17) (h:=h34) (ab ok63 (ab ok64 (ab ok65 (ab ok66 (ab ok67 (ab ok68 (ab ok69 (ab ok70 ae)))))))) Tryz.func34
theorem ok82:FnOk Tryz.prog 82 sp82:=⟨⟨Tryz.f82,by kernel_rfl,by kernel_rfl,by kernel_rfl⟩,λa r hr=>nomatch (show(none:Option _)=some r from hr)⟩
shelf_lay Go.Proofs.Lays.n160 Nm 160 at Tryz as layT226
shelf_lay Go.Proofs.Lays.n172 Nm 172 at Tryz as layA226
theorem hT226(b:UInt8)(r:List UInt8)(h6:r.length≤6)(hd:(b::r).all digB=true)(w:World):Calls Tryz.prog 271 #[.string ⟨⟨b::r⟩⟩,.string cut10] w λe w'=>e = .returned (.string ⟨#[]⟩)∧Below w.heap.size w w'∧w.drawn≤w'.drawn:=by
 have hs:(⟨⟨b::r⟩⟩:ByteArray).size=r.length+1:=rfl
 refine(Any.strings_Trim_set (ρ:=layT226_ren) layT226 (by intro w;kernel_rfl) (by kernel_rfl) ⟨⟨b::r⟩⟩ cut10 w (by decide) (by omega) (by omega) (by decide) Em).mono ?_
 rintro e w' ⟨rfl,q,rfl⟩;have e1:Lib.trimS (⟨⟨b::r⟩⟩:ByteArray).data.toList cut10.data.toList = []:=Ex hd;rw[e1]
 exact⟨rfl,Dk (((Below.refl _ w).alloc (Nat.le_refl _) _).alloc (by rw[World.size_alloc];omega) _) q,Nat.le_add_right _ _⟩
theorem hA226(b:UInt8)(r:List UInt8)(n:Int)(h6:r.length≤6)(hn:Lib.atoi (b::r)=some n)(w:World):Calls Tryz.prog 272 #[.string ⟨⟨b::r⟩⟩] w λe w'=>e = .returned (.tuple #[.int .i64 n,.nilIface])∧Below w.heap.size w w'∧w.drawn≤w'.drawn:=by
 have hs:(⟨⟨b::r⟩⟩:ByteArray).size=r.length+1:=rfl
 refine(Any.strconv_Atoi (ρ:=layA226_ren) layA226 ⟨⟨b::r⟩⟩ n (by omega) hn w).mono ?_
 rintro e w' ⟨rfl,t,rfl⟩;exact⟨rfl,(DR w _ t).1,(DR w _ t).2⟩
set_option maxHeartbeats 4000000 in
set_option maxRecDepth 1000000 in
theorem hw226:NumW Tryz.prog 226:=by
 intro b r n w h6 h0 hd hn;have hT:=hT226 b r h6 hd;have hA:=hA226 b r n h6 hn;have hs:(⟨⟨b::r⟩⟩:ByteArray).size=r.length+1:=rfl
 have z1:¬ (((r.length+1:Nat):Int)>7):=by omega
 clear hd hn;unfold cut10 at hT
 have e271:∀args w,(callFunc 271 args).run Tryz.prog w = .ok (.enter 271 args) w:=enters_of Tryz.func271 (by kernel_rfl) rfl
 have e272:∀args w,(callFunc 272 args).run Tryz.prog w = .ok (.enter 272 args) w:=enters_of Tryz.func272 (by kernel_rfl) rfl
 rcases h0 with rfl | h0
 ·go_enter Tryz.func226,Tryz.ntmps226
  go_wp2_with (first | (go_at_fn 271;refine(hT w).mono ?_;rintro e w1 ⟨rfl,hb1,hd1⟩) | (go_at_fn 272;refine(hA _).mono ?_;rintro e w2 ⟨rfl,hb2,hd2⟩))
  go_ret2
  exact⟨rfl,hb1.trans (hb2.mono hb1.size),Nat.le_trans hd1 hd2⟩
 ·have z2:¬ (((b.toNat:Nat):Int)=48):=by omega
  go_enter Tryz.func226,Tryz.ntmps226
  by_cases hr:r = []
  ·subst hr
   go_wp2_with (first | (go_at_fn 271;refine(hT w).mono ?_;rintro e w1 ⟨rfl,hb1,hd1⟩) | (go_at_fn 272;refine(hA _).mono ?_;rintro e w2 ⟨rfl,hb2,hd2⟩))
   go_ret2
   exact⟨rfl,hb1.trans (hb2.mono hb1.size),Nat.le_trans hd1 hd2⟩
  ·have z3:((r.length:Int)+1)>1:=by have:r.length≠0:=λh=>hr (List.eq_nil_of_length_eq_zero h);omega
   have z4:¬ (7<(r.length:Int)+1):=by omega
   have z5:((((⟨⟨b::r⟩⟩:ByteArray)[0]'(by rw[hs];omega)).toNat:Int) == 48)=false:=by
    have e:((⟨⟨b::r⟩⟩:ByteArray)[0]'(by rw[hs];omega))=b:=rfl
    rw[e,beq_eq_false_iff_ne];exact z2
   clear hr z2
   go_wp2_with (first | (go_at_fn 271;refine(hT w).mono ?_;rintro e w1 ⟨rfl,hb1,hd1⟩) | (go_at_fn 272;refine(hA _).mono ?_;rintro e w2 ⟨rfl,hb2,hd2⟩))
   go_ret2
   exact⟨rfl,hb1.trans (hb2.mono hb1.size),Nat.le_trans hd1 hd2⟩
theorem ok226:FnOk Tryz.prog 226 sp226:=KU ⟨Tryz.f226,by kernel_rfl,by kernel_rfl,by kernel_rfl⟩ hw226
theorem ok311:FnOk Tryz.prog 311 sp311:=fo (nv:=8) (h:=h311) (ab ok270 ae) Tryz.func311
theorem ok273:FnOk Tryz.prog 273 sp273:=fo (nv:=6) (h:=h273) (ab ok311 ae) Tryz.func273
theorem ok227:FnOk Tryz.prog 227 sp227:=fo (nv:=10) (h:=h227) (ab ok226 (ab ok273 ae)) Tryz.func227
theorem ok194:FnOk Tryz.prog 194 sp194:=fo (nv:=45) (h:=h194) (ab ok226 (ab ok227 ae)) Tryz.func194
theorem ok160:FnOk Tryz.prog 160 sp160:=fo (nv:=2) (h:=h160) (ab ok194 ae) Tryz.func160
theorem ok195:FnOk Tryz.prog 195 sp195:=fo (nv:=8) (h:=h195) (ab ok192 ae) Tryz.func195
theorem ok196:FnOk Tryz.prog 196 sp196:=fo (nv:=1) (h:=h196) ae Tryz.func196
theorem ok161:FnOk Tryz.prog 161 sp161:=fo (nv:=1) (h:=h161) (ab ok146 (ab ok195 (ab ok196 ae))) Tryz.func161
theorem ok228:FnOk Tryz.prog 228 sp228:=fo (nv:=10) (h:=h228) ae Tryz.func228
theorem ok274:FnOk Tryz.prog 274 sp274:=⟨⟨Tryz.f274,by kernel_rfl,by kernel_rfl,by kernel_rfl⟩,λa r hr=>nomatch (show(none:Option _)=some r from hr)⟩
theorem EO:∀n,FnOk Tryz.prog 229 (Jd n)
 | 0=>⟨⟨Tryz.f229,by kernel_rfl,by kernel_rfl,by kernel_rfl⟩,λa r hr=>nomatch (show(none:Option _)=some r from hr)⟩
 | n+1=>fnOk (nv:=25) (h:=h229) tok mix (ab (EO n) (ab ok274 ae)) Tryz.func229 (by kernel_rfl) (by kernel_rfl) (by kernel_rfl) (by kernel_rfl) (by kernel_rfl)
theorem ok229:FnOk Tryz.prog 229 sp229:=EO 64
theorem ok197:FnOk Tryz.prog 197 sp197:=fo (nv:=10) (h:=h197) (ab ok228 (ab ok229 ae)) Tryz.func197
theorem ok162:FnOk Tryz.prog 162 sp162:=fo (nv:=2) (h:=h162) (ab ok197 ae) Tryz.func162
theorem ok198:FnOk Tryz.prog 198 sp198:=fo (nv:=1) (h:=h198) ae Tryz.func198
theorem ok164:FnOk Tryz.prog 164 sp164:=fo (nv:=7) (h:=h164) (ab ok198 ae) Tryz.func164
theorem ok163:FnOk Tryz.prog 163 sp163:=fo (nv:=4) (h:=h163) (ab ok164 ae) Tryz.func163
theorem ok109:FnOk Tryz.prog 109 sp109:=fo (nv:=51) (h:=h109) (ab ok146 (ab ok160 (ab ok161 (ab ok162 (ab ok163 ae))))) Tryz.func109
theorem ok110:FnOk Tryz.prog 110 sp110:=fo (nv:=14) (h:=h110) ae Tryz.func110
theorem ok71:FnOk Tryz.prog 71 sp71:=fo (nv:=59) (h:=h71) (ab ok23 (ab ok53 (ab ok60 (ab ok82 (ab ok109 (ab ok110 ae)))))) Tryz.func71
theorem ok72:FnOk Tryz.prog 72 sp72:=fo (nv:=7) (h:=h72) (ab ok82 ae) Tryz.func72
theorem ok165:FnOk Tryz.prog 165 sp165:=fo (nv:=4) (h:=h165) ae Tryz.func165
theorem ok111:FnOk Tryz.prog 111 sp111:=fo (nv:=62) (h:=h111) (ab ok98 (ab ok99 (ab ok100 (ab ok101 (ab ok102 (ab ok103 (ab ok104 (ab ok105 (ab ok153 (ab ok165 ae)))))))))) Tryz.func111
theorem ok112:FnOk Tryz.prog 112 sp112:=fo (nv:=2) (h:=h112) ae Tryz.func112
theorem Jy:FnOk Tryz.prog 113 Jf:=fnOk (nv:=10) (h:=h113) tok mix ae Tryz.func113 (by kernel_rfl) (by kernel_rfl) (by kernel_rfl) (by kernel_rfl) (by kernel_rfl)
theorem ov113(w:World)(a b:Value)(h:(Extern.SlicesOverlaps.overlaps #[28,28] #[4] #[a,b]).run Tryz.prog w = .ok (.bool false) w):(callFunc 166 #[a,b]).run Tryz.prog w = .ok (.value (.bool false)) w:=by
 rw[run_callFunc_extern Tryz.func166 (by kernel_rfl) (by kernel_rfl) (by kernel_rfl) (e:=Extern.SlicesOverlaps.overlaps #[28,28] #[4]) (by kernel_rfl),h]
 rfl
set_option maxHeartbeats 4000000 in
set_option maxRecDepth 1000000 in
theorem iw113:rD Tryz.prog 113 28 8 166:=by
 intro b n c i vb vc w W1 W2 hi hroom hc63 hov hcp1 hcp2
 have tS:Tryz.prog.underlying 28=some (.slice 42):=by kernel_rfl
 have mixed:Tryz.prog.follows .mixedOrders=true:=Checked.mixed Tryz.checked
 have hz2:¬ ((i:Int)=(n:Int)):=by omega
 have hw1:IntKind.i64.wrap ((i:Int)+1)=(i:Int)+1:=by rw[IntKind.wrap_i64];omega
 have hw2:IntKind.i64.wrap ((n:Int)+1)=(n:Int)+1:=by rw[IntKind.wrap_i64];omega
 have hb1:(0:Int)≤(i:Int)+1:=by omega
 have hb0:(0:Int)≤(n:Int)+1:=by omega
 have hin:i≤n:=by omega
 have htn:((i:Int)+1).toNat=i+1:=by omega
 have htm:((n:Int)+1).toNat=n+1:=by omega
 have hb2:¬ (c=i+1):=by omega
 have hb3:(i:Int)≤(n:Int)+1:=by omega
 have hb4:¬ (c=i):=by omega
 go_enter Tryz.func113,Tryz.ntmps113
 go_wp2_with (simp only[hov])
 go_region_law_o (refine dg rfl _ _ 28 28 rfl _ _ (by simp[Act.eval,Act.put]) (by simp[Act.eval,Act.put]) (hcp1 _ _ _) ?_)
 go_wp2_with (at_builtin;refine ca _ rfl _ _ 28 28 rfl _ _ rfl rfl (hcp2 _ _) ?_)
 go_ret
 exact⟨rfl,rfl⟩
set_option maxHeartbeats 4000000 in
set_option maxRecDepth 1000000 in
theorem ig113:ui Tryz.prog 113 28 3 8:=by
 intro b n i vb vc nb G w W0 W1 W2 hi hn hG hG63 hap hcpA hcpB
 have tS:Tryz.prog.underlying 28=some (.slice 42):=by kernel_rfl
 have mixed:Tryz.prog.follows .mixedOrders=true:=Checked.mixed Tryz.checked
 have hz2:¬ ((i:Int)=(n:Int)):=by omega
 have hz3:(n:Int)<(n:Int)+1:=by omega
 have hw1:IntKind.i64.wrap ((i:Int)+1)=(i:Int)+1:=by rw[IntKind.wrap_i64];omega
 have hw2:IntKind.i64.wrap ((n:Int)+1)=(n:Int)+1:=by rw[IntKind.wrap_i64];omega
 have hw3:IntKind.i64.wrap ((n:Int)+1 - (i:Int))=(n:Int)+1 - (i:Int):=by rw[IntKind.wrap_i64];omega
 have hb1:(0:Int)≤(i:Int)+1:=by omega
 have hin:i≤n:=by omega
 have htn:((i:Int)+1).toNat=i+1:=by omega
 have hb3:(i:Int)≤(n:Int):=by omega
 have hGi:¬ (G=i):=by omega
 have hGim:¬ (G=i+1):=by omega
 have hci:¬ (n=i):=by omega
 go_enter Tryz.func113,Tryz.ntmps113
 go_wp2_with (first
  | (at_builtin;refine Lib.wpList_append_run _ rfl _ _ _ _ rfl _ _ rfl rfl _ _ (hap _) ?_)
  | (at_builtin;refine ca _ rfl _ _ 28 28 rfl _ _ rfl rfl (hcpA _ _) ?_))
 go_region_law_o (refine dg rfl _ _ 28 28 rfl (.slice (some ⟨nb,(i+1)*8,none⟩) (n - i) (G - (i+1))) (.slice (some ⟨b,i*8,none⟩) (n - i) (n - i)) (by simp[Act.eval,Act.put]) (by simp[Act.eval,Act.put]) (hcpB _ _ _) ?_)
 go_wp2
 go_ret
 exact⟨rfl,rfl⟩
theorem ok113:FnOk Tryz.prog 113 sp113:=AL tok (te:=row42) (tb:=4) (by kernel_rfl) (by kernel_rfl) (sz:=8) (by kernel_rfl) (Nat.blt_eq.mp (by kernel_rfl)) (Nat.ble_eq.mp (by kernel_rfl)) (by kernel_rfl:Tryz.prog.underlying 28=some (.slice 42)) (by kernel_rfl:Tryz.prog.underlying 3=some (.int .i64)) ⟨Tryz.f113,by kernel_rfl,by kernel_rfl,by kernel_rfl⟩ ov113 Jy iw113 ig113
theorem ok73:FnOk Tryz.prog 73 sp73:=fo (nv:=8) (h:=h73) (ab ok92 (ab ok111 (ab ok112 (ab ok113 ae)))) Tryz.func73
theorem ok114:FnOk Tryz.prog 114 sp114:=fo (nv:=15) (h:=h114) ae Tryz.func114
theorem ok115:FnOk Tryz.prog 115 sp115:=fo (nv:=9) (h:=h115) (ab ok92 (ab ok111 ae)) Tryz.func115
theorem ok168:FnOk Tryz.prog 168 sp168:=fo (nv:=9) (h:=h168) ae Tryz.func168
theorem ok116:FnOk Tryz.prog 116 sp116:=fo (nv:=8) (h:=h116) (ab ok168 ae) Tryz.func116
theorem Hu:FnOk Tryz.prog 117 IE:=fnOk (nv:=1) (h:=h117) tok mix ae Tryz.func117 (by kernel_rfl) (by kernel_rfl) (by kernel_rfl) (by kernel_rfl) (by kernel_rfl)
set_option maxHeartbeats 2000000 in
theorem Ji(p:Option Addr)(cap:Nat)(w:World):Calls Tryz.prog 117 #[.slice p 0 cap] w λe w'=>∃p',e = .returned (.slice p' 0 0)∧RowKit.Below w.heap.size w w'∧w.drawn≤w'.drawn:=by
 have q:=oE (P:=Tryz.prog) (t:=44) EE.und
 cases p with
 | none=>
  go_enter Tryz.func117,Tryz.ntmps117
  go_wp2
  go_ret
  exact⟨_,rfl,.refl _ _,Nat.le_refl _⟩
 | some p=>
  go_enter Tryz.func117,Tryz.ntmps117
  go_wp2
  go_ret
  exact⟨_,rfl,(RowKit.Below.refl _ w).alloc (Nat.le_refl _) _,Nat.le_refl _⟩
theorem ok117:FnOk Tryz.prog 117 sp117:=fL Hu Ji
theorem ok118:FnOk Tryz.prog 118 sp118:=⟨⟨Tryz.f118,by kernel_rfl,by kernel_rfl,by kernel_rfl⟩,λa r hr=>nomatch (show(none:Option _)=some r from hr)⟩
theorem ok231:FnOk Tryz.prog 231 sp231:=fo (nv:=12) (h:=h231) (ab ok56 ae) Tryz.func231
theorem ok200:FnOk Tryz.prog 200 sp200:=fo (nv:=8) (h:=h200) (ab ok52 (ab ok231 ae)) Tryz.func200
theorem ok232:FnOk Tryz.prog 232 sp232:=⟨⟨Tryz.f232,by kernel_rfl,by kernel_rfl,by kernel_rfl⟩,λa r hr=>nomatch (show(none:Option _)=some r from hr)⟩
theorem ok233:FnOk Tryz.prog 233 sp233:=⟨⟨Tryz.f233,by kernel_rfl,by kernel_rfl,by kernel_rfl⟩,λa r hr=>nomatch (show(none:Option _)=some r from hr)⟩
theorem ok275:FnOk Tryz.prog 275 sp275:=fo (nv:=4) (h:=h275) ae Tryz.func275
theorem ok234:FnOk Tryz.prog 234 sp234:=fo (nv:=8) (h:=h234) (ab ok275 ae) Tryz.func234
theorem ok235:FnOk Tryz.prog 235 sp235:=fo (nv:=4) (h:=h235) (ab ok57 (ab ok275 ae)) Tryz.func235
theorem ok329:FnOk Tryz.prog 329 sp329:=fo (nv:=13) (h:=h329) ae Tryz.func329
theorem ok371:FnOk Tryz.prog 371 sp371:=fo (nv:=2) (h:=h371) ae Tryz.func371
theorem ok353:FnOk Tryz.prog 353 sp353:=fo (nv:=2) (h:=h353) (ab ok371 ae) Tryz.func353
theorem ok330:FnOk Tryz.prog 330 sp330:=fo (nv:=4) (h:=h330) (ab ok353 ae) Tryz.func330
theorem ok288:FnOk Tryz.prog 288 sp288:=fo (nv:=16) (h:=h288) (ab ok56 (ab ok329 (ab ok330 ae))) Tryz.func288
theorem ok247:FnOk Tryz.prog 247 sp247:=fo (nv:=7) (h:=h247) (ab ok288 ae) Tryz.func247
theorem ok221:FnOk Tryz.prog 221 sp221:=fo (nv:=9) (h:=h221) (ab ok56 ae) Tryz.func221
theorem ok188:FnOk Tryz.prog 188 sp188:=fo (nv:=12) (h:=h188) (ab ok221 ae) Tryz.func188
theorem ok363:FnOk Tryz.prog 363 sp363:=fo (nv:=14) (h:=h363) ae Tryz.func363
theorem ok377:FnOk Tryz.prog 377 sp377:=⟨⟨Tryz.f377,by kernel_rfl,by kernel_rfl,by kernel_rfl⟩,λa r hr=>nomatch (show(none:Option _)=some r from hr)⟩
theorem ok364:FnOk Tryz.prog 364 sp364:=fo (nv:=19) (h:=h364) (ab ok377 ae) Tryz.func364
theorem ok344:FnOk Tryz.prog 344 sp344:=fo (nv:=8) (h:=h344) (ab ok363 (ab ok364 ae)) Tryz.func344
theorem ok315:FnOk Tryz.prog 315 sp315:=fo (nv:=5) (h:=h315) (ab ok94 (ab ok95 (ab ok344 ae))) Tryz.func315
theorem ok316:FnOk Tryz.prog 316 sp316:=fo (nv:=4) (h:=h316) (ab ok85 ae) Tryz.func316
theorem ok313:FnOk Tryz.prog 313 sp313:=fo (nv:=15) (h:=h313) (ab ok89 (ab ok188 (ab ok315 (ab ok316 ae)))) Tryz.func313
theorem ok314:FnOk Tryz.prog 314 sp314:=fo (nv:=2) (h:=h314) ae Tryz.func314
theorem ok276:FnOk Tryz.prog 276 sp276:=fo (nv:=7) (h:=h276) (ab ok313 (ab ok314 ae)) Tryz.func276
theorem ok236:FnOk Tryz.prog 236 sp236:=fo (nv:=8) (h:=h236) (ab ok56 (ab ok57 (ab ok247 (ab ok276 ae)))) Tryz.func236
theorem ok277:FnOk Tryz.prog 277 sp277:=fo (nv:=9) (h:=h277) (ab ok288 ae) Tryz.func277
theorem ok278:FnOk Tryz.prog 278 sp278:=fo (nv:=10) (h:=h278) (ab ok89 (ab ok276 (ab ok315 ae))) Tryz.func278
theorem ok237:FnOk Tryz.prog 237 sp237:=fo (nv:=4) (h:=h237) (ab ok57 (ab ok277 (ab ok278 ae))) Tryz.func237
theorem ok238:FnOk Tryz.prog 238 sp238:=fo (nv:=4) (h:=h238) (ab ok57 ae) Tryz.func238
theorem ok345:FnOk Tryz.prog 345 sp345:=fo (nv:=2) (h:=h345) ae Tryz.func345
theorem ok317:FnOk Tryz.prog 317 sp317:=fo (nv:=7) (h:=h317) (ab ok313 (ab ok345 ae)) Tryz.func317
theorem ok318:FnOk Tryz.prog 318 sp318:=fo (nv:=12) (h:=h318) (ab ok221 ae) Tryz.func318
theorem ok279:FnOk Tryz.prog 279 sp279:=fo (nv:=20) (h:=h279) (ab ok56 (ab ok57 (ab ok188 (ab ok247 (ab ok316 (ab ok317 (ab ok318 ae))))))) Tryz.func279
theorem ok239:FnOk Tryz.prog 239 sp239:=fo (nv:=6) (h:=h239) (ab ok279 ae) Tryz.func239
theorem Jr:FnOk Tryz.prog 170 Jm:=fnOk (nv:=10) (h:=h170) tok mix ae Tryz.func170 (by kernel_rfl) (by kernel_rfl) (by kernel_rfl) (by kernel_rfl) (by kernel_rfl)
theorem ov170(w:World)(a b:Value)(h:(Extern.SlicesOverlaps.overlaps #[29,29] #[4] #[a,b]).run Tryz.prog w = .ok (.bool false) w):(callFunc 203 #[a,b]).run Tryz.prog w = .ok (.value (.bool false)) w:=by
 rw[run_callFunc_extern Tryz.func203 (by kernel_rfl) (by kernel_rfl) (by kernel_rfl) (e:=Extern.SlicesOverlaps.overlaps #[29,29] #[4]) (by kernel_rfl),h]
 rfl
set_option maxHeartbeats 4000000 in
set_option maxRecDepth 1000000 in
theorem iw170:rD Tryz.prog 170 29 14 203:=by
 intro b n c i vb vc w W1 W2 hi hroom hc63 hov hcp1 hcp2
 have tS:Tryz.prog.underlying 29=some (.slice 46):=by kernel_rfl
 have mixed:Tryz.prog.follows .mixedOrders=true:=Checked.mixed Tryz.checked
 have hz2:¬ ((i:Int)=(n:Int)):=by omega
 have hw1:IntKind.i64.wrap ((i:Int)+1)=(i:Int)+1:=by rw[IntKind.wrap_i64];omega
 have hw2:IntKind.i64.wrap ((n:Int)+1)=(n:Int)+1:=by rw[IntKind.wrap_i64];omega
 have hb1:(0:Int)≤(i:Int)+1:=by omega
 have hb0:(0:Int)≤(n:Int)+1:=by omega
 have hin:i≤n:=by omega
 have htn:((i:Int)+1).toNat=i+1:=by omega
 have htm:((n:Int)+1).toNat=n+1:=by omega
 have hb2:¬ (c=i+1):=by omega
 have hb3:(i:Int)≤(n:Int)+1:=by omega
 have hb4:¬ (c=i):=by omega
 go_enter Tryz.func170,Tryz.ntmps170
 go_wp2_with (simp only[hov])
 go_region_law_o (refine dg rfl _ _ 29 29 rfl _ _ (by simp[Act.eval,Act.put]) (by simp[Act.eval,Act.put]) (hcp1 _ _ _) ?_)
 go_wp2_with (at_builtin;refine ca _ rfl _ _ 29 29 rfl _ _ rfl rfl (hcp2 _ _) ?_)
 go_ret
 exact⟨rfl,rfl⟩
set_option maxHeartbeats 4000000 in
set_option maxRecDepth 1000000 in
theorem ig170:ui Tryz.prog 170 29 3 14:=by
 intro b n i vb vc nb G w W0 W1 W2 hi hn hG hG63 hap hcpA hcpB
 have tS:Tryz.prog.underlying 29=some (.slice 46):=by kernel_rfl
 have mixed:Tryz.prog.follows .mixedOrders=true:=Checked.mixed Tryz.checked
 have hz2:¬ ((i:Int)=(n:Int)):=by omega
 have hz3:(n:Int)<(n:Int)+1:=by omega
 have hw1:IntKind.i64.wrap ((i:Int)+1)=(i:Int)+1:=by rw[IntKind.wrap_i64];omega
 have hw2:IntKind.i64.wrap ((n:Int)+1)=(n:Int)+1:=by rw[IntKind.wrap_i64];omega
 have hw3:IntKind.i64.wrap ((n:Int)+1 - (i:Int))=(n:Int)+1 - (i:Int):=by rw[IntKind.wrap_i64];omega
 have hb1:(0:Int)≤(i:Int)+1:=by omega
 have hin:i≤n:=by omega
 have htn:((i:Int)+1).toNat=i+1:=by omega
 have hb3:(i:Int)≤(n:Int):=by omega
 have hGi:¬ (G=i):=by omega
 have hGim:¬ (G=i+1):=by omega
 have hci:¬ (n=i):=by omega
 go_enter Tryz.func170,Tryz.ntmps170
 go_wp2_with (first
  | (at_builtin;refine Lib.wpList_append_run _ rfl _ _ _ _ rfl _ _ rfl rfl _ _ (hap _) ?_)
  | (at_builtin;refine ca _ rfl _ _ 29 29 rfl _ _ rfl rfl (hcpA _ _) ?_))
 go_region_law_o (refine dg rfl _ _ 29 29 rfl (.slice (some ⟨nb,(i+1)*14,none⟩) (n - i) (G - (i+1))) (.slice (some ⟨b,i*14,none⟩) (n - i) (n - i)) (by simp[Act.eval,Act.put]) (by simp[Act.eval,Act.put]) (hcpB _ _ _) ?_)
 go_wp2
 go_ret
 exact⟨rfl,rfl⟩
theorem ok170:FnOk Tryz.prog 170 sp170:=AL tok (te:=row46) (tb:=4) (by kernel_rfl) (by kernel_rfl) (sz:=14) (by kernel_rfl) (Nat.blt_eq.mp (by kernel_rfl)) (Nat.ble_eq.mp (by kernel_rfl)) (by kernel_rfl:Tryz.prog.underlying 29=some (.slice 46)) (by kernel_rfl:Tryz.prog.underlying 3=some (.int .i64)) ⟨Tryz.f170,by kernel_rfl,by kernel_rfl,by kernel_rfl⟩ ov170 Jr iw170 ig170
theorem ok125:FnOk Tryz.prog 125 sp125:=fo (nv:=7) (h:=h125) (ab ok66 (ab ok170 ae)) Tryz.func125
theorem ok131:FnOk Tryz.prog 131 sp131:=fo (nv:=5) (h:=h131) (ab ok91 (ab ok125 (ab DH ae))) Tryz.func131
theorem ok173:FnOk Tryz.prog 173 sp173:=fo (nv:=4) (h:=h173) ae Tryz.func173
theorem ok207:FnOk Tryz.prog 207 sp207:=fo (nv:=9) (h:=h207) ae Tryz.func207
theorem ok346:FnOk Tryz.prog 346 sp346:=fo (nv:=3) (h:=h346) ae Tryz.func346
theorem ok319:FnOk Tryz.prog 319 sp319:=fo (nv:=4) (h:=h319) (ab ok207 (ab ok346 ae)) Tryz.func319
set_option maxHeartbeats 4000000 in
set_option maxRecDepth 1000000 in
theorem dn320:BR Tryz.prog 320:=by
 constructor
 ·intro b n cap i w hn hj
  go_enter Tryz.func320,Tryz.ntmps320
  go_wp2
  all_goals (go_ret;exact⟨rfl,rfl⟩)
 ·intro p w;cases p
  ·go_enter Tryz.func320,Tryz.ntmps320
   go_wp2
   all_goals (go_ret;exact⟨rfl,rfl⟩)
  ·go_enter Tryz.func320,Tryz.ntmps320
   go_wp2
   all_goals (go_ret;exact⟨rfl,rfl⟩)
set_option maxHeartbeats 4000000 in
set_option maxRecDepth 1000000 in
theorem dw320:BD Tryz.prog 320 43 71 8:=by
 intro b n cap i j w hn hm hlt hj i0 hi0 hz1 A hA news s1 hsrc s2 s3 W1 W2 hW hcl
 have hic:i≤cap:=by omega
 have hjc:j≤cap:=by omega
 have tS:Tryz.prog.underlying 43=some (.slice 71):=by kernel_rfl
 have mixed:Tryz.prog.follows .mixedOrders=true:=Checked.mixed Tryz.checked
 go_enter Tryz.func320,Tryz.ntmps320
 go_wp2_with fail
 go_region_law_o (refine step_append_room rfl (.tmp 22) (.tmp 25) 43 rfl 71 i0 8 tS hi0 hz1 b 0 i cap (by simp[Act.eval,Act.put]) A (n - j) (cap - j) news (by simp[Act.eval,Act.put]) s1.out hsrc.out s2.out (by omega) s3.out ?_;rw[← hW.out])
 go_wp2
 go_ret
 exact⟨rfl,rfl⟩
theorem ok320:FnOk Tryz.prog 320 sp320:=F_ tok (te:=row71) (by kernel_rfl) (by kernel_rfl) (sz:=8) (by kernel_rfl) (Nat.blt_eq.mp (by kernel_rfl)) (by kernel_rfl:Tryz.prog.underlying 43=some (.slice 71)) ⟨Tryz.f320,by kernel_rfl,by kernel_rfl,by kernel_rfl⟩ dn320 dw320
theorem ok280:FnOk Tryz.prog 280 sp280:=fo (nv:=8) (h:=h280) (ab ok173 (ab ok319 (ab ok320 ae))) Tryz.func280
theorem JF:FnOk Tryz.prog 281 Jn:=fnOk (nv:=10) (h:=h281) tok mix ae Tryz.func281 (by kernel_rfl) (by kernel_rfl) (by kernel_rfl) (by kernel_rfl) (by kernel_rfl)
theorem ov281(w:World)(a b:Value)(h:(Extern.SlicesOverlaps.overlaps #[30,30] #[4] #[a,b]).run Tryz.prog w = .ok (.bool false) w):(callFunc 321 #[a,b]).run Tryz.prog w = .ok (.value (.bool false)) w:=by
 rw[run_callFunc_extern Tryz.func321 (by kernel_rfl) (by kernel_rfl) (by kernel_rfl) (e:=Extern.SlicesOverlaps.overlaps #[30,30] #[4]) (by kernel_rfl),h]
 rfl
set_option maxHeartbeats 4000000 in
set_option maxRecDepth 1000000 in
theorem iw281:rD Tryz.prog 281 30 9 321:=by
 intro b n c i vb vc w W1 W2 hi hroom hc63 hov hcp1 hcp2
 have tS:Tryz.prog.underlying 30=some (.slice 68):=by kernel_rfl
 have mixed:Tryz.prog.follows .mixedOrders=true:=Checked.mixed Tryz.checked
 have hz2:¬ ((i:Int)=(n:Int)):=by omega
 have hw1:IntKind.i64.wrap ((i:Int)+1)=(i:Int)+1:=by rw[IntKind.wrap_i64];omega
 have hw2:IntKind.i64.wrap ((n:Int)+1)=(n:Int)+1:=by rw[IntKind.wrap_i64];omega
 have hb1:(0:Int)≤(i:Int)+1:=by omega
 have hb0:(0:Int)≤(n:Int)+1:=by omega
 have hin:i≤n:=by omega
 have htn:((i:Int)+1).toNat=i+1:=by omega
 have htm:((n:Int)+1).toNat=n+1:=by omega
 have hb2:¬ (c=i+1):=by omega
 have hb3:(i:Int)≤(n:Int)+1:=by omega
 have hb4:¬ (c=i):=by omega
 go_enter Tryz.func281,Tryz.ntmps281
 go_wp2_with (simp only[hov])
 go_region_law_o (refine dg rfl _ _ 30 30 rfl _ _ (by simp[Act.eval,Act.put]) (by simp[Act.eval,Act.put]) (hcp1 _ _ _) ?_)
 go_wp2_with (at_builtin;refine ca _ rfl _ _ 30 30 rfl _ _ rfl rfl (hcp2 _ _) ?_)
 go_ret
 exact⟨rfl,rfl⟩
set_option maxHeartbeats 4000000 in
set_option maxRecDepth 1000000 in
theorem ig281:ui Tryz.prog 281 30 3 9:=by
 intro b n i vb vc nb G w W0 W1 W2 hi hn hG hG63 hap hcpA hcpB
 have tS:Tryz.prog.underlying 30=some (.slice 68):=by kernel_rfl
 have mixed:Tryz.prog.follows .mixedOrders=true:=Checked.mixed Tryz.checked
 have hz2:¬ ((i:Int)=(n:Int)):=by omega
 have hz3:(n:Int)<(n:Int)+1:=by omega
 have hw1:IntKind.i64.wrap ((i:Int)+1)=(i:Int)+1:=by rw[IntKind.wrap_i64];omega
 have hw2:IntKind.i64.wrap ((n:Int)+1)=(n:Int)+1:=by rw[IntKind.wrap_i64];omega
 have hw3:IntKind.i64.wrap ((n:Int)+1 - (i:Int))=(n:Int)+1 - (i:Int):=by rw[IntKind.wrap_i64];omega
 have hb1:(0:Int)≤(i:Int)+1:=by omega
 have hin:i≤n:=by omega
 have htn:((i:Int)+1).toNat=i+1:=by omega
 have hb3:(i:Int)≤(n:Int):=by omega
 have hGi:¬ (G=i):=by omega
 have hGim:¬ (G=i+1):=by omega
 have hci:¬ (n=i):=by omega
 go_enter Tryz.func281,Tryz.ntmps281
 go_wp2_with (first
  | (at_builtin;refine Lib.wpList_append_run _ rfl _ _ _ _ rfl _ _ rfl rfl _ _ (hap _) ?_)
  | (at_builtin;refine ca _ rfl _ _ 30 30 rfl _ _ rfl rfl (hcpA _ _) ?_))
 go_region_law_o (refine dg rfl _ _ 30 30 rfl (.slice (some ⟨nb,(i+1)*9,none⟩) (n - i) (G - (i+1))) (.slice (some ⟨b,i*9,none⟩) (n - i) (n - i)) (by simp[Act.eval,Act.put]) (by simp[Act.eval,Act.put]) (hcpB _ _ _) ?_)
 go_wp2
 go_ret
 exact⟨rfl,rfl⟩
theorem ok281:FnOk Tryz.prog 281 sp281:=AL tok (te:=row68) (tb:=4) (by kernel_rfl) (by kernel_rfl) (sz:=9) (by kernel_rfl) (Nat.blt_eq.mp (by kernel_rfl)) (Nat.ble_eq.mp (by kernel_rfl)) (by kernel_rfl:Tryz.prog.underlying 30=some (.slice 68)) (by kernel_rfl:Tryz.prog.underlying 3=some (.int .i64)) ⟨Tryz.f281,by kernel_rfl,by kernel_rfl,by kernel_rfl⟩ ov281 JF iw281 ig281
theorem ok241:FnOk Tryz.prog 241 sp241:=fo (nv:=9) (h:=h241) (ab ok131 (ab ok280 (ab ok281 ae))) Tryz.func241
theorem ok201:FnOk Tryz.prog 201 sp201:=fo (nv:=12) (h:=h201) (ab ok51 (ab ok97 (ab ok232 (ab ok233 ae)))) Tryz.func201
shelf_lay_g Go.Proofs.SlLaysF0.n6 Slsf 6 at Tryz 348 as lay348
theorem ok348:FnOk Tryz.prog 348 sp348:=Hx (ρ:=lay348_ren) (n:=15) lay348 (by intro w;kernel_rfl) (by intro w;kernel_rfl) (by kernel_rfl) (Nat.blt_eq.mp (by kernel_rfl)) ⟨Tryz.f348,by kernel_rfl,by kernel_rfl,by kernel_rfl⟩
theorem ok252:FnOk Tryz.prog 252 sp252:=fo (nv:=9) (h:=h252) ae Tryz.func252
theorem ok387:FnOk Tryz.prog 387 sp387:=fo (nv:=9) (h:=h387) (ab ok363 ae) Tryz.func387
theorem ok394:FnOk Tryz.prog 394 sp394:=fo (nv:=9) (h:=h394) ae Tryz.func394
theorem ok395:FnOk Tryz.prog 395 sp395:=fo (nv:=2) (h:=h395) ae Tryz.func395
theorem ok396:FnOk Tryz.prog 396 sp396:=fo (nv:=2) (h:=h396) ae Tryz.func396
theorem ok386:FnOk Tryz.prog 386 sp386:=fo (nv:=7) (h:=h386) (ab ok387 (ab ok394 (ab ok395 (ab ok396 ae)))) Tryz.func386
theorem ok367:FnOk Tryz.prog 367 sp367:=fo (nv:=8) (h:=h367) (ab ok94 (ab ok386 (ab ok387 ae))) Tryz.func367
theorem ok349:FnOk Tryz.prog 349 sp349:=fo (nv:=4) (h:=h349) (ab ok164 (ab ok252 (ab ok367 ae))) Tryz.func349
theorem ok323:FnOk Tryz.prog 323 sp323:=fo (nv:=44) (h:=h323) (ab ok88 (ab ok247 (ab ok276 (ab ok348 (ab ok349 ae))))) Tryz.func323
theorem EP:∀n,FnOk Tryz.prog 282 (Jh n)
 | 0=>⟨⟨Tryz.f282,by kernel_rfl,by kernel_rfl,by kernel_rfl⟩,λa r hr=>nomatch (show(none:Option _)=some r from hr)⟩
 | n+1=>fnOk (nv:=29) (h:=h282) tok mix (ab (EP n) (ab ok323 ae)) Tryz.func282 (by kernel_rfl) (by kernel_rfl) (by kernel_rfl) (by kernel_rfl) (by kernel_rfl)
theorem ok282:FnOk Tryz.prog 282 sp282:=EP 64
theorem ok242:FnOk Tryz.prog 242 sp242:=fo (nv:=3) (h:=h242) (ab ok282 ae) Tryz.func242
theorem ok368:FnOk Tryz.prog 368 sp368:=fo (nv:=10) (h:=h368) ae Tryz.func368
theorem ok397:FnOk Tryz.prog 397 sp397:=fo (nv:=11) (h:=h397) ae Tryz.func397
theorem ok388:FnOk Tryz.prog 388 sp388:=fo (nv:=12) (h:=h388) (ab ok397 ae) Tryz.func388
theorem ED:∀n,FnOk Tryz.prog 369 (IS n)
 | 0=>⟨⟨Tryz.f369,by kernel_rfl,by kernel_rfl,by kernel_rfl⟩,λa r hr=>nomatch (show(none:Option _)=some r from hr)⟩
 | n+1=>fnOk (nv:=25) (h:=h369) tok mix (ab (ED n) (ab ok388 ae)) Tryz.func369 (by kernel_rfl) (by kernel_rfl) (by kernel_rfl) (by kernel_rfl) (by kernel_rfl)
theorem ok369:FnOk Tryz.prog 369 sp369:=ED 64
theorem ok350:FnOk Tryz.prog 350 sp350:=fo (nv:=10) (h:=h350) (ab ok368 (ab ok369 ae)) Tryz.func350
theorem ok324:FnOk Tryz.prog 324 sp324:=fo (nv:=2) (h:=h324) (ab ok350 ae) Tryz.func324
theorem ok325:FnOk Tryz.prog 325 sp325:=⟨⟨Tryz.f325,by kernel_rfl,by kernel_rfl,by kernel_rfl⟩,λa r hr=>nomatch (show(none:Option _)=some r from hr)⟩
theorem ok283:FnOk Tryz.prog 283 sp283:=fo (nv:=39) (h:=h283) (ab ok53 (ab ok324 (ab ok325 ae))) Tryz.func283
theorem ok284:FnOk Tryz.prog 284 sp284:=⟨⟨Tryz.f284,by kernel_rfl,by kernel_rfl,by kernel_rfl⟩,λa r hr=>nomatch (show(none:Option _)=some r from hr)⟩
theorem ok285:FnOk Tryz.prog 285 sp285:=⟨⟨Tryz.f285,by kernel_rfl,by kernel_rfl,by kernel_rfl⟩,λa r hr=>nomatch (show(none:Option _)=some r from hr)⟩
theorem ok243:FnOk Tryz.prog 243 sp243:=fo (nv:=59) (h:=h243) (ab ok51 (ab ok153 (ab ok235 (ab ok236 (ab ok237 (ab ok238 (ab ok239 (ab ok241 (ab ok283 (ab ok284 (ab ok285 ae))))))))))) Tryz.func243
theorem ok202:FnOk Tryz.prog 202 sp202:=fo (nv:=8) (h:=h202) (ab ok234 (ab ok242 (ab ok243 ae))) Tryz.func202
theorem ok169:FnOk Tryz.prog 169 sp169:=fo (nv:=11) (h:=h169) (ab ok34 (ab ok52 (ab ok200 (ab ok201 (ab ok202 ae))))) Tryz.func169
theorem ok120:FnOk Tryz.prog 120 sp120:=fo (nv:=10) (h:=h120) (ab ok34 (ab ok169 ae)) Tryz.func120
theorem ok74:FnOk Tryz.prog 74 sp74:=fo (nv:=8) (h:=h74) (ab ok34 (ab ok52 (ab ok82 (ab ok114 (ab ok115 (ab ok116 (ab ok117 (ab ok118 (ab ok120 ae))))))))) Tryz.func74
theorem ok172:FnOk Tryz.prog 172 sp172:=fo (nv:=8) (h:=h172) (ab ok207 ae) Tryz.func172
theorem ok174:FnOk Tryz.prog 174 sp174:=⟨⟨Tryz.f174,by kernel_rfl,by kernel_rfl,by kernel_rfl⟩,λa r hr=>nomatch (show(none:Option _)=some r from hr)⟩
theorem JT:FnOk Tryz.prog 175 Ju:=fnOk (nv:=10) (h:=h175) tok mix ae Tryz.func175 (by kernel_rfl) (by kernel_rfl) (by kernel_rfl) (by kernel_rfl) (by kernel_rfl)
theorem ov175(w:World)(a b:Value)(h:(Extern.SlicesOverlaps.overlaps #[43,43] #[4] #[a,b]).run Tryz.prog w = .ok (.bool false) w):(callFunc 208 #[a,b]).run Tryz.prog w = .ok (.value (.bool false)) w:=by
 rw[run_callFunc_extern Tryz.func208 (by kernel_rfl) (by kernel_rfl) (by kernel_rfl) (e:=Extern.SlicesOverlaps.overlaps #[43,43] #[4]) (by kernel_rfl),h]
 rfl
set_option maxHeartbeats 4000000 in
set_option maxRecDepth 1000000 in
theorem iw175:rD Tryz.prog 175 43 8 208:=by
 intro b n c i vb vc w W1 W2 hi hroom hc63 hov hcp1 hcp2
 have tS:Tryz.prog.underlying 43=some (.slice 71):=by kernel_rfl
 have mixed:Tryz.prog.follows .mixedOrders=true:=Checked.mixed Tryz.checked
 have hz2:¬ ((i:Int)=(n:Int)):=by omega
 have hw1:IntKind.i64.wrap ((i:Int)+1)=(i:Int)+1:=by rw[IntKind.wrap_i64];omega
 have hw2:IntKind.i64.wrap ((n:Int)+1)=(n:Int)+1:=by rw[IntKind.wrap_i64];omega
 have hb1:(0:Int)≤(i:Int)+1:=by omega
 have hb0:(0:Int)≤(n:Int)+1:=by omega
 have hin:i≤n:=by omega
 have htn:((i:Int)+1).toNat=i+1:=by omega
 have htm:((n:Int)+1).toNat=n+1:=by omega
 have hb2:¬ (c=i+1):=by omega
 have hb3:(i:Int)≤(n:Int)+1:=by omega
 have hb4:¬ (c=i):=by omega
 go_enter Tryz.func175,Tryz.ntmps175
 go_wp2_with (simp only[hov])
 go_region_law_o (refine dg rfl _ _ 43 43 rfl _ _ (by simp[Act.eval,Act.put]) (by simp[Act.eval,Act.put]) (hcp1 _ _ _) ?_)
 go_wp2_with (at_builtin;refine ca _ rfl _ _ 43 43 rfl _ _ rfl rfl (hcp2 _ _) ?_)
 go_ret
 exact⟨rfl,rfl⟩
set_option maxHeartbeats 4000000 in
set_option maxRecDepth 1000000 in
theorem ig175:ui Tryz.prog 175 43 3 8:=by
 intro b n i vb vc nb G w W0 W1 W2 hi hn hG hG63 hap hcpA hcpB
 have tS:Tryz.prog.underlying 43=some (.slice 71):=by kernel_rfl
 have mixed:Tryz.prog.follows .mixedOrders=true:=Checked.mixed Tryz.checked
 have hz2:¬ ((i:Int)=(n:Int)):=by omega
 have hz3:(n:Int)<(n:Int)+1:=by omega
 have hw1:IntKind.i64.wrap ((i:Int)+1)=(i:Int)+1:=by rw[IntKind.wrap_i64];omega
 have hw2:IntKind.i64.wrap ((n:Int)+1)=(n:Int)+1:=by rw[IntKind.wrap_i64];omega
 have hw3:IntKind.i64.wrap ((n:Int)+1 - (i:Int))=(n:Int)+1 - (i:Int):=by rw[IntKind.wrap_i64];omega
 have hb1:(0:Int)≤(i:Int)+1:=by omega
 have hin:i≤n:=by omega
 have htn:((i:Int)+1).toNat=i+1:=by omega
 have hb3:(i:Int)≤(n:Int):=by omega
 have hGi:¬ (G=i):=by omega
 have hGim:¬ (G=i+1):=by omega
 have hci:¬ (n=i):=by omega
 go_enter Tryz.func175,Tryz.ntmps175
 go_wp2_with (first
  | (at_builtin;refine Lib.wpList_append_run _ rfl _ _ _ _ rfl _ _ rfl rfl _ _ (hap _) ?_)
  | (at_builtin;refine ca _ rfl _ _ 43 43 rfl _ _ rfl rfl (hcpA _ _) ?_))
 go_region_law_o (refine dg rfl _ _ 43 43 rfl (.slice (some ⟨nb,(i+1)*8,none⟩) (n - i) (G - (i+1))) (.slice (some ⟨b,i*8,none⟩) (n - i) (n - i)) (by simp[Act.eval,Act.put]) (by simp[Act.eval,Act.put]) (hcpB _ _ _) ?_)
 go_wp2
 go_ret
 exact⟨rfl,rfl⟩
theorem ok175:FnOk Tryz.prog 175 sp175:=AL tok (te:=row71) (tb:=4) (by kernel_rfl) (by kernel_rfl) (sz:=8) (by kernel_rfl) (Nat.blt_eq.mp (by kernel_rfl)) (Nat.ble_eq.mp (by kernel_rfl)) (by kernel_rfl:Tryz.prog.underlying 43=some (.slice 71)) (by kernel_rfl:Tryz.prog.underlying 3=some (.int .i64)) ⟨Tryz.f175,by kernel_rfl,by kernel_rfl,by kernel_rfl⟩ ov175 JT iw175 ig175
theorem ok129:FnOk Tryz.prog 129 sp129:=fo (nv:=8) (h:=h129) (ab ok172 (ab ok173 (ab ok174 (ab ok175 ae)))) Tryz.func129
theorem ok107:FnOk Tryz.prog 107 sp107:=fo (nv:=4) (h:=h107) (ab ok129 ae) Tryz.func107
theorem ok121:FnOk Tryz.prog 121 sp121:=fo (nv:=3) (h:=h121) ae Tryz.func121
theorem ok122:FnOk Tryz.prog 122 sp122:=fo (nv:=9) (h:=h122) (ab ok53 ae) Tryz.func122
theorem ok123:FnOk Tryz.prog 123 sp123:=fo (nv:=2) (h:=h123) (ab ok53 ae) Tryz.func123
theorem ok124:FnOk Tryz.prog 124 sp124:=⟨⟨Tryz.f124,by kernel_rfl,by kernel_rfl,by kernel_rfl⟩,λa r hr=>nomatch (show(none:Option _)=some r from hr)⟩
theorem ok75:FnOk Tryz.prog 75 sp75:=fo (nv:=8) (h:=h75) (ab ok60 (ab ok66 (ab ok96 (ab ok107 (ab ok121 (ab ok122 (ab ok123 (ab ok124 (ab ok125 (ab DH ae)))))))))) Tryz.func75
theorem ok126:FnOk Tryz.prog 126 sp126:=fo (nv:=23) (h:=h126) ae Tryz.func126
theorem ok127:FnOk Tryz.prog 127 sp127:=fo (nv:=15) (h:=h127) ae Tryz.func127
theorem ok205:FnOk Tryz.prog 205 sp205:=fo (nv:=2) (h:=h205) (ab ok168 ae) Tryz.func205
theorem ok206:FnOk Tryz.prog 206 sp206:=fo (nv:=3) (h:=h206) ae Tryz.func206
theorem ok171:FnOk Tryz.prog 171 sp171:=fo (nv:=5) (h:=h171) (ab ok205 (ab ok206 ae)) Tryz.func171
theorem ok128:FnOk Tryz.prog 128 sp128:=fo (nv:=3) (h:=h128) (ab ok171 ae) Tryz.func128
theorem ok176:FnOk Tryz.prog 176 sp176:=⟨⟨Tryz.f176,by kernel_rfl,by kernel_rfl,by kernel_rfl⟩,λa r hr=>nomatch (show(none:Option _)=some r from hr)⟩
theorem ok177:FnOk Tryz.prog 177 sp177:=⟨⟨Tryz.f177,by kernel_rfl,by kernel_rfl,by kernel_rfl⟩,λa r hr=>nomatch (show(none:Option _)=some r from hr)⟩
theorem ok130:FnOk Tryz.prog 130 sp130:=fo (nv:=13) (h:=h130) (ab ok64 (ab ok68 (ab ok116 (ab ok176 (ab ok177 ae))))) Tryz.func130
theorem ok76:FnOk Tryz.prog 76 sp76:=fo (nv:=79) (h:=h76) (ab ok51 (ab ok82 (ab ok117 (ab ok126 (ab ok127 (ab ok128 (ab ok129 (ab ok130 (ab ok131 ae))))))))) Tryz.func76
theorem ok77:FnOk Tryz.prog 77 sp77:=⟨⟨Tryz.f77,by kernel_rfl,by kernel_rfl,by kernel_rfl⟩,λa r hr=>nomatch (show(none:Option _)=some r from hr)⟩
theorem ok133:FnOk Tryz.prog 133 sp133:=fo (nv:=10) (h:=h133) ae Tryz.func133
theorem ok134:FnOk Tryz.prog 134 sp134:=⟨⟨Tryz.f134,by kernel_rfl,by kernel_rfl,by kernel_rfl⟩,λa r hr=>nomatch (show(none:Option _)=some r from hr)⟩
theorem ok135:FnOk Tryz.prog 135 sp135:=fo (nv:=12) (h:=h135) ae Tryz.func135
theorem ok136:FnOk Tryz.prog 136 sp136:=⟨⟨Tryz.f136,by kernel_rfl,by kernel_rfl,by kernel_rfl⟩,λa r hr=>nomatch (show(none:Option _)=some r from hr)⟩
theorem ok141:FnOk Tryz.prog 141 sp141:=fo (nv:=9) (h:=h141) ae Tryz.func141
theorem ok137:FnOk Tryz.prog 137 sp137:=fo (nv:=8) (h:=h137) (ab ok141 ae) Tryz.func137
theorem ok138:FnOk Tryz.prog 138 sp138:=⟨⟨Tryz.f138,by kernel_rfl,by kernel_rfl,by kernel_rfl⟩,λa r hr=>nomatch (show(none:Option _)=some r from hr)⟩
theorem ok211:FnOk Tryz.prog 211 sp211:=fo (nv:=3) (h:=h211) ae Tryz.func211
theorem ok212:FnOk Tryz.prog 212 sp212:=fo (nv:=4) (h:=h212) ae Tryz.func212
theorem ok356:FnOk Tryz.prog 356 sp356:=fo (nv:=11) (h:=h356) (ab ok171 ae) Tryz.func356
theorem ok332:FnOk Tryz.prog 332 sp332:=fo (nv:=11) (h:=h332) (ab ok53 (ab ok56 (ab ok330 (ab ok356 ae)))) Tryz.func332
theorem ok290:FnOk Tryz.prog 290 sp290:=fo (nv:=7) (h:=h290) (ab ok332 ae) Tryz.func290
theorem ok354:FnOk Tryz.prog 354 sp354:=fo (nv:=10) (h:=h354) ae Tryz.func354
theorem ok355:FnOk Tryz.prog 355 sp355:=fo (nv:=1) (h:=h355) ae Tryz.func355
theorem ok331:FnOk Tryz.prog 331 sp331:=fo (nv:=61) (h:=h331) (ab ok354 (ab ok355 ae)) Tryz.func331
theorem IP:FnOk Tryz.prog 289 (uy 0):=⟨⟨Tryz.f289,by kernel_rfl,by kernel_rfl,by kernel_rfl⟩,λa r hr=>nomatch (show(none:Option _)=some r from hr)⟩
set_option maxHeartbeats 4000000 in
theorem Jb(n:Nat)(ih:FnOk Tryz.prog 289 (uy n)):FnOk Tryz.prog 289 (uy (n+1)):=fnOk (nv:=110) (h:=h289) tok mix (ab ih (ab ih (ab ok88 (ab ok247 (ab ok276 (ab ok290 (ab ok317 (ab ok331 ae)))))))) Tryz.func289 (by kernel_rfl) (by kernel_rfl) (by kernel_rfl) (by kernel_rfl) (by kernel_rfl)
theorem Jk(n:Nat):FnOk Tryz.prog 289 (uy n):=Nat.rec (motive:=λn=>FnOk Tryz.prog 289 (uy n)) IP (λn ih=>Jb n ih) n
theorem ok289:FnOk Tryz.prog 289 sp289:=Jk 64
theorem ok248:FnOk Tryz.prog 248 sp248:=fo (nv:=3) (h:=h248) (ab ok188 (ab ok289 ae)) Tryz.func248
theorem ok249:FnOk Tryz.prog 249 sp249:=fo (nv:=9) (h:=h249) ae Tryz.func249
theorem ok250:FnOk Tryz.prog 250 sp250:=fo (nv:=3) (h:=h250) ae Tryz.func250
theorem ok213:FnOk Tryz.prog 213 sp213:=fo (nv:=30) (h:=h213) (ab ok51 (ab ok247 (ab ok248 (ab ok249 (ab ok250 ae))))) Tryz.func213
theorem hB179(p:Option Addr)(n cap:Nat)(w:World):Calls Tryz.prog 210 #[.slice p n cap] w λe w'=>e = .returned (.func (.func 246) #[] #[.pointer (some ⟨w.heap.size,0,none⟩)])∧w'=w.alloc (.cells #[.slice p n cap] 30 (0,0)):=by
 go_enter Tryz.func210,Tryz.ntmps210
 go_wp2
 go_ret
 exact⟨rfl,rfl⟩
set_option maxHeartbeats 4000000 in
set_option maxRecDepth 1000000 in
theorem hC179:Du Tryz.prog 246 68 9:=by
 intro l bx n cap p J W hn hp hbx hcell hY h0;refine callsIn_of_wp Tryz.func246 rfl trivial ?_ rfl;simp only[Tryz.ntmps246,List.size_toArray,List.length_cons,List.length_nil,Nat.reduceAdd,Nat.reduceSub,Array.replicate_succ,Array.replicate_zero,List.push_toArray,List.append_toArray,List.nil_append,List.cons_append]
 gi_wp2
 gi_loopw [3] (λi wr=>∃k:Nat,k≤n∧i = .int .i64 ((k:Int) - 1)∧J k wr) (λi _=>(Go.RowKit.intOf i+1).toNat)
 case atStart=>exact⟨n,Nat.le_refl _,by rw[show wrap64 ((n:Int) - 1)=(n:Int) - 1 by unfold maxLen at hn;simp only[wrap64];omega],h0⟩
 case round=>
  obtain⟨k,hk,rfl,hJ⟩:=hrel
  have hcw:wr.cell? ⟨bx,0,none⟩=some (.slice p n cap):=by rw[← hcell];simp[World.cell?,hbx k wr hJ]
  cases k with
  | zero=>
   gi_wp2
   go_end0
   exact⟨⟨_,rfl⟩,hJ⟩
  | succ k=>
   have e1:(((k+1:Nat):Int) - 1)=(k:Int):=by omega
   rw[e1];have hlt:k<n:=hk;rcases hp with hp | ⟨b,rfl⟩
   ·omega
   obtain⟨f,hf,fn,tmps,assign,body,hy,hR⟩:=hY k wr hJ hlt b rfl
   have c0:=hf 0 (by decide)
   rw[Nat.add_zero]at c0
   have c1:=hf 1 (by decide)
   have c2:=hf 2 (by decide)
   have c3:=hf 3 (by decide)
   have c4:=hf 4 (by decide)
   have c5:=hf 5 (by decide)
   have c6:=hf 6 (by decide)
   have c7:=hf 7 (by decide)
   have c8:=hf 8 (by decide)
   rw[show(⟨(List.range 9).map f⟩:Array Value) = #[f 0,f 1,f 2,f 3,f 4,f 5,f 6,f 7,f 8]from rfl]at hy
   gi_wp2
   refine hR.mono ?_;rintro e W3 ⟨rfl,hJ3⟩
   gi_wp2
   go_roundw
   case rel=>exact⟨k,by omega,by rw[show wrap64 ((k:Int) - 1)=(k:Int) - 1 by unfold maxLen at hn;simp only[wrap64];omega],hJ3⟩
   case measure=>simp[Go.RowKit.intOf,wrap64];unfold maxLen at hn;omega
theorem ok179:FnOk Tryz.prog 179 sp179:=fnOkR (nv:=48) (fB:=210) (fC:=246) (te:=68) (tsl:=30) (ks0:=k179) (dr0:=dr179) (h:=h179) tok (ab ok34 (ab ok64 (ab ok102 (ab ok211 (ab ok212 (ab ok213 ae)))))) mix Tryz.func179 (by kernel_rfl) (by kernel_rfl) (by kernel_rfl) (by kernel_rfl) ⟨Tryz.f210,by kernel_rfl,by kernel_rfl,by kernel_rfl⟩ ⟨Tryz.f246,by kernel_rfl,by kernel_rfl,by kernel_rfl⟩ hB179 (λti h=>by cases h;exact hC179) (by kernel_rfl)
theorem ok217:FnOk Tryz.prog 217 sp217:=fo (nv:=4) (h:=h217) ae Tryz.func217
theorem ok214:FnOk Tryz.prog 214 sp214:=fo (nv:=47) (h:=h214) (ab ok51 (ab ok217 (ab ok247 (ab ok248 ae)))) Tryz.func214
theorem ok251:FnOk Tryz.prog 251 sp251:=fo (nv:=54) (h:=h251) (ab ok53 (ab ok247 (ab ok276 (ab ok290 ae)))) Tryz.func251
theorem ok215:FnOk Tryz.prog 215 sp215:=fo (nv:=20) (h:=h215) (ab ok188 (ab ok247 (ab ok248 (ab ok251 ae)))) Tryz.func215
theorem ok253:FnOk Tryz.prog 253 sp253:=⟨⟨Tryz.f253,by kernel_rfl,by kernel_rfl,by kernel_rfl⟩,λa r hr=>nomatch (show(none:Option _)=some r from hr)⟩
theorem ok216:FnOk Tryz.prog 216 sp216:=fo (nv:=94) (h:=h216) (ab ok253 ae) Tryz.func216
theorem ok180:FnOk Tryz.prog 180 sp180:=fo (nv:=9) (h:=h180) (ab ok214 (ab ok215 (ab ok216 (ab ok217 ae)))) Tryz.func180
theorem ok181:FnOk Tryz.prog 181 sp181:=fo (nv:=3) (h:=h181) ae Tryz.func181
theorem ok182:FnOk Tryz.prog 182 sp182:=fo (nv:=3) (h:=h182) ae Tryz.func182
theorem ok291:FnOk Tryz.prog 291 sp291:=fo (nv:=1) (h:=h291) ae Tryz.func291
theorem ok260:FnOk Tryz.prog 260 sp260:=fo (nv:=2) (h:=h260) (ab ok291 ae) Tryz.func260
theorem ok254:FnOk Tryz.prog 254 sp254:=fo (nv:=8) (h:=h254) (ab ok260 ae) Tryz.func254
theorem ok255:FnOk Tryz.prog 255 sp255:=⟨⟨Tryz.f255,by kernel_rfl,by kernel_rfl,by kernel_rfl⟩,λa r hr=>nomatch (show(none:Option _)=some r from hr)⟩
theorem ok257:FnOk Tryz.prog 257 sp257:=⟨⟨Tryz.f257,by kernel_rfl,by kernel_rfl,by kernel_rfl⟩,λa r hr=>nomatch (show(none:Option _)=some r from hr)⟩
theorem Fb:∀n,FnOk Tryz.prog 218 (JH n)
 | 0=>⟨⟨Tryz.f218,by kernel_rfl,by kernel_rfl,by kernel_rfl⟩,λa r hr=>nomatch (show(none:Option _)=some r from hr)⟩
 | n+1=>fnOk (nv:=19) (h:=h218) tok mix (ab (Fb n) (ab ok254 (ab ok255 (ab ok257 ae)))) Tryz.func218 (by kernel_rfl) (by kernel_rfl) (by kernel_rfl) (by kernel_rfl) (by kernel_rfl)
theorem ok218:FnOk Tryz.prog 218 sp218:=Fb 64
theorem ok264:FnOk Tryz.prog 264 sp264:=fo (nv:=3) (h:=h264) ae Tryz.func264
theorem ok219:FnOk Tryz.prog 219 sp219:=fo (nv:=1) (h:=h219) (ab ok264 ae) Tryz.func219
theorem ok183:FnOk Tryz.prog 183 sp183:=fo (nv:=1) (h:=h183) (ab ok218 (ab ok219 ae)) Tryz.func183
theorem ok139:FnOk Tryz.prog 139 sp139:=fo (nv:=48) (h:=h139) (ab ok34 (ab ok49 (ab ok64 (ab ok179 (ab ok180 (ab ok181 (ab ok182 (ab ok183 ae)))))))) Tryz.func139
theorem ok78:FnOk Tryz.prog 78 sp78:=fo (nv:=122) (h:=h78) (ab ok82 (ab ok102 (ab ok126 (ab ok133 (ab ok134 (ab ok135 (ab ok136 (ab ok137 (ab ok138 (ab ok139 ae)))))))))) Tryz.func78
theorem ok79:FnOk Tryz.prog 79 sp79:=⟨⟨Tryz.f79,by kernel_rfl,by kernel_rfl,by kernel_rfl⟩,λa r hr=>nomatch (show(none:Option _)=some r from hr)⟩
theorem ok80:FnOk Tryz.prog 80 sp80:=⟨⟨Tryz.f80,by kernel_rfl,by kernel_rfl,by kernel_rfl⟩,λa r hr=>nomatch (show(none:Option _)=some r from hr)⟩
theorem ok81:FnOk Tryz.prog 81 sp81:=⟨⟨Tryz.f81,by kernel_rfl,by kernel_rfl,by kernel_rfl⟩,λa r hr=>nomatch (show(none:Option _)=some r from hr)⟩
theorem ok35:FnOk Tryz.prog 35 sp35:=fo (nv:=8) (h:=h35) (ab ok71 (ab ok72 (ab ok73 (ab ok74 (ab ok75 (ab ok76 (ab ok77 (ab ok78 (ab ok79 (ab ok80 (ab ok81 (ab ok82 ae)))))))))))) Tryz.func35
theorem ok17:FnOk Tryz.prog 17 sp17:=fo (nv:=9) (h:=h17) (ab ok34 (ab ok35 ae)) Tryz.func17
theorem ok7:FnOk Tryz.prog 7 sp7:=fo (nv:=7) (h:=h7) (ab ok10 (ab ok15 (ab ok17 ae))) Tryz.func7
theorem ok8:FnOk Tryz.prog 8 sp8:=fo (nv:=6) (h:=h8) ae Tryz.func8
theorem ok9:FnOk Tryz.prog 9 sp9:=fo (nv:=9) (h:=h9) (ab ok17 ae) Tryz.func9
theorem Ge:∀n,FnOk Tryz.prog 21 (LN n)
 | 0=>⟨⟨Tryz.f21,by kernel_rfl,by kernel_rfl,by kernel_rfl⟩,λa r hr=>nomatch (show(none:Option _)=some r from hr)⟩
 | n+1=>fnOk (nv:=1) (h:=h21) tok mix (ab (Ge n) ae) Tryz.func21 (by kernel_rfl) (by kernel_rfl) (by kernel_rfl) (by kernel_rfl) (by kernel_rfl)
theorem ok21:FnOk Tryz.prog 21 sp21:=Ge 64
theorem ok11:FnOk Tryz.prog 11 sp11:=fo (nv:=1) (h:=h11) (ab ok21 ae) Tryz.func11
theorem ok12:FnOk Tryz.prog 12 sp12:=fo (nv:=1) (h:=h12) ae Tryz.func12
theorem ok13:FnOk Tryz.prog 13 sp13:=fo (nv:=1) (h:=h13) (ab ok12 ae) Tryz.func13
theorem ok18:FnOk Tryz.prog 18 sp18:=fo (nv:=7) (h:=h18) ae Tryz.func18
theorem ok36:FnOk Tryz.prog 36 sp36:=fo (nv:=5) (h:=h36) ae Tryz.func36
theorem ok144:FnOk Tryz.prog 144 sp144:=fo (nv:=4) (h:=h144) ae Tryz.func144
theorem ok83:FnOk Tryz.prog 83 sp83:=fo (nv:=4) (h:=h83) (ab ok144 ae) Tryz.func83
theorem ok37:FnOk Tryz.prog 37 sp37:=fo (nv:=7) (h:=h37) (ab ok83 ae) Tryz.func37
theorem ok22:FnOk Tryz.prog 22 sp22:=fo (nv:=14) (h:=h22) (ab ok18 (ab ok36 (ab ok37 ae))) Tryz.func22
theorem ok14:FnOk Tryz.prog 14 sp14:=fo (nv:=7) (h:=h14) (ab ok22 ae) Tryz.func14
theorem ok3:FnOk Tryz.prog 3 sp3:=fo (nv:=13) (h:=h3) (ab ok7 (ab ok8 (ab ok9 (ab ok10 (ab ok11 (ab ok12 (ab ok13 (ab ok14 (ab ok15 ae))))))))) Tryz.func3
end Go.Fx.D
