/-
  Each of these functions does what its function over plain data says, where that gives an answer (printed by a program). Conditions: none.
-/
import Derived.Test.YtkagmokhbmbjdaaGreatDoorFxD
import Derived.Ground.SlsfProg
import Derived.Ground.NamesProg
import Derived.Shelf.Lay
import Derived.Shelf.Strings.SlTrimAscii
import Derived.Shelf.Strconv.Atoi
import Derived.Test.YtkagmokhbmbjdaaGreatDoorD
import Derived.Test.YtkagmokhbmbjdaaGreatDoorFxC
import Derived.Test.YtkagmokhbmbjdaaGreatDoorChecked
import Derived.WalkKit
import Derived.TacticsInMore
import Derived.Lib.IndexBytes
import Derived.Deep.LoopGhost
import Derived.Shelf.RegionOpenPlain
import Derived.Lib.Walk
import Derived.LoopNIn
import Derived.LoopIn
namespace Go.Fx.D
open Go Go.Fx Go.Proofs Go.Shelf Go.RowKit Go.Lib Go.Sort
set_option linter.unusedVariables false
set_option maxRecDepth 100000
theorem rk{t:TypeId}{i:TI fam}(j:TypeInfo)(h1:Tryz.prog.underlying t=some i.desc:=by kernel_rfl)(h2:Tryz.prog.info? t=some j:=by kernel_rfl)(h3:j.zero=some (j.zero.getD .nilFunc):=by kernel_rfl)(h4:(Nat.beq j.size i.size&&Nat.beq j.bytes i.bytes&&Nat.beq (j.zero.getD .nilFunc).cells.size i.size&&zok i.zero (j.zero.getD .nilFunc).cells.toList&&(aggV (j.zero.getD .nilFunc) == c_ i.desc))=true:=by kernel_rfl)(h5:tyOk i=true:=by kernel_rfl)(h6:eqOkB Tryz.prog t i=true:=by kernel_rfl):RowOk Tryz.prog t i:=⟨h1,⟨j,_,h2,h3,h4⟩,h5,h6⟩
theorem JY:RowOk Tryz.prog 3 row3:=rk Tryz.t3
theorem JX:RowOk Tryz.prog 4 row4:=rk Tryz.t4
theorem JZ:RowOk Tryz.prog 5 row5:=rk Tryz.t5
theorem Kf:RowOk Tryz.prog 9 row9:=rk Tryz.t9
theorem E7:RowOk Tryz.prog 24 row24:=rk Tryz.t24
theorem EI:RowOk Tryz.prog 25 row25:=rk Tryz.t25
theorem JQ:RowOk Tryz.prog 27 row27:=rk Tryz.t27
theorem EM:RowOk Tryz.prog 28 row28:=rk Tryz.t28
theorem EL:RowOk Tryz.prog 29 row29:=rk Tryz.t29
theorem Fd:RowOk Tryz.prog 30 row30:=rk Tryz.t30
theorem EP:RowOk Tryz.prog 31 row31:=rk Tryz.t31
theorem EY:RowOk Tryz.prog 32 row32:=rk Tryz.t32
theorem Jn:RowOk Tryz.prog 34 row34:=rk Tryz.t34
theorem IT:RowOk Tryz.prog 40 row40:=rk Tryz.t40
theorem JN:RowOk Tryz.prog 42 row42:=rk Tryz.t42
theorem E5:RowOk Tryz.prog 43 row43:=rk Tryz.t43
theorem EO:RowOk Tryz.prog 44 row44:=rk Tryz.t44
theorem Jl:RowOk Tryz.prog 46 row46:=rk Tryz.t46
theorem I_:RowOk Tryz.prog 48 row48:=rk Tryz.t48
theorem I2:RowOk Tryz.prog 50 row50:=rk Tryz.t50
theorem I5:RowOk Tryz.prog 53 row53:=rk Tryz.t53
theorem I3:RowOk Tryz.prog 60 row60:=rk Tryz.t60
theorem Ja:RowOk Tryz.prog 62 row62:=rk Tryz.t62
theorem I9:RowOk Tryz.prog 68 row68:=rk Tryz.t68
theorem JR:RowOk Tryz.prog 71 row71:=rk Tryz.t71
theorem Jy:RowOk Tryz.prog 75 row75:=rk Tryz.t75
theorem Fh:RowOk Tryz.prog 76 row76:=rk Tryz.t76
theorem Jz:RowOk Tryz.prog 78 row78:=rk Tryz.t78
theorem Jt:RowOk Tryz.prog 81 row81:=rk Tryz.t81
theorem I4:RowOk Tryz.prog 91 row91:=rk Tryz.t91
theorem JP:RowOk Tryz.prog 93 row93:=rk Tryz.t93
theorem JS:RowOk Tryz.prog 96 row96:=rk Tryz.t96
theorem H3:RowOk Tryz.prog 100 Gq:=rk Tryz.t100
theorem Ht:RowOk Tryz.prog 103 F1:=rk Tryz.t103
theorem H_:RowOk Tryz.prog 126 Gm:=rk Tryz.t126
theorem Ib:RowOk Tryz.prog 137 Gh:=rk Tryz.t137
theorem Hl:RowOk Tryz.prog 191 GH:=rk Tryz.t191
theorem H2:RowOk Tryz.prog 194 GZ:=rk Tryz.t194
theorem IJ:RowOk Tryz.prog 196 Gl:=rk Tryz.t196
theorem Hv:RowOk Tryz.prog 209 Gg:=rk Tryz.t209
theorem Ho:RowOk Tryz.prog 221 Gk:=rk Tryz.t221
theorem Hf:RowOk Tryz.prog 223 GS:=rk Tryz.t223
theorem H8:RowOk Tryz.prog 239 GJ:=rk Tryz.t239
theorem Ic:RowOk Tryz.prog 242 GG:=rk Tryz.t242
theorem Ia:RowOk Tryz.prog 244 Gx:=rk Tryz.t244
theorem It:RowOk Tryz.prog 250 GO:=rk Tryz.t250
theorem HK:RowOk Tryz.prog 253 Gc:=rk Tryz.t253
theorem Ip:RowOk Tryz.prog 274 Gs:=rk Tryz.t274
theorem IH:RowOk Tryz.prog 278 GV:=rk Tryz.t278
theorem HM:RowOk Tryz.prog 281 F5:=rk Tryz.t281
theorem Hw:RowOk Tryz.prog 292 GW:=rk Tryz.t292
theorem II:RowOk Tryz.prog 315 F6:=rk Tryz.t315
theorem Hm:RowOk Tryz.prog 333 Gd:=rk Tryz.t333
theorem Hj:RowOk Tryz.prog 345 G_:=rk Tryz.t345
theorem HT:RowOk Tryz.prog 362 GY:=rk Tryz.t362
theorem H1:RowOk Tryz.prog 364 F7:=rk Tryz.t364
theorem Hh:RowOk Tryz.prog 399 G2:=rk Tryz.t399
theorem tok:TblOk Tryz.prog (look tbl):=tblOk (all_cons JY (all_cons JX (all_cons JZ (all_cons Kf (all_cons E7 (all_cons EI (all_cons JQ (all_cons EM (all_cons EL (all_cons Fd (all_cons EP (all_cons EY (all_cons Jn (all_cons IT (all_cons JN (all_cons E5 (all_cons EO (all_cons Jl (all_cons I_ (all_cons I2 (all_cons I5 (all_cons I3 (all_cons Ja (all_cons I9 (all_cons JR (all_cons Jy (all_cons Fh (all_cons Jz (all_cons Jt (all_cons I4 (all_cons JP (all_cons JS (all_cons H3 (all_cons Ht (all_cons H_ (all_cons Ib (all_cons Hl (all_cons H2 (all_cons IJ (all_cons Hv (all_cons Ho (all_cons Hf (all_cons H8 (all_cons Ic (all_cons Ia (all_cons It (all_cons HK (all_cons Ip (all_cons IH (all_cons HM (all_cons Hw (all_cons II (all_cons Hm (all_cons Hj (all_cons HT (all_cons H1 (all_cons Hh all_nil)))))))))))))))))))))))))))))))))))))))))))))))))))))))))
theorem mix:Tryz.prog.follows .mixedOrders=true:=Checked.mixed Tryz.checked
theorem fo {Γ : Ctx fam} {nv : Nat} {h : Hint} (hΓ : CtxOk Tryz.prog Γ) {f : FuncId} {fn : Func} {sp : Spec fam} (hf : Tryz.prog.funcs[f]? = some fn) (hnm : (fn.name == "runtime.NumGoroutine") = false:=by kernel_rfl) (hbn : fn.body.isNone = false:=by kernel_rfl) (hlen : Nat.ble sp.ks.length fn.ntmps = true:=by kernel_rfl) (hrs : sp.rs.all (fun k => !k.isBox) = true:=by kernel_rfl) (hD : (fun a => tFunc (look tbl) Γ nv fn h sp.ks sp.rs a) = sp.D:=by kernel_rfl) : FnOk Tryz.prog f sp:=fnOk tok mix hΓ hf hnm hbn hlen hrs hD
theorem ok10:FnOk Tryz.prog 10 sp10:=fo (nv:=2) (h:=h10) ad Tryz.func10
set_option maxHeartbeats 4000000 in
set_option maxRecDepth 1000000 in
theorem hw84(s:ByteArray)(w:World)(hascii:∀(j:Nat) b,s.data.toList[j]? = some b→b.toNat<128) :
  Calls Tryz.prog 84 #[.string s] w λe w'=>e = .returned (.bool (nmR 12 s))∧∃k,w'=w.iter s k:=by
 have HA:Aside (∀(j:Nat) b,s.data.toList[j]? = some b→b.toNat<128):=hascii;clear hascii
 go_enter Tryz.func84,Tryz.ntmps84
 go_wp2
 go_loopg [4] s.size (λg s2 wx=>∃i:Nat,i+g=s.size∧wx=w.iter s i∧Hid (∀(j:Nat) b,s.data.toList[j]? = some b→j<i→nmB b=true))
 case atStart=>exact⟨0,by omega,rfl,λj b _ h=>absurd h (Nat.not_lt_zero _)⟩
 case round=>
  obtain⟨i,hig,rfl,hN⟩:=hrel
  cases gk with
  | zero=>
   obtain rfl:i=s.size:=by omega
   have hall:=Kc hN.out;have HL:Aside (s.data.toList.all nmB=true):=hall;clear hall;have hnx:=run_next_end (P:=Tryz.prog) w s s.size
   go_wp2
   ·rename_i he
    go_ret
    refine⟨?_,_,rfl⟩;unfold nmR;rw[Lib.toList_data]at he;rw[he];rfl
   ·go_ret
    refine⟨?_,_,rfl⟩;unfold nmR;rw[HL.out,← J_ s 12,← Lib.toList_data];rfl
  | succ g=>
   have hi:i<s.size:=by omega
   have ha:(s[i]'hi).toNat<128:=HA.out i _ (Lib.data_getElem? s i hi);have hnx:=λty=>run_next_ascii (P:=Tryz.prog) w s i ty hi ha;obtain⟨c,hc⟩:∃c:Nat,c=(s[i]'hi).toNat:=⟨_,rfl⟩;rw[← hc]at hnx ha;have HC:Aside (c=(s[i]'hi).toNat):=hc;clear hc;by_cases hz:97≤c∧c≤122
   ·have z1:¬ ((c:Int)<97):=by omega
    have z2:¬ ((c:Int)>122):=by omega
    go_wp2
    go_roundg g
    case measure=>omega
    case rel=>exact⟨i+1,by omega,rfl,BC hi hN.out HC.out (.inl hz)⟩
   by_cases hd:48≤c∧c≤57
   ·have z1:((c:Int)<97):=by omega
    have z2:¬ ((c:Int)<48):=by omega
    have z3:¬ ((c:Int)>57):=by omega
    go_wp2
    go_roundg g
    case measure=>omega
    case rel=>exact⟨i+1,by omega,rfl,BC hi hN.out HC.out (.inr (.inl hd))⟩
   by_cases hh:c=45
   ·have HH:Aside (c=45):=hh;clear hz hd;subst hh
    go_wp2
    go_roundg g
    case measure=>omega
    case rel=>exact⟨i+1,by omega,rfl,BC hi hN.out HC.out (.inr (.inr rfl))⟩
   have HF:=JA hi HC.out (by omega)
   have HF2:Aside (s.data.toList.all nmB=false):=HF;clear HF
   have z5:¬ ((c:Int)=45):=by omega
   by_cases h1:c<97
   ·have z1:((c:Int)<97):=by omega
    by_cases h2:c<48
    ·have z2:((c:Int)<48):=by omega
     clear h1 h2 hz hd hh
     go_wp2
     go_ret
     refine⟨?_,_,rfl⟩;unfold nmR;rw[HF2.out];rfl
    ·have z2:¬ ((c:Int)<48):=by omega
     have z3:((c:Int)>57):=by omega
     clear h1 h2 hz hd hh
     go_wp2
     go_ret
     refine⟨?_,_,rfl⟩;unfold nmR;rw[HF2.out];rfl
   ·have z1:¬ ((c:Int)<97):=by omega
    have z2:((c:Int)>122):=by omega
    have z3:¬ ((c:Int)<48):=by omega
    have z4:((c:Int)>57):=by omega
    clear h1 hz hd hh
    go_wp2
    go_ret
    refine⟨?_,_,rfl⟩;unfold nmR;rw[HF2.out];rfl
theorem ok84:FnOk Tryz.prog 84 sp84:=Ju ⟨Tryz.f84,by kernel_rfl,by kernel_rfl,by kernel_rfl⟩ hw84
theorem ok38:FnOk Tryz.prog 38 sp38:=fo (nv:=10) (h:=h38) (aa ok84 ad) Tryz.func38
theorem ok189:FnOk Tryz.prog 189 sp189:=fo (nv:=6) (h:=h189) ad Tryz.func189
theorem ok190:FnOk Tryz.prog 190 sp190:=⟨⟨Tryz.f190,by kernel_rfl,by kernel_rfl,by kernel_rfl⟩,λa r hr=>nomatch (show(none:Option _)=some r from hr)⟩
theorem ok145:FnOk Tryz.prog 145 sp145:=fo (nv:=6) (h:=h145) (aa ok189 (aa ok190 ad)) Tryz.func145
theorem ok85:FnOk Tryz.prog 85 sp85:=fo (nv:=5) (h:=h85) (aa ok145 ad) Tryz.func85
theorem ok223:FnOk Tryz.prog 223 sp223:=⟨⟨Tryz.f223,by kernel_rfl,by kernel_rfl,by kernel_rfl⟩,λa r hr=>nomatch (show(none:Option _)=some r from hr)⟩
theorem hw224(s:ByteArray)(c:UInt8)(w:World):Calls Tryz.prog 224 #[.string s,.string ⟨#[c]⟩] w λe w'=>e = .returned (.int .i64 (Lib.countByte s.data.toList c))∧w'=w:=by
 go_enter Tryz.func224,Tryz.ntmps224
 go_wp2
 rw[run_callFunc_extern Tryz.func269 (by kernel_rfl) (by kernel_rfl) (by kernel_rfl) (e:=Extern.BytealgCount.count) (by kernel_rfl),Lib.run_countString]
 simp only[Result.andThen];rw[Oper.upon_value]
 go_wp2
 go_ret
 exact⟨rfl,rfl⟩
theorem ok224:FnOk Tryz.prog 224 sp224:=IV ⟨Tryz.f224,by kernel_rfl,by kernel_rfl,by kernel_rfl⟩ hw224
theorem hw298(s:ByteArray)(c:Int)(w:World):Calls Tryz.prog 298 #[.string s,.int .u8 c] w λe w'=>e = .returned (.int .i64 (Lib.indexByte s.data.toList c.toNat.toUInt8))∧w'=w:=by
 go_enter Tryz.func298,Tryz.ntmps298
 go_wp2
 rw[run_callFunc_extern Tryz.func334 (by kernel_rfl) (by kernel_rfl) (by kernel_rfl) (e:=Extern.BytealgIndexByte.indexByte) (by kernel_rfl),Lib.run_indexByteString]
 simp only[Result.andThen];rw[Oper.upon_value]
 go_wp2
 go_ret
 exact⟨rfl,rfl⟩
theorem ok298:FnOk Tryz.prog 298 sp298:=JU ⟨Tryz.f298,by kernel_rfl,by kernel_rfl,by kernel_rfl⟩ hw298
theorem ok270:FnOk Tryz.prog 270 sp270:=fo (nv:=14) (h:=h270) (aa ok298 ad) Tryz.func270
theorem ok225:FnOk Tryz.prog 225 sp225:=fo (nv:=2) (h:=h225) (aa ok270 ad) Tryz.func225
theorem ok191:FnOk Tryz.prog 191 sp191:=fo (nv:=12) (h:=h191) (aa ok223 (aa ok224 (aa ok225 ad))) Tryz.func191
theorem ok146:FnOk Tryz.prog 146 sp146:=fo (nv:=2) (h:=h146) (aa ok191 ad) Tryz.func146
theorem ok192:FnOk Tryz.prog 192 sp192:=fo (nv:=9) (h:=h192) ad Tryz.func192
theorem ok147:FnOk Tryz.prog 147 sp147:=fo (nv:=2) (h:=h147) (aa ok192 ad) Tryz.func147
theorem ok148:FnOk Tryz.prog 148 sp148:=fo (nv:=1) (h:=h148) (aa ok84 ad) Tryz.func148
theorem ok86:FnOk Tryz.prog 86 sp86:=fo (nv:=1) (h:=h86) (aa ok146 (aa ok147 (aa ok148 ad))) Tryz.func86
theorem ok193:FnOk Tryz.prog 193 sp193:=fo (nv:=9) (h:=h193) ad Tryz.func193
theorem ok149:FnOk Tryz.prog 149 sp149:=fo (nv:=2) (h:=h149) (aa ok193 ad) Tryz.func149
theorem ok150:FnOk Tryz.prog 150 sp150:=fo (nv:=2) (h:=h150) ad Tryz.func150
theorem ok87:FnOk Tryz.prog 87 sp87:=fo (nv:=1) (h:=h87) (aa ok149 (aa ok150 ad)) Tryz.func87
theorem ok39:FnOk Tryz.prog 39 sp39:=fo (nv:=14) (h:=h39) (aa ok85 (aa ok86 (aa ok87 ad))) Tryz.func39
theorem ok88:FnOk Tryz.prog 88 sp88:=fo (nv:=14) (h:=h88) (aa ok85 ad) Tryz.func88
theorem HG:FnOk Tryz.prog 100 Ir:=fnOk (nv:=1) (h:=h100) tok mix ad Tryz.func100 (by kernel_rfl) (by kernel_rfl) (by kernel_rfl) (by kernel_rfl) (by kernel_rfl)
set_option maxHeartbeats 2000000 in
theorem JT(p:Option Addr)(cap:Nat)(w:World):Calls Tryz.prog 100 #[.slice p 0 cap] w λe w'=>∃p',e = .returned (.slice p' 0 0)∧RowKit.Below w.heap.size w w'∧w.drawn≤w'.drawn:=by
 have q:=oD (P:=Tryz.prog) (t:=76) Fh.und
 cases p with
 | none=>
  go_enter Tryz.func100,Tryz.ntmps100
  go_wp2
  go_ret
  exact⟨_,rfl,.refl _ _,Nat.le_refl _⟩
 | some p=>
  go_enter Tryz.func100,Tryz.ntmps100
  go_wp2
  go_ret
  exact⟨_,rfl,(RowKit.Below.refl _ w).alloc (Nat.le_refl _) _,Nat.le_refl _⟩
theorem ok100:FnOk Tryz.prog 100 sp100:=fH HG JT
theorem ok151:FnOk Tryz.prog 151 sp151:=fo (nv:=9) (h:=h151) ad Tryz.func151
theorem ok152:FnOk Tryz.prog 152 sp152:=fo (nv:=3) (h:=h152) ad Tryz.func152
theorem ok89:FnOk Tryz.prog 89 sp89:=fo (nv:=8) (h:=h89) (aa ok100 (aa ok151 (aa ok152 ad))) Tryz.func89
theorem ok40:FnOk Tryz.prog 40 sp40:=fo (nv:=53) (h:=h40) (aa ok88 (aa ok89 ad)) Tryz.func40
theorem ok23:FnOk Tryz.prog 23 sp23:=fo (nv:=5) (h:=h23) (aa ok38 (aa ok39 (aa ok40 ad))) Tryz.func23
theorem ok90:FnOk Tryz.prog 90 sp90:=fo (nv:=9) (h:=h90) ad Tryz.func90
theorem ok41:FnOk Tryz.prog 41 sp41:=fo (nv:=2) (h:=h41) (aa ok90 ad) Tryz.func41
theorem ok42:FnOk Tryz.prog 42 sp42:=fo (nv:=2) (h:=h42) ad Tryz.func42
theorem ok24:FnOk Tryz.prog 24 sp24:=fo (nv:=73) (h:=h24) (aa ok41 (aa ok42 ad)) Tryz.func24
theorem ok43:FnOk Tryz.prog 43 sp43:=fo (nv:=8) (h:=h43) ad Tryz.func43
theorem ok44:FnOk Tryz.prog 44 sp44:=⟨⟨Tryz.f44,by kernel_rfl,by kernel_rfl,by kernel_rfl⟩,λa r hr=>nomatch (show(none:Option _)=some r from hr)⟩
theorem ok45:FnOk Tryz.prog 45 sp45:=fo (nv:=2) (h:=h45) ad Tryz.func45
theorem ok46:FnOk Tryz.prog 46 sp46:=fo (nv:=2) (h:=h46) ad Tryz.func46
theorem ok47:FnOk Tryz.prog 47 sp47:=⟨⟨Tryz.f47,by kernel_rfl,by kernel_rfl,by kernel_rfl⟩,λa r hr=>nomatch (show(none:Option _)=some r from hr)⟩
theorem ok48:FnOk Tryz.prog 48 sp48:=⟨⟨Tryz.f48,by kernel_rfl,by kernel_rfl,by kernel_rfl⟩,λa r hr=>nomatch (show(none:Option _)=some r from hr)⟩
theorem ok25:FnOk Tryz.prog 25 sp25:=fo (nv:=4) (h:=h25) (aa ok43 (aa ok44 (aa ok45 (aa ok46 (aa ok47 (aa ok48 ad)))))) Tryz.func25
theorem ok64:FnOk Tryz.prog 64 sp64:=fo (nv:=9) (h:=h64) ad Tryz.func64
theorem ok49:FnOk Tryz.prog 49 sp49:=fo (nv:=2) (h:=h49) (aa ok64 ad) Tryz.func49
set_option maxHeartbeats 4000000 in
set_option maxRecDepth 1000000 in
theorem hB26:EachB Tryz.prog 26 49 50 84:=by
 intro p n cap fid bound captured w R b h
 have ec:∀args w,(callFunc 49 args).run Tryz.prog w = .ok (.enter 49 args) w:=enters_of Tryz.func49 (by kernel_rfl) rfl
 go_enter Tryz.func26,Tryz.ntmps26
 go_wp2_with (go_at_fn 49;refine h.mono ?_;rintro e w' ⟨rfl,hR⟩)
 go_ret
 exact⟨rfl,hR⟩
set_option maxHeartbeats 4000000 in
set_option maxRecDepth 1000000 in
theorem hC26:EachC Tryz.prog 50 84 68 9:=by
 intro vs fid bound captured bx w R b hl h1 hent hbx hcell h
 match vs,hl with
 | [v0,v1,v2,v3,v4,v5,v6,v7,v8],_=>
 have o0:v0.oneCell'=true:=h1 _ (by simp)
 have o1:v1.oneCell'=true:=h1 _ (by simp)
 have o2:v2.oneCell'=true:=h1 _ (by simp)
 have o3:v3.oneCell'=true:=h1 _ (by simp)
 have o4:v4.oneCell'=true:=h1 _ (by simp)
 have o5:v5.oneCell'=true:=h1 _ (by simp)
 have o6:v6.oneCell'=true:=h1 _ (by simp)
 have o7:v7.oneCell'=true:=h1 _ (by simp)
 have o8:v8.oneCell'=true:=h1 _ (by simp)
 rw[show(⟨bound++[.agg ⟨[v0,v1,v2,v3,v4,v5,v6,v7,v8]⟩]++captured⟩:Array Value)=(bound++.agg #[v0,v1,v2,v3,v4,v5,v6,v7,v8]::captured).toArray by simp]at h
 obtain⟨fn,hf,hf1,hf2⟩:=hent
 have efid:∀args w,(callFunc fid args).run Tryz.prog w = .ok (.enter fid args) w:=by
  cases hb:fn.body with
  | none=>rw[hb]at hf2;cases hf2
  | some bd=>exact enters_of hf hf1 hb
 clear hf hf1 hf2
 have hcw:(w.alloc (.cells #[v0,v1,v2,v3,v4,v5,v6,v7,v8] 68 (0,0))).cell? ⟨bx,0,none⟩=some (.func (.func fid) ⟨bound⟩ ⟨captured⟩):=by rw[World.cell?_alloc_old _ _ _ (Nat.ne_of_lt hbx)];simp[World.cell?,hcell]
 go_enter Tryz.func50,Tryz.ntmps50
 go_wp2_with (go_at_fn fid;refine h.mono ?_;rintro e w' ⟨rfl,hR⟩)
 go_ret
 exact⟨rfl,hR⟩
theorem ok26:FnOk Tryz.prog 26 sp26:=ya ok49 ⟨Tryz.f26,by kernel_rfl,by kernel_rfl,by kernel_rfl⟩ ⟨Tryz.f50,by kernel_rfl,by kernel_rfl,by kernel_rfl⟩ (by kernel_rfl) hB26 hC26
theorem ok96:FnOk Tryz.prog 96 sp96:=fo (nv:=9) (h:=h96) ad Tryz.func96
theorem ok106:FnOk Tryz.prog 106 sp106:=fo (nv:=3) (h:=h106) ad Tryz.func106
theorem ok66:FnOk Tryz.prog 66 sp66:=fo (nv:=4) (h:=h66) (aa ok96 (aa ok106 ad)) Tryz.func66
theorem H6:FnOk Tryz.prog 153 HE:=fnOk (nv:=1) (h:=h153) tok mix ad Tryz.func153 (by kernel_rfl) (by kernel_rfl) (by kernel_rfl) (by kernel_rfl) (by kernel_rfl)
set_option maxHeartbeats 2000000 in
theorem JG(p:Option Addr)(cap:Nat)(w:World):Calls Tryz.prog 153 #[.slice p 0 cap] w λe w'=>∃p',e = .returned (.slice p' 0 0)∧RowKit.Below w.heap.size w w'∧w.drawn≤w'.drawn:=by
 have q:=oD (P:=Tryz.prog) (t:=43) E5.und
 cases p with
 | none=>
  go_enter Tryz.func153,Tryz.ntmps153
  go_wp2
  go_ret
  exact⟨_,rfl,.refl _ _,Nat.le_refl _⟩
 | some p=>
  go_enter Tryz.func153,Tryz.ntmps153
  go_wp2
  go_ret
  exact⟨_,rfl,(RowKit.Below.refl _ w).alloc (Nat.le_refl _) _,Nat.le_refl _⟩
theorem ok153:FnOk Tryz.prog 153 sp153:=fH H6 JG
theorem ok154:FnOk Tryz.prog 154 sp154:=fo (nv:=4) (h:=h154) ad Tryz.func154
theorem ok91:FnOk Tryz.prog 91 sp91:=fo (nv:=3) (h:=h91) (aa ok153 (aa ok154 ad)) Tryz.func91
theorem ok51:FnOk Tryz.prog 51 sp51:=fo (nv:=7) (h:=h51) (aa ok66 (aa ok91 ad)) Tryz.func51
theorem ok93:FnOk Tryz.prog 93 sp93:=fo (nv:=9) (h:=h93) ad Tryz.func93
theorem ok155:FnOk Tryz.prog 155 sp155:=fo (nv:=4) (h:=h155) ad Tryz.func155
theorem ok92:FnOk Tryz.prog 92 sp92:=fo (nv:=3) (h:=h92) (aa ok93 (aa ok155 ad)) Tryz.func92
theorem ok52:FnOk Tryz.prog 52 sp52:=fo (nv:=7) (h:=h52) (aa ok92 ad) Tryz.func52
theorem ok53:FnOk Tryz.prog 53 sp53:=fo (nv:=2) (h:=h53) ad Tryz.func53
theorem ok27:FnOk Tryz.prog 27 sp27:=fo (nv:=8) (h:=h27) (aa ok51 (aa ok52 (aa ok53 ad))) Tryz.func27
theorem ok54:FnOk Tryz.prog 54 sp54:=fo (nv:=2) (h:=h54) (aa ok93 ad) Tryz.func54
set_option maxHeartbeats 4000000 in
set_option maxRecDepth 1000000 in
theorem hB28:EachB Tryz.prog 28 54 55 86:=by
 intro p n cap fid bound captured w R b h
 have ec:∀args w,(callFunc 54 args).run Tryz.prog w = .ok (.enter 54 args) w:=enters_of Tryz.func54 (by kernel_rfl) rfl
 go_enter Tryz.func28,Tryz.ntmps28
 go_wp2_with (go_at_fn 54;refine h.mono ?_;rintro e w' ⟨rfl,hR⟩)
 go_ret
 exact⟨rfl,hR⟩
set_option maxHeartbeats 4000000 in
set_option maxRecDepth 1000000 in
theorem hC28:EachC Tryz.prog 55 86 42 8:=by
 intro vs fid bound captured bx w R b hl h1 hent hbx hcell h
 match vs,hl with
 | [v0,v1,v2,v3,v4,v5,v6,v7],_=>
 have o0:v0.oneCell'=true:=h1 _ (by simp)
 have o1:v1.oneCell'=true:=h1 _ (by simp)
 have o2:v2.oneCell'=true:=h1 _ (by simp)
 have o3:v3.oneCell'=true:=h1 _ (by simp)
 have o4:v4.oneCell'=true:=h1 _ (by simp)
 have o5:v5.oneCell'=true:=h1 _ (by simp)
 have o6:v6.oneCell'=true:=h1 _ (by simp)
 have o7:v7.oneCell'=true:=h1 _ (by simp)
 rw[show(⟨bound++[.agg ⟨[v0,v1,v2,v3,v4,v5,v6,v7]⟩]++captured⟩:Array Value)=(bound++.agg #[v0,v1,v2,v3,v4,v5,v6,v7]::captured).toArray by simp]at h
 obtain⟨fn,hf,hf1,hf2⟩:=hent
 have efid:∀args w,(callFunc fid args).run Tryz.prog w = .ok (.enter fid args) w:=by
  cases hb:fn.body with
  | none=>rw[hb]at hf2;cases hf2
  | some bd=>exact enters_of hf hf1 hb
 clear hf hf1 hf2
 have hcw:(w.alloc (.cells #[v0,v1,v2,v3,v4,v5,v6,v7] 42 (0,0))).cell? ⟨bx,0,none⟩=some (.func (.func fid) ⟨bound⟩ ⟨captured⟩):=by rw[World.cell?_alloc_old _ _ _ (Nat.ne_of_lt hbx)];simp[World.cell?,hcell]
 go_enter Tryz.func55,Tryz.ntmps55
 go_wp2_with (go_at_fn fid;refine h.mono ?_;rintro e w' ⟨rfl,hR⟩)
 go_ret
 exact⟨rfl,hR⟩
theorem ok28:FnOk Tryz.prog 28 sp28:=ya ok54 ⟨Tryz.f28,by kernel_rfl,by kernel_rfl,by kernel_rfl⟩ ⟨Tryz.f55,by kernel_rfl,by kernel_rfl,by kernel_rfl⟩ (by kernel_rfl) hB28 hC28
theorem ok94:FnOk Tryz.prog 94 sp94:=fo (nv:=2) (h:=h94) ad Tryz.func94
theorem ok95:FnOk Tryz.prog 95 sp95:=fo (nv:=3) (h:=h95) (aa ok94 ad) Tryz.func95
theorem ok56:FnOk Tryz.prog 56 sp56:=fo (nv:=5) (h:=h56) (aa ok94 (aa ok95 ad)) Tryz.func56
theorem ok57:FnOk Tryz.prog 57 sp57:=fo (nv:=4) (h:=h57) ad Tryz.func57
theorem ok29:FnOk Tryz.prog 29 sp29:=fo (nv:=15) (h:=h29) (aa ok56 (aa ok57 ad)) Tryz.func29
theorem ok58:FnOk Tryz.prog 58 sp58:=fo (nv:=2) (h:=h58) (aa ok96 ad) Tryz.func58
set_option maxHeartbeats 4000000 in
set_option maxRecDepth 1000000 in
theorem hB30:EachB Tryz.prog 30 58 59 88:=by
 intro p n cap fid bound captured w R b h
 have ec:∀args w,(callFunc 58 args).run Tryz.prog w = .ok (.enter 58 args) w:=enters_of Tryz.func58 (by kernel_rfl) rfl
 go_enter Tryz.func30,Tryz.ntmps30
 go_wp2_with (go_at_fn 58;refine h.mono ?_;rintro e w' ⟨rfl,hR⟩)
 go_ret
 exact⟨rfl,hR⟩
set_option maxHeartbeats 4000000 in
set_option maxRecDepth 1000000 in
theorem hC30:EachC Tryz.prog 59 88 46 14:=by
 intro vs fid bound captured bx w R b hl h1 hent hbx hcell h
 match vs,hl with
 | [v0,v1,v2,v3,v4,v5,v6,v7,v8,v9,v10,v11,v12,v13],_=>
 have o0:v0.oneCell'=true:=h1 _ (by simp)
 have o1:v1.oneCell'=true:=h1 _ (by simp)
 have o2:v2.oneCell'=true:=h1 _ (by simp)
 have o3:v3.oneCell'=true:=h1 _ (by simp)
 have o4:v4.oneCell'=true:=h1 _ (by simp)
 have o5:v5.oneCell'=true:=h1 _ (by simp)
 have o6:v6.oneCell'=true:=h1 _ (by simp)
 have o7:v7.oneCell'=true:=h1 _ (by simp)
 have o8:v8.oneCell'=true:=h1 _ (by simp)
 have o9:v9.oneCell'=true:=h1 _ (by simp)
 have o10:v10.oneCell'=true:=h1 _ (by simp)
 have o11:v11.oneCell'=true:=h1 _ (by simp)
 have o12:v12.oneCell'=true:=h1 _ (by simp)
 have o13:v13.oneCell'=true:=h1 _ (by simp)
 rw[show(⟨bound++[.agg ⟨[v0,v1,v2,v3,v4,v5,v6,v7,v8,v9,v10,v11,v12,v13]⟩]++captured⟩:Array Value)=(bound++.agg #[v0,v1,v2,v3,v4,v5,v6,v7,v8,v9,v10,v11,v12,v13]::captured).toArray by simp]at h
 obtain⟨fn,hf,hf1,hf2⟩:=hent
 have efid:∀args w,(callFunc fid args).run Tryz.prog w = .ok (.enter fid args) w:=by
  cases hb:fn.body with
  | none=>rw[hb]at hf2;cases hf2
  | some bd=>exact enters_of hf hf1 hb
 clear hf hf1 hf2
 have hcw:(w.alloc (.cells #[v0,v1,v2,v3,v4,v5,v6,v7,v8,v9,v10,v11,v12,v13] 46 (0,0))).cell? ⟨bx,0,none⟩=some (.func (.func fid) ⟨bound⟩ ⟨captured⟩):=by rw[World.cell?_alloc_old _ _ _ (Nat.ne_of_lt hbx)];simp[World.cell?,hcell]
 go_enter Tryz.func59,Tryz.ntmps59
 go_wp2_with (go_at_fn fid;refine h.mono ?_;rintro e w' ⟨rfl,hR⟩)
 go_ret
 exact⟨rfl,hR⟩
theorem ok30:FnOk Tryz.prog 30 sp30:=ya ok58 ⟨Tryz.f30,by kernel_rfl,by kernel_rfl,by kernel_rfl⟩ ⟨Tryz.f59,by kernel_rfl,by kernel_rfl,by kernel_rfl⟩ (by kernel_rfl) hB30 hC30
theorem ok60:FnOk Tryz.prog 60 sp60:=fo (nv:=3) (h:=h60) (aa ok88 (aa ok89 ad)) Tryz.func60
theorem ok31:FnOk Tryz.prog 31 sp31:=fo (nv:=38) (h:=h31) (aa ok60 ad) Tryz.func31
theorem ok97:FnOk Tryz.prog 97 sp97:=fo (nv:=9) (h:=h97) ad Tryz.func97
theorem ok61:FnOk Tryz.prog 61 sp61:=fo (nv:=2) (h:=h61) (aa ok97 ad) Tryz.func61
set_option maxHeartbeats 4000000 in
set_option maxRecDepth 1000000 in
theorem hB32:EachB Tryz.prog 32 61 62 92:=by
 intro p n cap fid bound captured w R b h
 have ec:∀args w,(callFunc 61 args).run Tryz.prog w = .ok (.enter 61 args) w:=enters_of Tryz.func61 (by kernel_rfl) rfl
 go_enter Tryz.func32,Tryz.ntmps32
 go_wp2_with (go_at_fn 61;refine h.mono ?_;rintro e w' ⟨rfl,hR⟩)
 go_ret
 exact⟨rfl,hR⟩
set_option maxHeartbeats 4000000 in
set_option maxRecDepth 1000000 in
theorem hC32:EachC Tryz.prog 62 92 91 3:=by
 intro vs fid bound captured bx w R b hl h1 hent hbx hcell h
 match vs,hl with
 | [v0,v1,v2],_=>
 have o0:v0.oneCell'=true:=h1 _ (by simp)
 have o1:v1.oneCell'=true:=h1 _ (by simp)
 have o2:v2.oneCell'=true:=h1 _ (by simp)
 rw[show(⟨bound++[.agg ⟨[v0,v1,v2]⟩]++captured⟩:Array Value)=(bound++.agg #[v0,v1,v2]::captured).toArray by simp]at h
 obtain⟨fn,hf,hf1,hf2⟩:=hent
 have efid:∀args w,(callFunc fid args).run Tryz.prog w = .ok (.enter fid args) w:=by
  cases hb:fn.body with
  | none=>rw[hb]at hf2;cases hf2
  | some bd=>exact enters_of hf hf1 hb
 clear hf hf1 hf2
 have hcw:(w.alloc (.cells #[v0,v1,v2] 91 (0,0))).cell? ⟨bx,0,none⟩=some (.func (.func fid) ⟨bound⟩ ⟨captured⟩):=by rw[World.cell?_alloc_old _ _ _ (Nat.ne_of_lt hbx)];simp[World.cell?,hcell]
 go_enter Tryz.func62,Tryz.ntmps62
 go_wp2_with (go_at_fn fid;refine h.mono ?_;rintro e w' ⟨rfl,hR⟩)
 go_ret
 exact⟨rfl,hR⟩
theorem ok32:FnOk Tryz.prog 32 sp32:=ya ok61 ⟨Tryz.f32,by kernel_rfl,by kernel_rfl,by kernel_rfl⟩ ⟨Tryz.f62,by kernel_rfl,by kernel_rfl,by kernel_rfl⟩ (by kernel_rfl) hB32 hC32
theorem ok33:FnOk Tryz.prog 33 sp33:=⟨⟨Tryz.f33,by kernel_rfl,by kernel_rfl,by kernel_rfl⟩,λa r hr=>nomatch (show(none:Option _)=some r from hr)⟩
theorem ok15:FnOk Tryz.prog 15 sp15:=fo (nv:=4) (h:=h15) (aa ok23 (aa ok24 (aa ok25 (aa ok26 (aa ok27 (aa ok28 (aa ok29 (aa ok30 (aa ok31 (aa ok32 (aa ok33 ad))))))))))) Tryz.func15
theorem JD:FnOk Tryz.prog 98 Jc:=fnOk (nv:=1) (h:=h98) tok mix ad Tryz.func98 (by kernel_rfl) (by kernel_rfl) (by kernel_rfl) (by kernel_rfl) (by kernel_rfl)
set_option maxHeartbeats 2000000 in
theorem Ki(p:Option Addr)(cap:Nat)(w:World):Calls Tryz.prog 98 #[.slice p 0 cap] w λe w'=>∃p',e = .returned (.slice p' 0 0)∧RowKit.Below w.heap.size w w'∧w.drawn≤w'.drawn:=by
 have q:=oD (P:=Tryz.prog) (t:=24) E7.und
 cases p with
 | none=>
  go_enter Tryz.func98,Tryz.ntmps98
  go_wp2
  go_ret
  exact⟨_,rfl,.refl _ _,Nat.le_refl _⟩
 | some p=>
  go_enter Tryz.func98,Tryz.ntmps98
  go_wp2
  go_ret
  exact⟨_,rfl,(RowKit.Below.refl _ w).alloc (Nat.le_refl _) _,Nat.le_refl _⟩
theorem ok98:FnOk Tryz.prog 98 sp98:=fH JD Ki
theorem Js:FnOk Tryz.prog 99 Jj:=fnOk (nv:=1) (h:=h99) tok mix ad Tryz.func99 (by kernel_rfl) (by kernel_rfl) (by kernel_rfl) (by kernel_rfl) (by kernel_rfl)
set_option maxHeartbeats 2000000 in
theorem J9(p:Option Addr)(cap:Nat)(w:World):Calls Tryz.prog 99 #[.slice p 0 cap] w λe w'=>∃p',e = .returned (.slice p' 0 0)∧RowKit.Below w.heap.size w w'∧w.drawn≤w'.drawn:=by
 have q:=oD (P:=Tryz.prog) (t:=25) EI.und
 cases p with
 | none=>
  go_enter Tryz.func99,Tryz.ntmps99
  go_wp2
  go_ret
  exact⟨_,rfl,.refl _ _,Nat.le_refl _⟩
 | some p=>
  go_enter Tryz.func99,Tryz.ntmps99
  go_wp2
  go_ret
  exact⟨_,rfl,(RowKit.Below.refl _ w).alloc (Nat.le_refl _) _,Nat.le_refl _⟩
theorem ok99:FnOk Tryz.prog 99 sp99:=fH Js J9
theorem Im:FnOk Tryz.prog 101 IF:=fnOk (nv:=1) (h:=h101) tok mix ad Tryz.func101 (by kernel_rfl) (by kernel_rfl) (by kernel_rfl) (by kernel_rfl) (by kernel_rfl)
set_option maxHeartbeats 2000000 in
theorem JC(p:Option Addr)(cap:Nat)(w:World):Calls Tryz.prog 101 #[.slice p 0 cap] w λe w'=>∃p',e = .returned (.slice p' 0 0)∧RowKit.Below w.heap.size w w'∧w.drawn≤w'.drawn:=by
 have q:=oD (P:=Tryz.prog) (t:=28) EM.und
 cases p with
 | none=>
  go_enter Tryz.func101,Tryz.ntmps101
  go_wp2
  go_ret
  exact⟨_,rfl,.refl _ _,Nat.le_refl _⟩
 | some p=>
  go_enter Tryz.func101,Tryz.ntmps101
  go_wp2
  go_ret
  exact⟨_,rfl,(RowKit.Below.refl _ w).alloc (Nat.le_refl _) _,Nat.le_refl _⟩
theorem ok101:FnOk Tryz.prog 101 sp101:=fH Im JC
theorem HR:FnOk Tryz.prog 102 HX:=fnOk (nv:=1) (h:=h102) tok mix ad Tryz.func102 (by kernel_rfl) (by kernel_rfl) (by kernel_rfl) (by kernel_rfl) (by kernel_rfl)
set_option maxHeartbeats 2000000 in
theorem Jh(p:Option Addr)(cap:Nat)(w:World):Calls Tryz.prog 102 #[.slice p 0 cap] w λe w'=>∃p',e = .returned (.slice p' 0 0)∧RowKit.Below w.heap.size w w'∧w.drawn≤w'.drawn:=by
 have q:=oD (P:=Tryz.prog) (t:=30) Fd.und
 cases p with
 | none=>
  go_enter Tryz.func102,Tryz.ntmps102
  go_wp2
  go_ret
  exact⟨_,rfl,.refl _ _,Nat.le_refl _⟩
 | some p=>
  go_enter Tryz.func102,Tryz.ntmps102
  go_wp2
  go_ret
  exact⟨_,rfl,(RowKit.Below.refl _ w).alloc (Nat.le_refl _) _,Nat.le_refl _⟩
theorem ok102:FnOk Tryz.prog 102 sp102:=fH HR Jh
theorem HY:FnOk Tryz.prog 103 IB:=fnOk (nv:=1) (h:=h103) tok mix ad Tryz.func103 (by kernel_rfl) (by kernel_rfl) (by kernel_rfl) (by kernel_rfl) (by kernel_rfl)
set_option maxHeartbeats 2000000 in
theorem I7(p:Option Addr)(cap:Nat)(w:World):Calls Tryz.prog 103 #[.slice p 0 cap] w λe w'=>∃p',e = .returned (.slice p' 0 0)∧RowKit.Below w.heap.size w w'∧w.drawn≤w'.drawn:=by
 have q:=oD (P:=Tryz.prog) (t:=31) EP.und
 cases p with
 | none=>
  go_enter Tryz.func103,Tryz.ntmps103
  go_wp2
  go_ret
  exact⟨_,rfl,.refl _ _,Nat.le_refl _⟩
 | some p=>
  go_enter Tryz.func103,Tryz.ntmps103
  go_wp2
  go_ret
  exact⟨_,rfl,(RowKit.Below.refl _ w).alloc (Nat.le_refl _) _,Nat.le_refl _⟩
theorem ok103:FnOk Tryz.prog 103 sp103:=fH HY I7
theorem Iz:FnOk Tryz.prog 104 HB:=fnOk (nv:=1) (h:=h104) tok mix ad Tryz.func104 (by kernel_rfl) (by kernel_rfl) (by kernel_rfl) (by kernel_rfl) (by kernel_rfl)
set_option maxHeartbeats 2000000 in
theorem I1(p:Option Addr)(cap:Nat)(w:World):Calls Tryz.prog 104 #[.slice p 0 cap] w λe w'=>∃p',e = .returned (.slice p' 0 0)∧RowKit.Below w.heap.size w w'∧w.drawn≤w'.drawn:=by
 have q:=oD (P:=Tryz.prog) (t:=32) EY.und
 cases p with
 | none=>
  go_enter Tryz.func104,Tryz.ntmps104
  go_wp2
  go_ret
  exact⟨_,rfl,.refl _ _,Nat.le_refl _⟩
 | some p=>
  go_enter Tryz.func104,Tryz.ntmps104
  go_wp2
  go_ret
  exact⟨_,rfl,(RowKit.Below.refl _ w).alloc (Nat.le_refl _) _,Nat.le_refl _⟩
theorem ok104:FnOk Tryz.prog 104 sp104:=fH Iz I1
theorem Hn:FnOk Tryz.prog 105 Hr:=fnOk (nv:=1) (h:=h105) tok mix ad Tryz.func105 (by kernel_rfl) (by kernel_rfl) (by kernel_rfl) (by kernel_rfl) (by kernel_rfl)
set_option maxHeartbeats 2000000 in
theorem IZ(p:Option Addr)(cap:Nat)(w:World):Calls Tryz.prog 105 #[.slice p 0 cap] w λe w'=>∃p',e = .returned (.slice p' 0 0)∧RowKit.Below w.heap.size w w'∧w.drawn≤w'.drawn:=by
 have q:=oD (P:=Tryz.prog) (t:=29) EL.und
 cases p with
 | none=>
  go_enter Tryz.func105,Tryz.ntmps105
  go_wp2
  go_ret
  exact⟨_,rfl,.refl _ _,Nat.le_refl _⟩
 | some p=>
  go_enter Tryz.func105,Tryz.ntmps105
  go_wp2
  go_ret
  exact⟨_,rfl,(RowKit.Below.refl _ w).alloc (Nat.le_refl _) _,Nat.le_refl _⟩
theorem ok105:FnOk Tryz.prog 105 sp105:=fH Hn IZ
theorem ok63:FnOk Tryz.prog 63 sp63:=fo (nv:=62) (h:=h63) (aa ok91 (aa ok98 (aa ok99 (aa ok100 (aa ok101 (aa ok102 (aa ok103 (aa ok104 (aa ok105 ad))))))))) Tryz.func63
theorem C8:FnOk Tryz.prog 63 Hy:=fo (nv:=62) (h:=Jq) (aa ok91 (aa ok98 (aa ok99 (aa ok100 (aa ok101 (aa ok102 (aa ok103 (aa ok104 (aa ok105 ad))))))))) Tryz.func63
theorem ok65:FnOk Tryz.prog 65 sp65:=fo (nv:=3) (h:=h65) ad Tryz.func65
theorem ok67:FnOk Tryz.prog 67 sp67:=⟨⟨Tryz.f67,by kernel_rfl,by kernel_rfl,by kernel_rfl⟩,λa r hr=>nomatch (show(none:Option _)=some r from hr)⟩
set_option maxHeartbeats 4000000 in
set_option maxRecDepth 1000000 in
theorem dn68:Bq Tryz.prog 68:=by
 constructor
 ·intro b n cap i w hn hj
  go_enter Tryz.func68,Tryz.ntmps68
  go_wp2
  all_goals (go_ret;exact⟨rfl,rfl⟩)
 ·intro p w;cases p
  ·go_enter Tryz.func68,Tryz.ntmps68
   go_wp2
   all_goals (go_ret;exact⟨rfl,rfl⟩)
  ·go_enter Tryz.func68,Tryz.ntmps68
   go_wp2
   all_goals (go_ret;exact⟨rfl,rfl⟩)
set_option maxHeartbeats 4000000 in
set_option maxRecDepth 1000000 in
theorem dw68:BE Tryz.prog 68 30 68 9:=by
 intro b n cap i j w hn hm hlt hj i0 hi0 hz1 A hA news s1 hsrc s2 s3 W1 W2 hW hcl
 have hic:i≤cap:=by omega
 have hjc:j≤cap:=by omega
 have tS:Tryz.prog.underlying 30=some (.slice 68):=by kernel_rfl
 have mixed:Tryz.prog.follows .mixedOrders=true:=Checked.mixed Tryz.checked
 go_enter Tryz.func68,Tryz.ntmps68
 go_wp2_with fail
 go_region_law_o (refine step_append_room rfl (.tmp 22) (.tmp 25) 30 rfl 68 i0 9 tS hi0 hz1 b 0 i cap (by simp[Act.eval,Act.put]) A (n - j) (cap - j) news (by simp[Act.eval,Act.put]) s1.out hsrc.out s2.out (by omega) s3.out ?_;rw[← hW.out])
 go_wp2
 go_ret
 exact⟨rfl,rfl⟩
theorem ok68:FnOk Tryz.prog 68 sp68:=F_ tok (te:=row68) (by kernel_rfl) (by kernel_rfl) (sz:=9) (by kernel_rfl) (Nat.blt_eq.mp (by kernel_rfl)) (by kernel_rfl:Tryz.prog.underlying 30=some (.slice 68)) ⟨Tryz.f68,by kernel_rfl,by kernel_rfl,by kernel_rfl⟩ dn68 dw68
theorem ok69:FnOk Tryz.prog 69 sp69:=fo (nv:=9) (h:=h69) ad Tryz.func69
theorem ok70:FnOk Tryz.prog 70 sp70:=⟨⟨Tryz.f70,by kernel_rfl,by kernel_rfl,by kernel_rfl⟩,λa r hr=>nomatch (show(none:Option _)=some r from hr)⟩
theorem ok34:FnOk Tryz.prog 34 sp34:=fo (nv:=17) (h:=h34) (aa ok63 (aa ok64 (aa ok65 (aa ok66 (aa ok67 (aa ok68 (aa ok69 (aa ok70 ad)))))))) Tryz.func34
theorem ok82:FnOk Tryz.prog 82 sp82:=⟨⟨Tryz.f82,by kernel_rfl,by kernel_rfl,by kernel_rfl⟩,λa r hr=>nomatch (show(none:Option _)=some r from hr)⟩
shelf_lay Go.Proofs.Lays.n160 Nm 160 at Tryz as layT226
shelf_lay Go.Proofs.Lays.n172 Nm 172 at Tryz as layA226
theorem hT226(b:UInt8)(r:List UInt8)(h6:r.length≤6)(hd:(b::r).all digB=true)(w:World):Calls Tryz.prog 271 #[.string ⟨⟨b::r⟩⟩,.string cut10] w λe w'=>e = .returned (.string ⟨#[]⟩)∧Below w.heap.size w w'∧w.drawn≤w'.drawn:=by
 have hs:(⟨⟨b::r⟩⟩:ByteArray).size=r.length+1:=rfl
 refine(Any.strings_Trim_set (ρ:=layT226_ren) layT226 (by intro w;kernel_rfl) (by kernel_rfl) ⟨⟨b::r⟩⟩ cut10 w (by decide) (by omega) (by omega) (by decide) Er).mono ?_
 rintro e w' ⟨rfl,q,rfl⟩;have e1:Lib.trimS (⟨⟨b::r⟩⟩:ByteArray).data.toList cut10.data.toList = []:=Ef hd;rw[e1]
 exact⟨rfl,DK (((Below.refl _ w).alloc (Nat.le_refl _) _).alloc (by rw[World.size_alloc];omega) _) q,Nat.le_add_right _ _⟩
theorem hA226(b:UInt8)(r:List UInt8)(n:Int)(h6:r.length≤6)(hn:Lib.atoi (b::r)=some n)(w:World):Calls Tryz.prog 272 #[.string ⟨⟨b::r⟩⟩] w λe w'=>e = .returned (.tuple #[.int .i64 n,.nilIface])∧Below w.heap.size w w'∧w.drawn≤w'.drawn:=by
 have hs:(⟨⟨b::r⟩⟩:ByteArray).size=r.length+1:=rfl
 refine(Any.strconv_Atoi (ρ:=layA226_ren) layA226 ⟨⟨b::r⟩⟩ n (by omega) hn w).mono ?_
 rintro e w' ⟨rfl,t,rfl⟩;exact⟨rfl,(Dl w _ t).1,(Dl w _ t).2⟩
set_option maxHeartbeats 4000000 in
set_option maxRecDepth 1000000 in
theorem hw226:NumW Tryz.prog 226:=by
 intro b r n w h6 h0 hd hn;have hT:=hT226 b r h6 hd;have hA:=hA226 b r n h6 hn;have hs:(⟨⟨b::r⟩⟩:ByteArray).size=r.length+1:=rfl
 have z1:¬ (((r.length+1:Nat):Int)>7):=by omega
 clear hd hn;unfold cut10 at hT
 have e271:∀args w,(callFunc 271 args).run Tryz.prog w = .ok (.enter 271 args) w:=enters_of Tryz.func271 (by kernel_rfl) rfl
 have e272:∀args w,(callFunc 272 args).run Tryz.prog w = .ok (.enter 272 args) w:=enters_of Tryz.func272 (by kernel_rfl) rfl
 rcases h0 with rfl | h0
 ·go_enter Tryz.func226,Tryz.ntmps226
  go_wp2_with (first | (go_at_fn 271;refine(hT w).mono ?_;rintro e w1 ⟨rfl,hb1,hd1⟩) | (go_at_fn 272;refine(hA _).mono ?_;rintro e w2 ⟨rfl,hb2,hd2⟩))
  go_ret2
  exact⟨rfl,hb1.trans (hb2.mono hb1.size),Nat.le_trans hd1 hd2⟩
 ·have z2:¬ (((b.toNat:Nat):Int)=48):=by omega
  go_enter Tryz.func226,Tryz.ntmps226
  by_cases hr:r = []
  ·subst hr
   go_wp2_with (first | (go_at_fn 271;refine(hT w).mono ?_;rintro e w1 ⟨rfl,hb1,hd1⟩) | (go_at_fn 272;refine(hA _).mono ?_;rintro e w2 ⟨rfl,hb2,hd2⟩))
   go_ret2
   exact⟨rfl,hb1.trans (hb2.mono hb1.size),Nat.le_trans hd1 hd2⟩
  ·have z3:((r.length:Int)+1)>1:=by have:r.length≠0:=λh=>hr (List.eq_nil_of_length_eq_zero h);omega
   have z4:¬ (7<(r.length:Int)+1):=by omega
   have z5:((((⟨⟨b::r⟩⟩:ByteArray)[0]'(by rw[hs];omega)).toNat:Int) == 48)=false:=by
    have e:((⟨⟨b::r⟩⟩:ByteArray)[0]'(by rw[hs];omega))=b:=rfl
    rw[e,beq_eq_false_iff_ne];exact z2
   clear hr z2
   go_wp2_with (first | (go_at_fn 271;refine(hT w).mono ?_;rintro e w1 ⟨rfl,hb1,hd1⟩) | (go_at_fn 272;refine(hA _).mono ?_;rintro e w2 ⟨rfl,hb2,hd2⟩))
   go_ret2
   exact⟨rfl,hb1.trans (hb2.mono hb1.size),Nat.le_trans hd1 hd2⟩
theorem ok226:FnOk Tryz.prog 226 sp226:=Ke ⟨Tryz.f226,by kernel_rfl,by kernel_rfl,by kernel_rfl⟩ hw226
theorem ok311:FnOk Tryz.prog 311 sp311:=fo (nv:=8) (h:=h311) (aa ok270 ad) Tryz.func311
theorem ok273:FnOk Tryz.prog 273 sp273:=fo (nv:=6) (h:=h273) (aa ok311 ad) Tryz.func273
theorem ok227:FnOk Tryz.prog 227 sp227:=fo (nv:=10) (h:=h227) (aa ok226 (aa ok273 ad)) Tryz.func227
theorem ok194:FnOk Tryz.prog 194 sp194:=fo (nv:=45) (h:=h194) (aa ok226 (aa ok227 ad)) Tryz.func194
theorem ok160:FnOk Tryz.prog 160 sp160:=fo (nv:=2) (h:=h160) (aa ok194 ad) Tryz.func160
theorem ok195:FnOk Tryz.prog 195 sp195:=fo (nv:=8) (h:=h195) (aa ok192 ad) Tryz.func195
theorem ok196:FnOk Tryz.prog 196 sp196:=fo (nv:=1) (h:=h196) ad Tryz.func196
theorem ok161:FnOk Tryz.prog 161 sp161:=fo (nv:=1) (h:=h161) (aa ok146 (aa ok195 (aa ok196 ad))) Tryz.func161
theorem ok228:FnOk Tryz.prog 228 sp228:=fo (nv:=10) (h:=h228) ad Tryz.func228
theorem ok274:FnOk Tryz.prog 274 sp274:=⟨⟨Tryz.f274,by kernel_rfl,by kernel_rfl,by kernel_rfl⟩,λa r hr=>nomatch (show(none:Option _)=some r from hr)⟩
theorem EQ:∀n,FnOk Tryz.prog 229 (IQ n)
 | 0=>⟨⟨Tryz.f229,by kernel_rfl,by kernel_rfl,by kernel_rfl⟩,λa r hr=>nomatch (show(none:Option _)=some r from hr)⟩
 | n+1=>fnOk (nv:=25) (h:=h229) tok mix (aa (EQ n) (aa ok274 ad)) Tryz.func229 (by kernel_rfl) (by kernel_rfl) (by kernel_rfl) (by kernel_rfl) (by kernel_rfl)
theorem ok229:FnOk Tryz.prog 229 sp229:=EQ 64
theorem ok197:FnOk Tryz.prog 197 sp197:=fo (nv:=10) (h:=h197) (aa ok228 (aa ok229 ad)) Tryz.func197
theorem ok162:FnOk Tryz.prog 162 sp162:=fo (nv:=2) (h:=h162) (aa ok197 ad) Tryz.func162
theorem ok198:FnOk Tryz.prog 198 sp198:=fo (nv:=1) (h:=h198) ad Tryz.func198
theorem ok164:FnOk Tryz.prog 164 sp164:=fo (nv:=7) (h:=h164) (aa ok198 ad) Tryz.func164
theorem ok163:FnOk Tryz.prog 163 sp163:=fo (nv:=4) (h:=h163) (aa ok164 ad) Tryz.func163
theorem ok109:FnOk Tryz.prog 109 sp109:=fo (nv:=51) (h:=h109) (aa ok146 (aa ok160 (aa ok161 (aa ok162 (aa ok163 ad))))) Tryz.func109
theorem ok110:FnOk Tryz.prog 110 sp110:=fo (nv:=14) (h:=h110) ad Tryz.func110
theorem ok71:FnOk Tryz.prog 71 sp71:=fo (nv:=59) (h:=h71) (aa ok23 (aa ok53 (aa ok60 (aa ok82 (aa ok109 (aa ok110 ad)))))) Tryz.func71
theorem ok72:FnOk Tryz.prog 72 sp72:=fo (nv:=7) (h:=h72) (aa ok82 ad) Tryz.func72
theorem ok165:FnOk Tryz.prog 165 sp165:=fo (nv:=4) (h:=h165) ad Tryz.func165
theorem ok111:FnOk Tryz.prog 111 sp111:=fo (nv:=62) (h:=h111) (aa ok98 (aa ok99 (aa ok100 (aa ok101 (aa ok102 (aa ok103 (aa ok104 (aa ok105 (aa ok153 (aa ok165 ad)))))))))) Tryz.func111
theorem ok112:FnOk Tryz.prog 112 sp112:=fo (nv:=2) (h:=h112) ad Tryz.func112
theorem IU:FnOk Tryz.prog 113 Jk:=fnOk (nv:=10) (h:=h113) tok mix ad Tryz.func113 (by kernel_rfl) (by kernel_rfl) (by kernel_rfl) (by kernel_rfl) (by kernel_rfl)
theorem ov113(w:World)(a b:Value)(h:(Extern.SlicesOverlaps.overlaps #[28,28] #[4] #[a,b]).run Tryz.prog w = .ok (.bool false) w):(callFunc 166 #[a,b]).run Tryz.prog w = .ok (.value (.bool false)) w:=by
 rw[run_callFunc_extern Tryz.func166 (by kernel_rfl) (by kernel_rfl) (by kernel_rfl) (e:=Extern.SlicesOverlaps.overlaps #[28,28] #[4]) (by kernel_rfl),h]
 rfl
set_option maxHeartbeats 4000000 in
set_option maxRecDepth 1000000 in
theorem iw113:rn Tryz.prog 113 28 8 166:=by
 intro b n c i vb vc w W1 W2 hi hroom hc63 hov hcp1 hcp2
 have tS:Tryz.prog.underlying 28=some (.slice 42):=by kernel_rfl
 have mixed:Tryz.prog.follows .mixedOrders=true:=Checked.mixed Tryz.checked
 have hz2:¬ ((i:Int)=(n:Int)):=by omega
 have hw1:IntKind.i64.wrap ((i:Int)+1)=(i:Int)+1:=by rw[IntKind.wrap_i64];omega
 have hw2:IntKind.i64.wrap ((n:Int)+1)=(n:Int)+1:=by rw[IntKind.wrap_i64];omega
 have hb1:(0:Int)≤(i:Int)+1:=by omega
 have hb0:(0:Int)≤(n:Int)+1:=by omega
 have hin:i≤n:=by omega
 have htn:((i:Int)+1).toNat=i+1:=by omega
 have htm:((n:Int)+1).toNat=n+1:=by omega
 have hb2:¬ (c=i+1):=by omega
 have hb3:(i:Int)≤(n:Int)+1:=by omega
 have hb4:¬ (c=i):=by omega
 go_enter Tryz.func113,Tryz.ntmps113
 go_wp2_with (simp only[hov])
 go_region_law_o (refine dj rfl _ _ 28 28 rfl _ _ (by simp[Act.eval,Act.put]) (by simp[Act.eval,Act.put]) (hcp1 _ _ _) ?_)
 go_wp2_with (at_builtin;refine cg _ rfl _ _ 28 28 rfl _ _ rfl rfl (hcp2 _ _) ?_)
 go_ret
 exact⟨rfl,rfl⟩
set_option maxHeartbeats 4000000 in
set_option maxRecDepth 1000000 in
theorem ig113:uj Tryz.prog 113 28 3 8:=by
 intro b n i vb vc nb G w W0 W1 W2 hi hn hG hG63 hap hcpA hcpB
 have tS:Tryz.prog.underlying 28=some (.slice 42):=by kernel_rfl
 have mixed:Tryz.prog.follows .mixedOrders=true:=Checked.mixed Tryz.checked
 have hz2:¬ ((i:Int)=(n:Int)):=by omega
 have hz3:(n:Int)<(n:Int)+1:=by omega
 have hw1:IntKind.i64.wrap ((i:Int)+1)=(i:Int)+1:=by rw[IntKind.wrap_i64];omega
 have hw2:IntKind.i64.wrap ((n:Int)+1)=(n:Int)+1:=by rw[IntKind.wrap_i64];omega
 have hw3:IntKind.i64.wrap ((n:Int)+1 - (i:Int))=(n:Int)+1 - (i:Int):=by rw[IntKind.wrap_i64];omega
 have hb1:(0:Int)≤(i:Int)+1:=by omega
 have hin:i≤n:=by omega
 have htn:((i:Int)+1).toNat=i+1:=by omega
 have hb3:(i:Int)≤(n:Int):=by omega
 have hGi:¬ (G=i):=by omega
 have hGim:¬ (G=i+1):=by omega
 have hci:¬ (n=i):=by omega
 go_enter Tryz.func113,Tryz.ntmps113
 go_wp2_with (first
  | (at_builtin;refine Lib.wpList_append_run _ rfl _ _ _ _ rfl _ _ rfl rfl _ _ (hap _) ?_)
  | (at_builtin;refine cg _ rfl _ _ 28 28 rfl _ _ rfl rfl (hcpA _ _) ?_))
 go_region_law_o (refine dj rfl _ _ 28 28 rfl (.slice (some ⟨nb,(i+1)*8,none⟩) (n - i) (G - (i+1))) (.slice (some ⟨b,i*8,none⟩) (n - i) (n - i)) (by simp[Act.eval,Act.put]) (by simp[Act.eval,Act.put]) (hcpB _ _ _) ?_)
 go_wp2
 go_ret
 exact⟨rfl,rfl⟩
theorem ok113:FnOk Tryz.prog 113 sp113:=Ak tok (te:=row42) (tb:=4) (by kernel_rfl) (by kernel_rfl) (sz:=8) (by kernel_rfl) (Nat.blt_eq.mp (by kernel_rfl)) (Nat.ble_eq.mp (by kernel_rfl)) (by kernel_rfl:Tryz.prog.underlying 28=some (.slice 42)) (by kernel_rfl:Tryz.prog.underlying 3=some (.int .i64)) ⟨Tryz.f113,by kernel_rfl,by kernel_rfl,by kernel_rfl⟩ ov113 IU iw113 ig113
theorem ok73:FnOk Tryz.prog 73 sp73:=fo (nv:=8) (h:=h73) (aa ok92 (aa ok111 (aa ok112 (aa ok113 ad)))) Tryz.func73
theorem ok114:FnOk Tryz.prog 114 sp114:=fo (nv:=15) (h:=h114) ad Tryz.func114
theorem ok115:FnOk Tryz.prog 115 sp115:=fo (nv:=9) (h:=h115) (aa ok92 (aa ok111 ad)) Tryz.func115
theorem ok168:FnOk Tryz.prog 168 sp168:=fo (nv:=9) (h:=h168) ad Tryz.func168
theorem ok116:FnOk Tryz.prog 116 sp116:=fo (nv:=8) (h:=h116) (aa ok168 ad) Tryz.func116
theorem HQ:FnOk Tryz.prog 117 If:=fnOk (nv:=1) (h:=h117) tok mix ad Tryz.func117 (by kernel_rfl) (by kernel_rfl) (by kernel_rfl) (by kernel_rfl) (by kernel_rfl)
set_option maxHeartbeats 2000000 in
theorem I6(p:Option Addr)(cap:Nat)(w:World):Calls Tryz.prog 117 #[.slice p 0 cap] w λe w'=>∃p',e = .returned (.slice p' 0 0)∧RowKit.Below w.heap.size w w'∧w.drawn≤w'.drawn:=by
 have q:=oD (P:=Tryz.prog) (t:=44) EO.und
 cases p with
 | none=>
  go_enter Tryz.func117,Tryz.ntmps117
  go_wp2
  go_ret
  exact⟨_,rfl,.refl _ _,Nat.le_refl _⟩
 | some p=>
  go_enter Tryz.func117,Tryz.ntmps117
  go_wp2
  go_ret
  exact⟨_,rfl,(RowKit.Below.refl _ w).alloc (Nat.le_refl _) _,Nat.le_refl _⟩
theorem ok117:FnOk Tryz.prog 117 sp117:=fH HQ I6
theorem ok118:FnOk Tryz.prog 118 sp118:=⟨⟨Tryz.f118,by kernel_rfl,by kernel_rfl,by kernel_rfl⟩,λa r hr=>nomatch (show(none:Option _)=some r from hr)⟩
theorem ok231:FnOk Tryz.prog 231 sp231:=fo (nv:=12) (h:=h231) (aa ok56 ad) Tryz.func231
theorem ok200:FnOk Tryz.prog 200 sp200:=fo (nv:=8) (h:=h200) (aa ok52 (aa ok231 ad)) Tryz.func200
theorem ok232:FnOk Tryz.prog 232 sp232:=⟨⟨Tryz.f232,by kernel_rfl,by kernel_rfl,by kernel_rfl⟩,λa r hr=>nomatch (show(none:Option _)=some r from hr)⟩
theorem ok233:FnOk Tryz.prog 233 sp233:=⟨⟨Tryz.f233,by kernel_rfl,by kernel_rfl,by kernel_rfl⟩,λa r hr=>nomatch (show(none:Option _)=some r from hr)⟩
theorem ok275:FnOk Tryz.prog 275 sp275:=fo (nv:=4) (h:=h275) ad Tryz.func275
theorem ok234:FnOk Tryz.prog 234 sp234:=fo (nv:=8) (h:=h234) (aa ok275 ad) Tryz.func234
theorem ok235:FnOk Tryz.prog 235 sp235:=fo (nv:=4) (h:=h235) (aa ok57 (aa ok275 ad)) Tryz.func235
theorem ok329:FnOk Tryz.prog 329 sp329:=fo (nv:=13) (h:=h329) ad Tryz.func329
theorem ok371:FnOk Tryz.prog 371 sp371:=fo (nv:=2) (h:=h371) ad Tryz.func371
theorem ok353:FnOk Tryz.prog 353 sp353:=fo (nv:=2) (h:=h353) (aa ok371 ad) Tryz.func353
theorem ok330:FnOk Tryz.prog 330 sp330:=fo (nv:=4) (h:=h330) (aa ok353 ad) Tryz.func330
theorem ok288:FnOk Tryz.prog 288 sp288:=fo (nv:=16) (h:=h288) (aa ok56 (aa ok329 (aa ok330 ad))) Tryz.func288
theorem ok247:FnOk Tryz.prog 247 sp247:=fo (nv:=7) (h:=h247) (aa ok288 ad) Tryz.func247
theorem ok221:FnOk Tryz.prog 221 sp221:=fo (nv:=9) (h:=h221) (aa ok56 ad) Tryz.func221
theorem ok188:FnOk Tryz.prog 188 sp188:=fo (nv:=12) (h:=h188) (aa ok221 ad) Tryz.func188
theorem ok363:FnOk Tryz.prog 363 sp363:=fo (nv:=14) (h:=h363) ad Tryz.func363
theorem ok377:FnOk Tryz.prog 377 sp377:=⟨⟨Tryz.f377,by kernel_rfl,by kernel_rfl,by kernel_rfl⟩,λa r hr=>nomatch (show(none:Option _)=some r from hr)⟩
theorem ok364:FnOk Tryz.prog 364 sp364:=fo (nv:=19) (h:=h364) (aa ok377 ad) Tryz.func364
theorem ok344:FnOk Tryz.prog 344 sp344:=fo (nv:=8) (h:=h344) (aa ok363 (aa ok364 ad)) Tryz.func344
theorem ok315:FnOk Tryz.prog 315 sp315:=fo (nv:=5) (h:=h315) (aa ok94 (aa ok95 (aa ok344 ad))) Tryz.func315
theorem ok316:FnOk Tryz.prog 316 sp316:=fo (nv:=4) (h:=h316) (aa ok85 ad) Tryz.func316
theorem ok313:FnOk Tryz.prog 313 sp313:=fo (nv:=15) (h:=h313) (aa ok89 (aa ok188 (aa ok315 (aa ok316 ad)))) Tryz.func313
theorem ok314:FnOk Tryz.prog 314 sp314:=fo (nv:=2) (h:=h314) ad Tryz.func314
theorem ok276:FnOk Tryz.prog 276 sp276:=fo (nv:=7) (h:=h276) (aa ok313 (aa ok314 ad)) Tryz.func276
theorem ok236:FnOk Tryz.prog 236 sp236:=fo (nv:=8) (h:=h236) (aa ok56 (aa ok57 (aa ok247 (aa ok276 ad)))) Tryz.func236
theorem ok277:FnOk Tryz.prog 277 sp277:=fo (nv:=9) (h:=h277) (aa ok288 ad) Tryz.func277
theorem ok278:FnOk Tryz.prog 278 sp278:=fo (nv:=10) (h:=h278) (aa ok89 (aa ok276 (aa ok315 ad))) Tryz.func278
theorem ok237:FnOk Tryz.prog 237 sp237:=fo (nv:=4) (h:=h237) (aa ok57 (aa ok277 (aa ok278 ad))) Tryz.func237
theorem ok238:FnOk Tryz.prog 238 sp238:=fo (nv:=4) (h:=h238) (aa ok57 ad) Tryz.func238
theorem ok345:FnOk Tryz.prog 345 sp345:=fo (nv:=2) (h:=h345) ad Tryz.func345
theorem ok317:FnOk Tryz.prog 317 sp317:=fo (nv:=7) (h:=h317) (aa ok313 (aa ok345 ad)) Tryz.func317
theorem ok318:FnOk Tryz.prog 318 sp318:=fo (nv:=12) (h:=h318) (aa ok221 ad) Tryz.func318
theorem ok279:FnOk Tryz.prog 279 sp279:=fo (nv:=20) (h:=h279) (aa ok56 (aa ok57 (aa ok188 (aa ok247 (aa ok316 (aa ok317 (aa ok318 ad))))))) Tryz.func279
theorem ok239:FnOk Tryz.prog 239 sp239:=fo (nv:=6) (h:=h239) (aa ok279 ad) Tryz.func239
theorem JK:FnOk Tryz.prog 170 Je:=fnOk (nv:=10) (h:=h170) tok mix ad Tryz.func170 (by kernel_rfl) (by kernel_rfl) (by kernel_rfl) (by kernel_rfl) (by kernel_rfl)
theorem ov170(w:World)(a b:Value)(h:(Extern.SlicesOverlaps.overlaps #[29,29] #[4] #[a,b]).run Tryz.prog w = .ok (.bool false) w):(callFunc 203 #[a,b]).run Tryz.prog w = .ok (.value (.bool false)) w:=by
 rw[run_callFunc_extern Tryz.func203 (by kernel_rfl) (by kernel_rfl) (by kernel_rfl) (e:=Extern.SlicesOverlaps.overlaps #[29,29] #[4]) (by kernel_rfl),h]
 rfl
set_option maxHeartbeats 4000000 in
set_option maxRecDepth 1000000 in
theorem iw170:rn Tryz.prog 170 29 14 203:=by
 intro b n c i vb vc w W1 W2 hi hroom hc63 hov hcp1 hcp2
 have tS:Tryz.prog.underlying 29=some (.slice 46):=by kernel_rfl
 have mixed:Tryz.prog.follows .mixedOrders=true:=Checked.mixed Tryz.checked
 have hz2:¬ ((i:Int)=(n:Int)):=by omega
 have hw1:IntKind.i64.wrap ((i:Int)+1)=(i:Int)+1:=by rw[IntKind.wrap_i64];omega
 have hw2:IntKind.i64.wrap ((n:Int)+1)=(n:Int)+1:=by rw[IntKind.wrap_i64];omega
 have hb1:(0:Int)≤(i:Int)+1:=by omega
 have hb0:(0:Int)≤(n:Int)+1:=by omega
 have hin:i≤n:=by omega
 have htn:((i:Int)+1).toNat=i+1:=by omega
 have htm:((n:Int)+1).toNat=n+1:=by omega
 have hb2:¬ (c=i+1):=by omega
 have hb3:(i:Int)≤(n:Int)+1:=by omega
 have hb4:¬ (c=i):=by omega
 go_enter Tryz.func170,Tryz.ntmps170
 go_wp2_with (simp only[hov])
 go_region_law_o (refine dj rfl _ _ 29 29 rfl _ _ (by simp[Act.eval,Act.put]) (by simp[Act.eval,Act.put]) (hcp1 _ _ _) ?_)
 go_wp2_with (at_builtin;refine cg _ rfl _ _ 29 29 rfl _ _ rfl rfl (hcp2 _ _) ?_)
 go_ret
 exact⟨rfl,rfl⟩
set_option maxHeartbeats 4000000 in
set_option maxRecDepth 1000000 in
theorem ig170:uj Tryz.prog 170 29 3 14:=by
 intro b n i vb vc nb G w W0 W1 W2 hi hn hG hG63 hap hcpA hcpB
 have tS:Tryz.prog.underlying 29=some (.slice 46):=by kernel_rfl
 have mixed:Tryz.prog.follows .mixedOrders=true:=Checked.mixed Tryz.checked
 have hz2:¬ ((i:Int)=(n:Int)):=by omega
 have hz3:(n:Int)<(n:Int)+1:=by omega
 have hw1:IntKind.i64.wrap ((i:Int)+1)=(i:Int)+1:=by rw[IntKind.wrap_i64];omega
 have hw2:IntKind.i64.wrap ((n:Int)+1)=(n:Int)+1:=by rw[IntKind.wrap_i64];omega
 have hw3:IntKind.i64.wrap ((n:Int)+1 - (i:Int))=(n:Int)+1 - (i:Int):=by rw[IntKind.wrap_i64];omega
 have hb1:(0:Int)≤(i:Int)+1:=by omega
 have hin:i≤n:=by omega
 have htn:((i:Int)+1).toNat=i+1:=by omega
 have hb3:(i:Int)≤(n:Int):=by omega
 have hGi:¬ (G=i):=by omega
 have hGim:¬ (G=i+1):=by omega
 have hci:¬ (n=i):=by omega
 go_enter Tryz.func170,Tryz.ntmps170
 go_wp2_with (first
  | (at_builtin;refine Lib.wpList_append_run _ rfl _ _ _ _ rfl _ _ rfl rfl _ _ (hap _) ?_)
  | (at_builtin;refine cg _ rfl _ _ 29 29 rfl _ _ rfl rfl (hcpA _ _) ?_))
 go_region_law_o (refine dj rfl _ _ 29 29 rfl (.slice (some ⟨nb,(i+1)*14,none⟩) (n - i) (G - (i+1))) (.slice (some ⟨b,i*14,none⟩) (n - i) (n - i)) (by simp[Act.eval,Act.put]) (by simp[Act.eval,Act.put]) (hcpB _ _ _) ?_)
 go_wp2
 go_ret
 exact⟨rfl,rfl⟩
theorem ok170:FnOk Tryz.prog 170 sp170:=Ak tok (te:=row46) (tb:=4) (by kernel_rfl) (by kernel_rfl) (sz:=14) (by kernel_rfl) (Nat.blt_eq.mp (by kernel_rfl)) (Nat.ble_eq.mp (by kernel_rfl)) (by kernel_rfl:Tryz.prog.underlying 29=some (.slice 46)) (by kernel_rfl:Tryz.prog.underlying 3=some (.int .i64)) ⟨Tryz.f170,by kernel_rfl,by kernel_rfl,by kernel_rfl⟩ ov170 JK iw170 ig170
theorem ok125:FnOk Tryz.prog 125 sp125:=fo (nv:=7) (h:=h125) (aa ok66 (aa ok170 ad)) Tryz.func125
theorem ok131:FnOk Tryz.prog 131 sp131:=fo (nv:=5) (h:=h131) (aa ok91 (aa ok125 (aa C8 ad))) Tryz.func131
theorem ok173:FnOk Tryz.prog 173 sp173:=fo (nv:=4) (h:=h173) ad Tryz.func173
theorem ok207:FnOk Tryz.prog 207 sp207:=fo (nv:=9) (h:=h207) ad Tryz.func207
theorem ok346:FnOk Tryz.prog 346 sp346:=fo (nv:=3) (h:=h346) ad Tryz.func346
theorem ok319:FnOk Tryz.prog 319 sp319:=fo (nv:=4) (h:=h319) (aa ok207 (aa ok346 ad)) Tryz.func319
set_option maxHeartbeats 4000000 in
set_option maxRecDepth 1000000 in
theorem dn320:Bq Tryz.prog 320:=by
 constructor
 ·intro b n cap i w hn hj
  go_enter Tryz.func320,Tryz.ntmps320
  go_wp2
  all_goals (go_ret;exact⟨rfl,rfl⟩)
 ·intro p w;cases p
  ·go_enter Tryz.func320,Tryz.ntmps320
   go_wp2
   all_goals (go_ret;exact⟨rfl,rfl⟩)
  ·go_enter Tryz.func320,Tryz.ntmps320
   go_wp2
   all_goals (go_ret;exact⟨rfl,rfl⟩)
set_option maxHeartbeats 4000000 in
set_option maxRecDepth 1000000 in
theorem dw320:BE Tryz.prog 320 43 71 8:=by
 intro b n cap i j w hn hm hlt hj i0 hi0 hz1 A hA news s1 hsrc s2 s3 W1 W2 hW hcl
 have hic:i≤cap:=by omega
 have hjc:j≤cap:=by omega
 have tS:Tryz.prog.underlying 43=some (.slice 71):=by kernel_rfl
 have mixed:Tryz.prog.follows .mixedOrders=true:=Checked.mixed Tryz.checked
 go_enter Tryz.func320,Tryz.ntmps320
 go_wp2_with fail
 go_region_law_o (refine step_append_room rfl (.tmp 22) (.tmp 25) 43 rfl 71 i0 8 tS hi0 hz1 b 0 i cap (by simp[Act.eval,Act.put]) A (n - j) (cap - j) news (by simp[Act.eval,Act.put]) s1.out hsrc.out s2.out (by omega) s3.out ?_;rw[← hW.out])
 go_wp2
 go_ret
 exact⟨rfl,rfl⟩
theorem ok320:FnOk Tryz.prog 320 sp320:=F_ tok (te:=row71) (by kernel_rfl) (by kernel_rfl) (sz:=8) (by kernel_rfl) (Nat.blt_eq.mp (by kernel_rfl)) (by kernel_rfl:Tryz.prog.underlying 43=some (.slice 71)) ⟨Tryz.f320,by kernel_rfl,by kernel_rfl,by kernel_rfl⟩ dn320 dw320
theorem ok280:FnOk Tryz.prog 280 sp280:=fo (nv:=8) (h:=h280) (aa ok173 (aa ok319 (aa ok320 ad))) Tryz.func280
theorem Jw:FnOk Tryz.prog 281 JB:=fnOk (nv:=10) (h:=h281) tok mix ad Tryz.func281 (by kernel_rfl) (by kernel_rfl) (by kernel_rfl) (by kernel_rfl) (by kernel_rfl)
theorem ov281(w:World)(a b:Value)(h:(Extern.SlicesOverlaps.overlaps #[30,30] #[4] #[a,b]).run Tryz.prog w = .ok (.bool false) w):(callFunc 321 #[a,b]).run Tryz.prog w = .ok (.value (.bool false)) w:=by
 rw[run_callFunc_extern Tryz.func321 (by kernel_rfl) (by kernel_rfl) (by kernel_rfl) (e:=Extern.SlicesOverlaps.overlaps #[30,30] #[4]) (by kernel_rfl),h]
 rfl
set_option maxHeartbeats 4000000 in
set_option maxRecDepth 1000000 in
theorem iw281:rn Tryz.prog 281 30 9 321:=by
 intro b n c i vb vc w W1 W2 hi hroom hc63 hov hcp1 hcp2
 have tS:Tryz.prog.underlying 30=some (.slice 68):=by kernel_rfl
 have mixed:Tryz.prog.follows .mixedOrders=true:=Checked.mixed Tryz.checked
 have hz2:¬ ((i:Int)=(n:Int)):=by omega
 have hw1:IntKind.i64.wrap ((i:Int)+1)=(i:Int)+1:=by rw[IntKind.wrap_i64];omega
 have hw2:IntKind.i64.wrap ((n:Int)+1)=(n:Int)+1:=by rw[IntKind.wrap_i64];omega
 have hb1:(0:Int)≤(i:Int)+1:=by omega
 have hb0:(0:Int)≤(n:Int)+1:=by omega
 have hin:i≤n:=by omega
 have htn:((i:Int)+1).toNat=i+1:=by omega
 have htm:((n:Int)+1).toNat=n+1:=by omega
 have hb2:¬ (c=i+1):=by omega
 have hb3:(i:Int)≤(n:Int)+1:=by omega
 have hb4:¬ (c=i):=by omega
 go_enter Tryz.func281,Tryz.ntmps281
 go_wp2_with (simp only[hov])
 go_region_law_o (refine dj rfl _ _ 30 30 rfl _ _ (by simp[Act.eval,Act.put]) (by simp[Act.eval,Act.put]) (hcp1 _ _ _) ?_)
 go_wp2_with (at_builtin;refine cg _ rfl _ _ 30 30 rfl _ _ rfl rfl (hcp2 _ _) ?_)
 go_ret
 exact⟨rfl,rfl⟩
set_option maxHeartbeats 4000000 in
set_option maxRecDepth 1000000 in
theorem ig281:uj Tryz.prog 281 30 3 9:=by
 intro b n i vb vc nb G w W0 W1 W2 hi hn hG hG63 hap hcpA hcpB
 have tS:Tryz.prog.underlying 30=some (.slice 68):=by kernel_rfl
 have mixed:Tryz.prog.follows .mixedOrders=true:=Checked.mixed Tryz.checked
 have hz2:¬ ((i:Int)=(n:Int)):=by omega
 have hz3:(n:Int)<(n:Int)+1:=by omega
 have hw1:IntKind.i64.wrap ((i:Int)+1)=(i:Int)+1:=by rw[IntKind.wrap_i64];omega
 have hw2:IntKind.i64.wrap ((n:Int)+1)=(n:Int)+1:=by rw[IntKind.wrap_i64];omega
 have hw3:IntKind.i64.wrap ((n:Int)+1 - (i:Int))=(n:Int)+1 - (i:Int):=by rw[IntKind.wrap_i64];omega
 have hb1:(0:Int)≤(i:Int)+1:=by omega
 have hin:i≤n:=by omega
 have htn:((i:Int)+1).toNat=i+1:=by omega
 have hb3:(i:Int)≤(n:Int):=by omega
 have hGi:¬ (G=i):=by omega
 have hGim:¬ (G=i+1):=by omega
 have hci:¬ (n=i):=by omega
 go_enter Tryz.func281,Tryz.ntmps281
 go_wp2_with (first
  | (at_builtin;refine Lib.wpList_append_run _ rfl _ _ _ _ rfl _ _ rfl rfl _ _ (hap _) ?_)
  | (at_builtin;refine cg _ rfl _ _ 30 30 rfl _ _ rfl rfl (hcpA _ _) ?_))
 go_region_law_o (refine dj rfl _ _ 30 30 rfl (.slice (some ⟨nb,(i+1)*9,none⟩) (n - i) (G - (i+1))) (.slice (some ⟨b,i*9,none⟩) (n - i) (n - i)) (by simp[Act.eval,Act.put]) (by simp[Act.eval,Act.put]) (hcpB _ _ _) ?_)
 go_wp2
 go_ret
 exact⟨rfl,rfl⟩
theorem ok281:FnOk Tryz.prog 281 sp281:=Ak tok (te:=row68) (tb:=4) (by kernel_rfl) (by kernel_rfl) (sz:=9) (by kernel_rfl) (Nat.blt_eq.mp (by kernel_rfl)) (Nat.ble_eq.mp (by kernel_rfl)) (by kernel_rfl:Tryz.prog.underlying 30=some (.slice 68)) (by kernel_rfl:Tryz.prog.underlying 3=some (.int .i64)) ⟨Tryz.f281,by kernel_rfl,by kernel_rfl,by kernel_rfl⟩ ov281 Jw iw281 ig281
theorem ok241:FnOk Tryz.prog 241 sp241:=fo (nv:=9) (h:=h241) (aa ok131 (aa ok280 (aa ok281 ad))) Tryz.func241
theorem ok201:FnOk Tryz.prog 201 sp201:=fo (nv:=12) (h:=h201) (aa ok51 (aa ok97 (aa ok232 (aa ok233 ad)))) Tryz.func201
shelf_lay_g Go.Proofs.SlLaysF0.n6 Slsf 6 at Tryz 348 as lay348
theorem ok348:FnOk Tryz.prog 348 sp348:=Ik (ρ:=lay348_ren) (n:=15) lay348 (by intro w;kernel_rfl) (by intro w;kernel_rfl) (by kernel_rfl) (Nat.blt_eq.mp (by kernel_rfl)) ⟨Tryz.f348,by kernel_rfl,by kernel_rfl,by kernel_rfl⟩
theorem ok252:FnOk Tryz.prog 252 sp252:=fo (nv:=9) (h:=h252) ad Tryz.func252
theorem ok387:FnOk Tryz.prog 387 sp387:=fo (nv:=9) (h:=h387) (aa ok363 ad) Tryz.func387
theorem ok394:FnOk Tryz.prog 394 sp394:=fo (nv:=9) (h:=h394) ad Tryz.func394
theorem ok395:FnOk Tryz.prog 395 sp395:=fo (nv:=2) (h:=h395) ad Tryz.func395
theorem ok396:FnOk Tryz.prog 396 sp396:=fo (nv:=2) (h:=h396) ad Tryz.func396
theorem ok386:FnOk Tryz.prog 386 sp386:=fo (nv:=7) (h:=h386) (aa ok387 (aa ok394 (aa ok395 (aa ok396 ad)))) Tryz.func386
theorem ok367:FnOk Tryz.prog 367 sp367:=fo (nv:=8) (h:=h367) (aa ok94 (aa ok386 (aa ok387 ad))) Tryz.func367
theorem ok349:FnOk Tryz.prog 349 sp349:=fo (nv:=4) (h:=h349) (aa ok164 (aa ok252 (aa ok367 ad))) Tryz.func349
theorem ok323:FnOk Tryz.prog 323 sp323:=fo (nv:=44) (h:=h323) (aa ok88 (aa ok247 (aa ok276 (aa ok348 (aa ok349 ad))))) Tryz.func323
theorem E9:∀n,FnOk Tryz.prog 282 (Jv n)
 | 0=>⟨⟨Tryz.f282,by kernel_rfl,by kernel_rfl,by kernel_rfl⟩,λa r hr=>nomatch (show(none:Option _)=some r from hr)⟩
 | n+1=>fnOk (nv:=29) (h:=h282) tok mix (aa (E9 n) (aa ok323 ad)) Tryz.func282 (by kernel_rfl) (by kernel_rfl) (by kernel_rfl) (by kernel_rfl) (by kernel_rfl)
theorem ok282:FnOk Tryz.prog 282 sp282:=E9 64
theorem ok242:FnOk Tryz.prog 242 sp242:=fo (nv:=3) (h:=h242) (aa ok282 ad) Tryz.func242
theorem ok368:FnOk Tryz.prog 368 sp368:=fo (nv:=10) (h:=h368) ad Tryz.func368
theorem ok397:FnOk Tryz.prog 397 sp397:=fo (nv:=11) (h:=h397) ad Tryz.func397
theorem ok388:FnOk Tryz.prog 388 sp388:=fo (nv:=12) (h:=h388) (aa ok397 ad) Tryz.func388
theorem Fe:∀n,FnOk Tryz.prog 369 (I0 n)
 | 0=>⟨⟨Tryz.f369,by kernel_rfl,by kernel_rfl,by kernel_rfl⟩,λa r hr=>nomatch (show(none:Option _)=some r from hr)⟩
 | n+1=>fnOk (nv:=25) (h:=h369) tok mix (aa (Fe n) (aa ok388 ad)) Tryz.func369 (by kernel_rfl) (by kernel_rfl) (by kernel_rfl) (by kernel_rfl) (by kernel_rfl)
theorem ok369:FnOk Tryz.prog 369 sp369:=Fe 64
theorem ok350:FnOk Tryz.prog 350 sp350:=fo (nv:=10) (h:=h350) (aa ok368 (aa ok369 ad)) Tryz.func350
theorem ok324:FnOk Tryz.prog 324 sp324:=fo (nv:=2) (h:=h324) (aa ok350 ad) Tryz.func324
theorem ok325:FnOk Tryz.prog 325 sp325:=⟨⟨Tryz.f325,by kernel_rfl,by kernel_rfl,by kernel_rfl⟩,λa r hr=>nomatch (show(none:Option _)=some r from hr)⟩
theorem ok283:FnOk Tryz.prog 283 sp283:=fo (nv:=39) (h:=h283) (aa ok53 (aa ok324 (aa ok325 ad))) Tryz.func283
theorem ok284:FnOk Tryz.prog 284 sp284:=⟨⟨Tryz.f284,by kernel_rfl,by kernel_rfl,by kernel_rfl⟩,λa r hr=>nomatch (show(none:Option _)=some r from hr)⟩
theorem ok285:FnOk Tryz.prog 285 sp285:=⟨⟨Tryz.f285,by kernel_rfl,by kernel_rfl,by kernel_rfl⟩,λa r hr=>nomatch (show(none:Option _)=some r from hr)⟩
theorem ok243:FnOk Tryz.prog 243 sp243:=fo (nv:=59) (h:=h243) (aa ok51 (aa ok153 (aa ok235 (aa ok236 (aa ok237 (aa ok238 (aa ok239 (aa ok241 (aa ok283 (aa ok284 (aa ok285 ad))))))))))) Tryz.func243
theorem ok202:FnOk Tryz.prog 202 sp202:=fo (nv:=8) (h:=h202) (aa ok234 (aa ok242 (aa ok243 ad))) Tryz.func202
theorem ok169:FnOk Tryz.prog 169 sp169:=fo (nv:=11) (h:=h169) (aa ok34 (aa ok52 (aa ok200 (aa ok201 (aa ok202 ad))))) Tryz.func169
theorem ok120:FnOk Tryz.prog 120 sp120:=fo (nv:=10) (h:=h120) (aa ok34 (aa ok169 ad)) Tryz.func120
theorem ok74:FnOk Tryz.prog 74 sp74:=fo (nv:=8) (h:=h74) (aa ok34 (aa ok52 (aa ok82 (aa ok114 (aa ok115 (aa ok116 (aa ok117 (aa ok118 (aa ok120 ad))))))))) Tryz.func74
theorem ok172:FnOk Tryz.prog 172 sp172:=fo (nv:=8) (h:=h172) (aa ok207 ad) Tryz.func172
theorem ok174:FnOk Tryz.prog 174 sp174:=⟨⟨Tryz.f174,by kernel_rfl,by kernel_rfl,by kernel_rfl⟩,λa r hr=>nomatch (show(none:Option _)=some r from hr)⟩
theorem IS:FnOk Tryz.prog 175 Jm:=fnOk (nv:=10) (h:=h175) tok mix ad Tryz.func175 (by kernel_rfl) (by kernel_rfl) (by kernel_rfl) (by kernel_rfl) (by kernel_rfl)
theorem ov175(w:World)(a b:Value)(h:(Extern.SlicesOverlaps.overlaps #[43,43] #[4] #[a,b]).run Tryz.prog w = .ok (.bool false) w):(callFunc 208 #[a,b]).run Tryz.prog w = .ok (.value (.bool false)) w:=by
 rw[run_callFunc_extern Tryz.func208 (by kernel_rfl) (by kernel_rfl) (by kernel_rfl) (e:=Extern.SlicesOverlaps.overlaps #[43,43] #[4]) (by kernel_rfl),h]
 rfl
set_option maxHeartbeats 4000000 in
set_option maxRecDepth 1000000 in
theorem iw175:rn Tryz.prog 175 43 8 208:=by
 intro b n c i vb vc w W1 W2 hi hroom hc63 hov hcp1 hcp2
 have tS:Tryz.prog.underlying 43=some (.slice 71):=by kernel_rfl
 have mixed:Tryz.prog.follows .mixedOrders=true:=Checked.mixed Tryz.checked
 have hz2:¬ ((i:Int)=(n:Int)):=by omega
 have hw1:IntKind.i64.wrap ((i:Int)+1)=(i:Int)+1:=by rw[IntKind.wrap_i64];omega
 have hw2:IntKind.i64.wrap ((n:Int)+1)=(n:Int)+1:=by rw[IntKind.wrap_i64];omega
 have hb1:(0:Int)≤(i:Int)+1:=by omega
 have hb0:(0:Int)≤(n:Int)+1:=by omega
 have hin:i≤n:=by omega
 have htn:((i:Int)+1).toNat=i+1:=by omega
 have htm:((n:Int)+1).toNat=n+1:=by omega
 have hb2:¬ (c=i+1):=by omega
 have hb3:(i:Int)≤(n:Int)+1:=by omega
 have hb4:¬ (c=i):=by omega
 go_enter Tryz.func175,Tryz.ntmps175
 go_wp2_with (simp only[hov])
 go_region_law_o (refine dj rfl _ _ 43 43 rfl _ _ (by simp[Act.eval,Act.put]) (by simp[Act.eval,Act.put]) (hcp1 _ _ _) ?_)
 go_wp2_with (at_builtin;refine cg _ rfl _ _ 43 43 rfl _ _ rfl rfl (hcp2 _ _) ?_)
 go_ret
 exact⟨rfl,rfl⟩
set_option maxHeartbeats 4000000 in
set_option maxRecDepth 1000000 in
theorem ig175:uj Tryz.prog 175 43 3 8:=by
 intro b n i vb vc nb G w W0 W1 W2 hi hn hG hG63 hap hcpA hcpB
 have tS:Tryz.prog.underlying 43=some (.slice 71):=by kernel_rfl
 have mixed:Tryz.prog.follows .mixedOrders=true:=Checked.mixed Tryz.checked
 have hz2:¬ ((i:Int)=(n:Int)):=by omega
 have hz3:(n:Int)<(n:Int)+1:=by omega
 have hw1:IntKind.i64.wrap ((i:Int)+1)=(i:Int)+1:=by rw[IntKind.wrap_i64];omega
 have hw2:IntKind.i64.wrap ((n:Int)+1)=(n:Int)+1:=by rw[IntKind.wrap_i64];omega
 have hw3:IntKind.i64.wrap ((n:Int)+1 - (i:Int))=(n:Int)+1 - (i:Int):=by rw[IntKind.wrap_i64];omega
 have hb1:(0:Int)≤(i:Int)+1:=by omega
 have hin:i≤n:=by omega
 have htn:((i:Int)+1).toNat=i+1:=by omega
 have hb3:(i:Int)≤(n:Int):=by omega
 have hGi:¬ (G=i):=by omega
 have hGim:¬ (G=i+1):=by omega
 have hci:¬ (n=i):=by omega
 go_enter Tryz.func175,Tryz.ntmps175
 go_wp2_with (first
  | (at_builtin;refine Lib.wpList_append_run _ rfl _ _ _ _ rfl _ _ rfl rfl _ _ (hap _) ?_)
  | (at_builtin;refine cg _ rfl _ _ 43 43 rfl _ _ rfl rfl (hcpA _ _) ?_))
 go_region_law_o (refine dj rfl _ _ 43 43 rfl (.slice (some ⟨nb,(i+1)*8,none⟩) (n - i) (G - (i+1))) (.slice (some ⟨b,i*8,none⟩) (n - i) (n - i)) (by simp[Act.eval,Act.put]) (by simp[Act.eval,Act.put]) (hcpB _ _ _) ?_)
 go_wp2
 go_ret
 exact⟨rfl,rfl⟩
theorem ok175:FnOk Tryz.prog 175 sp175:=Ak tok (te:=row71) (tb:=4) (by kernel_rfl) (by kernel_rfl) (sz:=8) (by kernel_rfl) (Nat.blt_eq.mp (by kernel_rfl)) (Nat.ble_eq.mp (by kernel_rfl)) (by kernel_rfl:Tryz.prog.underlying 43=some (.slice 71)) (by kernel_rfl:Tryz.prog.underlying 3=some (.int .i64)) ⟨Tryz.f175,by kernel_rfl,by kernel_rfl,by kernel_rfl⟩ ov175 IS iw175 ig175
theorem ok129:FnOk Tryz.prog 129 sp129:=fo (nv:=8) (h:=h129) (aa ok172 (aa ok173 (aa ok174 (aa ok175 ad)))) Tryz.func129
theorem ok107:FnOk Tryz.prog 107 sp107:=fo (nv:=4) (h:=h107) (aa ok129 ad) Tryz.func107
theorem ok121:FnOk Tryz.prog 121 sp121:=fo (nv:=3) (h:=h121) ad Tryz.func121
theorem ok122:FnOk Tryz.prog 122 sp122:=fo (nv:=9) (h:=h122) (aa ok53 ad) Tryz.func122
theorem ok123:FnOk Tryz.prog 123 sp123:=fo (nv:=2) (h:=h123) (aa ok53 ad) Tryz.func123
theorem ok124:FnOk Tryz.prog 124 sp124:=⟨⟨Tryz.f124,by kernel_rfl,by kernel_rfl,by kernel_rfl⟩,λa r hr=>nomatch (show(none:Option _)=some r from hr)⟩
theorem ok75:FnOk Tryz.prog 75 sp75:=fo (nv:=8) (h:=h75) (aa ok60 (aa ok66 (aa ok96 (aa ok107 (aa ok121 (aa ok122 (aa ok123 (aa ok124 (aa ok125 (aa C8 ad)))))))))) Tryz.func75
theorem ok126:FnOk Tryz.prog 126 sp126:=fo (nv:=23) (h:=h126) ad Tryz.func126
theorem ok127:FnOk Tryz.prog 127 sp127:=fo (nv:=15) (h:=h127) ad Tryz.func127
theorem ok205:FnOk Tryz.prog 205 sp205:=fo (nv:=2) (h:=h205) (aa ok168 ad) Tryz.func205
theorem ok206:FnOk Tryz.prog 206 sp206:=fo (nv:=3) (h:=h206) ad Tryz.func206
theorem ok171:FnOk Tryz.prog 171 sp171:=fo (nv:=5) (h:=h171) (aa ok205 (aa ok206 ad)) Tryz.func171
theorem ok128:FnOk Tryz.prog 128 sp128:=fo (nv:=3) (h:=h128) (aa ok171 ad) Tryz.func128
theorem ok176:FnOk Tryz.prog 176 sp176:=⟨⟨Tryz.f176,by kernel_rfl,by kernel_rfl,by kernel_rfl⟩,λa r hr=>nomatch (show(none:Option _)=some r from hr)⟩
theorem ok177:FnOk Tryz.prog 177 sp177:=⟨⟨Tryz.f177,by kernel_rfl,by kernel_rfl,by kernel_rfl⟩,λa r hr=>nomatch (show(none:Option _)=some r from hr)⟩
theorem ok130:FnOk Tryz.prog 130 sp130:=fo (nv:=13) (h:=h130) (aa ok64 (aa ok68 (aa ok116 (aa ok176 (aa ok177 ad))))) Tryz.func130
theorem ok76:FnOk Tryz.prog 76 sp76:=fo (nv:=79) (h:=h76) (aa ok51 (aa ok82 (aa ok117 (aa ok126 (aa ok127 (aa ok128 (aa ok129 (aa ok130 (aa ok131 ad))))))))) Tryz.func76
theorem ok77:FnOk Tryz.prog 77 sp77:=⟨⟨Tryz.f77,by kernel_rfl,by kernel_rfl,by kernel_rfl⟩,λa r hr=>nomatch (show(none:Option _)=some r from hr)⟩
theorem ok133:FnOk Tryz.prog 133 sp133:=fo (nv:=10) (h:=h133) ad Tryz.func133
theorem ok134:FnOk Tryz.prog 134 sp134:=⟨⟨Tryz.f134,by kernel_rfl,by kernel_rfl,by kernel_rfl⟩,λa r hr=>nomatch (show(none:Option _)=some r from hr)⟩
theorem ok135:FnOk Tryz.prog 135 sp135:=fo (nv:=12) (h:=h135) ad Tryz.func135
theorem ok136:FnOk Tryz.prog 136 sp136:=⟨⟨Tryz.f136,by kernel_rfl,by kernel_rfl,by kernel_rfl⟩,λa r hr=>nomatch (show(none:Option _)=some r from hr)⟩
theorem ok141:FnOk Tryz.prog 141 sp141:=fo (nv:=9) (h:=h141) ad Tryz.func141
theorem ok137:FnOk Tryz.prog 137 sp137:=fo (nv:=8) (h:=h137) (aa ok141 ad) Tryz.func137
theorem ok138:FnOk Tryz.prog 138 sp138:=⟨⟨Tryz.f138,by kernel_rfl,by kernel_rfl,by kernel_rfl⟩,λa r hr=>nomatch (show(none:Option _)=some r from hr)⟩
theorem ok211:FnOk Tryz.prog 211 sp211:=fo (nv:=3) (h:=h211) ad Tryz.func211
theorem ok212:FnOk Tryz.prog 212 sp212:=fo (nv:=4) (h:=h212) ad Tryz.func212
theorem ok356:FnOk Tryz.prog 356 sp356:=fo (nv:=11) (h:=h356) (aa ok171 ad) Tryz.func356
theorem ok332:FnOk Tryz.prog 332 sp332:=fo (nv:=11) (h:=h332) (aa ok53 (aa ok56 (aa ok330 (aa ok356 ad)))) Tryz.func332
theorem ok290:FnOk Tryz.prog 290 sp290:=fo (nv:=7) (h:=h290) (aa ok332 ad) Tryz.func290
theorem ok354:FnOk Tryz.prog 354 sp354:=fo (nv:=10) (h:=h354) ad Tryz.func354
theorem ok355:FnOk Tryz.prog 355 sp355:=fo (nv:=1) (h:=h355) ad Tryz.func355
theorem ok331:FnOk Tryz.prog 331 sp331:=fo (nv:=61) (h:=h331) (aa ok354 (aa ok355 ad)) Tryz.func331
theorem Jo:FnOk Tryz.prog 289 (uF 0):=⟨⟨Tryz.f289,by kernel_rfl,by kernel_rfl,by kernel_rfl⟩,λa r hr=>nomatch (show(none:Option _)=some r from hr)⟩
set_option maxHeartbeats 4000000 in
theorem Jr(n:Nat)(ih:FnOk Tryz.prog 289 (uF n)):FnOk Tryz.prog 289 (uF (n+1)):=fnOk (nv:=110) (h:=h289) tok mix (aa ih (aa ih (aa ok88 (aa ok247 (aa ok276 (aa ok290 (aa ok317 (aa ok331 ad)))))))) Tryz.func289 (by kernel_rfl) (by kernel_rfl) (by kernel_rfl) (by kernel_rfl) (by kernel_rfl)
theorem JJ(n:Nat):FnOk Tryz.prog 289 (uF n):=Nat.rec (motive:=λn=>FnOk Tryz.prog 289 (uF n)) Jo (λn ih=>Jr n ih) n
theorem ok289:FnOk Tryz.prog 289 sp289:=JJ 64
theorem ok248:FnOk Tryz.prog 248 sp248:=fo (nv:=3) (h:=h248) (aa ok188 (aa ok289 ad)) Tryz.func248
theorem ok249:FnOk Tryz.prog 249 sp249:=fo (nv:=9) (h:=h249) ad Tryz.func249
theorem ok250:FnOk Tryz.prog 250 sp250:=fo (nv:=3) (h:=h250) ad Tryz.func250
theorem ok213:FnOk Tryz.prog 213 sp213:=fo (nv:=30) (h:=h213) (aa ok51 (aa ok247 (aa ok248 (aa ok249 (aa ok250 ad))))) Tryz.func213
theorem hB179(p:Option Addr)(n cap:Nat)(w:World):Calls Tryz.prog 210 #[.slice p n cap] w λe w'=>e = .returned (.func (.func 246) #[] #[.pointer (some ⟨w.heap.size,0,none⟩)])∧w'=w.alloc (.cells #[.slice p n cap] 30 (0,0)):=by
 go_enter Tryz.func210,Tryz.ntmps210
 go_wp2
 go_ret
 exact⟨rfl,rfl⟩
set_option maxHeartbeats 4000000 in
set_option maxRecDepth 1000000 in
theorem hC179:Dh Tryz.prog 246 68 9:=by
 intro l bx n cap p J W hn hp hbx hcell hY h0;refine callsIn_of_wp Tryz.func246 rfl trivial ?_ rfl;simp only[Tryz.ntmps246,List.size_toArray,List.length_cons,List.length_nil,Nat.reduceAdd,Nat.reduceSub,Array.replicate_succ,Array.replicate_zero,List.push_toArray,List.append_toArray,List.nil_append,List.cons_append]
 gi_wp2
 gi_loopw [3] (λi wr=>∃k:Nat,k≤n∧i = .int .i64 ((k:Int) - 1)∧J k wr) (λi _=>(Go.RowKit.intOf i+1).toNat)
 case atStart=>exact⟨n,Nat.le_refl _,by rw[show wrap64 ((n:Int) - 1)=(n:Int) - 1 by unfold maxLen at hn;simp only[wrap64];omega],h0⟩
 case round=>
  obtain⟨k,hk,rfl,hJ⟩:=hrel
  have hcw:wr.cell? ⟨bx,0,none⟩=some (.slice p n cap):=by rw[← hcell];simp[World.cell?,hbx k wr hJ]
  cases k with
  | zero=>
   gi_wp2
   go_end0
   exact⟨⟨_,rfl⟩,hJ⟩
  | succ k=>
   have e1:(((k+1:Nat):Int) - 1)=(k:Int):=by omega
   rw[e1];have hlt:k<n:=hk;rcases hp with hp | ⟨b,rfl⟩
   ·omega
   obtain⟨f,hf,fn,tmps,assign,body,hy,hR⟩:=hY k wr hJ hlt b rfl
   have c0:=hf 0 (by decide)
   rw[Nat.add_zero]at c0
   have c1:=hf 1 (by decide)
   have c2:=hf 2 (by decide)
   have c3:=hf 3 (by decide)
   have c4:=hf 4 (by decide)
   have c5:=hf 5 (by decide)
   have c6:=hf 6 (by decide)
   have c7:=hf 7 (by decide)
   have c8:=hf 8 (by decide)
   rw[show(⟨(List.range 9).map f⟩:Array Value) = #[f 0,f 1,f 2,f 3,f 4,f 5,f 6,f 7,f 8]from rfl]at hy
   gi_wp2
   refine hR.mono ?_;rintro e W3 ⟨rfl,hJ3⟩
   gi_wp2
   go_roundw
   case rel=>exact⟨k,by omega,by rw[show wrap64 ((k:Int) - 1)=(k:Int) - 1 by unfold maxLen at hn;simp only[wrap64];omega],hJ3⟩
   case measure=>simp[Go.RowKit.intOf,wrap64];unfold maxLen at hn;omega
theorem ok179:FnOk Tryz.prog 179 sp179:=fnOkR (nv:=48) (fB:=210) (fC:=246) (te:=68) (tsl:=30) (ks0:=k179) (dr0:=dr179) (h:=h179) tok (aa ok34 (aa ok64 (aa ok102 (aa ok211 (aa ok212 (aa ok213 ad)))))) mix Tryz.func179 (by kernel_rfl) (by kernel_rfl) (by kernel_rfl) (by kernel_rfl) ⟨Tryz.f210,by kernel_rfl,by kernel_rfl,by kernel_rfl⟩ ⟨Tryz.f246,by kernel_rfl,by kernel_rfl,by kernel_rfl⟩ hB179 (λti h=>by cases h;exact hC179) (by kernel_rfl)
theorem ok217:FnOk Tryz.prog 217 sp217:=fo (nv:=4) (h:=h217) ad Tryz.func217
theorem ok214:FnOk Tryz.prog 214 sp214:=fo (nv:=47) (h:=h214) (aa ok51 (aa ok217 (aa ok247 (aa ok248 ad)))) Tryz.func214
theorem ok251:FnOk Tryz.prog 251 sp251:=fo (nv:=54) (h:=h251) (aa ok53 (aa ok247 (aa ok276 (aa ok290 ad)))) Tryz.func251
theorem ok215:FnOk Tryz.prog 215 sp215:=fo (nv:=20) (h:=h215) (aa ok188 (aa ok247 (aa ok248 (aa ok251 ad)))) Tryz.func215
theorem ok253:FnOk Tryz.prog 253 sp253:=⟨⟨Tryz.f253,by kernel_rfl,by kernel_rfl,by kernel_rfl⟩,λa r hr=>nomatch (show(none:Option _)=some r from hr)⟩
theorem ok216:FnOk Tryz.prog 216 sp216:=fo (nv:=94) (h:=h216) (aa ok253 ad) Tryz.func216
theorem ok180:FnOk Tryz.prog 180 sp180:=fo (nv:=9) (h:=h180) (aa ok214 (aa ok215 (aa ok216 (aa ok217 ad)))) Tryz.func180
theorem ok181:FnOk Tryz.prog 181 sp181:=fo (nv:=3) (h:=h181) ad Tryz.func181
theorem ok182:FnOk Tryz.prog 182 sp182:=fo (nv:=3) (h:=h182) ad Tryz.func182
theorem ok291:FnOk Tryz.prog 291 sp291:=fo (nv:=1) (h:=h291) ad Tryz.func291
theorem ok260:FnOk Tryz.prog 260 sp260:=fo (nv:=2) (h:=h260) (aa ok291 ad) Tryz.func260
theorem ok254:FnOk Tryz.prog 254 sp254:=fo (nv:=8) (h:=h254) (aa ok260 ad) Tryz.func254
theorem ok255:FnOk Tryz.prog 255 sp255:=⟨⟨Tryz.f255,by kernel_rfl,by kernel_rfl,by kernel_rfl⟩,λa r hr=>nomatch (show(none:Option _)=some r from hr)⟩
theorem ok257:FnOk Tryz.prog 257 sp257:=⟨⟨Tryz.f257,by kernel_rfl,by kernel_rfl,by kernel_rfl⟩,λa r hr=>nomatch (show(none:Option _)=some r from hr)⟩
theorem EN:∀n,FnOk Tryz.prog 218 (IX n)
 | 0=>⟨⟨Tryz.f218,by kernel_rfl,by kernel_rfl,by kernel_rfl⟩,λa r hr=>nomatch (show(none:Option _)=some r from hr)⟩
 | n+1=>fnOk (nv:=19) (h:=h218) tok mix (aa (EN n) (aa ok254 (aa ok255 (aa ok257 ad)))) Tryz.func218 (by kernel_rfl) (by kernel_rfl) (by kernel_rfl) (by kernel_rfl) (by kernel_rfl)
theorem ok218:FnOk Tryz.prog 218 sp218:=EN 64
theorem ok264:FnOk Tryz.prog 264 sp264:=fo (nv:=3) (h:=h264) ad Tryz.func264
theorem ok219:FnOk Tryz.prog 219 sp219:=fo (nv:=1) (h:=h219) (aa ok264 ad) Tryz.func219
theorem ok183:FnOk Tryz.prog 183 sp183:=fo (nv:=1) (h:=h183) (aa ok218 (aa ok219 ad)) Tryz.func183
theorem ok139:FnOk Tryz.prog 139 sp139:=fo (nv:=48) (h:=h139) (aa ok34 (aa ok49 (aa ok64 (aa ok179 (aa ok180 (aa ok181 (aa ok182 (aa ok183 ad)))))))) Tryz.func139
theorem ok78:FnOk Tryz.prog 78 sp78:=fo (nv:=122) (h:=h78) (aa ok82 (aa ok102 (aa ok126 (aa ok133 (aa ok134 (aa ok135 (aa ok136 (aa ok137 (aa ok138 (aa ok139 ad)))))))))) Tryz.func78
theorem ok79:FnOk Tryz.prog 79 sp79:=⟨⟨Tryz.f79,by kernel_rfl,by kernel_rfl,by kernel_rfl⟩,λa r hr=>nomatch (show(none:Option _)=some r from hr)⟩
theorem ok80:FnOk Tryz.prog 80 sp80:=⟨⟨Tryz.f80,by kernel_rfl,by kernel_rfl,by kernel_rfl⟩,λa r hr=>nomatch (show(none:Option _)=some r from hr)⟩
theorem ok81:FnOk Tryz.prog 81 sp81:=⟨⟨Tryz.f81,by kernel_rfl,by kernel_rfl,by kernel_rfl⟩,λa r hr=>nomatch (show(none:Option _)=some r from hr)⟩
theorem ok35:FnOk Tryz.prog 35 sp35:=fo (nv:=8) (h:=h35) (aa ok71 (aa ok72 (aa ok73 (aa ok74 (aa ok75 (aa ok76 (aa ok77 (aa ok78 (aa ok79 (aa ok80 (aa ok81 (aa ok82 ad)))))))))))) Tryz.func35
theorem ok17:FnOk Tryz.prog 17 sp17:=fo (nv:=9) (h:=h17) (aa ok34 (aa ok35 ad)) Tryz.func17
theorem ok7:FnOk Tryz.prog 7 sp7:=fo (nv:=7) (h:=h7) (aa ok10 (aa ok15 (aa ok17 ad))) Tryz.func7
theorem ok8:FnOk Tryz.prog 8 sp8:=fo (nv:=6) (h:=h8) ad Tryz.func8
theorem ok9:FnOk Tryz.prog 9 sp9:=fo (nv:=9) (h:=h9) (aa ok17 ad) Tryz.func9
theorem G6:∀n,FnOk Tryz.prog 21 (J8 n)
 | 0=>⟨⟨Tryz.f21,by kernel_rfl,by kernel_rfl,by kernel_rfl⟩,λa r hr=>nomatch (show(none:Option _)=some r from hr)⟩
 | n+1=>fnOk (nv:=1) (h:=h21) tok mix (aa (G6 n) ad) Tryz.func21 (by kernel_rfl) (by kernel_rfl) (by kernel_rfl) (by kernel_rfl) (by kernel_rfl)
theorem ok21:FnOk Tryz.prog 21 sp21:=G6 64
theorem ok11:FnOk Tryz.prog 11 sp11:=fo (nv:=1) (h:=h11) (aa ok21 ad) Tryz.func11
theorem ok12:FnOk Tryz.prog 12 sp12:=fo (nv:=1) (h:=h12) ad Tryz.func12
theorem ok13:FnOk Tryz.prog 13 sp13:=fo (nv:=1) (h:=h13) (aa ok12 ad) Tryz.func13
theorem ok18:FnOk Tryz.prog 18 sp18:=fo (nv:=7) (h:=h18) ad Tryz.func18
theorem ok36:FnOk Tryz.prog 36 sp36:=fo (nv:=5) (h:=h36) ad Tryz.func36
theorem ok144:FnOk Tryz.prog 144 sp144:=fo (nv:=4) (h:=h144) ad Tryz.func144
theorem ok83:FnOk Tryz.prog 83 sp83:=fo (nv:=4) (h:=h83) (aa ok144 ad) Tryz.func83
theorem ok37:FnOk Tryz.prog 37 sp37:=fo (nv:=7) (h:=h37) (aa ok83 ad) Tryz.func37
theorem ok22:FnOk Tryz.prog 22 sp22:=fo (nv:=14) (h:=h22) (aa ok18 (aa ok36 (aa ok37 ad))) Tryz.func22
theorem ok14:FnOk Tryz.prog 14 sp14:=fo (nv:=7) (h:=h14) (aa ok22 ad) Tryz.func14
theorem ok3:FnOk Tryz.prog 3 sp3:=fo (nv:=13) (h:=h3) (aa ok7 (aa ok8 (aa ok9 (aa ok10 (aa ok11 (aa ok12 (aa ok13 (aa ok14 (aa ok15 ad))))))))) Tryz.func3
end Go.Fx.D
