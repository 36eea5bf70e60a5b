/-
  The types of the seat as plain Lean types, and its table of types (printed by a program). Conditions: none.
-/
import Derived.Test.YtdickabkndfjhaaGreatFxA
import Derived.Test.YtdickabkndfjhaaGreatProg
namespace Go.Fx.D
open Go Go.Fx Go.Proofs
set_option linter.unusedVariables false
structure Vec where
 Mem:Int
 Lu:Int
structure Cap where
 Oe:Int
 Most:Int
structure Lm where
 LC:List UInt8
 MR:List Cap
 User:Int
structure Lf where
 Lp:List (List UInt8)
 Lg:List Lm
structure LB where
 Id:Int
 Ll:Int
 Oj:Int
 Cap:Vec
 NZ:Int
 Nf:Int
 Up:Bool
structure Ask where
 LA:Int
 Ll:Int
 LV:Vec
 Mw:Int
 LB:Int
 Oj:Int
 RX:Int
structure LD where
 Id:Int
 JF:Int
 Lm:List UInt8
 User:Int
 LA:Int
 Lj:Vec
 Mr:List Ask
 NZ:Int
 Nf:Int
 Mv:List Int
 Nr:List Int
 Told:List Int
 N7:List Int
structure Lv where
 Id:Int
 LD:Int
 LB:Int
 LV:Vec
 LA:Int
 Ll:Int
 Lj:Bool
 ME:Int
structure Nv where
 LB:Int
 LD:Int
 LA:Int
structure MW where
 Id:Int
 Ll:Int
 From:Int
 Until:Int
 Need:Vec
structure JF where
 Lf:Lf
 Ls:List LB
 Lr:List LD
 Lc:List Lv
 LG:List Nv
 LU:List MW
 Now:Int
 L9:Int
 Seq:Int
structure Act where
 Kind:Int
 A:Int
 B:Int
 C:Int
 D:Int
structure Script where
 Shape:Int
 Ns:List Int
 Ux:List Act
structure Output where
 Err:Int
 Lc:List Lv
 Ids:List Int
 Gone:List Int
 N:Int
structure TT where
 A:Int
 P:Int
structure Input where
 Kind:Int
 Id:Int
 Nf:Int
 N:Int
 Text:List UInt8
 LB:LB
 LD:LD
 Mr:List Ask
 Ids:List Int
 MW:MW
structure MC where
 LC:List UInt8
 Mem:Int
structure View where
 s:JF
 Ld:List UInt8
 label:Int
 user:Int
structure LH where
 k:List UInt8
 v:Int
structure Md where
 k:Int
 v:List UInt8
structure Nl where
 k:Int
 v:Int
structure L8 where
 s:JF
 label:Int
 over:List LH
 leaf:List Md
 Ng:List Nl
 gone:Int
structure Nu where
 r0:List Int
 r1:List Int
 r2:List Int
structure L6 where
 k:List UInt8
 v:Lv
@[reducible] def ZA:Nat→Type
 | 0=>Vec
 | 1=>Cap
 | 2=>Lm
 | 3=>Lf
 | 4=>LB
 | 5=>Ask
 | 6=>LD
 | 7=>Lv
 | 8=>Nv
 | 9=>MW
 | 10=>JF
 | 11=>Act
 | 12=>Script
 | 13=>Output
 | 14=>TT
 | 15=>Input
 | 16=>MC
 | 17=>View
 | 18=>L8
 | 19=>Nu
 | _=>Unit
@[reducible] def Zz:Nat→Type
 | 0=>LH
 | 1=>L6
 | 2=>Md
 | 4=>Nl
 | _=>Unit
@[reducible] def Zy(b:Bool)(n m:Nat):Type:=match b with | false=>ZA n | true=>Zz m
@[reducible] def Sv(n:Nat):Type:=Zy (Nat.ble 500 n) n (n - 500)
@[reducible] def Xn:Nat→List Ty
 | 0=>[.int .i64,.int .i64]
 | 1=>[.int .i64,.int .i64]
 | 2=>[.str,.slice (.st 1),.int .i64]
 | 3=>[.slice (.str),.slice (.st 2)]
 | 4=>[.int .i64,.int .i64,.int .i64,.int .i64,.int .i64,.int .i64,.int .i64,.bool]
 | 5=>[.int .i64,.int .i64,.int .i64,.int .i64,.int .i64,.int .i64,.int .i64,.int .i64]
 | 6=>[.int .i64,.int .i64,.str,.int .i64,.int .i64,.int .i64,.int .i64,.slice (.st 5),.int .i64,.int .i64,.slice (.int .i64),.slice (.int .i64),.slice (.int .i64),.slice (.int .i64)]
 | 7=>[.int .i64,.int .i64,.int .i64,.int .i64,.int .i64,.int .i64,.int .i64,.bool,.int .i64]
 | 8=>[.int .i64,.int .i64,.int .i64]
 | 9=>[.int .i64,.int .i64,.int .i64,.int .i64,.int .i64,.int .i64]
 | 10=>[.slice (.str),.slice (.st 2),.slice (.st 4),.slice (.st 6),.slice (.st 7),.slice (.st 8),.slice (.st 9),.int .i64,.int .i64,.int .i64]
 | 11=>[.int .i64,.int .i64,.int .i64,.int .i64,.int .i64]
 | 12=>[.int .i64,.slice (.int .i64),.slice (.st 11)]
 | 13=>[.int .i64,.slice (.st 7),.slice (.int .i64),.slice (.int .i64),.int .i64]
 | 14=>[.int .i64,.int .i64]
 | 15=>[.int .i64,.int .i64,.int .i64,.int .i64,.str,.int .i64,.int .i64,.int .i64,.int .i64,.int .i64,.int .i64,.int .i64,.bool,.int .i64,.int .i64,.str,.int .i64,.int .i64,.int .i64,.int .i64,.slice (.st 5),.int .i64,.int .i64,.slice (.int .i64),.slice (.int .i64),.slice (.int .i64),.slice (.int .i64),.slice (.st 5),.slice (.int .i64),.int .i64,.int .i64,.int .i64,.int .i64,.int .i64,.int .i64]
 | 16=>[.str,.int .i64]
 | 17=>[.slice (.str),.slice (.st 2),.slice (.st 4),.slice (.st 6),.slice (.st 7),.slice (.st 8),.slice (.st 9),.int .i64,.int .i64,.int .i64,.str,.int .i64,.int .i64]
 | 18=>[.slice (.str),.slice (.st 2),.slice (.st 4),.slice (.st 6),.slice (.st 7),.slice (.st 8),.slice (.st 9),.int .i64,.int .i64,.int .i64,.int .i64,.slice (.st 500),.slice (.st 502),.slice (.st 504),.int .i64]
 | 19=>[.slice (.int .i64),.slice (.int .i64),.slice (.int .i64)]
 | _=>[]
@[reducible] def Xm:Nat→List Ty
 | 0=>[.str,.int .i64]
 | 1=>[.str,.int .i64,.int .i64,.int .i64,.int .i64,.int .i64,.int .i64,.int .i64,.bool,.int .i64]
 | 2=>[.int .i64,.str]
 | 4=>[.int .i64,.int .i64]
 | _=>[]
@[reducible] def Xl(b:Bool)(n m:Nat):List Ty:=match b with | false=>Xn n | true=>Xm m
@[reducible] def aay(n:Nat):List Ty:=Xl (Nat.ble 500 n) n (n - 500)
def acn:(n:Nat)→ZA n→Sb Sv (Xn n)
 | 0,x=>(x.Mem,x.Lu,())
 | 1,x=>(x.Oe,x.Most,())
 | 2,x=>(x.LC,x.MR,x.User,())
 | 3,x=>(x.Lp,x.Lg,())
 | 4,x=>(x.Id,x.Ll,x.Oj,x.Cap.Mem,x.Cap.Lu,x.NZ,x.Nf,x.Up,())
 | 5,x=>(x.LA,x.Ll,x.LV.Mem,x.LV.Lu,x.Mw,x.LB,x.Oj,x.RX,())
 | 6,x=>(x.Id,x.JF,x.Lm,x.User,x.LA,x.Lj.Mem,x.Lj.Lu,x.Mr,x.NZ,x.Nf,x.Mv,x.Nr,x.Told,x.N7,())
 | 7,x=>(x.Id,x.LD,x.LB,x.LV.Mem,x.LV.Lu,x.LA,x.Ll,x.Lj,x.ME,())
 | 8,x=>(x.LB,x.LD,x.LA,())
 | 9,x=>(x.Id,x.Ll,x.From,x.Until,x.Need.Mem,x.Need.Lu,())
 | 10,x=>(x.Lf.Lp,x.Lf.Lg,x.Ls,x.Lr,x.Lc,x.LG,x.LU,x.Now,x.L9,x.Seq,())
 | 11,x=>(x.Kind,x.A,x.B,x.C,x.D,())
 | 12,x=>(x.Shape,x.Ns,x.Ux,())
 | 13,x=>(x.Err,x.Lc,x.Ids,x.Gone,x.N,())
 | 14,x=>(x.A,x.P,())
 | 15,x=>(x.Kind,x.Id,x.Nf,x.N,x.Text,x.LB.Id,x.LB.Ll,x.LB.Oj,x.LB.Cap.Mem,x.LB.Cap.Lu,x.LB.NZ,x.LB.Nf,x.LB.Up,x.LD.Id,x.LD.JF,x.LD.Lm,x.LD.User,x.LD.LA,x.LD.Lj.Mem,x.LD.Lj.Lu,x.LD.Mr,x.LD.NZ,x.LD.Nf,x.LD.Mv,x.LD.Nr,x.LD.Told,x.LD.N7,x.Mr,x.Ids,x.MW.Id,x.MW.Ll,x.MW.From,x.MW.Until,x.MW.Need.Mem,x.MW.Need.Lu,())
 | 16,x=>(x.LC,x.Mem,())
 | 17,x=>(x.s.Lf.Lp,x.s.Lf.Lg,x.s.Ls,x.s.Lr,x.s.Lc,x.s.LG,x.s.LU,x.s.Now,x.s.L9,x.s.Seq,x.Ld,x.label,x.user,())
 | 18,x=>(x.s.Lf.Lp,x.s.Lf.Lg,x.s.Ls,x.s.Lr,x.s.Lc,x.s.LG,x.s.LU,x.s.Now,x.s.L9,x.s.Seq,x.label,x.over,x.leaf,x.Ng,x.gone,())
 | 19,x=>(x.r0,x.r1,x.r2,())
 | _+20,_=>()
def acr:(n:Nat)→Sb Sv (Xn n)→ZA n
 | 0,a=>⟨a.1,a.2.1⟩
 | 1,a=>⟨a.1,a.2.1⟩
 | 2,a=>⟨a.1,a.2.1,a.2.2.1⟩
 | 3,a=>⟨a.1,a.2.1⟩
 | 4,a=>⟨a.1,a.2.1,a.2.2.1,⟨a.2.2.2.1,a.2.2.2.2.1⟩,a.2.2.2.2.2.1,a.2.2.2.2.2.2.1,a.2.2.2.2.2.2.2.1⟩
 | 5,a=>⟨a.1,a.2.1,⟨a.2.2.1,a.2.2.2.1⟩,a.2.2.2.2.1,a.2.2.2.2.2.1,a.2.2.2.2.2.2.1,a.2.2.2.2.2.2.2.1⟩
 | 6,a=>⟨a.1,a.2.1,a.2.2.1,a.2.2.2.1,a.2.2.2.2.1,⟨a.2.2.2.2.2.1,a.2.2.2.2.2.2.1⟩,a.2.2.2.2.2.2.2.1,a.2.2.2.2.2.2.2.2.1,a.2.2.2.2.2.2.2.2.2.1,a.2.2.2.2.2.2.2.2.2.2.1,a.2.2.2.2.2.2.2.2.2.2.2.1,a.2.2.2.2.2.2.2.2.2.2.2.2.1,a.2.2.2.2.2.2.2.2.2.2.2.2.2.1⟩
 | 7,a=>⟨a.1,a.2.1,a.2.2.1,⟨a.2.2.2.1,a.2.2.2.2.1⟩,a.2.2.2.2.2.1,a.2.2.2.2.2.2.1,a.2.2.2.2.2.2.2.1,a.2.2.2.2.2.2.2.2.1⟩
 | 8,a=>⟨a.1,a.2.1,a.2.2.1⟩
 | 9,a=>⟨a.1,a.2.1,a.2.2.1,a.2.2.2.1,⟨a.2.2.2.2.1,a.2.2.2.2.2.1⟩⟩
 | 10,a=>⟨⟨a.1,a.2.1⟩,a.2.2.1,a.2.2.2.1,a.2.2.2.2.1,a.2.2.2.2.2.1,a.2.2.2.2.2.2.1,a.2.2.2.2.2.2.2.1,a.2.2.2.2.2.2.2.2.1,a.2.2.2.2.2.2.2.2.2.1⟩
 | 11,a=>⟨a.1,a.2.1,a.2.2.1,a.2.2.2.1,a.2.2.2.2.1⟩
 | 12,a=>⟨a.1,a.2.1,a.2.2.1⟩
 | 13,a=>⟨a.1,a.2.1,a.2.2.1,a.2.2.2.1,a.2.2.2.2.1⟩
 | 14,a=>⟨a.1,a.2.1⟩
 | 15,a=>⟨a.1,a.2.1,a.2.2.1,a.2.2.2.1,a.2.2.2.2.1,⟨a.2.2.2.2.2.1,a.2.2.2.2.2.2.1,a.2.2.2.2.2.2.2.1,⟨a.2.2.2.2.2.2.2.2.1,a.2.2.2.2.2.2.2.2.2.1⟩,a.2.2.2.2.2.2.2.2.2.2.1,a.2.2.2.2.2.2.2.2.2.2.2.1,a.2.2.2.2.2.2.2.2.2.2.2.2.1⟩,⟨a.2.2.2.2.2.2.2.2.2.2.2.2.2.1,a.2.2.2.2.2.2.2.2.2.2.2.2.2.2.1,a.2.2.2.2.2.2.2.2.2.2.2.2.2.2.2.1,a.2.2.2.2.2.2.2.2.2.2.2.2.2.2.2.2.1,a.2.2.2.2.2.2.2.2.2.2.2.2.2.2.2.2.2.1,⟨a.2.2.2.2.2.2.2.2.2.2.2.2.2.2.2.2.2.2.1,a.2.2.2.2.2.2.2.2.2.2.2.2.2.2.2.2.2.2.2.1⟩,a.2.2.2.2.2.2.2.2.2.2.2.2.2.2.2.2.2.2.2.2.1,a.2.2.2.2.2.2.2.2.2.2.2.2.2.2.2.2.2.2.2.2.2.1,a.2.2.2.2.2.2.2.2.2.2.2.2.2.2.2.2.2.2.2.2.2.2.1,a.2.2.2.2.2.2.2.2.2.2.2.2.2.2.2.2.2.2.2.2.2.2.2.1,a.2.2.2.2.2.2.2.2.2.2.2.2.2.2.2.2.2.2.2.2.2.2.2.2.1,a.2.2.2.2.2.2.2.2.2.2.2.2.2.2.2.2.2.2.2.2.2.2.2.2.2.1,a.2.2.2.2.2.2.2.2.2.2.2.2.2.2.2.2.2.2.2.2.2.2.2.2.2.2.1⟩,a.2.2.2.2.2.2.2.2.2.2.2.2.2.2.2.2.2.2.2.2.2.2.2.2.2.2.2.1,a.2.2.2.2.2.2.2.2.2.2.2.2.2.2.2.2.2.2.2.2.2.2.2.2.2.2.2.2.1,⟨a.2.2.2.2.2.2.2.2.2.2.2.2.2.2.2.2.2.2.2.2.2.2.2.2.2.2.2.2.2.1,a.2.2.2.2.2.2.2.2.2.2.2.2.2.2.2.2.2.2.2.2.2.2.2.2.2.2.2.2.2.2.1,a.2.2.2.2.2.2.2.2.2.2.2.2.2.2.2.2.2.2.2.2.2.2.2.2.2.2.2.2.2.2.2.1,a.2.2.2.2.2.2.2.2.2.2.2.2.2.2.2.2.2.2.2.2.2.2.2.2.2.2.2.2.2.2.2.2.1,⟨a.2.2.2.2.2.2.2.2.2.2.2.2.2.2.2.2.2.2.2.2.2.2.2.2.2.2.2.2.2.2.2.2.2.1,a.2.2.2.2.2.2.2.2.2.2.2.2.2.2.2.2.2.2.2.2.2.2.2.2.2.2.2.2.2.2.2.2.2.2.1⟩⟩⟩
 | 16,a=>⟨a.1,a.2.1⟩
 | 17,a=>⟨⟨⟨a.1,a.2.1⟩,a.2.2.1,a.2.2.2.1,a.2.2.2.2.1,a.2.2.2.2.2.1,a.2.2.2.2.2.2.1,a.2.2.2.2.2.2.2.1,a.2.2.2.2.2.2.2.2.1,a.2.2.2.2.2.2.2.2.2.1⟩,a.2.2.2.2.2.2.2.2.2.2.1,a.2.2.2.2.2.2.2.2.2.2.2.1,a.2.2.2.2.2.2.2.2.2.2.2.2.1⟩
 | 18,a=>⟨⟨⟨a.1,a.2.1⟩,a.2.2.1,a.2.2.2.1,a.2.2.2.2.1,a.2.2.2.2.2.1,a.2.2.2.2.2.2.1,a.2.2.2.2.2.2.2.1,a.2.2.2.2.2.2.2.2.1,a.2.2.2.2.2.2.2.2.2.1⟩,a.2.2.2.2.2.2.2.2.2.2.1,a.2.2.2.2.2.2.2.2.2.2.2.1,a.2.2.2.2.2.2.2.2.2.2.2.2.1,a.2.2.2.2.2.2.2.2.2.2.2.2.2.1,a.2.2.2.2.2.2.2.2.2.2.2.2.2.2.1⟩
 | 19,a=>⟨a.1,a.2.1,a.2.2.1⟩
 | _+20,_=>()
theorem KJ:(n:Nat)→(a:Sb Sv (Xn n))→acn n (acr n a)=a
 | 0,_=>rfl
 | 1,_=>rfl
 | 2,_=>rfl
 | 3,_=>rfl
 | 4,_=>rfl
 | 5,_=>rfl
 | 6,_=>rfl
 | 7,_=>rfl
 | 8,_=>rfl
 | 9,_=>rfl
 | 10,_=>rfl
 | 11,_=>rfl
 | 12,_=>rfl
 | 13,_=>rfl
 | 14,_=>rfl
 | 15,_=>rfl
 | 16,_=>rfl
 | 17,_=>rfl
 | 18,_=>rfl
 | 19,_=>rfl
 | _+20,_=>rfl
def acj:(n:Nat)→Zz n→Sb Sv (Xm n)
 | 0,x=>(x.k,x.v,())
 | 1,x=>(x.k,x.v.Id,x.v.LD,x.v.LB,x.v.LV.Mem,x.v.LV.Lu,x.v.LA,x.v.Ll,x.v.Lj,x.v.ME,())
 | 2,x=>(x.k,x.v,())
 | 3,x=>(())
 | 4,x=>(x.k,x.v,())
 | _+5,_=>()
def acp:(n:Nat)→Sb Sv (Xm n)→Zz n
 | 0,a=>⟨a.1,a.2.1⟩
 | 1,a=>⟨a.1,⟨a.2.1,a.2.2.1,a.2.2.2.1,⟨a.2.2.2.2.1,a.2.2.2.2.2.1⟩,a.2.2.2.2.2.2.1,a.2.2.2.2.2.2.2.1,a.2.2.2.2.2.2.2.2.1,a.2.2.2.2.2.2.2.2.2.1⟩⟩
 | 2,a=>⟨a.1,a.2.1⟩
 | 3,a=>()
 | 4,a=>⟨a.1,a.2.1⟩
 | _+5,_=>()
theorem K3:(n:Nat)→(a:Sb Sv (Xm n))→acj n (acp n a)=a
 | 0,_=>rfl
 | 1,_=>rfl
 | 2,_=>rfl
 | 3,_=>rfl
 | 4,_=>rfl
 | _+5,_=>rfl
def aci(b:Bool)(n m:Nat):Zy b n m→Sb Sv (Xl b n m):=match b with | false=>acn n | true=>acj m
def aco(b:Bool)(n m:Nat):Sb Sv (Xl b n m)→Zy b n m:=match b with | false=>acr n | true=>acp m
theorem Kw(b:Bool)(n m:Nat):(a:Sb Sv (Xl b n m))→aci b n m (aco b n m a)=a:=match b with | false=>KJ n | true=>K3 m
def afJ(n:Nat):Sv n→Sb Sv (aay n):=aci (Nat.ble 500 n) n (n - 500)
def afK(n:Nat):Sb Sv (aay n)→Sv n:=aco (Nat.ble 500 n) n (n - 500)
theorem akP(n:Nat):(a:Sb Sv (aay n))→afJ n (afK n a)=a:=Kw (Nat.ble 500 n) n (n - 500)
@[reducible] def fam:Fam:=⟨Sv,aay,afJ,afK,akP⟩
noncomputable def acR:TI fam:=⟨Tryz.t3.desc,1,8,[.i .i64 0],some (.int .i64),false⟩
noncomputable def ae8:TI fam:=⟨Tryz.t4.desc,1,1,[.b false],some (.bool),false⟩
noncomputable def ae7:TI fam:=⟨Tryz.t5.desc,1,1,[.i .u8 0],some (.int .u8),false⟩
noncomputable def ae6:TI fam:=⟨Tryz.t9.desc,1,16,[.s []],some (.str),false⟩
noncomputable def abp:TI fam:=⟨Tryz.t22.desc,1,24,[.nl],some (.slice (.int .i64)),false⟩
noncomputable def abo:TI fam:=⟨Tryz.t23.desc,1,24,[.nl],some (.slice (.st 11)),false⟩
noncomputable def abn:TI fam:=⟨Tryz.t24.desc,3,56,[.i .i64 0,.nl,.nl],some (.st 12),false⟩
noncomputable def abm:TI fam:=⟨Tryz.t27.desc,1,24,[.nl],some (.slice (.str)),false⟩
noncomputable def abl:TI fam:=⟨Tryz.t28.desc,1,24,[.nl],some (.slice (.st 2)),false⟩
noncomputable def abk:TI fam:=⟨Tryz.t29.desc,2,48,[.nl,.nl],some (.st 3),false⟩
noncomputable def abj:TI fam:=⟨Tryz.t31.desc,1,24,[.nl],some (.slice (.st 4)),false⟩
noncomputable def abh:TI fam:=⟨Tryz.t32.desc,1,24,[.nl],some (.slice (.st 6)),false⟩
noncomputable def abg:TI fam:=⟨Tryz.t33.desc,1,24,[.nl],some (.slice (.st 7)),false⟩
noncomputable def abf:TI fam:=⟨Tryz.t34.desc,1,24,[.nl],some (.slice (.st 8)),false⟩
noncomputable def abe:TI fam:=⟨Tryz.t35.desc,1,24,[.nl],some (.slice (.st 9)),false⟩
noncomputable def abd:TI fam:=⟨Tryz.t36.desc,10,192,[.nl,.nl,.nl,.nl,.nl,.nl,.nl,.i .i64 0,.i .i64 0,.i .i64 0],some (.st 10),false⟩
noncomputable def abb:TI fam:=⟨Tryz.t47.desc,2,16,[.i .i64 0,.i .i64 0],some (.st 0),true⟩
noncomputable def Y6:TI fam:=⟨Tryz.t49.desc,9,72,[.i .i64 0,.i .i64 0,.i .i64 0,.i .i64 0,.i .i64 0,.i .i64 0,.i .i64 0,.b false,.i .i64 0],some (.st 7),true⟩
noncomputable def aa_:TI fam:=⟨Tryz.t53.desc,1,24,[.nl],some (.slice (.st 5)),false⟩
noncomputable def aa9:TI fam:=⟨Tryz.t54.desc,14,200,[.i .i64 0,.i .i64 0,.s [],.i .i64 0,.i .i64 0,.i .i64 0,.i .i64 0,.nl,.i .i64 0,.i .i64 0,.nl,.nl,.nl,.nl],some (.st 6),false⟩
noncomputable def aa8:TI fam:=⟨Tryz.t3.desc,1,8,[.i .i64 0],some (.int .i64),false⟩
noncomputable def aa7:TI fam:=⟨Tryz.t63.desc,5,88,[.i .i64 0,.nl,.nl,.nl,.i .i64 0],some (.st 13),false⟩
noncomputable def aa6:TI fam:=⟨Tryz.t69.desc,8,64,[.i .i64 0,.i .i64 0,.i .i64 0,.i .i64 0,.i .i64 0,.i .i64 0,.i .i64 0,.b false],some (.st 4),true⟩
noncomputable def aa5:TI fam:=⟨Tryz.t71.desc,6,48,[.i .i64 0,.i .i64 0,.i .i64 0,.i .i64 0,.i .i64 0,.i .i64 0],some (.st 9),true⟩
noncomputable def aa4:TI fam:=⟨Tryz.t73.desc,35,408,[.i .i64 0,.i .i64 0,.i .i64 0,.i .i64 0,.s [],.i .i64 0,.i .i64 0,.i .i64 0,.i .i64 0,.i .i64 0,.i .i64 0,.i .i64 0,.b false,.i .i64 0,.i .i64 0,.s [],.i .i64 0,.i .i64 0,.i .i64 0,.i .i64 0,.nl,.i .i64 0,.i .i64 0,.nl,.nl,.nl,.nl,.nl,.nl,.i .i64 0,.i .i64 0,.i .i64 0,.i .i64 0,.i .i64 0,.i .i64 0],some (.st 15),false⟩
noncomputable def aa3:TI fam:=⟨Tryz.t75.desc,5,40,[.i .i64 0,.i .i64 0,.i .i64 0,.i .i64 0,.i .i64 0],some (.st 11),false⟩
noncomputable def aa2:TI fam:=⟨Tryz.t78.desc,1,8,[.v (.pointer none)],none,false⟩
noncomputable def aa1:TI fam:=⟨Tryz.t81.desc,1,8,[.v (.map none)],some (.slice (.st 500)),false⟩
noncomputable def aa0:TI fam:=⟨Tryz.t82.desc,1,8,[.v (.map none)],some (.slice (.st 502)),false⟩
noncomputable def aaZ:TI fam:=⟨Tryz.t83.desc,1,8,[.v (.map none)],some (.slice (.st 504)),false⟩
noncomputable def aaY:TI fam:=⟨Tryz.t84.desc,15,232,[.nl,.nl,.nl,.nl,.nl,.nl,.nl,.i .i64 0,.i .i64 0,.i .i64 0,.i .i64 0,.v (.map none),.v (.map none),.v (.map none),.i .i64 0],some (.st 18),false⟩
noncomputable def aaX:TI fam:=⟨Tryz.t88.desc,1,24,[.nl],some (.slice (.st 16)),false⟩
noncomputable def aaW:TI fam:=⟨Tryz.t92.desc,2,24,[.s [],.i .i64 0],some (.st 16),false⟩
noncomputable def FG:TI fam:=⟨Tryz.t106.desc,3,24,[.i .i64 0,.i .i64 0,.i .i64 0],some (.st 8),true⟩
noncomputable def F6:TI fam:=⟨Tryz.t116.desc,2,16,[.i .i64 0,.i .i64 0],some (.st 1),true⟩
noncomputable def Et:TI fam:=⟨Tryz.t118.desc,1,24,[.nl],some (.slice (.st 1)),false⟩
noncomputable def ES:TI fam:=⟨Tryz.t119.desc,3,48,[.s [],.nl,.i .i64 0],some (.st 2),false⟩
noncomputable def FO:TI fam:=⟨Tryz.t131.desc,1,24,[.nl],some (.slice (.slice (.str))),false⟩
noncomputable def Fb:TI fam:=⟨Tryz.t136.desc,1,24,[.nl],some (.slice (.st 16)),false⟩
noncomputable def En:TI fam:=⟨Tryz.t92.desc,2,24,[.s [],.i .i64 0],some (.st 16),false⟩
noncomputable def D6:TI fam:=⟨Tryz.t140.desc,1,8,[.v (.map none)],some (.slice (.st 501)),false⟩
noncomputable def Fc:TI fam:=⟨Tryz.t146.desc,8,64,[.i .i64 0,.i .i64 0,.i .i64 0,.i .i64 0,.i .i64 0,.i .i64 0,.i .i64 0,.i .i64 0],some (.st 5),true⟩
noncomputable def EZ:TI fam:=⟨Tryz.t162.desc,1,8,[.i .u64 0],some (.int .u64),false⟩
noncomputable def E4:TI fam:=⟨Tryz.t187.desc,1,24,[.nl],some (.slice (.int .u8)),false⟩
noncomputable def E1:TI fam:=⟨Tryz.t189.desc,1,24,[.nl],some (.slice (.st 0)),false⟩
noncomputable def EG:TI fam:=⟨Tryz.t191.desc,13,224,[.nl,.nl,.nl,.nl,.nl,.nl,.nl,.i .i64 0,.i .i64 0,.i .i64 0,.s [],.i .i64 0,.i .i64 0],some (.st 17),false⟩
noncomputable def EV:TI fam:=⟨Tryz.t222.desc,1,4,[.i .u32 0],some (.int .u32),false⟩
noncomputable def Ed:TI fam:=⟨Tryz.t224.desc,1,8,[.i .u64 0],some (.int .u64),false⟩
noncomputable def F4:TI fam:=⟨Tryz.t233.desc,1,24,[.nl],some (.slice (.slice (.int .i64))),false⟩
noncomputable def EW:TI fam:=⟨Tryz.t116.desc,2,16,[.i .i64 0,.i .i64 0],some (.st 1),false⟩
noncomputable def FS:TI fam:=⟨Tryz.t47.desc,2,16,[.i .i64 0,.i .i64 0],some (.st 0),false⟩
noncomputable def Ei:TI fam:=⟨Tryz.t316.desc,2,16,[.i .i64 0,.i .i64 0],some (.st 14),false⟩
noncomputable def tbl:List (Nat×TI fam):=[(3,acR),(4,ae8),(5,ae7),(9,ae6),(22,abp),(23,abo),(25,abn),(27,abm),(28,abl),(30,abk),(31,abj),(32,abh),(33,abg),(34,abf),(35,abe),(37,abd),(48,abb),(50,Y6),(53,aa_),(55,aa9),(62,aa8),(64,aa7),(70,aa6),(72,aa5),(74,aa4),(76,aa3),(78,aa2),(81,aa1),(82,aa0),(83,aaZ),(85,aaY),(88,aaX),(93,aaW),(107,FG),(117,F6),(118,Et),(120,ES),(131,FO),(136,Fb),(138,En),(140,D6),(147,Fc),(162,EZ),(187,E4),(189,E1),(192,EG),(222,EV),(224,Ed),(233,F4),(241,EW),(268,FS),(317,Ei)]
end Go.Fx.D
