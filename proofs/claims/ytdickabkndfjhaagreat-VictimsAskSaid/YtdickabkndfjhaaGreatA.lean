/-
  The types of the seat as plain Lean types, and its table of types (printed by a program). Conditions: none.
-/
import Derived.Test.YtdickabkndfjhaaGreatFxA
import Derived.Test.YtdickabkndfjhaaGreatProg
namespace Go.Fx.D
open Go Go.Fx Go.Proofs
set_option linter.unusedVariables false
structure Vec where
 Mem:Int
 LA:Int
structure Cap where
 Oe:Int
 Most:Int
structure Ls where
 LB:List UInt8
 MS:List Cap
 User:Int
structure Lg where
 Lm:List (List UInt8)
 Lh:List Ls
structure LG where
 Id:Int
 Ll:Int
 Om:Int
 Cap:Vec
 NV:Int
 Nc:Int
 Up:Bool
structure Ask where
 LD:Int
 Ll:Int
 LY:Vec
 ME:Int
 LG:Int
 Om:Int
 RY:Int
structure LM where
 Id:Int
 JG:Int
 Ls:List UInt8
 User:Int
 LD:Int
 Lp:Vec
 Mq:List Ask
 NV:Int
 Nc:Int
 MC:List Int
 Np:List Int
 Told:List Int
 NW:List Int
structure Lx where
 Id:Int
 LM:Int
 LG:Int
 LY:Vec
 LD:Int
 Ll:Int
 Lp:Bool
 Mw:Int
structure Nt where
 LG:Int
 LM:Int
 LD:Int
structure MV where
 Id:Int
 Ll:Int
 From:Int
 Until:Int
 Need:Vec
structure JG where
 Lg:Lg
 Lu:List LG
 Lv:List LM
 Kl:List Lx
 LH:List Nt
 LJ:List MV
 Now:Int
 L8:Int
 Seq:Int
structure Act where
 Kind:Int
 A:Int
 B:Int
 C:Int
 D:Int
structure Script where
 Shape:Int
 Ns:List Int
 UC:List Act
structure Output where
 Err:Int
 Kl:List Lx
 Ids:List Int
 Gone:List Int
 N:Int
structure T9 where
 A:Int
 P:Int
structure Input where
 Kind:Int
 Id:Int
 Nc:Int
 N:Int
 Text:List UInt8
 LG:LG
 LM:LM
 Mq:List Ask
 Ids:List Int
 MV:MV
structure Mr where
 LB:List UInt8
 Mem:Int
structure View where
 s:JG
 Lf:List UInt8
 label:Int
 user:Int
structure Mc where
 k:List UInt8
 v:Int
structure L6 where
 k:Int
 v:List UInt8
structure NP where
 k:Int
 v:Int
structure L9 where
 s:JG
 label:Int
 over:List Mc
 leaf:List L6
 Oc:List NP
 gone:Int
structure Nw where
 r0:List Int
 r1:List Int
 r2:List Int
structure Lr where
 k:List UInt8
 v:Lx
@[reducible] def ZT:Nat→Type
 | 0=>Vec
 | 1=>Cap
 | 2=>Ls
 | 3=>Lg
 | 4=>LG
 | 5=>Ask
 | 6=>LM
 | 7=>Lx
 | 8=>Nt
 | 9=>MV
 | 10=>JG
 | 11=>Act
 | 12=>Script
 | 13=>Output
 | 14=>T9
 | 15=>Input
 | 16=>Mr
 | 17=>View
 | 18=>L9
 | 19=>Nw
 | _=>Unit
@[reducible] def ZR:Nat→Type
 | 0=>Mc
 | 1=>Lr
 | 2=>L6
 | 4=>NP
 | _=>Unit
@[reducible] def ZQ(b:Bool)(n m:Nat):Type:=match b with | false=>ZT n | true=>ZR m
@[reducible] def Sv(n:Nat):Type:=ZQ (Nat.ble 500 n) n (n - 500)
@[reducible] def X3:Nat→List Ty
 | 0=>[.int .i64,.int .i64]
 | 1=>[.int .i64,.int .i64]
 | 2=>[.str,.slice (.st 1),.int .i64]
 | 3=>[.slice (.str),.slice (.st 2)]
 | 4=>[.int .i64,.int .i64,.int .i64,.int .i64,.int .i64,.int .i64,.int .i64,.bool]
 | 5=>[.int .i64,.int .i64,.int .i64,.int .i64,.int .i64,.int .i64,.int .i64,.int .i64]
 | 6=>[.int .i64,.int .i64,.str,.int .i64,.int .i64,.int .i64,.int .i64,.slice (.st 5),.int .i64,.int .i64,.slice (.int .i64),.slice (.int .i64),.slice (.int .i64),.slice (.int .i64)]
 | 7=>[.int .i64,.int .i64,.int .i64,.int .i64,.int .i64,.int .i64,.int .i64,.bool,.int .i64]
 | 8=>[.int .i64,.int .i64,.int .i64]
 | 9=>[.int .i64,.int .i64,.int .i64,.int .i64,.int .i64,.int .i64]
 | 10=>[.slice (.str),.slice (.st 2),.slice (.st 4),.slice (.st 6),.slice (.st 7),.slice (.st 8),.slice (.st 9),.int .i64,.int .i64,.int .i64]
 | 11=>[.int .i64,.int .i64,.int .i64,.int .i64,.int .i64]
 | 12=>[.int .i64,.slice (.int .i64),.slice (.st 11)]
 | 13=>[.int .i64,.slice (.st 7),.slice (.int .i64),.slice (.int .i64),.int .i64]
 | 14=>[.int .i64,.int .i64]
 | 15=>[.int .i64,.int .i64,.int .i64,.int .i64,.str,.int .i64,.int .i64,.int .i64,.int .i64,.int .i64,.int .i64,.int .i64,.bool,.int .i64,.int .i64,.str,.int .i64,.int .i64,.int .i64,.int .i64,.slice (.st 5),.int .i64,.int .i64,.slice (.int .i64),.slice (.int .i64),.slice (.int .i64),.slice (.int .i64),.slice (.st 5),.slice (.int .i64),.int .i64,.int .i64,.int .i64,.int .i64,.int .i64,.int .i64]
 | 16=>[.str,.int .i64]
 | 17=>[.slice (.str),.slice (.st 2),.slice (.st 4),.slice (.st 6),.slice (.st 7),.slice (.st 8),.slice (.st 9),.int .i64,.int .i64,.int .i64,.str,.int .i64,.int .i64]
 | 18=>[.slice (.str),.slice (.st 2),.slice (.st 4),.slice (.st 6),.slice (.st 7),.slice (.st 8),.slice (.st 9),.int .i64,.int .i64,.int .i64,.int .i64,.slice (.st 500),.slice (.st 502),.slice (.st 504),.int .i64]
 | 19=>[.slice (.int .i64),.slice (.int .i64),.slice (.int .i64)]
 | _=>[]
@[reducible] def Xz:Nat→List Ty
 | 0=>[.str,.int .i64]
 | 1=>[.str,.int .i64,.int .i64,.int .i64,.int .i64,.int .i64,.int .i64,.int .i64,.bool,.int .i64]
 | 2=>[.int .i64,.str]
 | 4=>[.int .i64,.int .i64]
 | _=>[]
@[reducible] def Xy(b:Bool)(n m:Nat):List Ty:=match b with | false=>X3 n | true=>Xz m
@[reducible] def aaO(n:Nat):List Ty:=Xy (Nat.ble 500 n) n (n - 500)
def acF:(n:Nat)→ZT n→R9 Sv (X3 n)
 | 0,x=>(x.Mem,x.LA,())
 | 1,x=>(x.Oe,x.Most,())
 | 2,x=>(x.LB,x.MS,x.User,())
 | 3,x=>(x.Lm,x.Lh,())
 | 4,x=>(x.Id,x.Ll,x.Om,x.Cap.Mem,x.Cap.LA,x.NV,x.Nc,x.Up,())
 | 5,x=>(x.LD,x.Ll,x.LY.Mem,x.LY.LA,x.ME,x.LG,x.Om,x.RY,())
 | 6,x=>(x.Id,x.JG,x.Ls,x.User,x.LD,x.Lp.Mem,x.Lp.LA,x.Mq,x.NV,x.Nc,x.MC,x.Np,x.Told,x.NW,())
 | 7,x=>(x.Id,x.LM,x.LG,x.LY.Mem,x.LY.LA,x.LD,x.Ll,x.Lp,x.Mw,())
 | 8,x=>(x.LG,x.LM,x.LD,())
 | 9,x=>(x.Id,x.Ll,x.From,x.Until,x.Need.Mem,x.Need.LA,())
 | 10,x=>(x.Lg.Lm,x.Lg.Lh,x.Lu,x.Lv,x.Kl,x.LH,x.LJ,x.Now,x.L8,x.Seq,())
 | 11,x=>(x.Kind,x.A,x.B,x.C,x.D,())
 | 12,x=>(x.Shape,x.Ns,x.UC,())
 | 13,x=>(x.Err,x.Kl,x.Ids,x.Gone,x.N,())
 | 14,x=>(x.A,x.P,())
 | 15,x=>(x.Kind,x.Id,x.Nc,x.N,x.Text,x.LG.Id,x.LG.Ll,x.LG.Om,x.LG.Cap.Mem,x.LG.Cap.LA,x.LG.NV,x.LG.Nc,x.LG.Up,x.LM.Id,x.LM.JG,x.LM.Ls,x.LM.User,x.LM.LD,x.LM.Lp.Mem,x.LM.Lp.LA,x.LM.Mq,x.LM.NV,x.LM.Nc,x.LM.MC,x.LM.Np,x.LM.Told,x.LM.NW,x.Mq,x.Ids,x.MV.Id,x.MV.Ll,x.MV.From,x.MV.Until,x.MV.Need.Mem,x.MV.Need.LA,())
 | 16,x=>(x.LB,x.Mem,())
 | 17,x=>(x.s.Lg.Lm,x.s.Lg.Lh,x.s.Lu,x.s.Lv,x.s.Kl,x.s.LH,x.s.LJ,x.s.Now,x.s.L8,x.s.Seq,x.Lf,x.label,x.user,())
 | 18,x=>(x.s.Lg.Lm,x.s.Lg.Lh,x.s.Lu,x.s.Lv,x.s.Kl,x.s.LH,x.s.LJ,x.s.Now,x.s.L8,x.s.Seq,x.label,x.over,x.leaf,x.Oc,x.gone,())
 | 19,x=>(x.r0,x.r1,x.r2,())
 | _+20,_=>()
def acI:(n:Nat)→R9 Sv (X3 n)→ZT n
 | 0,a=>⟨a.1,a.2.1⟩
 | 1,a=>⟨a.1,a.2.1⟩
 | 2,a=>⟨a.1,a.2.1,a.2.2.1⟩
 | 3,a=>⟨a.1,a.2.1⟩
 | 4,a=>⟨a.1,a.2.1,a.2.2.1,⟨a.2.2.2.1,a.2.2.2.2.1⟩,a.2.2.2.2.2.1,a.2.2.2.2.2.2.1,a.2.2.2.2.2.2.2.1⟩
 | 5,a=>⟨a.1,a.2.1,⟨a.2.2.1,a.2.2.2.1⟩,a.2.2.2.2.1,a.2.2.2.2.2.1,a.2.2.2.2.2.2.1,a.2.2.2.2.2.2.2.1⟩
 | 6,a=>⟨a.1,a.2.1,a.2.2.1,a.2.2.2.1,a.2.2.2.2.1,⟨a.2.2.2.2.2.1,a.2.2.2.2.2.2.1⟩,a.2.2.2.2.2.2.2.1,a.2.2.2.2.2.2.2.2.1,a.2.2.2.2.2.2.2.2.2.1,a.2.2.2.2.2.2.2.2.2.2.1,a.2.2.2.2.2.2.2.2.2.2.2.1,a.2.2.2.2.2.2.2.2.2.2.2.2.1,a.2.2.2.2.2.2.2.2.2.2.2.2.2.1⟩
 | 7,a=>⟨a.1,a.2.1,a.2.2.1,⟨a.2.2.2.1,a.2.2.2.2.1⟩,a.2.2.2.2.2.1,a.2.2.2.2.2.2.1,a.2.2.2.2.2.2.2.1,a.2.2.2.2.2.2.2.2.1⟩
 | 8,a=>⟨a.1,a.2.1,a.2.2.1⟩
 | 9,a=>⟨a.1,a.2.1,a.2.2.1,a.2.2.2.1,⟨a.2.2.2.2.1,a.2.2.2.2.2.1⟩⟩
 | 10,a=>⟨⟨a.1,a.2.1⟩,a.2.2.1,a.2.2.2.1,a.2.2.2.2.1,a.2.2.2.2.2.1,a.2.2.2.2.2.2.1,a.2.2.2.2.2.2.2.1,a.2.2.2.2.2.2.2.2.1,a.2.2.2.2.2.2.2.2.2.1⟩
 | 11,a=>⟨a.1,a.2.1,a.2.2.1,a.2.2.2.1,a.2.2.2.2.1⟩
 | 12,a=>⟨a.1,a.2.1,a.2.2.1⟩
 | 13,a=>⟨a.1,a.2.1,a.2.2.1,a.2.2.2.1,a.2.2.2.2.1⟩
 | 14,a=>⟨a.1,a.2.1⟩
 | 15,a=>⟨a.1,a.2.1,a.2.2.1,a.2.2.2.1,a.2.2.2.2.1,⟨a.2.2.2.2.2.1,a.2.2.2.2.2.2.1,a.2.2.2.2.2.2.2.1,⟨a.2.2.2.2.2.2.2.2.1,a.2.2.2.2.2.2.2.2.2.1⟩,a.2.2.2.2.2.2.2.2.2.2.1,a.2.2.2.2.2.2.2.2.2.2.2.1,a.2.2.2.2.2.2.2.2.2.2.2.2.1⟩,⟨a.2.2.2.2.2.2.2.2.2.2.2.2.2.1,a.2.2.2.2.2.2.2.2.2.2.2.2.2.2.1,a.2.2.2.2.2.2.2.2.2.2.2.2.2.2.2.1,a.2.2.2.2.2.2.2.2.2.2.2.2.2.2.2.2.1,a.2.2.2.2.2.2.2.2.2.2.2.2.2.2.2.2.2.1,⟨a.2.2.2.2.2.2.2.2.2.2.2.2.2.2.2.2.2.2.1,a.2.2.2.2.2.2.2.2.2.2.2.2.2.2.2.2.2.2.2.1⟩,a.2.2.2.2.2.2.2.2.2.2.2.2.2.2.2.2.2.2.2.2.1,a.2.2.2.2.2.2.2.2.2.2.2.2.2.2.2.2.2.2.2.2.2.1,a.2.2.2.2.2.2.2.2.2.2.2.2.2.2.2.2.2.2.2.2.2.2.1,a.2.2.2.2.2.2.2.2.2.2.2.2.2.2.2.2.2.2.2.2.2.2.2.1,a.2.2.2.2.2.2.2.2.2.2.2.2.2.2.2.2.2.2.2.2.2.2.2.2.1,a.2.2.2.2.2.2.2.2.2.2.2.2.2.2.2.2.2.2.2.2.2.2.2.2.2.1,a.2.2.2.2.2.2.2.2.2.2.2.2.2.2.2.2.2.2.2.2.2.2.2.2.2.2.1⟩,a.2.2.2.2.2.2.2.2.2.2.2.2.2.2.2.2.2.2.2.2.2.2.2.2.2.2.2.1,a.2.2.2.2.2.2.2.2.2.2.2.2.2.2.2.2.2.2.2.2.2.2.2.2.2.2.2.2.1,⟨a.2.2.2.2.2.2.2.2.2.2.2.2.2.2.2.2.2.2.2.2.2.2.2.2.2.2.2.2.2.1,a.2.2.2.2.2.2.2.2.2.2.2.2.2.2.2.2.2.2.2.2.2.2.2.2.2.2.2.2.2.2.1,a.2.2.2.2.2.2.2.2.2.2.2.2.2.2.2.2.2.2.2.2.2.2.2.2.2.2.2.2.2.2.2.1,a.2.2.2.2.2.2.2.2.2.2.2.2.2.2.2.2.2.2.2.2.2.2.2.2.2.2.2.2.2.2.2.2.1,⟨a.2.2.2.2.2.2.2.2.2.2.2.2.2.2.2.2.2.2.2.2.2.2.2.2.2.2.2.2.2.2.2.2.2.1,a.2.2.2.2.2.2.2.2.2.2.2.2.2.2.2.2.2.2.2.2.2.2.2.2.2.2.2.2.2.2.2.2.2.2.1⟩⟩⟩
 | 16,a=>⟨a.1,a.2.1⟩
 | 17,a=>⟨⟨⟨a.1,a.2.1⟩,a.2.2.1,a.2.2.2.1,a.2.2.2.2.1,a.2.2.2.2.2.1,a.2.2.2.2.2.2.1,a.2.2.2.2.2.2.2.1,a.2.2.2.2.2.2.2.2.1,a.2.2.2.2.2.2.2.2.2.1⟩,a.2.2.2.2.2.2.2.2.2.2.1,a.2.2.2.2.2.2.2.2.2.2.2.1,a.2.2.2.2.2.2.2.2.2.2.2.2.1⟩
 | 18,a=>⟨⟨⟨a.1,a.2.1⟩,a.2.2.1,a.2.2.2.1,a.2.2.2.2.1,a.2.2.2.2.2.1,a.2.2.2.2.2.2.1,a.2.2.2.2.2.2.2.1,a.2.2.2.2.2.2.2.2.1,a.2.2.2.2.2.2.2.2.2.1⟩,a.2.2.2.2.2.2.2.2.2.2.1,a.2.2.2.2.2.2.2.2.2.2.2.1,a.2.2.2.2.2.2.2.2.2.2.2.2.1,a.2.2.2.2.2.2.2.2.2.2.2.2.2.1,a.2.2.2.2.2.2.2.2.2.2.2.2.2.2.1⟩
 | 19,a=>⟨a.1,a.2.1,a.2.2.1⟩
 | _+20,_=>()
theorem Kx:(n:Nat)→(a:R9 Sv (X3 n))→acF n (acI n a)=a
 | 0,_=>rfl
 | 1,_=>rfl
 | 2,_=>rfl
 | 3,_=>rfl
 | 4,_=>rfl
 | 5,_=>rfl
 | 6,_=>rfl
 | 7,_=>rfl
 | 8,_=>rfl
 | 9,_=>rfl
 | 10,_=>rfl
 | 11,_=>rfl
 | 12,_=>rfl
 | 13,_=>rfl
 | 14,_=>rfl
 | 15,_=>rfl
 | 16,_=>rfl
 | 17,_=>rfl
 | 18,_=>rfl
 | 19,_=>rfl
 | _+20,_=>rfl
def acE:(n:Nat)→ZR n→R9 Sv (Xz n)
 | 0,x=>(x.k,x.v,())
 | 1,x=>(x.k,x.v.Id,x.v.LM,x.v.LG,x.v.LY.Mem,x.v.LY.LA,x.v.LD,x.v.Ll,x.v.Lp,x.v.Mw,())
 | 2,x=>(x.k,x.v,())
 | 3,x=>(())
 | 4,x=>(x.k,x.v,())
 | _+5,_=>()
def acH:(n:Nat)→R9 Sv (Xz n)→ZR n
 | 0,a=>⟨a.1,a.2.1⟩
 | 1,a=>⟨a.1,⟨a.2.1,a.2.2.1,a.2.2.2.1,⟨a.2.2.2.2.1,a.2.2.2.2.2.1⟩,a.2.2.2.2.2.2.1,a.2.2.2.2.2.2.2.1,a.2.2.2.2.2.2.2.2.1,a.2.2.2.2.2.2.2.2.2.1⟩⟩
 | 2,a=>⟨a.1,a.2.1⟩
 | 3,a=>()
 | 4,a=>⟨a.1,a.2.1⟩
 | _+5,_=>()
theorem Kw:(n:Nat)→(a:R9 Sv (Xz n))→acE n (acH n a)=a
 | 0,_=>rfl
 | 1,_=>rfl
 | 2,_=>rfl
 | 3,_=>rfl
 | 4,_=>rfl
 | _+5,_=>rfl
def acD(b:Bool)(n m:Nat):ZQ b n m→R9 Sv (Xy b n m):=match b with | false=>acF n | true=>acE m
def acG(b:Bool)(n m:Nat):R9 Sv (Xy b n m)→ZQ b n m:=match b with | false=>acI n | true=>acH m
theorem KP(b:Bool)(n m:Nat):(a:R9 Sv (Xy b n m))→acD b n m (acG b n m a)=a:=match b with | false=>Kx n | true=>Kw m
def af0(n:Nat):Sv n→R9 Sv (aaO n):=acD (Nat.ble 500 n) n (n - 500)
def af2(n:Nat):R9 Sv (aaO n)→Sv n:=acG (Nat.ble 500 n) n (n - 500)
theorem ak5(n:Nat):(a:R9 Sv (aaO n))→af0 n (af2 n a)=a:=KP (Nat.ble 500 n) n (n - 500)
@[reducible] def fam:Fam:=⟨Sv,aaO,af0,af2,ak5⟩
noncomputable def ade:TI fam:=⟨Tryz.t3.desc,1,8,[.i .i64 0],some (.int .i64),false⟩
noncomputable def afo:TI fam:=⟨Tryz.t4.desc,1,1,[.b false],some (.bool),false⟩
noncomputable def afn:TI fam:=⟨Tryz.t5.desc,1,1,[.i .u8 0],some (.int .u8),false⟩
noncomputable def afm:TI fam:=⟨Tryz.t9.desc,1,16,[.s []],some (.str),false⟩
noncomputable def abD:TI fam:=⟨Tryz.t22.desc,1,24,[.nl],some (.slice (.int .i64)),false⟩
noncomputable def abC:TI fam:=⟨Tryz.t23.desc,1,24,[.nl],some (.slice (.st 11)),false⟩
noncomputable def abB:TI fam:=⟨Tryz.t24.desc,3,56,[.i .i64 0,.nl,.nl],some (.st 12),false⟩
noncomputable def abA:TI fam:=⟨Tryz.t27.desc,1,24,[.nl],some (.slice (.str)),false⟩
noncomputable def abz:TI fam:=⟨Tryz.t28.desc,1,24,[.nl],some (.slice (.st 2)),false⟩
noncomputable def aby:TI fam:=⟨Tryz.t29.desc,2,48,[.nl,.nl],some (.st 3),false⟩
noncomputable def abx:TI fam:=⟨Tryz.t31.desc,1,24,[.nl],some (.slice (.st 4)),false⟩
noncomputable def abw:TI fam:=⟨Tryz.t32.desc,1,24,[.nl],some (.slice (.st 6)),false⟩
noncomputable def abv:TI fam:=⟨Tryz.t33.desc,1,24,[.nl],some (.slice (.st 7)),false⟩
noncomputable def abu:TI fam:=⟨Tryz.t34.desc,1,24,[.nl],some (.slice (.st 8)),false⟩
noncomputable def abt:TI fam:=⟨Tryz.t35.desc,1,24,[.nl],some (.slice (.st 9)),false⟩
noncomputable def abr:TI fam:=⟨Tryz.t36.desc,10,192,[.nl,.nl,.nl,.nl,.nl,.nl,.nl,.i .i64 0,.i .i64 0,.i .i64 0],some (.st 10),false⟩
noncomputable def abq:TI fam:=⟨Tryz.t47.desc,2,16,[.i .i64 0,.i .i64 0],some (.st 0),true⟩
noncomputable def Zm:TI fam:=⟨Tryz.t49.desc,9,72,[.i .i64 0,.i .i64 0,.i .i64 0,.i .i64 0,.i .i64 0,.i .i64 0,.i .i64 0,.b false,.i .i64 0],some (.st 7),true⟩
noncomputable def abp:TI fam:=⟨Tryz.t53.desc,1,24,[.nl],some (.slice (.st 5)),false⟩
noncomputable def abo:TI fam:=⟨Tryz.t54.desc,14,200,[.i .i64 0,.i .i64 0,.s [],.i .i64 0,.i .i64 0,.i .i64 0,.i .i64 0,.nl,.i .i64 0,.i .i64 0,.nl,.nl,.nl,.nl],some (.st 6),false⟩
noncomputable def abn:TI fam:=⟨Tryz.t3.desc,1,8,[.i .i64 0],some (.int .i64),false⟩
noncomputable def abm:TI fam:=⟨Tryz.t63.desc,5,88,[.i .i64 0,.nl,.nl,.nl,.i .i64 0],some (.st 13),false⟩
noncomputable def abl:TI fam:=⟨Tryz.t69.desc,8,64,[.i .i64 0,.i .i64 0,.i .i64 0,.i .i64 0,.i .i64 0,.i .i64 0,.i .i64 0,.b false],some (.st 4),true⟩
noncomputable def abk:TI fam:=⟨Tryz.t71.desc,6,48,[.i .i64 0,.i .i64 0,.i .i64 0,.i .i64 0,.i .i64 0,.i .i64 0],some (.st 9),true⟩
noncomputable def abj:TI fam:=⟨Tryz.t73.desc,35,408,[.i .i64 0,.i .i64 0,.i .i64 0,.i .i64 0,.s [],.i .i64 0,.i .i64 0,.i .i64 0,.i .i64 0,.i .i64 0,.i .i64 0,.i .i64 0,.b false,.i .i64 0,.i .i64 0,.s [],.i .i64 0,.i .i64 0,.i .i64 0,.i .i64 0,.nl,.i .i64 0,.i .i64 0,.nl,.nl,.nl,.nl,.nl,.nl,.i .i64 0,.i .i64 0,.i .i64 0,.i .i64 0,.i .i64 0,.i .i64 0],some (.st 15),false⟩
noncomputable def abh:TI fam:=⟨Tryz.t75.desc,5,40,[.i .i64 0,.i .i64 0,.i .i64 0,.i .i64 0,.i .i64 0],some (.st 11),false⟩
noncomputable def abg:TI fam:=⟨Tryz.t78.desc,1,8,[.v (.pointer none)],none,false⟩
noncomputable def abf:TI fam:=⟨Tryz.t81.desc,1,8,[.v (.map none)],some (.slice (.st 500)),false⟩
noncomputable def abe:TI fam:=⟨Tryz.t82.desc,1,8,[.v (.map none)],some (.slice (.st 502)),false⟩
noncomputable def abd:TI fam:=⟨Tryz.t83.desc,1,8,[.v (.map none)],some (.slice (.st 504)),false⟩
noncomputable def abb:TI fam:=⟨Tryz.t84.desc,15,232,[.nl,.nl,.nl,.nl,.nl,.nl,.nl,.i .i64 0,.i .i64 0,.i .i64 0,.i .i64 0,.v (.map none),.v (.map none),.v (.map none),.i .i64 0],some (.st 18),false⟩
noncomputable def aa_:TI fam:=⟨Tryz.t88.desc,1,24,[.nl],some (.slice (.st 16)),false⟩
noncomputable def aa9:TI fam:=⟨Tryz.t92.desc,2,24,[.s [],.i .i64 0],some (.st 16),false⟩
noncomputable def Et:TI fam:=⟨Tryz.t106.desc,3,24,[.i .i64 0,.i .i64 0,.i .i64 0],some (.st 8),true⟩
noncomputable def Ec:TI fam:=⟨Tryz.t116.desc,2,16,[.i .i64 0,.i .i64 0],some (.st 1),true⟩
noncomputable def Ej:TI fam:=⟨Tryz.t118.desc,1,24,[.nl],some (.slice (.st 1)),false⟩
noncomputable def En:TI fam:=⟨Tryz.t119.desc,3,48,[.s [],.nl,.i .i64 0],some (.st 2),false⟩
noncomputable def Fv:TI fam:=⟨Tryz.t131.desc,1,24,[.nl],some (.slice (.slice (.str))),false⟩
noncomputable def EA:TI fam:=⟨Tryz.t136.desc,1,24,[.nl],some (.slice (.st 16)),false⟩
noncomputable def D5:TI fam:=⟨Tryz.t92.desc,2,24,[.s [],.i .i64 0],some (.st 16),false⟩
noncomputable def EZ:TI fam:=⟨Tryz.t140.desc,1,8,[.v (.map none)],some (.slice (.st 501)),false⟩
noncomputable def FZ:TI fam:=⟨Tryz.t146.desc,8,64,[.i .i64 0,.i .i64 0,.i .i64 0,.i .i64 0,.i .i64 0,.i .i64 0,.i .i64 0,.i .i64 0],some (.st 5),true⟩
noncomputable def Fj:TI fam:=⟨Tryz.t162.desc,1,8,[.i .u64 0],some (.int .u64),false⟩
noncomputable def Ee:TI fam:=⟨Tryz.t187.desc,1,24,[.nl],some (.slice (.int .u8)),false⟩
noncomputable def F8:TI fam:=⟨Tryz.t189.desc,1,24,[.nl],some (.slice (.st 0)),false⟩
noncomputable def FR:TI fam:=⟨Tryz.t191.desc,13,224,[.nl,.nl,.nl,.nl,.nl,.nl,.nl,.i .i64 0,.i .i64 0,.i .i64 0,.s [],.i .i64 0,.i .i64 0],some (.st 17),false⟩
noncomputable def E4:TI fam:=⟨Tryz.t222.desc,1,4,[.i .u32 0],some (.int .u32),false⟩
noncomputable def FX:TI fam:=⟨Tryz.t224.desc,1,8,[.i .u64 0],some (.int .u64),false⟩
noncomputable def FS:TI fam:=⟨Tryz.t233.desc,1,24,[.nl],some (.slice (.slice (.int .i64))),false⟩
noncomputable def EB:TI fam:=⟨Tryz.t116.desc,2,16,[.i .i64 0,.i .i64 0],some (.st 1),false⟩
noncomputable def Fa:TI fam:=⟨Tryz.t47.desc,2,16,[.i .i64 0,.i .i64 0],some (.st 0),false⟩
noncomputable def Ef:TI fam:=⟨Tryz.t316.desc,2,16,[.i .i64 0,.i .i64 0],some (.st 14),false⟩
noncomputable def tbl:List (Nat×TI fam):=[(3,ade),(4,afo),(5,afn),(9,afm),(22,abD),(23,abC),(25,abB),(27,abA),(28,abz),(30,aby),(31,abx),(32,abw),(33,abv),(34,abu),(35,abt),(37,abr),(48,abq),(50,Zm),(53,abp),(55,abo),(62,abn),(64,abm),(70,abl),(72,abk),(74,abj),(76,abh),(78,abg),(81,abf),(82,abe),(83,abd),(85,abb),(88,aa_),(93,aa9),(107,Et),(117,Ec),(118,Ej),(120,En),(131,Fv),(136,EA),(138,D5),(140,EZ),(147,FZ),(162,Fj),(187,Ee),(189,F8),(192,FR),(222,E4),(224,FX),(233,FS),(241,EB),(268,Fa),(317,Ef)]
end Go.Fx.D
