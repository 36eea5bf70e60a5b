/-
  The types of the seat as plain Lean types, and its table of types (printed by a program). Conditions: none.
-/
import Derived.Test.YtppllkbjijfocaaGreatDoorFxA
import Derived.Test.YtppllkbjijfocaaGreatDoorProg
namespace Go.Fx.D
open Go Go.Fx Go.Proofs
set_option linter.unusedVariables false
structure Vec where
 Mem:Int
 I_:Int
structure Cap where
 LB:Int
 Most:Int
structure Ja where
 Kh:List UInt8
 KZ:List Cap
 User:Int
structure Jc where
 Je:List (List UInt8)
 I8:List Ja
structure Node where
 Id:Int
 Ji:Int
 KL:Int
 Cap:Vec
 KD:Int
 J_:Int
 Up:Bool
structure Ask where
 J6:Int
 Ji:Int
 Ku:Vec
 Ky:Int
 Node:Int
 KL:Int
 Nn:Int
structure App where
 Id:Int
 Gp:Int
 Ja:List UInt8
 User:Int
 J6:Int
 Jb:Vec
 Jy:List Ask
 KD:Int
 J_:Int
 Kj:List Int
 KJ:List Int
 Told:List Int
 Lm:List Int
structure Cont where
 Id:Int
 App:Int
 Node:Int
 Ku:Vec
 J6:Int
 Ji:Int
 Jb:Bool
 Mf:Int
structure Slot where
 Node:Int
 App:Int
 J6:Int
structure Jk where
 Id:Int
 Ji:Int
 From:Int
 Until:Int
 Need:Vec
structure Gp where
 Jc:Jc
 Jh:List Node
 I9:List App
 I6:List Cont
 Jr:List Slot
 Jq:List Jk
 Now:Int
 Jz:Int
 Seq:Int
structure Act where
 Kind:Int
 A:Int
 B:Int
 C:Int
 D:Int
structure Script where
 Shape:Int
 Ns:List Int
 Vr:List Act
structure Output where
 Err:Int
 I6:List Cont
 Ids:List Int
 Gone:List Int
 N:Int
structure Input where
 Kind:Int
 Id:Int
 J_:Int
 N:Int
 Text:List UInt8
 Node:Node
 App:App
 Jy:List Ask
 Ids:List Int
 Jk:Jk
structure Ma where
 Kh:List UInt8
 Mem:Int
structure View where
 s:Gp
 Kn:List UInt8
 label:Int
 user:Int
structure Load where
 Kn:List UInt8
 used:Vec
 least:Vec
structure Reader where
 c:Jc
 seen:Bool
structure Step where
 s:Gp
 x:Input
structure Attempt where
 s:Gp
 n:Node
 free:Vec
structure OO where
 n:Int
 of:Int
structure K6 where
 r0:List Int
 r1:List Int
 r2:List Int
structure Jf where
 k:List UInt8
 v:Int
structure KA where
 k:Int
 v:List UInt8
structure Ko where
 k:Int
 v:Int
structure J7 where
 s:Gp
 label:Int
 over:List Jf
 leaf:List KA
 Lp:List Ko
 gone:Int
structure Look where
 s:Gp
structure Jt where
 k:List UInt8
 v:Cont
@[reducible] def Wp:Nat→Type
 | 0=>Vec
 | 1=>Cap
 | 2=>Ja
 | 3=>Jc
 | 4=>Node
 | 5=>Ask
 | 6=>App
 | 7=>Cont
 | 8=>Slot
 | 9=>Jk
 | 10=>Gp
 | 11=>Act
 | 12=>Script
 | 13=>Output
 | 14=>Input
 | 15=>Ma
 | 16=>View
 | 17=>Load
 | 18=>Reader
 | 19=>Step
 | 20=>Attempt
 | 21=>OO
 | 22=>K6
 | 23=>J7
 | 24=>Look
 | _=>Unit
@[reducible] def Wo:Nat→Type
 | 0=>Jf
 | 1=>Jt
 | 2=>Ko
 | 4=>KA
 | _=>Unit
@[reducible] def Wn(b:Bool)(n m:Nat):Type:=match b with | false=>Wp n | true=>Wo m
@[reducible] def Oc(n:Nat):Type:=Wn (Nat.ble 500 n) n (n - 500)
@[reducible] def Uj:Nat→List Ty
 | 0=>[.int .i64,.int .i64]
 | 1=>[.int .i64,.int .i64]
 | 2=>[.str,.slice (.st 1),.int .i64]
 | 3=>[.slice (.str),.slice (.st 2)]
 | 4=>[.int .i64,.int .i64,.int .i64,.int .i64,.int .i64,.int .i64,.int .i64,.bool]
 | 5=>[.int .i64,.int .i64,.int .i64,.int .i64,.int .i64,.int .i64,.int .i64,.int .i64]
 | 6=>[.int .i64,.int .i64,.str,.int .i64,.int .i64,.int .i64,.int .i64,.slice (.st 5),.int .i64,.int .i64,.slice (.int .i64),.slice (.int .i64),.slice (.int .i64),.slice (.int .i64)]
 | 7=>[.int .i64,.int .i64,.int .i64,.int .i64,.int .i64,.int .i64,.int .i64,.bool,.int .i64]
 | 8=>[.int .i64,.int .i64,.int .i64]
 | 9=>[.int .i64,.int .i64,.int .i64,.int .i64,.int .i64,.int .i64]
 | 10=>[.slice (.str),.slice (.st 2),.slice (.st 4),.slice (.st 6),.slice (.st 7),.slice (.st 8),.slice (.st 9),.int .i64,.int .i64,.int .i64]
 | 11=>[.int .i64,.int .i64,.int .i64,.int .i64,.int .i64]
 | 12=>[.int .i64,.slice (.int .i64),.slice (.st 11)]
 | 13=>[.int .i64,.slice (.st 7),.slice (.int .i64),.slice (.int .i64),.int .i64]
 | 14=>[.int .i64,.int .i64,.int .i64,.int .i64,.str,.int .i64,.int .i64,.int .i64,.int .i64,.int .i64,.int .i64,.int .i64,.bool,.int .i64,.int .i64,.str,.int .i64,.int .i64,.int .i64,.int .i64,.slice (.st 5),.int .i64,.int .i64,.slice (.int .i64),.slice (.int .i64),.slice (.int .i64),.slice (.int .i64),.slice (.st 5),.slice (.int .i64),.int .i64,.int .i64,.int .i64,.int .i64,.int .i64,.int .i64]
 | 15=>[.str,.int .i64]
 | 16=>[.slice (.str),.slice (.st 2),.slice (.st 4),.slice (.st 6),.slice (.st 7),.slice (.st 8),.slice (.st 9),.int .i64,.int .i64,.int .i64,.str,.int .i64,.int .i64]
 | 17=>[.str,.int .i64,.int .i64,.int .i64,.int .i64]
 | 18=>[.slice (.str),.slice (.st 2),.bool]
 | 19=>[.slice (.str),.slice (.st 2),.slice (.st 4),.slice (.st 6),.slice (.st 7),.slice (.st 8),.slice (.st 9),.int .i64,.int .i64,.int .i64,.int .i64,.int .i64,.int .i64,.int .i64,.str,.int .i64,.int .i64,.int .i64,.int .i64,.int .i64,.int .i64,.int .i64,.bool,.int .i64,.int .i64,.str,.int .i64,.int .i64,.int .i64,.int .i64,.slice (.st 5),.int .i64,.int .i64,.slice (.int .i64),.slice (.int .i64),.slice (.int .i64),.slice (.int .i64),.slice (.st 5),.slice (.int .i64),.int .i64,.int .i64,.int .i64,.int .i64,.int .i64,.int .i64]
 | 20=>[.slice (.str),.slice (.st 2),.slice (.st 4),.slice (.st 6),.slice (.st 7),.slice (.st 8),.slice (.st 9),.int .i64,.int .i64,.int .i64,.int .i64,.int .i64,.int .i64,.int .i64,.int .i64,.int .i64,.int .i64,.bool,.int .i64,.int .i64]
 | 21=>[.int .u64,.int .u64]
 | 22=>[.slice (.int .i64),.slice (.int .i64),.slice (.int .i64)]
 | 23=>[.slice (.str),.slice (.st 2),.slice (.st 4),.slice (.st 6),.slice (.st 7),.slice (.st 8),.slice (.st 9),.int .i64,.int .i64,.int .i64,.int .i64,.slice (.st 500),.slice (.st 504),.slice (.st 502),.int .i64]
 | 24=>[.slice (.str),.slice (.st 2),.slice (.st 4),.slice (.st 6),.slice (.st 7),.slice (.st 8),.slice (.st 9),.int .i64,.int .i64,.int .i64]
 | _=>[]
@[reducible] def Ui:Nat→List Ty
 | 0=>[.str,.int .i64]
 | 1=>[.str,.int .i64,.int .i64,.int .i64,.int .i64,.int .i64,.int .i64,.int .i64,.bool,.int .i64]
 | 2=>[.int .i64,.int .i64]
 | 4=>[.int .i64,.str]
 | _=>[]
@[reducible] def Uh(b:Bool)(n m:Nat):List Ty:=match b with | false=>Uj n | true=>Ui m
@[reducible] def Xq(n:Nat):List Ty:=Uh (Nat.ble 500 n) n (n - 500)
def Zi:(n:Nat)→Wp n→NR Oc (Uj n)
 | 0,x=>(x.Mem,x.I_,())
 | 1,x=>(x.LB,x.Most,())
 | 2,x=>(x.Kh,x.KZ,x.User,())
 | 3,x=>(x.Je,x.I8,())
 | 4,x=>(x.Id,x.Ji,x.KL,x.Cap.Mem,x.Cap.I_,x.KD,x.J_,x.Up,())
 | 5,x=>(x.J6,x.Ji,x.Ku.Mem,x.Ku.I_,x.Ky,x.Node,x.KL,x.Nn,())
 | 6,x=>(x.Id,x.Gp,x.Ja,x.User,x.J6,x.Jb.Mem,x.Jb.I_,x.Jy,x.KD,x.J_,x.Kj,x.KJ,x.Told,x.Lm,())
 | 7,x=>(x.Id,x.App,x.Node,x.Ku.Mem,x.Ku.I_,x.J6,x.Ji,x.Jb,x.Mf,())
 | 8,x=>(x.Node,x.App,x.J6,())
 | 9,x=>(x.Id,x.Ji,x.From,x.Until,x.Need.Mem,x.Need.I_,())
 | 10,x=>(x.Jc.Je,x.Jc.I8,x.Jh,x.I9,x.I6,x.Jr,x.Jq,x.Now,x.Jz,x.Seq,())
 | 11,x=>(x.Kind,x.A,x.B,x.C,x.D,())
 | 12,x=>(x.Shape,x.Ns,x.Vr,())
 | 13,x=>(x.Err,x.I6,x.Ids,x.Gone,x.N,())
 | 14,x=>(x.Kind,x.Id,x.J_,x.N,x.Text,x.Node.Id,x.Node.Ji,x.Node.KL,x.Node.Cap.Mem,x.Node.Cap.I_,x.Node.KD,x.Node.J_,x.Node.Up,x.App.Id,x.App.Gp,x.App.Ja,x.App.User,x.App.J6,x.App.Jb.Mem,x.App.Jb.I_,x.App.Jy,x.App.KD,x.App.J_,x.App.Kj,x.App.KJ,x.App.Told,x.App.Lm,x.Jy,x.Ids,x.Jk.Id,x.Jk.Ji,x.Jk.From,x.Jk.Until,x.Jk.Need.Mem,x.Jk.Need.I_,())
 | 15,x=>(x.Kh,x.Mem,())
 | 16,x=>(x.s.Jc.Je,x.s.Jc.I8,x.s.Jh,x.s.I9,x.s.I6,x.s.Jr,x.s.Jq,x.s.Now,x.s.Jz,x.s.Seq,x.Kn,x.label,x.user,())
 | 17,x=>(x.Kn,x.used.Mem,x.used.I_,x.least.Mem,x.least.I_,())
 | 18,x=>(x.c.Je,x.c.I8,x.seen,())
 | 19,x=>(x.s.Jc.Je,x.s.Jc.I8,x.s.Jh,x.s.I9,x.s.I6,x.s.Jr,x.s.Jq,x.s.Now,x.s.Jz,x.s.Seq,x.x.Kind,x.x.Id,x.x.J_,x.x.N,x.x.Text,x.x.Node.Id,x.x.Node.Ji,x.x.Node.KL,x.x.Node.Cap.Mem,x.x.Node.Cap.I_,x.x.Node.KD,x.x.Node.J_,x.x.Node.Up,x.x.App.Id,x.x.App.Gp,x.x.App.Ja,x.x.App.User,x.x.App.J6,x.x.App.Jb.Mem,x.x.App.Jb.I_,x.x.App.Jy,x.x.App.KD,x.x.App.J_,x.x.App.Kj,x.x.App.KJ,x.x.App.Told,x.x.App.Lm,x.x.Jy,x.x.Ids,x.x.Jk.Id,x.x.Jk.Ji,x.x.Jk.From,x.x.Jk.Until,x.x.Jk.Need.Mem,x.x.Jk.Need.I_,())
 | 20,x=>(x.s.Jc.Je,x.s.Jc.I8,x.s.Jh,x.s.I9,x.s.I6,x.s.Jr,x.s.Jq,x.s.Now,x.s.Jz,x.s.Seq,x.n.Id,x.n.Ji,x.n.KL,x.n.Cap.Mem,x.n.Cap.I_,x.n.KD,x.n.J_,x.n.Up,x.free.Mem,x.free.I_,())
 | 21,x=>(x.n,x.of,())
 | 22,x=>(x.r0,x.r1,x.r2,())
 | 23,x=>(x.s.Jc.Je,x.s.Jc.I8,x.s.Jh,x.s.I9,x.s.I6,x.s.Jr,x.s.Jq,x.s.Now,x.s.Jz,x.s.Seq,x.label,x.over,x.leaf,x.Lp,x.gone,())
 | 24,x=>(x.s.Jc.Je,x.s.Jc.I8,x.s.Jh,x.s.I9,x.s.I6,x.s.Jr,x.s.Jq,x.s.Now,x.s.Jz,x.s.Seq,())
 | _+25,_=>()
def Zl:(n:Nat)→NR Oc (Uj n)→Wp n
 | 0,a=>⟨a.1,a.2.1⟩
 | 1,a=>⟨a.1,a.2.1⟩
 | 2,a=>⟨a.1,a.2.1,a.2.2.1⟩
 | 3,a=>⟨a.1,a.2.1⟩
 | 4,a=>⟨a.1,a.2.1,a.2.2.1,⟨a.2.2.2.1,a.2.2.2.2.1⟩,a.2.2.2.2.2.1,a.2.2.2.2.2.2.1,a.2.2.2.2.2.2.2.1⟩
 | 5,a=>⟨a.1,a.2.1,⟨a.2.2.1,a.2.2.2.1⟩,a.2.2.2.2.1,a.2.2.2.2.2.1,a.2.2.2.2.2.2.1,a.2.2.2.2.2.2.2.1⟩
 | 6,a=>⟨a.1,a.2.1,a.2.2.1,a.2.2.2.1,a.2.2.2.2.1,⟨a.2.2.2.2.2.1,a.2.2.2.2.2.2.1⟩,a.2.2.2.2.2.2.2.1,a.2.2.2.2.2.2.2.2.1,a.2.2.2.2.2.2.2.2.2.1,a.2.2.2.2.2.2.2.2.2.2.1,a.2.2.2.2.2.2.2.2.2.2.2.1,a.2.2.2.2.2.2.2.2.2.2.2.2.1,a.2.2.2.2.2.2.2.2.2.2.2.2.2.1⟩
 | 7,a=>⟨a.1,a.2.1,a.2.2.1,⟨a.2.2.2.1,a.2.2.2.2.1⟩,a.2.2.2.2.2.1,a.2.2.2.2.2.2.1,a.2.2.2.2.2.2.2.1,a.2.2.2.2.2.2.2.2.1⟩
 | 8,a=>⟨a.1,a.2.1,a.2.2.1⟩
 | 9,a=>⟨a.1,a.2.1,a.2.2.1,a.2.2.2.1,⟨a.2.2.2.2.1,a.2.2.2.2.2.1⟩⟩
 | 10,a=>⟨⟨a.1,a.2.1⟩,a.2.2.1,a.2.2.2.1,a.2.2.2.2.1,a.2.2.2.2.2.1,a.2.2.2.2.2.2.1,a.2.2.2.2.2.2.2.1,a.2.2.2.2.2.2.2.2.1,a.2.2.2.2.2.2.2.2.2.1⟩
 | 11,a=>⟨a.1,a.2.1,a.2.2.1,a.2.2.2.1,a.2.2.2.2.1⟩
 | 12,a=>⟨a.1,a.2.1,a.2.2.1⟩
 | 13,a=>⟨a.1,a.2.1,a.2.2.1,a.2.2.2.1,a.2.2.2.2.1⟩
 | 14,a=>⟨a.1,a.2.1,a.2.2.1,a.2.2.2.1,a.2.2.2.2.1,⟨a.2.2.2.2.2.1,a.2.2.2.2.2.2.1,a.2.2.2.2.2.2.2.1,⟨a.2.2.2.2.2.2.2.2.1,a.2.2.2.2.2.2.2.2.2.1⟩,a.2.2.2.2.2.2.2.2.2.2.1,a.2.2.2.2.2.2.2.2.2.2.2.1,a.2.2.2.2.2.2.2.2.2.2.2.2.1⟩,⟨a.2.2.2.2.2.2.2.2.2.2.2.2.2.1,a.2.2.2.2.2.2.2.2.2.2.2.2.2.2.1,a.2.2.2.2.2.2.2.2.2.2.2.2.2.2.2.1,a.2.2.2.2.2.2.2.2.2.2.2.2.2.2.2.2.1,a.2.2.2.2.2.2.2.2.2.2.2.2.2.2.2.2.2.1,⟨a.2.2.2.2.2.2.2.2.2.2.2.2.2.2.2.2.2.2.1,a.2.2.2.2.2.2.2.2.2.2.2.2.2.2.2.2.2.2.2.1⟩,a.2.2.2.2.2.2.2.2.2.2.2.2.2.2.2.2.2.2.2.2.1,a.2.2.2.2.2.2.2.2.2.2.2.2.2.2.2.2.2.2.2.2.2.1,a.2.2.2.2.2.2.2.2.2.2.2.2.2.2.2.2.2.2.2.2.2.2.1,a.2.2.2.2.2.2.2.2.2.2.2.2.2.2.2.2.2.2.2.2.2.2.2.1,a.2.2.2.2.2.2.2.2.2.2.2.2.2.2.2.2.2.2.2.2.2.2.2.2.1,a.2.2.2.2.2.2.2.2.2.2.2.2.2.2.2.2.2.2.2.2.2.2.2.2.2.1,a.2.2.2.2.2.2.2.2.2.2.2.2.2.2.2.2.2.2.2.2.2.2.2.2.2.2.1⟩,a.2.2.2.2.2.2.2.2.2.2.2.2.2.2.2.2.2.2.2.2.2.2.2.2.2.2.2.1,a.2.2.2.2.2.2.2.2.2.2.2.2.2.2.2.2.2.2.2.2.2.2.2.2.2.2.2.2.1,⟨a.2.2.2.2.2.2.2.2.2.2.2.2.2.2.2.2.2.2.2.2.2.2.2.2.2.2.2.2.2.1,a.2.2.2.2.2.2.2.2.2.2.2.2.2.2.2.2.2.2.2.2.2.2.2.2.2.2.2.2.2.2.1,a.2.2.2.2.2.2.2.2.2.2.2.2.2.2.2.2.2.2.2.2.2.2.2.2.2.2.2.2.2.2.2.1,a.2.2.2.2.2.2.2.2.2.2.2.2.2.2.2.2.2.2.2.2.2.2.2.2.2.2.2.2.2.2.2.2.1,⟨a.2.2.2.2.2.2.2.2.2.2.2.2.2.2.2.2.2.2.2.2.2.2.2.2.2.2.2.2.2.2.2.2.2.1,a.2.2.2.2.2.2.2.2.2.2.2.2.2.2.2.2.2.2.2.2.2.2.2.2.2.2.2.2.2.2.2.2.2.2.1⟩⟩⟩
 | 15,a=>⟨a.1,a.2.1⟩
 | 16,a=>⟨⟨⟨a.1,a.2.1⟩,a.2.2.1,a.2.2.2.1,a.2.2.2.2.1,a.2.2.2.2.2.1,a.2.2.2.2.2.2.1,a.2.2.2.2.2.2.2.1,a.2.2.2.2.2.2.2.2.1,a.2.2.2.2.2.2.2.2.2.1⟩,a.2.2.2.2.2.2.2.2.2.2.1,a.2.2.2.2.2.2.2.2.2.2.2.1,a.2.2.2.2.2.2.2.2.2.2.2.2.1⟩
 | 17,a=>⟨a.1,⟨a.2.1,a.2.2.1⟩,⟨a.2.2.2.1,a.2.2.2.2.1⟩⟩
 | 18,a=>⟨⟨a.1,a.2.1⟩,a.2.2.1⟩
 | 19,a=>⟨⟨⟨a.1,a.2.1⟩,a.2.2.1,a.2.2.2.1,a.2.2.2.2.1,a.2.2.2.2.2.1,a.2.2.2.2.2.2.1,a.2.2.2.2.2.2.2.1,a.2.2.2.2.2.2.2.2.1,a.2.2.2.2.2.2.2.2.2.1⟩,⟨a.2.2.2.2.2.2.2.2.2.2.1,a.2.2.2.2.2.2.2.2.2.2.2.1,a.2.2.2.2.2.2.2.2.2.2.2.2.1,a.2.2.2.2.2.2.2.2.2.2.2.2.2.1,a.2.2.2.2.2.2.2.2.2.2.2.2.2.2.1,⟨a.2.2.2.2.2.2.2.2.2.2.2.2.2.2.2.1,a.2.2.2.2.2.2.2.2.2.2.2.2.2.2.2.2.1,a.2.2.2.2.2.2.2.2.2.2.2.2.2.2.2.2.2.1,⟨a.2.2.2.2.2.2.2.2.2.2.2.2.2.2.2.2.2.2.1,a.2.2.2.2.2.2.2.2.2.2.2.2.2.2.2.2.2.2.2.1⟩,a.2.2.2.2.2.2.2.2.2.2.2.2.2.2.2.2.2.2.2.2.1,a.2.2.2.2.2.2.2.2.2.2.2.2.2.2.2.2.2.2.2.2.2.1,a.2.2.2.2.2.2.2.2.2.2.2.2.2.2.2.2.2.2.2.2.2.2.1⟩,⟨a.2.2.2.2.2.2.2.2.2.2.2.2.2.2.2.2.2.2.2.2.2.2.2.1,a.2.2.2.2.2.2.2.2.2.2.2.2.2.2.2.2.2.2.2.2.2.2.2.2.1,a.2.2.2.2.2.2.2.2.2.2.2.2.2.2.2.2.2.2.2.2.2.2.2.2.2.1,a.2.2.2.2.2.2.2.2.2.2.2.2.2.2.2.2.2.2.2.2.2.2.2.2.2.2.1,a.2.2.2.2.2.2.2.2.2.2.2.2.2.2.2.2.2.2.2.2.2.2.2.2.2.2.2.1,⟨a.2.2.2.2.2.2.2.2.2.2.2.2.2.2.2.2.2.2.2.2.2.2.2.2.2.2.2.2.1,a.2.2.2.2.2.2.2.2.2.2.2.2.2.2.2.2.2.2.2.2.2.2.2.2.2.2.2.2.2.1⟩,a.2.2.2.2.2.2.2.2.2.2.2.2.2.2.2.2.2.2.2.2.2.2.2.2.2.2.2.2.2.2.1,a.2.2.2.2.2.2.2.2.2.2.2.2.2.2.2.2.2.2.2.2.2.2.2.2.2.2.2.2.2.2.2.1,a.2.2.2.2.2.2.2.2.2.2.2.2.2.2.2.2.2.2.2.2.2.2.2.2.2.2.2.2.2.2.2.2.1,a.2.2.2.2.2.2.2.2.2.2.2.2.2.2.2.2.2.2.2.2.2.2.2.2.2.2.2.2.2.2.2.2.2.1,a.2.2.2.2.2.2.2.2.2.2.2.2.2.2.2.2.2.2.2.2.2.2.2.2.2.2.2.2.2.2.2.2.2.2.1,a.2.2.2.2.2.2.2.2.2.2.2.2.2.2.2.2.2.2.2.2.2.2.2.2.2.2.2.2.2.2.2.2.2.2.2.1,a.2.2.2.2.2.2.2.2.2.2.2.2.2.2.2.2.2.2.2.2.2.2.2.2.2.2.2.2.2.2.2.2.2.2.2.2.1⟩,a.2.2.2.2.2.2.2.2.2.2.2.2.2.2.2.2.2.2.2.2.2.2.2.2.2.2.2.2.2.2.2.2.2.2.2.2.2.1,a.2.2.2.2.2.2.2.2.2.2.2.2.2.2.2.2.2.2.2.2.2.2.2.2.2.2.2.2.2.2.2.2.2.2.2.2.2.2.1,⟨a.2.2.2.2.2.2.2.2.2.2.2.2.2.2.2.2.2.2.2.2.2.2.2.2.2.2.2.2.2.2.2.2.2.2.2.2.2.2.2.1,a.2.2.2.2.2.2.2.2.2.2.2.2.2.2.2.2.2.2.2.2.2.2.2.2.2.2.2.2.2.2.2.2.2.2.2.2.2.2.2.2.1,a.2.2.2.2.2.2.2.2.2.2.2.2.2.2.2.2.2.2.2.2.2.2.2.2.2.2.2.2.2.2.2.2.2.2.2.2.2.2.2.2.2.1,a.2.2.2.2.2.2.2.2.2.2.2.2.2.2.2.2.2.2.2.2.2.2.2.2.2.2.2.2.2.2.2.2.2.2.2.2.2.2.2.2.2.2.1,⟨a.2.2.2.2.2.2.2.2.2.2.2.2.2.2.2.2.2.2.2.2.2.2.2.2.2.2.2.2.2.2.2.2.2.2.2.2.2.2.2.2.2.2.2.1,a.2.2.2.2.2.2.2.2.2.2.2.2.2.2.2.2.2.2.2.2.2.2.2.2.2.2.2.2.2.2.2.2.2.2.2.2.2.2.2.2.2.2.2.2.1⟩⟩⟩⟩
 | 20,a=>⟨⟨⟨a.1,a.2.1⟩,a.2.2.1,a.2.2.2.1,a.2.2.2.2.1,a.2.2.2.2.2.1,a.2.2.2.2.2.2.1,a.2.2.2.2.2.2.2.1,a.2.2.2.2.2.2.2.2.1,a.2.2.2.2.2.2.2.2.2.1⟩,⟨a.2.2.2.2.2.2.2.2.2.2.1,a.2.2.2.2.2.2.2.2.2.2.2.1,a.2.2.2.2.2.2.2.2.2.2.2.2.1,⟨a.2.2.2.2.2.2.2.2.2.2.2.2.2.1,a.2.2.2.2.2.2.2.2.2.2.2.2.2.2.1⟩,a.2.2.2.2.2.2.2.2.2.2.2.2.2.2.2.1,a.2.2.2.2.2.2.2.2.2.2.2.2.2.2.2.2.1,a.2.2.2.2.2.2.2.2.2.2.2.2.2.2.2.2.2.1⟩,⟨a.2.2.2.2.2.2.2.2.2.2.2.2.2.2.2.2.2.2.1,a.2.2.2.2.2.2.2.2.2.2.2.2.2.2.2.2.2.2.2.1⟩⟩
 | 21,a=>⟨a.1,a.2.1⟩
 | 22,a=>⟨a.1,a.2.1,a.2.2.1⟩
 | 23,a=>⟨⟨⟨a.1,a.2.1⟩,a.2.2.1,a.2.2.2.1,a.2.2.2.2.1,a.2.2.2.2.2.1,a.2.2.2.2.2.2.1,a.2.2.2.2.2.2.2.1,a.2.2.2.2.2.2.2.2.1,a.2.2.2.2.2.2.2.2.2.1⟩,a.2.2.2.2.2.2.2.2.2.2.1,a.2.2.2.2.2.2.2.2.2.2.2.1,a.2.2.2.2.2.2.2.2.2.2.2.2.1,a.2.2.2.2.2.2.2.2.2.2.2.2.2.1,a.2.2.2.2.2.2.2.2.2.2.2.2.2.2.1⟩
 | 24,a=>⟨⟨⟨a.1,a.2.1⟩,a.2.2.1,a.2.2.2.1,a.2.2.2.2.1,a.2.2.2.2.2.1,a.2.2.2.2.2.2.1,a.2.2.2.2.2.2.2.1,a.2.2.2.2.2.2.2.2.1,a.2.2.2.2.2.2.2.2.2.1⟩⟩
 | _+25,_=>()
theorem Iz:(n:Nat)→(a:NR Oc (Uj n))→Zi n (Zl n a)=a
 | 0,_=>rfl
 | 1,_=>rfl
 | 2,_=>rfl
 | 3,_=>rfl
 | 4,_=>rfl
 | 5,_=>rfl
 | 6,_=>rfl
 | 7,_=>rfl
 | 8,_=>rfl
 | 9,_=>rfl
 | 10,_=>rfl
 | 11,_=>rfl
 | 12,_=>rfl
 | 13,_=>rfl
 | 14,_=>rfl
 | 15,_=>rfl
 | 16,_=>rfl
 | 17,_=>rfl
 | 18,_=>rfl
 | 19,_=>rfl
 | 20,_=>rfl
 | 21,_=>rfl
 | 22,_=>rfl
 | 23,_=>rfl
 | 24,_=>rfl
 | _+25,_=>rfl
def Zh:(n:Nat)→Wo n→NR Oc (Ui n)
 | 0,x=>(x.k,x.v,())
 | 1,x=>(x.k,x.v.Id,x.v.App,x.v.Node,x.v.Ku.Mem,x.v.Ku.I_,x.v.J6,x.v.Ji,x.v.Jb,x.v.Mf,())
 | 2,x=>(x.k,x.v,())
 | 3,x=>(())
 | 4,x=>(x.k,x.v,())
 | _+5,_=>()
def Zk:(n:Nat)→NR Oc (Ui n)→Wo n
 | 0,a=>⟨a.1,a.2.1⟩
 | 1,a=>⟨a.1,⟨a.2.1,a.2.2.1,a.2.2.2.1,⟨a.2.2.2.2.1,a.2.2.2.2.2.1⟩,a.2.2.2.2.2.2.1,a.2.2.2.2.2.2.2.1,a.2.2.2.2.2.2.2.2.1,a.2.2.2.2.2.2.2.2.2.1⟩⟩
 | 2,a=>⟨a.1,a.2.1⟩
 | 3,a=>()
 | 4,a=>⟨a.1,a.2.1⟩
 | _+5,_=>()
theorem IG:(n:Nat)→(a:NR Oc (Ui n))→Zh n (Zk n a)=a
 | 0,_=>rfl
 | 1,_=>rfl
 | 2,_=>rfl
 | 3,_=>rfl
 | 4,_=>rfl
 | _+5,_=>rfl
def Zg(b:Bool)(n m:Nat):Wn b n m→NR Oc (Uh b n m):=match b with | false=>Zi n | true=>Zh m
def Zj(b:Bool)(n m:Nat):NR Oc (Uh b n m)→Wn b n m:=match b with | false=>Zl n | true=>Zk m
theorem IH(b:Bool)(n m:Nat):(a:NR Oc (Uh b n m))→Zg b n m (Zj b n m a)=a:=match b with | false=>Iz n | true=>IG m
def acz(n:Nat):Oc n→NR Oc (Xq n):=Zg (Nat.ble 500 n) n (n - 500)
def acA(n:Nat):NR Oc (Xq n)→Oc n:=Zj (Nat.ble 500 n) n (n - 500)
theorem ajA(n:Nat):(a:NR Oc (Xq n))→acz n (acA n a)=a:=IH (Nat.ble 500 n) n (n - 500)
@[reducible] def fam:Fam:=⟨Oc,Xq,acz,acA,ajA⟩
noncomputable def ZO:TI fam:=⟨Tryz.t3.desc,1,8,[.i .i64 0],some (.int .i64),false⟩
noncomputable def abU:TI fam:=⟨Tryz.t4.desc,1,1,[.b false],some (.bool),false⟩
noncomputable def abT:TI fam:=⟨Tryz.t5.desc,1,1,[.i .u8 0],some (.int .u8),false⟩
noncomputable def abS:TI fam:=⟨Tryz.t9.desc,1,16,[.s []],some (.str),false⟩
noncomputable def Yh:TI fam:=⟨Tryz.t21.desc,1,4,[.i .i32 0],some (.int .i32),false⟩
noncomputable def Yg:TI fam:=⟨Tryz.t22.desc,1,24,[.nl],some (.slice (.int .i64)),false⟩
noncomputable def Yf:TI fam:=⟨Tryz.t23.desc,1,24,[.nl],some (.slice (.st 11)),false⟩
noncomputable def Ye:TI fam:=⟨Tryz.t24.desc,3,56,[.i .i64 0,.nl,.nl],some (.st 12),false⟩
noncomputable def Yd:TI fam:=⟨Tryz.t27.desc,1,24,[.nl],some (.slice (.str)),false⟩
noncomputable def Yc:TI fam:=⟨Tryz.t28.desc,1,24,[.nl],some (.slice (.st 2)),false⟩
noncomputable def Yb:TI fam:=⟨Tryz.t29.desc,2,48,[.nl,.nl],some (.st 3),false⟩
noncomputable def Ya:TI fam:=⟨Tryz.t31.desc,1,24,[.nl],some (.slice (.st 4)),false⟩
noncomputable def X_:TI fam:=⟨Tryz.t32.desc,1,24,[.nl],some (.slice (.st 6)),false⟩
noncomputable def X9:TI fam:=⟨Tryz.t33.desc,1,24,[.nl],some (.slice (.st 7)),false⟩
noncomputable def X8:TI fam:=⟨Tryz.t34.desc,1,24,[.nl],some (.slice (.st 8)),false⟩
noncomputable def X7:TI fam:=⟨Tryz.t35.desc,1,24,[.nl],some (.slice (.st 9)),false⟩
noncomputable def X6:TI fam:=⟨Tryz.t36.desc,10,192,[.nl,.nl,.nl,.nl,.nl,.nl,.nl,.i .i64 0,.i .i64 0,.i .i64 0],some (.st 10),false⟩
noncomputable def X5:TI fam:=⟨Tryz.t39.desc,2,16,[.i .i64 0,.i .i64 0],some (.st 0),true⟩
noncomputable def VH:TI fam:=⟨Tryz.t41.desc,8,64,[.i .i64 0,.i .i64 0,.i .i64 0,.i .i64 0,.i .i64 0,.i .i64 0,.i .i64 0,.b false],some (.st 4),false⟩
noncomputable def X4:TI fam:=⟨Tryz.t43.desc,1,24,[.nl],some (.slice (.st 5)),false⟩
noncomputable def TQ:TI fam:=⟨Tryz.t44.desc,14,200,[.i .i64 0,.i .i64 0,.s [],.i .i64 0,.i .i64 0,.i .i64 0,.i .i64 0,.nl,.i .i64 0,.i .i64 0,.nl,.nl,.nl,.nl],some (.st 6),false⟩
noncomputable def VG:TI fam:=⟨Tryz.t46.desc,6,48,[.i .i64 0,.i .i64 0,.i .i64 0,.i .i64 0,.i .i64 0,.i .i64 0],some (.st 9),false⟩
noncomputable def X3:TI fam:=⟨Tryz.t48.desc,35,408,[.i .i64 0,.i .i64 0,.i .i64 0,.i .i64 0,.s [],.i .i64 0,.i .i64 0,.i .i64 0,.i .i64 0,.i .i64 0,.i .i64 0,.i .i64 0,.b false,.i .i64 0,.i .i64 0,.s [],.i .i64 0,.i .i64 0,.i .i64 0,.i .i64 0,.nl,.i .i64 0,.i .i64 0,.nl,.nl,.nl,.nl,.nl,.nl,.i .i64 0,.i .i64 0,.i .i64 0,.i .i64 0,.i .i64 0,.i .i64 0],some (.st 14),false⟩
noncomputable def X0:TI fam:=⟨Tryz.t50.desc,5,40,[.i .i64 0,.i .i64 0,.i .i64 0,.i .i64 0,.i .i64 0],some (.st 11),false⟩
noncomputable def XZ:TI fam:=⟨Tryz.t3.desc,1,8,[.i .i64 0],some (.int .i64),false⟩
noncomputable def XY:TI fam:=⟨Tryz.t54.desc,5,88,[.i .i64 0,.nl,.nl,.nl,.i .i64 0],some (.st 13),false⟩
noncomputable def TP:TI fam:=⟨Tryz.t58.desc,9,72,[.i .i64 0,.i .i64 0,.i .i64 0,.i .i64 0,.i .i64 0,.i .i64 0,.i .i64 0,.b false,.i .i64 0],some (.st 7),false⟩
noncomputable def TN:TI fam:=⟨Tryz.t64.desc,8,64,[.i .i64 0,.i .i64 0,.i .i64 0,.i .i64 0,.i .i64 0,.i .i64 0,.i .i64 0,.i .i64 0],some (.st 5),false⟩
noncomputable def XW:TI fam:=⟨Tryz.t68.desc,1,24,[.nl],some (.slice (.st 14)),false⟩
noncomputable def XV:TI fam:=⟨Tryz.t70.desc,2,16,[.i .i64 0,.i .i64 0],some (.st 1),false⟩
noncomputable def XU:TI fam:=⟨Tryz.t72.desc,1,24,[.nl],some (.slice (.st 1)),false⟩
noncomputable def XT:TI fam:=⟨Tryz.t73.desc,3,48,[.s [],.nl,.i .i64 0],some (.st 2),false⟩
noncomputable def XR:TI fam:=⟨Tryz.t80.desc,1,8,[.v (.pointer none)],none,false⟩
noncomputable def XQ:TI fam:=⟨Tryz.t82.desc,45,600,[.nl,.nl,.nl,.nl,.nl,.nl,.nl,.i .i64 0,.i .i64 0,.i .i64 0,.i .i64 0,.i .i64 0,.i .i64 0,.i .i64 0,.s [],.i .i64 0,.i .i64 0,.i .i64 0,.i .i64 0,.i .i64 0,.i .i64 0,.i .i64 0,.b false,.i .i64 0,.i .i64 0,.s [],.i .i64 0,.i .i64 0,.i .i64 0,.i .i64 0,.nl,.i .i64 0,.i .i64 0,.nl,.nl,.nl,.nl,.nl,.nl,.i .i64 0,.i .i64 0,.i .i64 0,.i .i64 0,.i .i64 0,.i .i64 0],some (.st 19),false⟩
noncomputable def XP:TI fam:=⟨Tryz.t86.desc,10,192,[.nl,.nl,.nl,.nl,.nl,.nl,.nl,.i .i64 0,.i .i64 0,.i .i64 0],some (.st 24),false⟩
noncomputable def TM:TI fam:=⟨Tryz.t96.desc,3,24,[.i .i64 0,.i .i64 0,.i .i64 0],some (.st 8),false⟩
noncomputable def DL:TI fam:=⟨Tryz.t100.desc,1,24,[.nl],some (.slice (.st 0)),false⟩
noncomputable def CP:TI fam:=⟨Tryz.t102.desc,1,24,[.nl],some (.slice (.slice (.str))),false⟩
noncomputable def Di:TI fam:=⟨Tryz.t130.desc,1,24,[.nl],some (.slice (.int .u8)),false⟩
noncomputable def CW:TI fam:=⟨Tryz.t177.desc,1,8,[.v (.map none)],some (.slice (.st 500)),false⟩
noncomputable def CL:TI fam:=⟨Tryz.t39.desc,2,16,[.i .i64 0,.i .i64 0],some (.st 0),false⟩
noncomputable def Dk:TI fam:=⟨Tryz.t190.desc,1,8,[.v (.pointer none)],none,false⟩
noncomputable def DK:TI fam:=⟨Tryz.t191.desc,3,56,[.nl,.nl,.b false],some (.st 18),false⟩
noncomputable def DG:TI fam:=⟨Tryz.t3.desc,1,8,[.i .i64 0],some (.int .i64),false⟩
noncomputable def Dh:TI fam:=⟨Tryz.t209.desc,1,8,[.v (.map none)],some (.slice (.st 502)),false⟩
noncomputable def CM:TI fam:=⟨Tryz.t224.desc,1,8,[.v (.pointer none)],none,false⟩
noncomputable def Du:TI fam:=⟨Tryz.t225.desc,20,272,[.nl,.nl,.nl,.nl,.nl,.nl,.nl,.i .i64 0,.i .i64 0,.i .i64 0,.i .i64 0,.i .i64 0,.i .i64 0,.i .i64 0,.i .i64 0,.i .i64 0,.i .i64 0,.b false,.i .i64 0,.i .i64 0],some (.st 20),false⟩
noncomputable def Dd:TI fam:=⟨Tryz.t242.desc,1,8,[.v (.pointer none)],none,false⟩
noncomputable def DQ:TI fam:=⟨Tryz.t245.desc,1,8,[.v (.map none)],some (.slice (.st 504)),false⟩
noncomputable def CY:TI fam:=⟨Tryz.t246.desc,15,232,[.nl,.nl,.nl,.nl,.nl,.nl,.nl,.i .i64 0,.i .i64 0,.i .i64 0,.i .i64 0,.v (.map none),.v (.map none),.v (.map none),.i .i64 0],some (.st 23),false⟩
noncomputable def DN:TI fam:=⟨Tryz.t252.desc,1,8,[.i .u64 0],some (.int .u64),false⟩
noncomputable def Cy:TI fam:=⟨Tryz.t277.desc,1,24,[.nl],some (.slice (.st 15)),false⟩
noncomputable def C5:TI fam:=⟨Tryz.t280.desc,2,24,[.s [],.i .i64 0],some (.st 15),false⟩
noncomputable def Cw:TI fam:=⟨Tryz.t284.desc,1,8,[.v (.map none)],some (.slice (.st 501)),false⟩
noncomputable def Co:TI fam:=⟨Tryz.t294.desc,1,4,[.i .u32 0],some (.int .u32),false⟩
noncomputable def CG:TI fam:=⟨Tryz.t296.desc,1,8,[.i .u64 0],some (.int .u64),false⟩
noncomputable def Cx:TI fam:=⟨Tryz.t320.desc,13,224,[.nl,.nl,.nl,.nl,.nl,.nl,.nl,.i .i64 0,.i .i64 0,.i .i64 0,.s [],.i .i64 0,.i .i64 0],some (.st 16),false⟩
noncomputable def CA:TI fam:=⟨Tryz.t70.desc,2,16,[.i .i64 0,.i .i64 0],some (.st 1),false⟩
noncomputable def Ce:TI fam:=⟨Tryz.t352.desc,1,24,[.nl],some (.slice (.slice (.int .i64))),false⟩
noncomputable def C8:TI fam:=⟨Tryz.t365.desc,256,256,[.i .u8 0,.i .u8 0,.i .u8 0,.i .u8 0,.i .u8 0,.i .u8 0,.i .u8 0,.i .u8 0,.i .u8 0,.i .u8 0,.i .u8 0,.i .u8 0,.i .u8 0,.i .u8 0,.i .u8 0,.i .u8 0,.i .u8 0,.i .u8 0,.i .u8 0,.i .u8 0,.i .u8 0,.i .u8 0,.i .u8 0,.i .u8 0,.i .u8 0,.i .u8 0,.i .u8 0,.i .u8 0,.i .u8 0,.i .u8 0,.i .u8 0,.i .u8 0,.i .u8 0,.i .u8 0,.i .u8 0,.i .u8 0,.i .u8 0,.i .u8 0,.i .u8 0,.i .u8 0,.i .u8 0,.i .u8 0,.i .u8 0,.i .u8 0,.i .u8 0,.i .u8 0,.i .u8 0,.i .u8 0,.i .u8 0,.i .u8 0,.i .u8 0,.i .u8 0,.i .u8 0,.i .u8 0,.i .u8 0,.i .u8 0,.i .u8 0,.i .u8 0,.i .u8 0,.i .u8 0,.i .u8 0,.i .u8 0,.i .u8 0,.i .u8 0,.i .u8 0,.i .u8 0,.i .u8 0,.i .u8 0,.i .u8 0,.i .u8 0,.i .u8 0,.i .u8 0,.i .u8 0,.i .u8 0,.i .u8 0,.i .u8 0,.i .u8 0,.i .u8 0,.i .u8 0,.i .u8 0,.i .u8 0,.i .u8 0,.i .u8 0,.i .u8 0,.i .u8 0,.i .u8 0,.i .u8 0,.i .u8 0,.i .u8 0,.i .u8 0,.i .u8 0,.i .u8 0,.i .u8 0,.i .u8 0,.i .u8 0,.i .u8 0,.i .u8 0,.i .u8 0,.i .u8 0,.i .u8 0,.i .u8 0,.i .u8 0,.i .u8 0,.i .u8 0,.i .u8 0,.i .u8 0,.i .u8 0,.i .u8 0,.i .u8 0,.i .u8 0,.i .u8 0,.i .u8 0,.i .u8 0,.i .u8 0,.i .u8 0,.i .u8 0,.i .u8 0,.i .u8 0,.i .u8 0,.i .u8 0,.i .u8 0,.i .u8 0,.i .u8 0,.i .u8 0,.i .u8 0,.i .u8 0,.i .u8 0,.i .u8 0,.i .u8 0,.i .u8 0,.i .u8 0,.i .u8 0,.i .u8 0,.i .u8 0,.i .u8 0,.i .u8 0,.i .u8 0,.i .u8 0,.i .u8 0,.i .u8 0,.i .u8 0,.i .u8 0,.i .u8 0,.i .u8 0,.i .u8 0,.i .u8 0,.i .u8 0,.i .u8 0,.i .u8 0,.i .u8 0,.i .u8 0,.i .u8 0,.i .u8 0,.i .u8 0,.i .u8 0,.i .u8 0,.i .u8 0,.i .u8 0,.i .u8 0,.i .u8 0,.i .u8 0,.i .u8 0,.i .u8 0,.i .u8 0,.i .u8 0,.i .u8 0,.i .u8 0,.i .u8 0,.i .u8 0,.i .u8 0,.i .u8 0,.i .u8 0,.i .u8 0,.i .u8 0,.i .u8 0,.i .u8 0,.i .u8 0,.i .u8 0,.i .u8 0,.i .u8 0,.i .u8 0,.i .u8 0,.i .u8 0,.i .u8 0,.i .u8 0,.i .u8 0,.i .u8 0,.i .u8 0,.i .u8 0,.i .u8 0,.i .u8 0,.i .u8 0,.i .u8 0,.i .u8 0,.i .u8 0,.i .u8 0,.i .u8 0,.i .u8 0,.i .u8 0,.i .u8 0,.i .u8 0,.i .u8 0,.i .u8 0,.i .u8 0,.i .u8 0,.i .u8 0,.i .u8 0,.i .u8 0,.i .u8 0,.i .u8 0,.i .u8 0,.i .u8 0,.i .u8 0,.i .u8 0,.i .u8 0,.i .u8 0,.i .u8 0,.i .u8 0,.i .u8 0,.i .u8 0,.i .u8 0,.i .u8 0,.i .u8 0,.i .u8 0,.i .u8 0,.i .u8 0,.i .u8 0,.i .u8 0,.i .u8 0,.i .u8 0,.i .u8 0,.i .u8 0,.i .u8 0,.i .u8 0,.i .u8 0,.i .u8 0,.i .u8 0,.i .u8 0,.i .u8 0,.i .u8 0,.i .u8 0,.i .u8 0,.i .u8 0,.i .u8 0,.i .u8 0,.i .u8 0,.i .u8 0,.i .u8 0,.i .u8 0,.i .u8 0,.i .u8 0,.i .u8 0,.i .u8 0,.i .u8 0,.i .u8 0,.i .u8 0],none,false⟩
noncomputable def CZ:TI fam:=⟨Tryz.t369.desc,1,24,[.nl],some (.slice (.st 17)),false⟩
noncomputable def Cn:TI fam:=⟨Tryz.t370.desc,5,48,[.s [],.i .i64 0,.i .i64 0,.i .i64 0,.i .i64 0],some (.st 17),false⟩
noncomputable def Ck:TI fam:=⟨Tryz.t406.desc,2,16,[.i .u64 0,.i .u64 0],some (.st 21),false⟩
noncomputable def tbl:List (Nat×TI fam):=[(3,ZO),(4,abU),(5,abT),(9,abS),(21,Yh),(22,Yg),(23,Yf),(25,Ye),(27,Yd),(28,Yc),(30,Yb),(31,Ya),(32,X_),(33,X9),(34,X8),(35,X7),(37,X6),(40,X5),(42,VH),(43,X4),(45,TQ),(47,VG),(49,X3),(51,X0),(53,XZ),(55,XY),(59,TP),(65,TN),(68,XW),(71,XV),(72,XU),(74,XT),(80,XR),(83,XQ),(87,XP),(97,TM),(100,DL),(102,CP),(130,Di),(177,CW),(184,CL),(190,Dk),(192,DK),(198,DG),(209,Dh),(224,CM),(226,Du),(242,Dd),(245,DQ),(247,CY),(252,DN),(277,Cy),(281,C5),(284,Cw),(294,Co),(296,CG),(321,Cx),(340,CA),(352,Ce),(365,C8),(369,CZ),(371,Cn),(407,Ck)]
end Go.Fx.D
