/-
  The types of the seat as plain Lean types, and its table of types (printed by a program). Conditions: none.
-/
import Derived.Test.YtppllkbjijfocaaGreatDoorFxA
import Derived.Test.YtppllkbjijfocaaGreatDoorProg
namespace Go.Fx.D
open Go Go.Fx Go.Proofs
set_option linter.unusedVariables false
structure Vec where
 Mem:Int
 IZ:Int
structure Cap where
 Ls:Int
 Most:Int
structure I4 where
 J_:List UInt8
 KU:List Cap
 User:Int
structure I6 where
 I7:List (List UInt8)
 IX:List I4
structure Node where
 Id:Int
 I_:Int
 KF:Int
 Cap:Vec
 Kz:Int
 J6:Int
 Up:Bool
structure Ask where
 Jt:Int
 I_:Int
 Kj:Vec
 KC:Int
 Node:Int
 KF:Int
 Nh:Int
structure App where
 Id:Int
 GN:Int
 I4:List UInt8
 User:Int
 Jt:Int
 I5:Vec
 Ju:List Ask
 Kz:Int
 J6:Int
 Ke:List Int
 KE:List Int
 Told:List Int
 Lg:List Int
structure Cont where
 Id:Int
 App:Int
 Node:Int
 Kj:Vec
 Jt:Int
 I_:Int
 I5:Bool
 L_:Int
structure Slot where
 Node:Int
 App:Int
 Jt:Int
structure Jd where
 Id:Int
 I_:Int
 From:Int
 Until:Int
 Need:Vec
structure GN where
 I6:I6
 Jb:List Node
 IY:List App
 IW:List Cont
 Jj:List Slot
 Ji:List Jd
 Now:Int
 Jq:Int
 Seq:Int
structure Act where
 Kind:Int
 A:Int
 B:Int
 C:Int
 D:Int
structure Script where
 Shape:Int
 Ns:List Int
 Vm:List Act
structure Output where
 Err:Int
 IW:List Cont
 Ids:List Int
 Gone:List Int
 N:Int
structure Input where
 Kind:Int
 Id:Int
 J6:Int
 N:Int
 Text:List UInt8
 Node:Node
 App:App
 Ju:List Ask
 Ids:List Int
 Jd:Jd
structure LZ where
 J_:List UInt8
 Mem:Int
structure View where
 s:GN
 Ki:List UInt8
 label:Int
 user:Int
structure Load where
 Ki:List UInt8
 used:Vec
 least:Vec
structure Reader where
 c:I6
 seen:Bool
structure Step where
 s:GN
 x:Input
structure Attempt where
 s:GN
 n:Node
 free:Vec
structure OG where
 n:Int
 of:Int
structure KY where
 r0:List Int
 r1:List Int
 r2:List Int
structure I9 where
 k:List UInt8
 v:Int
structure Kt where
 k:Int
 v:List UInt8
structure Kk where
 k:Int
 v:Int
structure Jv where
 s:GN
 label:Int
 over:List I9
 leaf:List Kt
 Lh:List Kk
 gone:Int
structure Look where
 s:GN
structure Jl where
 k:List UInt8
 v:Cont
@[reducible] def Wi:Nat→Type
 | 0=>Vec
 | 1=>Cap
 | 2=>I4
 | 3=>I6
 | 4=>Node
 | 5=>Ask
 | 6=>App
 | 7=>Cont
 | 8=>Slot
 | 9=>Jd
 | 10=>GN
 | 11=>Act
 | 12=>Script
 | 13=>Output
 | 14=>Input
 | 15=>LZ
 | 16=>View
 | 17=>Load
 | 18=>Reader
 | 19=>Step
 | 20=>Attempt
 | 21=>OG
 | 22=>KY
 | 23=>Jv
 | 24=>Look
 | _=>Unit
@[reducible] def Wh:Nat→Type
 | 0=>I9
 | 1=>Jl
 | 2=>Kk
 | 4=>Kt
 | _=>Unit
@[reducible] def Wd(b:Bool)(n m:Nat):Type:=match b with | false=>Wi n | true=>Wh m
@[reducible] def N7(n:Nat):Type:=Wd (Nat.ble 500 n) n (n - 500)
@[reducible] def Ud:Nat→List Ty
 | 0=>[.int .i64,.int .i64]
 | 1=>[.int .i64,.int .i64]
 | 2=>[.str,.slice (.st 1),.int .i64]
 | 3=>[.slice (.str),.slice (.st 2)]
 | 4=>[.int .i64,.int .i64,.int .i64,.int .i64,.int .i64,.int .i64,.int .i64,.bool]
 | 5=>[.int .i64,.int .i64,.int .i64,.int .i64,.int .i64,.int .i64,.int .i64,.int .i64]
 | 6=>[.int .i64,.int .i64,.str,.int .i64,.int .i64,.int .i64,.int .i64,.slice (.st 5),.int .i64,.int .i64,.slice (.int .i64),.slice (.int .i64),.slice (.int .i64),.slice (.int .i64)]
 | 7=>[.int .i64,.int .i64,.int .i64,.int .i64,.int .i64,.int .i64,.int .i64,.bool,.int .i64]
 | 8=>[.int .i64,.int .i64,.int .i64]
 | 9=>[.int .i64,.int .i64,.int .i64,.int .i64,.int .i64,.int .i64]
 | 10=>[.slice (.str),.slice (.st 2),.slice (.st 4),.slice (.st 6),.slice (.st 7),.slice (.st 8),.slice (.st 9),.int .i64,.int .i64,.int .i64]
 | 11=>[.int .i64,.int .i64,.int .i64,.int .i64,.int .i64]
 | 12=>[.int .i64,.slice (.int .i64),.slice (.st 11)]
 | 13=>[.int .i64,.slice (.st 7),.slice (.int .i64),.slice (.int .i64),.int .i64]
 | 14=>[.int .i64,.int .i64,.int .i64,.int .i64,.str,.int .i64,.int .i64,.int .i64,.int .i64,.int .i64,.int .i64,.int .i64,.bool,.int .i64,.int .i64,.str,.int .i64,.int .i64,.int .i64,.int .i64,.slice (.st 5),.int .i64,.int .i64,.slice (.int .i64),.slice (.int .i64),.slice (.int .i64),.slice (.int .i64),.slice (.st 5),.slice (.int .i64),.int .i64,.int .i64,.int .i64,.int .i64,.int .i64,.int .i64]
 | 15=>[.str,.int .i64]
 | 16=>[.slice (.str),.slice (.st 2),.slice (.st 4),.slice (.st 6),.slice (.st 7),.slice (.st 8),.slice (.st 9),.int .i64,.int .i64,.int .i64,.str,.int .i64,.int .i64]
 | 17=>[.str,.int .i64,.int .i64,.int .i64,.int .i64]
 | 18=>[.slice (.str),.slice (.st 2),.bool]
 | 19=>[.slice (.str),.slice (.st 2),.slice (.st 4),.slice (.st 6),.slice (.st 7),.slice (.st 8),.slice (.st 9),.int .i64,.int .i64,.int .i64,.int .i64,.int .i64,.int .i64,.int .i64,.str,.int .i64,.int .i64,.int .i64,.int .i64,.int .i64,.int .i64,.int .i64,.bool,.int .i64,.int .i64,.str,.int .i64,.int .i64,.int .i64,.int .i64,.slice (.st 5),.int .i64,.int .i64,.slice (.int .i64),.slice (.int .i64),.slice (.int .i64),.slice (.int .i64),.slice (.st 5),.slice (.int .i64),.int .i64,.int .i64,.int .i64,.int .i64,.int .i64,.int .i64]
 | 20=>[.slice (.str),.slice (.st 2),.slice (.st 4),.slice (.st 6),.slice (.st 7),.slice (.st 8),.slice (.st 9),.int .i64,.int .i64,.int .i64,.int .i64,.int .i64,.int .i64,.int .i64,.int .i64,.int .i64,.int .i64,.bool,.int .i64,.int .i64]
 | 21=>[.int .u64,.int .u64]
 | 22=>[.slice (.int .i64),.slice (.int .i64),.slice (.int .i64)]
 | 23=>[.slice (.str),.slice (.st 2),.slice (.st 4),.slice (.st 6),.slice (.st 7),.slice (.st 8),.slice (.st 9),.int .i64,.int .i64,.int .i64,.int .i64,.slice (.st 500),.slice (.st 504),.slice (.st 502),.int .i64]
 | 24=>[.slice (.str),.slice (.st 2),.slice (.st 4),.slice (.st 6),.slice (.st 7),.slice (.st 8),.slice (.st 9),.int .i64,.int .i64,.int .i64]
 | _=>[]
@[reducible] def Uc:Nat→List Ty
 | 0=>[.str,.int .i64]
 | 1=>[.str,.int .i64,.int .i64,.int .i64,.int .i64,.int .i64,.int .i64,.int .i64,.bool,.int .i64]
 | 2=>[.int .i64,.int .i64]
 | 4=>[.int .i64,.str]
 | _=>[]
@[reducible] def Ub(b:Bool)(n m:Nat):List Ty:=match b with | false=>Ud n | true=>Uc m
@[reducible] def Xl(n:Nat):List Ty:=Ub (Nat.ble 500 n) n (n - 500)
def Zc:(n:Nat)→Wi n→NJ N7 (Ud n)
 | 0,x=>(x.Mem,x.IZ,())
 | 1,x=>(x.Ls,x.Most,())
 | 2,x=>(x.J_,x.KU,x.User,())
 | 3,x=>(x.I7,x.IX,())
 | 4,x=>(x.Id,x.I_,x.KF,x.Cap.Mem,x.Cap.IZ,x.Kz,x.J6,x.Up,())
 | 5,x=>(x.Jt,x.I_,x.Kj.Mem,x.Kj.IZ,x.KC,x.Node,x.KF,x.Nh,())
 | 6,x=>(x.Id,x.GN,x.I4,x.User,x.Jt,x.I5.Mem,x.I5.IZ,x.Ju,x.Kz,x.J6,x.Ke,x.KE,x.Told,x.Lg,())
 | 7,x=>(x.Id,x.App,x.Node,x.Kj.Mem,x.Kj.IZ,x.Jt,x.I_,x.I5,x.L_,())
 | 8,x=>(x.Node,x.App,x.Jt,())
 | 9,x=>(x.Id,x.I_,x.From,x.Until,x.Need.Mem,x.Need.IZ,())
 | 10,x=>(x.I6.I7,x.I6.IX,x.Jb,x.IY,x.IW,x.Jj,x.Ji,x.Now,x.Jq,x.Seq,())
 | 11,x=>(x.Kind,x.A,x.B,x.C,x.D,())
 | 12,x=>(x.Shape,x.Ns,x.Vm,())
 | 13,x=>(x.Err,x.IW,x.Ids,x.Gone,x.N,())
 | 14,x=>(x.Kind,x.Id,x.J6,x.N,x.Text,x.Node.Id,x.Node.I_,x.Node.KF,x.Node.Cap.Mem,x.Node.Cap.IZ,x.Node.Kz,x.Node.J6,x.Node.Up,x.App.Id,x.App.GN,x.App.I4,x.App.User,x.App.Jt,x.App.I5.Mem,x.App.I5.IZ,x.App.Ju,x.App.Kz,x.App.J6,x.App.Ke,x.App.KE,x.App.Told,x.App.Lg,x.Ju,x.Ids,x.Jd.Id,x.Jd.I_,x.Jd.From,x.Jd.Until,x.Jd.Need.Mem,x.Jd.Need.IZ,())
 | 15,x=>(x.J_,x.Mem,())
 | 16,x=>(x.s.I6.I7,x.s.I6.IX,x.s.Jb,x.s.IY,x.s.IW,x.s.Jj,x.s.Ji,x.s.Now,x.s.Jq,x.s.Seq,x.Ki,x.label,x.user,())
 | 17,x=>(x.Ki,x.used.Mem,x.used.IZ,x.least.Mem,x.least.IZ,())
 | 18,x=>(x.c.I7,x.c.IX,x.seen,())
 | 19,x=>(x.s.I6.I7,x.s.I6.IX,x.s.Jb,x.s.IY,x.s.IW,x.s.Jj,x.s.Ji,x.s.Now,x.s.Jq,x.s.Seq,x.x.Kind,x.x.Id,x.x.J6,x.x.N,x.x.Text,x.x.Node.Id,x.x.Node.I_,x.x.Node.KF,x.x.Node.Cap.Mem,x.x.Node.Cap.IZ,x.x.Node.Kz,x.x.Node.J6,x.x.Node.Up,x.x.App.Id,x.x.App.GN,x.x.App.I4,x.x.App.User,x.x.App.Jt,x.x.App.I5.Mem,x.x.App.I5.IZ,x.x.App.Ju,x.x.App.Kz,x.x.App.J6,x.x.App.Ke,x.x.App.KE,x.x.App.Told,x.x.App.Lg,x.x.Ju,x.x.Ids,x.x.Jd.Id,x.x.Jd.I_,x.x.Jd.From,x.x.Jd.Until,x.x.Jd.Need.Mem,x.x.Jd.Need.IZ,())
 | 20,x=>(x.s.I6.I7,x.s.I6.IX,x.s.Jb,x.s.IY,x.s.IW,x.s.Jj,x.s.Ji,x.s.Now,x.s.Jq,x.s.Seq,x.n.Id,x.n.I_,x.n.KF,x.n.Cap.Mem,x.n.Cap.IZ,x.n.Kz,x.n.J6,x.n.Up,x.free.Mem,x.free.IZ,())
 | 21,x=>(x.n,x.of,())
 | 22,x=>(x.r0,x.r1,x.r2,())
 | 23,x=>(x.s.I6.I7,x.s.I6.IX,x.s.Jb,x.s.IY,x.s.IW,x.s.Jj,x.s.Ji,x.s.Now,x.s.Jq,x.s.Seq,x.label,x.over,x.leaf,x.Lh,x.gone,())
 | 24,x=>(x.s.I6.I7,x.s.I6.IX,x.s.Jb,x.s.IY,x.s.IW,x.s.Jj,x.s.Ji,x.s.Now,x.s.Jq,x.s.Seq,())
 | _+25,_=>()
def Zf:(n:Nat)→NJ N7 (Ud n)→Wi n
 | 0,a=>⟨a.1,a.2.1⟩
 | 1,a=>⟨a.1,a.2.1⟩
 | 2,a=>⟨a.1,a.2.1,a.2.2.1⟩
 | 3,a=>⟨a.1,a.2.1⟩
 | 4,a=>⟨a.1,a.2.1,a.2.2.1,⟨a.2.2.2.1,a.2.2.2.2.1⟩,a.2.2.2.2.2.1,a.2.2.2.2.2.2.1,a.2.2.2.2.2.2.2.1⟩
 | 5,a=>⟨a.1,a.2.1,⟨a.2.2.1,a.2.2.2.1⟩,a.2.2.2.2.1,a.2.2.2.2.2.1,a.2.2.2.2.2.2.1,a.2.2.2.2.2.2.2.1⟩
 | 6,a=>⟨a.1,a.2.1,a.2.2.1,a.2.2.2.1,a.2.2.2.2.1,⟨a.2.2.2.2.2.1,a.2.2.2.2.2.2.1⟩,a.2.2.2.2.2.2.2.1,a.2.2.2.2.2.2.2.2.1,a.2.2.2.2.2.2.2.2.2.1,a.2.2.2.2.2.2.2.2.2.2.1,a.2.2.2.2.2.2.2.2.2.2.2.1,a.2.2.2.2.2.2.2.2.2.2.2.2.1,a.2.2.2.2.2.2.2.2.2.2.2.2.2.1⟩
 | 7,a=>⟨a.1,a.2.1,a.2.2.1,⟨a.2.2.2.1,a.2.2.2.2.1⟩,a.2.2.2.2.2.1,a.2.2.2.2.2.2.1,a.2.2.2.2.2.2.2.1,a.2.2.2.2.2.2.2.2.1⟩
 | 8,a=>⟨a.1,a.2.1,a.2.2.1⟩
 | 9,a=>⟨a.1,a.2.1,a.2.2.1,a.2.2.2.1,⟨a.2.2.2.2.1,a.2.2.2.2.2.1⟩⟩
 | 10,a=>⟨⟨a.1,a.2.1⟩,a.2.2.1,a.2.2.2.1,a.2.2.2.2.1,a.2.2.2.2.2.1,a.2.2.2.2.2.2.1,a.2.2.2.2.2.2.2.1,a.2.2.2.2.2.2.2.2.1,a.2.2.2.2.2.2.2.2.2.1⟩
 | 11,a=>⟨a.1,a.2.1,a.2.2.1,a.2.2.2.1,a.2.2.2.2.1⟩
 | 12,a=>⟨a.1,a.2.1,a.2.2.1⟩
 | 13,a=>⟨a.1,a.2.1,a.2.2.1,a.2.2.2.1,a.2.2.2.2.1⟩
 | 14,a=>⟨a.1,a.2.1,a.2.2.1,a.2.2.2.1,a.2.2.2.2.1,⟨a.2.2.2.2.2.1,a.2.2.2.2.2.2.1,a.2.2.2.2.2.2.2.1,⟨a.2.2.2.2.2.2.2.2.1,a.2.2.2.2.2.2.2.2.2.1⟩,a.2.2.2.2.2.2.2.2.2.2.1,a.2.2.2.2.2.2.2.2.2.2.2.1,a.2.2.2.2.2.2.2.2.2.2.2.2.1⟩,⟨a.2.2.2.2.2.2.2.2.2.2.2.2.2.1,a.2.2.2.2.2.2.2.2.2.2.2.2.2.2.1,a.2.2.2.2.2.2.2.2.2.2.2.2.2.2.2.1,a.2.2.2.2.2.2.2.2.2.2.2.2.2.2.2.2.1,a.2.2.2.2.2.2.2.2.2.2.2.2.2.2.2.2.2.1,⟨a.2.2.2.2.2.2.2.2.2.2.2.2.2.2.2.2.2.2.1,a.2.2.2.2.2.2.2.2.2.2.2.2.2.2.2.2.2.2.2.1⟩,a.2.2.2.2.2.2.2.2.2.2.2.2.2.2.2.2.2.2.2.2.1,a.2.2.2.2.2.2.2.2.2.2.2.2.2.2.2.2.2.2.2.2.2.1,a.2.2.2.2.2.2.2.2.2.2.2.2.2.2.2.2.2.2.2.2.2.2.1,a.2.2.2.2.2.2.2.2.2.2.2.2.2.2.2.2.2.2.2.2.2.2.2.1,a.2.2.2.2.2.2.2.2.2.2.2.2.2.2.2.2.2.2.2.2.2.2.2.2.1,a.2.2.2.2.2.2.2.2.2.2.2.2.2.2.2.2.2.2.2.2.2.2.2.2.2.1,a.2.2.2.2.2.2.2.2.2.2.2.2.2.2.2.2.2.2.2.2.2.2.2.2.2.2.1⟩,a.2.2.2.2.2.2.2.2.2.2.2.2.2.2.2.2.2.2.2.2.2.2.2.2.2.2.2.1,a.2.2.2.2.2.2.2.2.2.2.2.2.2.2.2.2.2.2.2.2.2.2.2.2.2.2.2.2.1,⟨a.2.2.2.2.2.2.2.2.2.2.2.2.2.2.2.2.2.2.2.2.2.2.2.2.2.2.2.2.2.1,a.2.2.2.2.2.2.2.2.2.2.2.2.2.2.2.2.2.2.2.2.2.2.2.2.2.2.2.2.2.2.1,a.2.2.2.2.2.2.2.2.2.2.2.2.2.2.2.2.2.2.2.2.2.2.2.2.2.2.2.2.2.2.2.1,a.2.2.2.2.2.2.2.2.2.2.2.2.2.2.2.2.2.2.2.2.2.2.2.2.2.2.2.2.2.2.2.2.1,⟨a.2.2.2.2.2.2.2.2.2.2.2.2.2.2.2.2.2.2.2.2.2.2.2.2.2.2.2.2.2.2.2.2.2.1,a.2.2.2.2.2.2.2.2.2.2.2.2.2.2.2.2.2.2.2.2.2.2.2.2.2.2.2.2.2.2.2.2.2.2.1⟩⟩⟩
 | 15,a=>⟨a.1,a.2.1⟩
 | 16,a=>⟨⟨⟨a.1,a.2.1⟩,a.2.2.1,a.2.2.2.1,a.2.2.2.2.1,a.2.2.2.2.2.1,a.2.2.2.2.2.2.1,a.2.2.2.2.2.2.2.1,a.2.2.2.2.2.2.2.2.1,a.2.2.2.2.2.2.2.2.2.1⟩,a.2.2.2.2.2.2.2.2.2.2.1,a.2.2.2.2.2.2.2.2.2.2.2.1,a.2.2.2.2.2.2.2.2.2.2.2.2.1⟩
 | 17,a=>⟨a.1,⟨a.2.1,a.2.2.1⟩,⟨a.2.2.2.1,a.2.2.2.2.1⟩⟩
 | 18,a=>⟨⟨a.1,a.2.1⟩,a.2.2.1⟩
 | 19,a=>⟨⟨⟨a.1,a.2.1⟩,a.2.2.1,a.2.2.2.1,a.2.2.2.2.1,a.2.2.2.2.2.1,a.2.2.2.2.2.2.1,a.2.2.2.2.2.2.2.1,a.2.2.2.2.2.2.2.2.1,a.2.2.2.2.2.2.2.2.2.1⟩,⟨a.2.2.2.2.2.2.2.2.2.2.1,a.2.2.2.2.2.2.2.2.2.2.2.1,a.2.2.2.2.2.2.2.2.2.2.2.2.1,a.2.2.2.2.2.2.2.2.2.2.2.2.2.1,a.2.2.2.2.2.2.2.2.2.2.2.2.2.2.1,⟨a.2.2.2.2.2.2.2.2.2.2.2.2.2.2.2.1,a.2.2.2.2.2.2.2.2.2.2.2.2.2.2.2.2.1,a.2.2.2.2.2.2.2.2.2.2.2.2.2.2.2.2.2.1,⟨a.2.2.2.2.2.2.2.2.2.2.2.2.2.2.2.2.2.2.1,a.2.2.2.2.2.2.2.2.2.2.2.2.2.2.2.2.2.2.2.1⟩,a.2.2.2.2.2.2.2.2.2.2.2.2.2.2.2.2.2.2.2.2.1,a.2.2.2.2.2.2.2.2.2.2.2.2.2.2.2.2.2.2.2.2.2.1,a.2.2.2.2.2.2.2.2.2.2.2.2.2.2.2.2.2.2.2.2.2.2.1⟩,⟨a.2.2.2.2.2.2.2.2.2.2.2.2.2.2.2.2.2.2.2.2.2.2.2.1,a.2.2.2.2.2.2.2.2.2.2.2.2.2.2.2.2.2.2.2.2.2.2.2.2.1,a.2.2.2.2.2.2.2.2.2.2.2.2.2.2.2.2.2.2.2.2.2.2.2.2.2.1,a.2.2.2.2.2.2.2.2.2.2.2.2.2.2.2.2.2.2.2.2.2.2.2.2.2.2.1,a.2.2.2.2.2.2.2.2.2.2.2.2.2.2.2.2.2.2.2.2.2.2.2.2.2.2.2.1,⟨a.2.2.2.2.2.2.2.2.2.2.2.2.2.2.2.2.2.2.2.2.2.2.2.2.2.2.2.2.1,a.2.2.2.2.2.2.2.2.2.2.2.2.2.2.2.2.2.2.2.2.2.2.2.2.2.2.2.2.2.1⟩,a.2.2.2.2.2.2.2.2.2.2.2.2.2.2.2.2.2.2.2.2.2.2.2.2.2.2.2.2.2.2.1,a.2.2.2.2.2.2.2.2.2.2.2.2.2.2.2.2.2.2.2.2.2.2.2.2.2.2.2.2.2.2.2.1,a.2.2.2.2.2.2.2.2.2.2.2.2.2.2.2.2.2.2.2.2.2.2.2.2.2.2.2.2.2.2.2.2.1,a.2.2.2.2.2.2.2.2.2.2.2.2.2.2.2.2.2.2.2.2.2.2.2.2.2.2.2.2.2.2.2.2.2.1,a.2.2.2.2.2.2.2.2.2.2.2.2.2.2.2.2.2.2.2.2.2.2.2.2.2.2.2.2.2.2.2.2.2.2.1,a.2.2.2.2.2.2.2.2.2.2.2.2.2.2.2.2.2.2.2.2.2.2.2.2.2.2.2.2.2.2.2.2.2.2.2.1,a.2.2.2.2.2.2.2.2.2.2.2.2.2.2.2.2.2.2.2.2.2.2.2.2.2.2.2.2.2.2.2.2.2.2.2.2.1⟩,a.2.2.2.2.2.2.2.2.2.2.2.2.2.2.2.2.2.2.2.2.2.2.2.2.2.2.2.2.2.2.2.2.2.2.2.2.2.1,a.2.2.2.2.2.2.2.2.2.2.2.2.2.2.2.2.2.2.2.2.2.2.2.2.2.2.2.2.2.2.2.2.2.2.2.2.2.2.1,⟨a.2.2.2.2.2.2.2.2.2.2.2.2.2.2.2.2.2.2.2.2.2.2.2.2.2.2.2.2.2.2.2.2.2.2.2.2.2.2.2.1,a.2.2.2.2.2.2.2.2.2.2.2.2.2.2.2.2.2.2.2.2.2.2.2.2.2.2.2.2.2.2.2.2.2.2.2.2.2.2.2.2.1,a.2.2.2.2.2.2.2.2.2.2.2.2.2.2.2.2.2.2.2.2.2.2.2.2.2.2.2.2.2.2.2.2.2.2.2.2.2.2.2.2.2.1,a.2.2.2.2.2.2.2.2.2.2.2.2.2.2.2.2.2.2.2.2.2.2.2.2.2.2.2.2.2.2.2.2.2.2.2.2.2.2.2.2.2.2.1,⟨a.2.2.2.2.2.2.2.2.2.2.2.2.2.2.2.2.2.2.2.2.2.2.2.2.2.2.2.2.2.2.2.2.2.2.2.2.2.2.2.2.2.2.2.1,a.2.2.2.2.2.2.2.2.2.2.2.2.2.2.2.2.2.2.2.2.2.2.2.2.2.2.2.2.2.2.2.2.2.2.2.2.2.2.2.2.2.2.2.2.1⟩⟩⟩⟩
 | 20,a=>⟨⟨⟨a.1,a.2.1⟩,a.2.2.1,a.2.2.2.1,a.2.2.2.2.1,a.2.2.2.2.2.1,a.2.2.2.2.2.2.1,a.2.2.2.2.2.2.2.1,a.2.2.2.2.2.2.2.2.1,a.2.2.2.2.2.2.2.2.2.1⟩,⟨a.2.2.2.2.2.2.2.2.2.2.1,a.2.2.2.2.2.2.2.2.2.2.2.1,a.2.2.2.2.2.2.2.2.2.2.2.2.1,⟨a.2.2.2.2.2.2.2.2.2.2.2.2.2.1,a.2.2.2.2.2.2.2.2.2.2.2.2.2.2.1⟩,a.2.2.2.2.2.2.2.2.2.2.2.2.2.2.2.1,a.2.2.2.2.2.2.2.2.2.2.2.2.2.2.2.2.1,a.2.2.2.2.2.2.2.2.2.2.2.2.2.2.2.2.2.1⟩,⟨a.2.2.2.2.2.2.2.2.2.2.2.2.2.2.2.2.2.2.1,a.2.2.2.2.2.2.2.2.2.2.2.2.2.2.2.2.2.2.2.1⟩⟩
 | 21,a=>⟨a.1,a.2.1⟩
 | 22,a=>⟨a.1,a.2.1,a.2.2.1⟩
 | 23,a=>⟨⟨⟨a.1,a.2.1⟩,a.2.2.1,a.2.2.2.1,a.2.2.2.2.1,a.2.2.2.2.2.1,a.2.2.2.2.2.2.1,a.2.2.2.2.2.2.2.1,a.2.2.2.2.2.2.2.2.1,a.2.2.2.2.2.2.2.2.2.1⟩,a.2.2.2.2.2.2.2.2.2.2.1,a.2.2.2.2.2.2.2.2.2.2.2.1,a.2.2.2.2.2.2.2.2.2.2.2.2.1,a.2.2.2.2.2.2.2.2.2.2.2.2.2.1,a.2.2.2.2.2.2.2.2.2.2.2.2.2.2.1⟩
 | 24,a=>⟨⟨⟨a.1,a.2.1⟩,a.2.2.1,a.2.2.2.1,a.2.2.2.2.1,a.2.2.2.2.2.1,a.2.2.2.2.2.2.1,a.2.2.2.2.2.2.2.1,a.2.2.2.2.2.2.2.2.1,a.2.2.2.2.2.2.2.2.2.1⟩⟩
 | _+25,_=>()
theorem IH:(n:Nat)→(a:NJ N7 (Ud n))→Zc n (Zf n a)=a
 | 0,_=>rfl
 | 1,_=>rfl
 | 2,_=>rfl
 | 3,_=>rfl
 | 4,_=>rfl
 | 5,_=>rfl
 | 6,_=>rfl
 | 7,_=>rfl
 | 8,_=>rfl
 | 9,_=>rfl
 | 10,_=>rfl
 | 11,_=>rfl
 | 12,_=>rfl
 | 13,_=>rfl
 | 14,_=>rfl
 | 15,_=>rfl
 | 16,_=>rfl
 | 17,_=>rfl
 | 18,_=>rfl
 | 19,_=>rfl
 | 20,_=>rfl
 | 21,_=>rfl
 | 22,_=>rfl
 | 23,_=>rfl
 | 24,_=>rfl
 | _+25,_=>rfl
def Zb:(n:Nat)→Wh n→NJ N7 (Uc n)
 | 0,x=>(x.k,x.v,())
 | 1,x=>(x.k,x.v.Id,x.v.App,x.v.Node,x.v.Kj.Mem,x.v.Kj.IZ,x.v.Jt,x.v.I_,x.v.I5,x.v.L_,())
 | 2,x=>(x.k,x.v,())
 | 3,x=>(())
 | 4,x=>(x.k,x.v,())
 | _+5,_=>()
def Ze:(n:Nat)→NJ N7 (Uc n)→Wh n
 | 0,a=>⟨a.1,a.2.1⟩
 | 1,a=>⟨a.1,⟨a.2.1,a.2.2.1,a.2.2.2.1,⟨a.2.2.2.2.1,a.2.2.2.2.2.1⟩,a.2.2.2.2.2.2.1,a.2.2.2.2.2.2.2.1,a.2.2.2.2.2.2.2.2.1,a.2.2.2.2.2.2.2.2.2.1⟩⟩
 | 2,a=>⟨a.1,a.2.1⟩
 | 3,a=>()
 | 4,a=>⟨a.1,a.2.1⟩
 | _+5,_=>()
theorem IE:(n:Nat)→(a:NJ N7 (Uc n))→Zb n (Ze n a)=a
 | 0,_=>rfl
 | 1,_=>rfl
 | 2,_=>rfl
 | 3,_=>rfl
 | 4,_=>rfl
 | _+5,_=>rfl
def Za(b:Bool)(n m:Nat):Wd b n m→NJ N7 (Ub b n m):=match b with | false=>Zc n | true=>Zb m
def Zd(b:Bool)(n m:Nat):NJ N7 (Ub b n m)→Wd b n m:=match b with | false=>Zf n | true=>Ze m
theorem Iu(b:Bool)(n m:Nat):(a:NJ N7 (Ub b n m))→Za b n m (Zd b n m a)=a:=match b with | false=>IH n | true=>IE m
def acu(n:Nat):N7 n→NJ N7 (Xl n):=Za (Nat.ble 500 n) n (n - 500)
def acv(n:Nat):NJ N7 (Xl n)→N7 n:=Zd (Nat.ble 500 n) n (n - 500)
theorem ajs(n:Nat):(a:NJ N7 (Xl n))→acu n (acv n a)=a:=Iu (Nat.ble 500 n) n (n - 500)
@[reducible] def fam:Fam:=⟨N7,Xl,acu,acv,ajs⟩
noncomputable def ZJ:TI fam:=⟨Tryz.t3.desc,1,8,[.i .i64 0],some (.int .i64),false⟩
noncomputable def abQ:TI fam:=⟨Tryz.t4.desc,1,1,[.b false],some (.bool),false⟩
noncomputable def abP:TI fam:=⟨Tryz.t5.desc,1,1,[.i .u8 0],some (.int .u8),false⟩
noncomputable def abO:TI fam:=⟨Tryz.t9.desc,1,16,[.s []],some (.str),false⟩
noncomputable def Yb:TI fam:=⟨Tryz.t21.desc,1,4,[.i .i32 0],some (.int .i32),false⟩
noncomputable def Ya:TI fam:=⟨Tryz.t22.desc,1,24,[.nl],some (.slice (.int .i64)),false⟩
noncomputable def X_:TI fam:=⟨Tryz.t23.desc,1,24,[.nl],some (.slice (.st 11)),false⟩
noncomputable def X9:TI fam:=⟨Tryz.t24.desc,3,56,[.i .i64 0,.nl,.nl],some (.st 12),false⟩
noncomputable def X8:TI fam:=⟨Tryz.t27.desc,1,24,[.nl],some (.slice (.str)),false⟩
noncomputable def X7:TI fam:=⟨Tryz.t28.desc,1,24,[.nl],some (.slice (.st 2)),false⟩
noncomputable def X6:TI fam:=⟨Tryz.t29.desc,2,48,[.nl,.nl],some (.st 3),false⟩
noncomputable def X5:TI fam:=⟨Tryz.t31.desc,1,24,[.nl],some (.slice (.st 4)),false⟩
noncomputable def X4:TI fam:=⟨Tryz.t32.desc,1,24,[.nl],some (.slice (.st 6)),false⟩
noncomputable def X3:TI fam:=⟨Tryz.t33.desc,1,24,[.nl],some (.slice (.st 7)),false⟩
noncomputable def X0:TI fam:=⟨Tryz.t34.desc,1,24,[.nl],some (.slice (.st 8)),false⟩
noncomputable def XZ:TI fam:=⟨Tryz.t35.desc,1,24,[.nl],some (.slice (.st 9)),false⟩
noncomputable def XY:TI fam:=⟨Tryz.t36.desc,10,192,[.nl,.nl,.nl,.nl,.nl,.nl,.nl,.i .i64 0,.i .i64 0,.i .i64 0],some (.st 10),false⟩
noncomputable def XW:TI fam:=⟨Tryz.t39.desc,2,16,[.i .i64 0,.i .i64 0],some (.st 0),true⟩
noncomputable def VA:TI fam:=⟨Tryz.t41.desc,8,64,[.i .i64 0,.i .i64 0,.i .i64 0,.i .i64 0,.i .i64 0,.i .i64 0,.i .i64 0,.b false],some (.st 4),false⟩
noncomputable def XV:TI fam:=⟨Tryz.t43.desc,1,24,[.nl],some (.slice (.st 5)),false⟩
noncomputable def TH:TI fam:=⟨Tryz.t44.desc,14,200,[.i .i64 0,.i .i64 0,.s [],.i .i64 0,.i .i64 0,.i .i64 0,.i .i64 0,.nl,.i .i64 0,.i .i64 0,.nl,.nl,.nl,.nl],some (.st 6),false⟩
noncomputable def Vz:TI fam:=⟨Tryz.t46.desc,6,48,[.i .i64 0,.i .i64 0,.i .i64 0,.i .i64 0,.i .i64 0,.i .i64 0],some (.st 9),false⟩
noncomputable def XU:TI fam:=⟨Tryz.t48.desc,35,408,[.i .i64 0,.i .i64 0,.i .i64 0,.i .i64 0,.s [],.i .i64 0,.i .i64 0,.i .i64 0,.i .i64 0,.i .i64 0,.i .i64 0,.i .i64 0,.b false,.i .i64 0,.i .i64 0,.s [],.i .i64 0,.i .i64 0,.i .i64 0,.i .i64 0,.nl,.i .i64 0,.i .i64 0,.nl,.nl,.nl,.nl,.nl,.nl,.i .i64 0,.i .i64 0,.i .i64 0,.i .i64 0,.i .i64 0,.i .i64 0],some (.st 14),false⟩
noncomputable def XT:TI fam:=⟨Tryz.t50.desc,5,40,[.i .i64 0,.i .i64 0,.i .i64 0,.i .i64 0,.i .i64 0],some (.st 11),false⟩
noncomputable def XR:TI fam:=⟨Tryz.t3.desc,1,8,[.i .i64 0],some (.int .i64),false⟩
noncomputable def XQ:TI fam:=⟨Tryz.t54.desc,5,88,[.i .i64 0,.nl,.nl,.nl,.i .i64 0],some (.st 13),false⟩
noncomputable def TG:TI fam:=⟨Tryz.t58.desc,9,72,[.i .i64 0,.i .i64 0,.i .i64 0,.i .i64 0,.i .i64 0,.i .i64 0,.i .i64 0,.b false,.i .i64 0],some (.st 7),false⟩
noncomputable def TF:TI fam:=⟨Tryz.t64.desc,8,64,[.i .i64 0,.i .i64 0,.i .i64 0,.i .i64 0,.i .i64 0,.i .i64 0,.i .i64 0,.i .i64 0],some (.st 5),false⟩
noncomputable def XP:TI fam:=⟨Tryz.t68.desc,1,24,[.nl],some (.slice (.st 14)),false⟩
noncomputable def XO:TI fam:=⟨Tryz.t70.desc,2,16,[.i .i64 0,.i .i64 0],some (.st 1),false⟩
noncomputable def XM:TI fam:=⟨Tryz.t72.desc,1,24,[.nl],some (.slice (.st 1)),false⟩
noncomputable def XL:TI fam:=⟨Tryz.t73.desc,3,48,[.s [],.nl,.i .i64 0],some (.st 2),false⟩
noncomputable def XK:TI fam:=⟨Tryz.t80.desc,1,8,[.v (.pointer none)],none,false⟩
noncomputable def XJ:TI fam:=⟨Tryz.t82.desc,45,600,[.nl,.nl,.nl,.nl,.nl,.nl,.nl,.i .i64 0,.i .i64 0,.i .i64 0,.i .i64 0,.i .i64 0,.i .i64 0,.i .i64 0,.s [],.i .i64 0,.i .i64 0,.i .i64 0,.i .i64 0,.i .i64 0,.i .i64 0,.i .i64 0,.b false,.i .i64 0,.i .i64 0,.s [],.i .i64 0,.i .i64 0,.i .i64 0,.i .i64 0,.nl,.i .i64 0,.i .i64 0,.nl,.nl,.nl,.nl,.nl,.nl,.i .i64 0,.i .i64 0,.i .i64 0,.i .i64 0,.i .i64 0,.i .i64 0],some (.st 19),false⟩
noncomputable def XI:TI fam:=⟨Tryz.t86.desc,10,192,[.nl,.nl,.nl,.nl,.nl,.nl,.nl,.i .i64 0,.i .i64 0,.i .i64 0],some (.st 24),false⟩
noncomputable def TD:TI fam:=⟨Tryz.t96.desc,3,24,[.i .i64 0,.i .i64 0,.i .i64 0],some (.st 8),false⟩
noncomputable def CA:TI fam:=⟨Tryz.t100.desc,1,24,[.nl],some (.slice (.st 0)),false⟩
noncomputable def C4:TI fam:=⟨Tryz.t102.desc,1,24,[.nl],some (.slice (.slice (.str))),false⟩
noncomputable def CJ:TI fam:=⟨Tryz.t130.desc,1,24,[.nl],some (.slice (.int .u8)),false⟩
noncomputable def DK:TI fam:=⟨Tryz.t177.desc,1,8,[.v (.map none)],some (.slice (.st 500)),false⟩
noncomputable def CL:TI fam:=⟨Tryz.t39.desc,2,16,[.i .i64 0,.i .i64 0],some (.st 0),false⟩
noncomputable def Dy:TI fam:=⟨Tryz.t190.desc,1,8,[.v (.pointer none)],none,false⟩
noncomputable def Cc:TI fam:=⟨Tryz.t191.desc,3,56,[.nl,.nl,.b false],some (.st 18),false⟩
noncomputable def Cp:TI fam:=⟨Tryz.t3.desc,1,8,[.i .i64 0],some (.int .i64),false⟩
noncomputable def CT:TI fam:=⟨Tryz.t209.desc,1,8,[.v (.map none)],some (.slice (.st 502)),false⟩
noncomputable def Dp:TI fam:=⟨Tryz.t224.desc,1,8,[.v (.pointer none)],none,false⟩
noncomputable def C0:TI fam:=⟨Tryz.t225.desc,20,272,[.nl,.nl,.nl,.nl,.nl,.nl,.nl,.i .i64 0,.i .i64 0,.i .i64 0,.i .i64 0,.i .i64 0,.i .i64 0,.i .i64 0,.i .i64 0,.i .i64 0,.i .i64 0,.b false,.i .i64 0,.i .i64 0],some (.st 20),false⟩
noncomputable def DC:TI fam:=⟨Tryz.t242.desc,1,8,[.v (.pointer none)],none,false⟩
noncomputable def DH:TI fam:=⟨Tryz.t245.desc,1,8,[.v (.map none)],some (.slice (.st 504)),false⟩
noncomputable def Cx:TI fam:=⟨Tryz.t246.desc,15,232,[.nl,.nl,.nl,.nl,.nl,.nl,.nl,.i .i64 0,.i .i64 0,.i .i64 0,.i .i64 0,.v (.map none),.v (.map none),.v (.map none),.i .i64 0],some (.st 23),false⟩
noncomputable def Co:TI fam:=⟨Tryz.t252.desc,1,8,[.i .u64 0],some (.int .u64),false⟩
noncomputable def Dh:TI fam:=⟨Tryz.t277.desc,1,24,[.nl],some (.slice (.st 15)),false⟩
noncomputable def Dd:TI fam:=⟨Tryz.t280.desc,2,24,[.s [],.i .i64 0],some (.st 15),false⟩
noncomputable def CS:TI fam:=⟨Tryz.t284.desc,1,8,[.v (.map none)],some (.slice (.st 501)),false⟩
noncomputable def De:TI fam:=⟨Tryz.t294.desc,1,4,[.i .u32 0],some (.int .u32),false⟩
noncomputable def CP:TI fam:=⟨Tryz.t296.desc,1,8,[.i .u64 0],some (.int .u64),false⟩
noncomputable def CM:TI fam:=⟨Tryz.t320.desc,13,224,[.nl,.nl,.nl,.nl,.nl,.nl,.nl,.i .i64 0,.i .i64 0,.i .i64 0,.s [],.i .i64 0,.i .i64 0],some (.st 16),false⟩
noncomputable def Cy:TI fam:=⟨Tryz.t70.desc,2,16,[.i .i64 0,.i .i64 0],some (.st 1),false⟩
noncomputable def Dj:TI fam:=⟨Tryz.t352.desc,1,24,[.nl],some (.slice (.slice (.int .i64))),false⟩
noncomputable def Cg:TI fam:=⟨Tryz.t365.desc,256,256,[.i .u8 0,.i .u8 0,.i .u8 0,.i .u8 0,.i .u8 0,.i .u8 0,.i .u8 0,.i .u8 0,.i .u8 0,.i .u8 0,.i .u8 0,.i .u8 0,.i .u8 0,.i .u8 0,.i .u8 0,.i .u8 0,.i .u8 0,.i .u8 0,.i .u8 0,.i .u8 0,.i .u8 0,.i .u8 0,.i .u8 0,.i .u8 0,.i .u8 0,.i .u8 0,.i .u8 0,.i .u8 0,.i .u8 0,.i .u8 0,.i .u8 0,.i .u8 0,.i .u8 0,.i .u8 0,.i .u8 0,.i .u8 0,.i .u8 0,.i .u8 0,.i .u8 0,.i .u8 0,.i .u8 0,.i .u8 0,.i .u8 0,.i .u8 0,.i .u8 0,.i .u8 0,.i .u8 0,.i .u8 0,.i .u8 0,.i .u8 0,.i .u8 0,.i .u8 0,.i .u8 0,.i .u8 0,.i .u8 0,.i .u8 0,.i .u8 0,.i .u8 0,.i .u8 0,.i .u8 0,.i .u8 0,.i .u8 0,.i .u8 0,.i .u8 0,.i .u8 0,.i .u8 0,.i .u8 0,.i .u8 0,.i .u8 0,.i .u8 0,.i .u8 0,.i .u8 0,.i .u8 0,.i .u8 0,.i .u8 0,.i .u8 0,.i .u8 0,.i .u8 0,.i .u8 0,.i .u8 0,.i .u8 0,.i .u8 0,.i .u8 0,.i .u8 0,.i .u8 0,.i .u8 0,.i .u8 0,.i .u8 0,.i .u8 0,.i .u8 0,.i .u8 0,.i .u8 0,.i .u8 0,.i .u8 0,.i .u8 0,.i .u8 0,.i .u8 0,.i .u8 0,.i .u8 0,.i .u8 0,.i .u8 0,.i .u8 0,.i .u8 0,.i .u8 0,.i .u8 0,.i .u8 0,.i .u8 0,.i .u8 0,.i .u8 0,.i .u8 0,.i .u8 0,.i .u8 0,.i .u8 0,.i .u8 0,.i .u8 0,.i .u8 0,.i .u8 0,.i .u8 0,.i .u8 0,.i .u8 0,.i .u8 0,.i .u8 0,.i .u8 0,.i .u8 0,.i .u8 0,.i .u8 0,.i .u8 0,.i .u8 0,.i .u8 0,.i .u8 0,.i .u8 0,.i .u8 0,.i .u8 0,.i .u8 0,.i .u8 0,.i .u8 0,.i .u8 0,.i .u8 0,.i .u8 0,.i .u8 0,.i .u8 0,.i .u8 0,.i .u8 0,.i .u8 0,.i .u8 0,.i .u8 0,.i .u8 0,.i .u8 0,.i .u8 0,.i .u8 0,.i .u8 0,.i .u8 0,.i .u8 0,.i .u8 0,.i .u8 0,.i .u8 0,.i .u8 0,.i .u8 0,.i .u8 0,.i .u8 0,.i .u8 0,.i .u8 0,.i .u8 0,.i .u8 0,.i .u8 0,.i .u8 0,.i .u8 0,.i .u8 0,.i .u8 0,.i .u8 0,.i .u8 0,.i .u8 0,.i .u8 0,.i .u8 0,.i .u8 0,.i .u8 0,.i .u8 0,.i .u8 0,.i .u8 0,.i .u8 0,.i .u8 0,.i .u8 0,.i .u8 0,.i .u8 0,.i .u8 0,.i .u8 0,.i .u8 0,.i .u8 0,.i .u8 0,.i .u8 0,.i .u8 0,.i .u8 0,.i .u8 0,.i .u8 0,.i .u8 0,.i .u8 0,.i .u8 0,.i .u8 0,.i .u8 0,.i .u8 0,.i .u8 0,.i .u8 0,.i .u8 0,.i .u8 0,.i .u8 0,.i .u8 0,.i .u8 0,.i .u8 0,.i .u8 0,.i .u8 0,.i .u8 0,.i .u8 0,.i .u8 0,.i .u8 0,.i .u8 0,.i .u8 0,.i .u8 0,.i .u8 0,.i .u8 0,.i .u8 0,.i .u8 0,.i .u8 0,.i .u8 0,.i .u8 0,.i .u8 0,.i .u8 0,.i .u8 0,.i .u8 0,.i .u8 0,.i .u8 0,.i .u8 0,.i .u8 0,.i .u8 0,.i .u8 0,.i .u8 0,.i .u8 0,.i .u8 0,.i .u8 0,.i .u8 0,.i .u8 0,.i .u8 0,.i .u8 0,.i .u8 0,.i .u8 0,.i .u8 0,.i .u8 0,.i .u8 0,.i .u8 0,.i .u8 0,.i .u8 0,.i .u8 0,.i .u8 0,.i .u8 0,.i .u8 0,.i .u8 0,.i .u8 0],none,false⟩
noncomputable def C5:TI fam:=⟨Tryz.t369.desc,1,24,[.nl],some (.slice (.st 17)),false⟩
noncomputable def C7:TI fam:=⟨Tryz.t370.desc,5,48,[.s [],.i .i64 0,.i .i64 0,.i .i64 0,.i .i64 0],some (.st 17),false⟩
noncomputable def Cv:TI fam:=⟨Tryz.t406.desc,2,16,[.i .u64 0,.i .u64 0],some (.st 21),false⟩
noncomputable def tbl:List (Nat×TI fam):=[(3,ZJ),(4,abQ),(5,abP),(9,abO),(21,Yb),(22,Ya),(23,X_),(25,X9),(27,X8),(28,X7),(30,X6),(31,X5),(32,X4),(33,X3),(34,X0),(35,XZ),(37,XY),(40,XW),(42,VA),(43,XV),(45,TH),(47,Vz),(49,XU),(51,XT),(53,XR),(55,XQ),(59,TG),(65,TF),(68,XP),(71,XO),(72,XM),(74,XL),(80,XK),(83,XJ),(87,XI),(97,TD),(100,CA),(102,C4),(130,CJ),(177,DK),(184,CL),(190,Dy),(192,Cc),(198,Cp),(209,CT),(224,Dp),(226,C0),(242,DC),(245,DH),(247,Cx),(252,Co),(277,Dh),(281,Dd),(284,CS),(294,De),(296,CP),(321,CM),(340,Cy),(352,Dj),(365,Cg),(369,C5),(371,C7),(407,Cv)]
end Go.Fx.D
