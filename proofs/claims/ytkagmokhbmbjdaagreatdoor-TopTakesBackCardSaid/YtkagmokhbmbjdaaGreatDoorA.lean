/-
  The types of the seat as plain Lean types, and its table of types (printed by a program). Conditions: none.
-/
import Derived.Test.YtkagmokhbmbjdaaGreatDoorFxA
import Derived.Test.YtkagmokhbmbjdaaGreatDoorProg
namespace Go.Fx.D
open Go Go.Fx Go.Proofs
set_option linter.unusedVariables false
structure Vec where
 Mem:Int
 Cores:Int
structure Cap where
 Least:Int
 Most:Int
structure Queue where
 Path:List UInt8
 Caps:List Cap
 User:Int
structure Conf where
 Labels:List (List UInt8)
 Queues:List Queue
structure Node where
 Id:Int
 Label:Int
 Rack:Int
 Cap:Vec
 Seen:Int
 Beat:Int
 Up:Bool
structure Ask where
 Prio:Int
 Label:Int
 Size:Vec
 Count:Int
 Node:Int
 Rack:Int
 Missed:Int
structure App where
 Id:Int
 State:Int
 Queue:List UInt8
 User:Int
 Prio:Int
 Master:Vec
 Asks:List Ask
 Seen:Int
 Beat:Int
 Grants:List Int
 Kills:List Int
 Told:List Int
 Lost:List Int
structure Cont where
 Id:Int
 App:Int
 Node:Int
 Size:Vec
 Prio:Int
 Label:Int
 Master:Bool
 Notice:Int
structure Slot where
 Node:Int
 App:Int
 Prio:Int
structure Plan where
 Id:Int
 Label:Int
 From:Int
 Until:Int
 Need:Vec
structure State where
 Conf:Conf
 Nodes:List Node
 Apps:List App
 Conts:List Cont
 Slots:List Slot
 Plans:List Plan
 Now:Int
 Epoch:Int
 Seq:Int
structure Output where
 Err:Int
 Conts:List Cont
 Ids:List Int
 Gone:List Int
 N:Int
structure Input where
 Kind:Int
 Id:Int
 Beat:Int
 N:Int
 Text:List UInt8
 Node:Node
 App:App
 Asks:List Ask
 Ids:List Int
 Plan:Plan
structure Share where
 Path:List UInt8
 Mem:Int
structure View where
 s:State
 path:List UInt8
 label:Int
 user:Int
structure Load where
 path:List UInt8
 used:Vec
 least:Vec
structure Look where
 s:State
structure Reader where
 c:Conf
 seen:Bool
structure Step where
 s:State
 x:Input
structure Attempt where
 s:State
 n:Node
 free:Vec
structure Ratio where
 n:Int
 of:Int
structure Rows3_ListInt where
 r0:List Int
 r1:List Int
 r2:List Int
structure Ent0_ListUInt8Int where
 k:List UInt8
 v:Int
structure Ent4_IntListUInt8 where
 k:Int
 v:List UInt8
structure Ent2_IntInt where
 k:Int
 v:Int
structure Looker where
 s:State
 label:Int
 over:List Ent0_ListUInt8Int
 leaf:List Ent4_IntListUInt8
 noticed:List Ent2_IntInt
 gone:Int
structure Ent1_ListUInt8Cont where
 k:List UInt8
 v:Cont
@[reducible] def famS0:Nat→Type
 | 0=>Vec
 | 1=>Cap
 | 2=>Queue
 | 3=>Conf
 | 4=>Node
 | 5=>Ask
 | 6=>App
 | 7=>Cont
 | 8=>Slot
 | 9=>Plan
 | 10=>State
 | 11=>Output
 | 12=>Input
 | 13=>Share
 | 14=>View
 | 15=>Load
 | 16=>Look
 | 17=>Reader
 | 18=>Step
 | 19=>Attempt
 | 20=>Ratio
 | 21=>Rows3_ListInt
 | 22=>Looker
 | _=>Unit
@[reducible] def famS1:Nat→Type
 | 0=>Ent0_ListUInt8Int
 | 1=>Ent1_ListUInt8Cont
 | 2=>Ent2_IntInt
 | 4=>Ent4_IntListUInt8
 | _=>Unit
@[reducible] def famSb(b:Bool)(n m:Nat):Type:=match b with | false=>famS0 n | true=>famS1 m
@[reducible] def famS(n:Nat):Type:=famSb (Nat.ble 500 n) n (n - 500)
@[reducible] def famF0:Nat→List Ty
 | 0=>[.int .i64,.int .i64]
 | 1=>[.int .i64,.int .i64]
 | 2=>[.str,.slice (.st 1),.int .i64]
 | 3=>[.slice (.str),.slice (.st 2)]
 | 4=>[.int .i64,.int .i64,.int .i64,.int .i64,.int .i64,.int .i64,.int .i64,.bool]
 | 5=>[.int .i64,.int .i64,.int .i64,.int .i64,.int .i64,.int .i64,.int .i64,.int .i64]
 | 6=>[.int .i64,.int .i64,.str,.int .i64,.int .i64,.int .i64,.int .i64,.slice (.st 5),.int .i64,.int .i64,.slice (.int .i64),.slice (.int .i64),.slice (.int .i64),.slice (.int .i64)]
 | 7=>[.int .i64,.int .i64,.int .i64,.int .i64,.int .i64,.int .i64,.int .i64,.bool,.int .i64]
 | 8=>[.int .i64,.int .i64,.int .i64]
 | 9=>[.int .i64,.int .i64,.int .i64,.int .i64,.int .i64,.int .i64]
 | 10=>[.slice (.str),.slice (.st 2),.slice (.st 4),.slice (.st 6),.slice (.st 7),.slice (.st 8),.slice (.st 9),.int .i64,.int .i64,.int .i64]
 | 11=>[.int .i64,.slice (.st 7),.slice (.int .i64),.slice (.int .i64),.int .i64]
 | 12=>[.int .i64,.int .i64,.int .i64,.int .i64,.str,.int .i64,.int .i64,.int .i64,.int .i64,.int .i64,.int .i64,.int .i64,.bool,.int .i64,.int .i64,.str,.int .i64,.int .i64,.int .i64,.int .i64,.slice (.st 5),.int .i64,.int .i64,.slice (.int .i64),.slice (.int .i64),.slice (.int .i64),.slice (.int .i64),.slice (.st 5),.slice (.int .i64),.int .i64,.int .i64,.int .i64,.int .i64,.int .i64,.int .i64]
 | 13=>[.str,.int .i64]
 | 14=>[.slice (.str),.slice (.st 2),.slice (.st 4),.slice (.st 6),.slice (.st 7),.slice (.st 8),.slice (.st 9),.int .i64,.int .i64,.int .i64,.str,.int .i64,.int .i64]
 | 15=>[.str,.int .i64,.int .i64,.int .i64,.int .i64]
 | 16=>[.slice (.str),.slice (.st 2),.slice (.st 4),.slice (.st 6),.slice (.st 7),.slice (.st 8),.slice (.st 9),.int .i64,.int .i64,.int .i64]
 | 17=>[.slice (.str),.slice (.st 2),.bool]
 | 18=>[.slice (.str),.slice (.st 2),.slice (.st 4),.slice (.st 6),.slice (.st 7),.slice (.st 8),.slice (.st 9),.int .i64,.int .i64,.int .i64,.int .i64,.int .i64,.int .i64,.int .i64,.str,.int .i64,.int .i64,.int .i64,.int .i64,.int .i64,.int .i64,.int .i64,.bool,.int .i64,.int .i64,.str,.int .i64,.int .i64,.int .i64,.int .i64,.slice (.st 5),.int .i64,.int .i64,.slice (.int .i64),.slice (.int .i64),.slice (.int .i64),.slice (.int .i64),.slice (.st 5),.slice (.int .i64),.int .i64,.int .i64,.int .i64,.int .i64,.int .i64,.int .i64]
 | 19=>[.slice (.str),.slice (.st 2),.slice (.st 4),.slice (.st 6),.slice (.st 7),.slice (.st 8),.slice (.st 9),.int .i64,.int .i64,.int .i64,.int .i64,.int .i64,.int .i64,.int .i64,.int .i64,.int .i64,.int .i64,.bool,.int .i64,.int .i64]
 | 20=>[.int .u64,.int .u64]
 | 21=>[.slice (.int .i64),.slice (.int .i64),.slice (.int .i64)]
 | 22=>[.slice (.str),.slice (.st 2),.slice (.st 4),.slice (.st 6),.slice (.st 7),.slice (.st 8),.slice (.st 9),.int .i64,.int .i64,.int .i64,.int .i64,.slice (.st 500),.slice (.st 504),.slice (.st 502),.int .i64]
 | _=>[]
@[reducible] def famF1:Nat→List Ty
 | 0=>[.str,.int .i64]
 | 1=>[.str,.int .i64,.int .i64,.int .i64,.int .i64,.int .i64,.int .i64,.int .i64,.bool,.int .i64]
 | 2=>[.int .i64,.int .i64]
 | 4=>[.int .i64,.str]
 | _=>[]
@[reducible] def famFb(b:Bool)(n m:Nat):List Ty:=match b with | false=>famF0 n | true=>famF1 m
@[reducible] def famF(n:Nat):List Ty:=famFb (Nat.ble 500 n) n (n - 500)
def famU0:(n:Nat)→famS0 n→TupS famS (famF0 n)
 | 0,x=>(x.Mem,x.Cores,())
 | 1,x=>(x.Least,x.Most,())
 | 2,x=>(x.Path,x.Caps,x.User,())
 | 3,x=>(x.Labels,x.Queues,())
 | 4,x=>(x.Id,x.Label,x.Rack,x.Cap.Mem,x.Cap.Cores,x.Seen,x.Beat,x.Up,())
 | 5,x=>(x.Prio,x.Label,x.Size.Mem,x.Size.Cores,x.Count,x.Node,x.Rack,x.Missed,())
 | 6,x=>(x.Id,x.State,x.Queue,x.User,x.Prio,x.Master.Mem,x.Master.Cores,x.Asks,x.Seen,x.Beat,x.Grants,x.Kills,x.Told,x.Lost,())
 | 7,x=>(x.Id,x.App,x.Node,x.Size.Mem,x.Size.Cores,x.Prio,x.Label,x.Master,x.Notice,())
 | 8,x=>(x.Node,x.App,x.Prio,())
 | 9,x=>(x.Id,x.Label,x.From,x.Until,x.Need.Mem,x.Need.Cores,())
 | 10,x=>(x.Conf.Labels,x.Conf.Queues,x.Nodes,x.Apps,x.Conts,x.Slots,x.Plans,x.Now,x.Epoch,x.Seq,())
 | 11,x=>(x.Err,x.Conts,x.Ids,x.Gone,x.N,())
 | 12,x=>(x.Kind,x.Id,x.Beat,x.N,x.Text,x.Node.Id,x.Node.Label,x.Node.Rack,x.Node.Cap.Mem,x.Node.Cap.Cores,x.Node.Seen,x.Node.Beat,x.Node.Up,x.App.Id,x.App.State,x.App.Queue,x.App.User,x.App.Prio,x.App.Master.Mem,x.App.Master.Cores,x.App.Asks,x.App.Seen,x.App.Beat,x.App.Grants,x.App.Kills,x.App.Told,x.App.Lost,x.Asks,x.Ids,x.Plan.Id,x.Plan.Label,x.Plan.From,x.Plan.Until,x.Plan.Need.Mem,x.Plan.Need.Cores,())
 | 13,x=>(x.Path,x.Mem,())
 | 14,x=>(x.s.Conf.Labels,x.s.Conf.Queues,x.s.Nodes,x.s.Apps,x.s.Conts,x.s.Slots,x.s.Plans,x.s.Now,x.s.Epoch,x.s.Seq,x.path,x.label,x.user,())
 | 15,x=>(x.path,x.used.Mem,x.used.Cores,x.least.Mem,x.least.Cores,())
 | 16,x=>(x.s.Conf.Labels,x.s.Conf.Queues,x.s.Nodes,x.s.Apps,x.s.Conts,x.s.Slots,x.s.Plans,x.s.Now,x.s.Epoch,x.s.Seq,())
 | 17,x=>(x.c.Labels,x.c.Queues,x.seen,())
 | 18,x=>(x.s.Conf.Labels,x.s.Conf.Queues,x.s.Nodes,x.s.Apps,x.s.Conts,x.s.Slots,x.s.Plans,x.s.Now,x.s.Epoch,x.s.Seq,x.x.Kind,x.x.Id,x.x.Beat,x.x.N,x.x.Text,x.x.Node.Id,x.x.Node.Label,x.x.Node.Rack,x.x.Node.Cap.Mem,x.x.Node.Cap.Cores,x.x.Node.Seen,x.x.Node.Beat,x.x.Node.Up,x.x.App.Id,x.x.App.State,x.x.App.Queue,x.x.App.User,x.x.App.Prio,x.x.App.Master.Mem,x.x.App.Master.Cores,x.x.App.Asks,x.x.App.Seen,x.x.App.Beat,x.x.App.Grants,x.x.App.Kills,x.x.App.Told,x.x.App.Lost,x.x.Asks,x.x.Ids,x.x.Plan.Id,x.x.Plan.Label,x.x.Plan.From,x.x.Plan.Until,x.x.Plan.Need.Mem,x.x.Plan.Need.Cores,())
 | 19,x=>(x.s.Conf.Labels,x.s.Conf.Queues,x.s.Nodes,x.s.Apps,x.s.Conts,x.s.Slots,x.s.Plans,x.s.Now,x.s.Epoch,x.s.Seq,x.n.Id,x.n.Label,x.n.Rack,x.n.Cap.Mem,x.n.Cap.Cores,x.n.Seen,x.n.Beat,x.n.Up,x.free.Mem,x.free.Cores,())
 | 20,x=>(x.n,x.of,())
 | 21,x=>(x.r0,x.r1,x.r2,())
 | 22,x=>(x.s.Conf.Labels,x.s.Conf.Queues,x.s.Nodes,x.s.Apps,x.s.Conts,x.s.Slots,x.s.Plans,x.s.Now,x.s.Epoch,x.s.Seq,x.label,x.over,x.leaf,x.noticed,x.gone,())
 | _+23,_=>()
def famP0:(n:Nat)→TupS famS (famF0 n)→famS0 n
 | 0,a=>⟨a.1,a.2.1⟩
 | 1,a=>⟨a.1,a.2.1⟩
 | 2,a=>⟨a.1,a.2.1,a.2.2.1⟩
 | 3,a=>⟨a.1,a.2.1⟩
 | 4,a=>⟨a.1,a.2.1,a.2.2.1,⟨a.2.2.2.1,a.2.2.2.2.1⟩,a.2.2.2.2.2.1,a.2.2.2.2.2.2.1,a.2.2.2.2.2.2.2.1⟩
 | 5,a=>⟨a.1,a.2.1,⟨a.2.2.1,a.2.2.2.1⟩,a.2.2.2.2.1,a.2.2.2.2.2.1,a.2.2.2.2.2.2.1,a.2.2.2.2.2.2.2.1⟩
 | 6,a=>⟨a.1,a.2.1,a.2.2.1,a.2.2.2.1,a.2.2.2.2.1,⟨a.2.2.2.2.2.1,a.2.2.2.2.2.2.1⟩,a.2.2.2.2.2.2.2.1,a.2.2.2.2.2.2.2.2.1,a.2.2.2.2.2.2.2.2.2.1,a.2.2.2.2.2.2.2.2.2.2.1,a.2.2.2.2.2.2.2.2.2.2.2.1,a.2.2.2.2.2.2.2.2.2.2.2.2.1,a.2.2.2.2.2.2.2.2.2.2.2.2.2.1⟩
 | 7,a=>⟨a.1,a.2.1,a.2.2.1,⟨a.2.2.2.1,a.2.2.2.2.1⟩,a.2.2.2.2.2.1,a.2.2.2.2.2.2.1,a.2.2.2.2.2.2.2.1,a.2.2.2.2.2.2.2.2.1⟩
 | 8,a=>⟨a.1,a.2.1,a.2.2.1⟩
 | 9,a=>⟨a.1,a.2.1,a.2.2.1,a.2.2.2.1,⟨a.2.2.2.2.1,a.2.2.2.2.2.1⟩⟩
 | 10,a=>⟨⟨a.1,a.2.1⟩,a.2.2.1,a.2.2.2.1,a.2.2.2.2.1,a.2.2.2.2.2.1,a.2.2.2.2.2.2.1,a.2.2.2.2.2.2.2.1,a.2.2.2.2.2.2.2.2.1,a.2.2.2.2.2.2.2.2.2.1⟩
 | 11,a=>⟨a.1,a.2.1,a.2.2.1,a.2.2.2.1,a.2.2.2.2.1⟩
 | 12,a=>⟨a.1,a.2.1,a.2.2.1,a.2.2.2.1,a.2.2.2.2.1,⟨a.2.2.2.2.2.1,a.2.2.2.2.2.2.1,a.2.2.2.2.2.2.2.1,⟨a.2.2.2.2.2.2.2.2.1,a.2.2.2.2.2.2.2.2.2.1⟩,a.2.2.2.2.2.2.2.2.2.2.1,a.2.2.2.2.2.2.2.2.2.2.2.1,a.2.2.2.2.2.2.2.2.2.2.2.2.1⟩,⟨a.2.2.2.2.2.2.2.2.2.2.2.2.2.1,a.2.2.2.2.2.2.2.2.2.2.2.2.2.2.1,a.2.2.2.2.2.2.2.2.2.2.2.2.2.2.2.1,a.2.2.2.2.2.2.2.2.2.2.2.2.2.2.2.2.1,a.2.2.2.2.2.2.2.2.2.2.2.2.2.2.2.2.2.1,⟨a.2.2.2.2.2.2.2.2.2.2.2.2.2.2.2.2.2.2.1,a.2.2.2.2.2.2.2.2.2.2.2.2.2.2.2.2.2.2.2.1⟩,a.2.2.2.2.2.2.2.2.2.2.2.2.2.2.2.2.2.2.2.2.1,a.2.2.2.2.2.2.2.2.2.2.2.2.2.2.2.2.2.2.2.2.2.1,a.2.2.2.2.2.2.2.2.2.2.2.2.2.2.2.2.2.2.2.2.2.2.1,a.2.2.2.2.2.2.2.2.2.2.2.2.2.2.2.2.2.2.2.2.2.2.2.1,a.2.2.2.2.2.2.2.2.2.2.2.2.2.2.2.2.2.2.2.2.2.2.2.2.1,a.2.2.2.2.2.2.2.2.2.2.2.2.2.2.2.2.2.2.2.2.2.2.2.2.2.1,a.2.2.2.2.2.2.2.2.2.2.2.2.2.2.2.2.2.2.2.2.2.2.2.2.2.2.1⟩,a.2.2.2.2.2.2.2.2.2.2.2.2.2.2.2.2.2.2.2.2.2.2.2.2.2.2.2.1,a.2.2.2.2.2.2.2.2.2.2.2.2.2.2.2.2.2.2.2.2.2.2.2.2.2.2.2.2.1,⟨a.2.2.2.2.2.2.2.2.2.2.2.2.2.2.2.2.2.2.2.2.2.2.2.2.2.2.2.2.2.1,a.2.2.2.2.2.2.2.2.2.2.2.2.2.2.2.2.2.2.2.2.2.2.2.2.2.2.2.2.2.2.1,a.2.2.2.2.2.2.2.2.2.2.2.2.2.2.2.2.2.2.2.2.2.2.2.2.2.2.2.2.2.2.2.1,a.2.2.2.2.2.2.2.2.2.2.2.2.2.2.2.2.2.2.2.2.2.2.2.2.2.2.2.2.2.2.2.2.1,⟨a.2.2.2.2.2.2.2.2.2.2.2.2.2.2.2.2.2.2.2.2.2.2.2.2.2.2.2.2.2.2.2.2.2.1,a.2.2.2.2.2.2.2.2.2.2.2.2.2.2.2.2.2.2.2.2.2.2.2.2.2.2.2.2.2.2.2.2.2.2.1⟩⟩⟩
 | 13,a=>⟨a.1,a.2.1⟩
 | 14,a=>⟨⟨⟨a.1,a.2.1⟩,a.2.2.1,a.2.2.2.1,a.2.2.2.2.1,a.2.2.2.2.2.1,a.2.2.2.2.2.2.1,a.2.2.2.2.2.2.2.1,a.2.2.2.2.2.2.2.2.1,a.2.2.2.2.2.2.2.2.2.1⟩,a.2.2.2.2.2.2.2.2.2.2.1,a.2.2.2.2.2.2.2.2.2.2.2.1,a.2.2.2.2.2.2.2.2.2.2.2.2.1⟩
 | 15,a=>⟨a.1,⟨a.2.1,a.2.2.1⟩,⟨a.2.2.2.1,a.2.2.2.2.1⟩⟩
 | 16,a=>⟨⟨⟨a.1,a.2.1⟩,a.2.2.1,a.2.2.2.1,a.2.2.2.2.1,a.2.2.2.2.2.1,a.2.2.2.2.2.2.1,a.2.2.2.2.2.2.2.1,a.2.2.2.2.2.2.2.2.1,a.2.2.2.2.2.2.2.2.2.1⟩⟩
 | 17,a=>⟨⟨a.1,a.2.1⟩,a.2.2.1⟩
 | 18,a=>⟨⟨⟨a.1,a.2.1⟩,a.2.2.1,a.2.2.2.1,a.2.2.2.2.1,a.2.2.2.2.2.1,a.2.2.2.2.2.2.1,a.2.2.2.2.2.2.2.1,a.2.2.2.2.2.2.2.2.1,a.2.2.2.2.2.2.2.2.2.1⟩,⟨a.2.2.2.2.2.2.2.2.2.2.1,a.2.2.2.2.2.2.2.2.2.2.2.1,a.2.2.2.2.2.2.2.2.2.2.2.2.1,a.2.2.2.2.2.2.2.2.2.2.2.2.2.1,a.2.2.2.2.2.2.2.2.2.2.2.2.2.2.1,⟨a.2.2.2.2.2.2.2.2.2.2.2.2.2.2.2.1,a.2.2.2.2.2.2.2.2.2.2.2.2.2.2.2.2.1,a.2.2.2.2.2.2.2.2.2.2.2.2.2.2.2.2.2.1,⟨a.2.2.2.2.2.2.2.2.2.2.2.2.2.2.2.2.2.2.1,a.2.2.2.2.2.2.2.2.2.2.2.2.2.2.2.2.2.2.2.1⟩,a.2.2.2.2.2.2.2.2.2.2.2.2.2.2.2.2.2.2.2.2.1,a.2.2.2.2.2.2.2.2.2.2.2.2.2.2.2.2.2.2.2.2.2.1,a.2.2.2.2.2.2.2.2.2.2.2.2.2.2.2.2.2.2.2.2.2.2.1⟩,⟨a.2.2.2.2.2.2.2.2.2.2.2.2.2.2.2.2.2.2.2.2.2.2.2.1,a.2.2.2.2.2.2.2.2.2.2.2.2.2.2.2.2.2.2.2.2.2.2.2.2.1,a.2.2.2.2.2.2.2.2.2.2.2.2.2.2.2.2.2.2.2.2.2.2.2.2.2.1,a.2.2.2.2.2.2.2.2.2.2.2.2.2.2.2.2.2.2.2.2.2.2.2.2.2.2.1,a.2.2.2.2.2.2.2.2.2.2.2.2.2.2.2.2.2.2.2.2.2.2.2.2.2.2.2.1,⟨a.2.2.2.2.2.2.2.2.2.2.2.2.2.2.2.2.2.2.2.2.2.2.2.2.2.2.2.2.1,a.2.2.2.2.2.2.2.2.2.2.2.2.2.2.2.2.2.2.2.2.2.2.2.2.2.2.2.2.2.1⟩,a.2.2.2.2.2.2.2.2.2.2.2.2.2.2.2.2.2.2.2.2.2.2.2.2.2.2.2.2.2.2.1,a.2.2.2.2.2.2.2.2.2.2.2.2.2.2.2.2.2.2.2.2.2.2.2.2.2.2.2.2.2.2.2.1,a.2.2.2.2.2.2.2.2.2.2.2.2.2.2.2.2.2.2.2.2.2.2.2.2.2.2.2.2.2.2.2.2.1,a.2.2.2.2.2.2.2.2.2.2.2.2.2.2.2.2.2.2.2.2.2.2.2.2.2.2.2.2.2.2.2.2.2.1,a.2.2.2.2.2.2.2.2.2.2.2.2.2.2.2.2.2.2.2.2.2.2.2.2.2.2.2.2.2.2.2.2.2.2.1,a.2.2.2.2.2.2.2.2.2.2.2.2.2.2.2.2.2.2.2.2.2.2.2.2.2.2.2.2.2.2.2.2.2.2.2.1,a.2.2.2.2.2.2.2.2.2.2.2.2.2.2.2.2.2.2.2.2.2.2.2.2.2.2.2.2.2.2.2.2.2.2.2.2.1⟩,a.2.2.2.2.2.2.2.2.2.2.2.2.2.2.2.2.2.2.2.2.2.2.2.2.2.2.2.2.2.2.2.2.2.2.2.2.2.1,a.2.2.2.2.2.2.2.2.2.2.2.2.2.2.2.2.2.2.2.2.2.2.2.2.2.2.2.2.2.2.2.2.2.2.2.2.2.2.1,⟨a.2.2.2.2.2.2.2.2.2.2.2.2.2.2.2.2.2.2.2.2.2.2.2.2.2.2.2.2.2.2.2.2.2.2.2.2.2.2.2.1,a.2.2.2.2.2.2.2.2.2.2.2.2.2.2.2.2.2.2.2.2.2.2.2.2.2.2.2.2.2.2.2.2.2.2.2.2.2.2.2.2.1,a.2.2.2.2.2.2.2.2.2.2.2.2.2.2.2.2.2.2.2.2.2.2.2.2.2.2.2.2.2.2.2.2.2.2.2.2.2.2.2.2.2.1,a.2.2.2.2.2.2.2.2.2.2.2.2.2.2.2.2.2.2.2.2.2.2.2.2.2.2.2.2.2.2.2.2.2.2.2.2.2.2.2.2.2.2.1,⟨a.2.2.2.2.2.2.2.2.2.2.2.2.2.2.2.2.2.2.2.2.2.2.2.2.2.2.2.2.2.2.2.2.2.2.2.2.2.2.2.2.2.2.2.1,a.2.2.2.2.2.2.2.2.2.2.2.2.2.2.2.2.2.2.2.2.2.2.2.2.2.2.2.2.2.2.2.2.2.2.2.2.2.2.2.2.2.2.2.2.1⟩⟩⟩⟩
 | 19,a=>⟨⟨⟨a.1,a.2.1⟩,a.2.2.1,a.2.2.2.1,a.2.2.2.2.1,a.2.2.2.2.2.1,a.2.2.2.2.2.2.1,a.2.2.2.2.2.2.2.1,a.2.2.2.2.2.2.2.2.1,a.2.2.2.2.2.2.2.2.2.1⟩,⟨a.2.2.2.2.2.2.2.2.2.2.1,a.2.2.2.2.2.2.2.2.2.2.2.1,a.2.2.2.2.2.2.2.2.2.2.2.2.1,⟨a.2.2.2.2.2.2.2.2.2.2.2.2.2.1,a.2.2.2.2.2.2.2.2.2.2.2.2.2.2.1⟩,a.2.2.2.2.2.2.2.2.2.2.2.2.2.2.2.1,a.2.2.2.2.2.2.2.2.2.2.2.2.2.2.2.2.1,a.2.2.2.2.2.2.2.2.2.2.2.2.2.2.2.2.2.1⟩,⟨a.2.2.2.2.2.2.2.2.2.2.2.2.2.2.2.2.2.2.1,a.2.2.2.2.2.2.2.2.2.2.2.2.2.2.2.2.2.2.2.1⟩⟩
 | 20,a=>⟨a.1,a.2.1⟩
 | 21,a=>⟨a.1,a.2.1,a.2.2.1⟩
 | 22,a=>⟨⟨⟨a.1,a.2.1⟩,a.2.2.1,a.2.2.2.1,a.2.2.2.2.1,a.2.2.2.2.2.1,a.2.2.2.2.2.2.1,a.2.2.2.2.2.2.2.1,a.2.2.2.2.2.2.2.2.1,a.2.2.2.2.2.2.2.2.2.1⟩,a.2.2.2.2.2.2.2.2.2.2.1,a.2.2.2.2.2.2.2.2.2.2.2.1,a.2.2.2.2.2.2.2.2.2.2.2.2.1,a.2.2.2.2.2.2.2.2.2.2.2.2.2.1,a.2.2.2.2.2.2.2.2.2.2.2.2.2.2.1⟩
 | _+23,_=>()
theorem KO:(n:Nat)→(a:TupS famS (famF0 n))→famU0 n (famP0 n a)=a
 | 0,_=>rfl
 | 1,_=>rfl
 | 2,_=>rfl
 | 3,_=>rfl
 | 4,_=>rfl
 | 5,_=>rfl
 | 6,_=>rfl
 | 7,_=>rfl
 | 8,_=>rfl
 | 9,_=>rfl
 | 10,_=>rfl
 | 11,_=>rfl
 | 12,_=>rfl
 | 13,_=>rfl
 | 14,_=>rfl
 | 15,_=>rfl
 | 16,_=>rfl
 | 17,_=>rfl
 | 18,_=>rfl
 | 19,_=>rfl
 | 20,_=>rfl
 | 21,_=>rfl
 | 22,_=>rfl
 | _+23,_=>rfl
def famU1:(n:Nat)→famS1 n→TupS famS (famF1 n)
 | 0,x=>(x.k,x.v,())
 | 1,x=>(x.k,x.v.Id,x.v.App,x.v.Node,x.v.Size.Mem,x.v.Size.Cores,x.v.Prio,x.v.Label,x.v.Master,x.v.Notice,())
 | 2,x=>(x.k,x.v,())
 | 3,x=>(())
 | 4,x=>(x.k,x.v,())
 | _+5,_=>()
def famP1:(n:Nat)→TupS famS (famF1 n)→famS1 n
 | 0,a=>⟨a.1,a.2.1⟩
 | 1,a=>⟨a.1,⟨a.2.1,a.2.2.1,a.2.2.2.1,⟨a.2.2.2.2.1,a.2.2.2.2.2.1⟩,a.2.2.2.2.2.2.1,a.2.2.2.2.2.2.2.1,a.2.2.2.2.2.2.2.2.1,a.2.2.2.2.2.2.2.2.2.1⟩⟩
 | 2,a=>⟨a.1,a.2.1⟩
 | 3,a=>()
 | 4,a=>⟨a.1,a.2.1⟩
 | _+5,_=>()
theorem J6:(n:Nat)→(a:TupS famS (famF1 n))→famU1 n (famP1 n a)=a
 | 0,_=>rfl
 | 1,_=>rfl
 | 2,_=>rfl
 | 3,_=>rfl
 | 4,_=>rfl
 | _+5,_=>rfl
def famUb(b:Bool)(n m:Nat):famSb b n m→TupS famS (famFb b n m):=match b with | false=>famU0 n | true=>famU1 m
def famPb(b:Bool)(n m:Nat):TupS famS (famFb b n m)→famSb b n m:=match b with | false=>famP0 n | true=>famP1 m
theorem LG(b:Bool)(n m:Nat):(a:TupS famS (famFb b n m))→famUb b n m (famPb b n m a)=a:=match b with | false=>KO n | true=>J6 m
def famU(n:Nat):famS n→TupS famS (famF n):=famUb (Nat.ble 500 n) n (n - 500)
def famP(n:Nat):TupS famS (famF n)→famS n:=famPb (Nat.ble 500 n) n (n - 500)
theorem famUP(n:Nat):(a:TupS famS (famF n))→famU n (famP n a)=a:=LG (Nat.ble 500 n) n (n - 500)
@[reducible] def fam:Fam:=⟨famS,famF,famU,famP,famUP⟩
noncomputable def row3:TI fam:=⟨Tryz.t3.desc,1,8,[.i .i64 0],some (.int .i64),false⟩
noncomputable def row4:TI fam:=⟨Tryz.t4.desc,1,1,[.b false],some (.bool),false⟩
noncomputable def row5:TI fam:=⟨Tryz.t5.desc,1,1,[.i .u8 0],some (.int .u8),false⟩
noncomputable def row9:TI fam:=⟨Tryz.t9.desc,1,16,[.s []],some (.str),false⟩
noncomputable def row24:TI fam:=⟨Tryz.t24.desc,1,24,[.nl],some (.slice (.str)),false⟩
noncomputable def row25:TI fam:=⟨Tryz.t25.desc,1,24,[.nl],some (.slice (.st 2)),false⟩
noncomputable def row27:TI fam:=⟨Tryz.t26.desc,2,48,[.nl,.nl],some (.st 3),false⟩
noncomputable def row28:TI fam:=⟨Tryz.t28.desc,1,24,[.nl],some (.slice (.st 4)),false⟩
noncomputable def row29:TI fam:=⟨Tryz.t29.desc,1,24,[.nl],some (.slice (.st 6)),false⟩
noncomputable def row30:TI fam:=⟨Tryz.t30.desc,1,24,[.nl],some (.slice (.st 7)),false⟩
noncomputable def row31:TI fam:=⟨Tryz.t31.desc,1,24,[.nl],some (.slice (.st 8)),false⟩
noncomputable def row32:TI fam:=⟨Tryz.t32.desc,1,24,[.nl],some (.slice (.st 9)),false⟩
noncomputable def row34:TI fam:=⟨Tryz.t33.desc,10,192,[.nl,.nl,.nl,.nl,.nl,.nl,.nl,.i .i64 0,.i .i64 0,.i .i64 0],some (.st 10),false⟩
noncomputable def row40:TI fam:=⟨Tryz.t39.desc,2,16,[.i .i64 0,.i .i64 0],some (.st 0),true⟩
noncomputable def row42:TI fam:=⟨Tryz.t41.desc,8,64,[.i .i64 0,.i .i64 0,.i .i64 0,.i .i64 0,.i .i64 0,.i .i64 0,.i .i64 0,.b false],some (.st 4),false⟩
noncomputable def row43:TI fam:=⟨Tryz.t43.desc,1,24,[.nl],some (.slice (.st 5)),false⟩
noncomputable def row44:TI fam:=⟨Tryz.t44.desc,1,24,[.nl],some (.slice (.int .i64)),false⟩
noncomputable def row46:TI fam:=⟨Tryz.t45.desc,14,200,[.i .i64 0,.i .i64 0,.s [],.i .i64 0,.i .i64 0,.i .i64 0,.i .i64 0,.nl,.i .i64 0,.i .i64 0,.nl,.nl,.nl,.nl],some (.st 6),false⟩
noncomputable def row48:TI fam:=⟨Tryz.t47.desc,6,48,[.i .i64 0,.i .i64 0,.i .i64 0,.i .i64 0,.i .i64 0,.i .i64 0],some (.st 9),false⟩
noncomputable def row50:TI fam:=⟨Tryz.t49.desc,35,408,[.i .i64 0,.i .i64 0,.i .i64 0,.i .i64 0,.s [],.i .i64 0,.i .i64 0,.i .i64 0,.i .i64 0,.i .i64 0,.i .i64 0,.i .i64 0,.b false,.i .i64 0,.i .i64 0,.s [],.i .i64 0,.i .i64 0,.i .i64 0,.i .i64 0,.nl,.i .i64 0,.i .i64 0,.nl,.nl,.nl,.nl,.nl,.nl,.i .i64 0,.i .i64 0,.i .i64 0,.i .i64 0,.i .i64 0,.i .i64 0],some (.st 12),false⟩
noncomputable def row53:TI fam:=⟨Tryz.t53.desc,1,24,[.nl],some (.slice (.st 12)),false⟩
noncomputable def row60:TI fam:=⟨Tryz.t3.desc,1,8,[.i .i64 0],some (.int .i64),false⟩
noncomputable def row62:TI fam:=⟨Tryz.t61.desc,5,88,[.i .i64 0,.nl,.nl,.nl,.i .i64 0],some (.st 11),false⟩
noncomputable def row68:TI fam:=⟨Tryz.t67.desc,9,72,[.i .i64 0,.i .i64 0,.i .i64 0,.i .i64 0,.i .i64 0,.i .i64 0,.i .i64 0,.b false,.i .i64 0],some (.st 7),false⟩
noncomputable def row71:TI fam:=⟨Tryz.t70.desc,8,64,[.i .i64 0,.i .i64 0,.i .i64 0,.i .i64 0,.i .i64 0,.i .i64 0,.i .i64 0,.i .i64 0],some (.st 5),false⟩
noncomputable def row75:TI fam:=⟨Tryz.t74.desc,2,16,[.i .i64 0,.i .i64 0],some (.st 1),false⟩
noncomputable def row76:TI fam:=⟨Tryz.t76.desc,1,24,[.nl],some (.slice (.st 1)),false⟩
noncomputable def row78:TI fam:=⟨Tryz.t77.desc,3,48,[.s [],.nl,.i .i64 0],some (.st 2),false⟩
noncomputable def row81:TI fam:=⟨Tryz.t80.desc,10,192,[.nl,.nl,.nl,.nl,.nl,.nl,.nl,.i .i64 0,.i .i64 0,.i .i64 0],some (.st 16),false⟩
noncomputable def row91:TI fam:=⟨Tryz.t90.desc,3,24,[.i .i64 0,.i .i64 0,.i .i64 0],some (.st 8),false⟩
noncomputable def row93:TI fam:=⟨Tryz.t93.desc,1,8,[.v (.pointer none)],none,false⟩
noncomputable def row96:TI fam:=⟨Tryz.t95.desc,45,600,[.nl,.nl,.nl,.nl,.nl,.nl,.nl,.i .i64 0,.i .i64 0,.i .i64 0,.i .i64 0,.i .i64 0,.i .i64 0,.i .i64 0,.s [],.i .i64 0,.i .i64 0,.i .i64 0,.i .i64 0,.i .i64 0,.i .i64 0,.i .i64 0,.b false,.i .i64 0,.i .i64 0,.s [],.i .i64 0,.i .i64 0,.i .i64 0,.i .i64 0,.nl,.i .i64 0,.i .i64 0,.nl,.nl,.nl,.nl,.nl,.nl,.i .i64 0,.i .i64 0,.i .i64 0,.i .i64 0,.i .i64 0,.i .i64 0],some (.st 18),false⟩
noncomputable def F5:TI fam:=⟨Tryz.t100.desc,1,24,[.nl],some (.slice (.int .u8)),false⟩
noncomputable def G8:TI fam:=⟨Tryz.t103.desc,1,24,[.nl],some (.slice (.st 0)),false⟩
noncomputable def F8:TI fam:=⟨Tryz.t126.desc,1,8,[.v (.map none)],some (.slice (.st 500)),false⟩
noncomputable def GG:TI fam:=⟨Tryz.t39.desc,2,16,[.i .i64 0,.i .i64 0],some (.st 0),false⟩
noncomputable def GN:TI fam:=⟨Tryz.t3.desc,1,8,[.i .i64 0],some (.int .i64),false⟩
noncomputable def Gx:TI fam:=⟨Tryz.t194.desc,1,8,[.v (.pointer none)],none,false⟩
noncomputable def Gn:TI fam:=⟨Tryz.t195.desc,3,56,[.nl,.nl,.b false],some (.st 17),false⟩
noncomputable def GF:TI fam:=⟨Tryz.t209.desc,1,8,[.v (.map none)],some (.slice (.st 502)),false⟩
noncomputable def F6:TI fam:=⟨Tryz.t221.desc,1,8,[.v (.pointer none)],none,false⟩
noncomputable def GY:TI fam:=⟨Tryz.t222.desc,20,272,[.nl,.nl,.nl,.nl,.nl,.nl,.nl,.i .i64 0,.i .i64 0,.i .i64 0,.i .i64 0,.i .i64 0,.i .i64 0,.i .i64 0,.i .i64 0,.i .i64 0,.i .i64 0,.b false,.i .i64 0,.i .i64 0],some (.st 19),false⟩
noncomputable def Gc:TI fam:=⟨Tryz.t239.desc,1,8,[.v (.pointer none)],none,false⟩
noncomputable def F3:TI fam:=⟨Tryz.t242.desc,1,8,[.v (.map none)],some (.slice (.st 504)),false⟩
noncomputable def Gf:TI fam:=⟨Tryz.t243.desc,15,232,[.nl,.nl,.nl,.nl,.nl,.nl,.nl,.i .i64 0,.i .i64 0,.i .i64 0,.i .i64 0,.v (.map none),.v (.map none),.v (.map none),.i .i64 0],some (.st 22),false⟩
noncomputable def GE:TI fam:=⟨Tryz.t250.desc,1,8,[.i .u64 0],some (.int .u64),false⟩
noncomputable def F4:TI fam:=⟨Tryz.t253.desc,1,4,[.i .u32 0],some (.int .u32),false⟩
noncomputable def GR:TI fam:=⟨Tryz.t274.desc,1,24,[.nl],some (.slice (.st 13)),false⟩
noncomputable def GZ:TI fam:=⟨Tryz.t277.desc,2,24,[.s [],.i .i64 0],some (.st 13),false⟩
noncomputable def GX:TI fam:=⟨Tryz.t281.desc,1,8,[.v (.map none)],some (.slice (.st 501)),false⟩
noncomputable def G0:TI fam:=⟨Tryz.t292.desc,1,8,[.i .u64 0],some (.int .u64),false⟩
noncomputable def Gh:TI fam:=⟨Tryz.t314.desc,13,224,[.nl,.nl,.nl,.nl,.nl,.nl,.nl,.i .i64 0,.i .i64 0,.i .i64 0,.s [],.i .i64 0,.i .i64 0],some (.st 14),false⟩
noncomputable def GP:TI fam:=⟨Tryz.t74.desc,2,16,[.i .i64 0,.i .i64 0],some (.st 1),false⟩
noncomputable def GC:TI fam:=⟨Tryz.t345.desc,1,24,[.nl],some (.slice (.slice (.int .i64))),false⟩
noncomputable def Gt:TI fam:=⟨Tryz.t362.desc,1,24,[.nl],some (.slice (.st 15)),false⟩
noncomputable def GA:TI fam:=⟨Tryz.t363.desc,5,48,[.s [],.i .i64 0,.i .i64 0,.i .i64 0,.i .i64 0],some (.st 15),false⟩
noncomputable def Ga:TI fam:=⟨Tryz.t398.desc,2,16,[.i .u64 0,.i .u64 0],some (.st 20),false⟩
noncomputable def tbl:List (Nat×TI fam):=[(3,row3),(4,row4),(5,row5),(9,row9),(24,row24),(25,row25),(27,row27),(28,row28),(29,row29),(30,row30),(31,row31),(32,row32),(34,row34),(40,row40),(42,row42),(43,row43),(44,row44),(46,row46),(48,row48),(50,row50),(53,row53),(60,row60),(62,row62),(68,row68),(71,row71),(75,row75),(76,row76),(78,row78),(81,row81),(91,row91),(93,row93),(96,row96),(100,F5),(103,G8),(126,F8),(137,GG),(191,GN),(194,Gx),(196,Gn),(209,GF),(221,F6),(223,GY),(239,Gc),(242,F3),(244,Gf),(250,GE),(253,F4),(274,GR),(278,GZ),(281,GX),(292,G0),(315,Gh),(333,GP),(345,GC),(362,Gt),(364,GA),(399,Ga)]
end Go.Fx.D
