/-
  The types of the seat as plain Lean types, and its table of types (printed by a program). Conditions: none.
-/
import Derived.Test.YtdnbceoohjpkeaaGreatFxA
import Derived.Test.YtdnbceoohjpkeaaGreatProg
namespace Go.Fx.D
open Go Go.Fx Go.Proofs
set_option linter.unusedVariables false
structure Vec where
 Mem : Int
 Cores : Int
structure Cap where
 Least : Int
 Most : Int
structure Queue where
 Path : List UInt8
 Caps : List Cap
 User : Int
structure Conf where
 Labels : List (List UInt8)
 Queues : List Queue
structure Node where
 Id : Int
 Label : Int
 Rack : Int
 Cap : Vec
 Seen : Int
 Beat : Int
 Up : Bool
structure Ask where
 Prio : Int
 Label : Int
 Size : Vec
 Count : Int
 Node : Int
 Rack : Int
 Missed : Int
structure App where
 Id : Int
 State : Int
 Queue : List UInt8
 User : Int
 Prio : Int
 Master : Vec
 Asks : List Ask
 Seen : Int
 Beat : Int
 Grants : List Int
 Kills : List Int
 Told : List Int
 Lost : List Int
structure Cont where
 Id : Int
 App : Int
 Node : Int
 Size : Vec
 Prio : Int
 Label : Int
 Master : Bool
 Notice : Int
structure Slot where
 Node : Int
 App : Int
 Prio : Int
structure Plan where
 Id : Int
 Label : Int
 From : Int
 Until : Int
 Need : Vec
structure State where
 Conf : Conf
 Nodes : List Node
 Apps : List App
 Conts : List Cont
 Slots : List Slot
 Plans : List Plan
 Now : Int
 Epoch : Int
 Seq : Int
structure View where
 s : State
 path : List UInt8
 label : Int
 user : Int
structure Load where
 path : List UInt8
 used : Vec
 least : Vec
structure Attempt where
 s : State
 n : Node
 free : Vec
structure Ratio where
 n : Int
 of : Int
@[reducible] def famS : Nat → Type
 | 0 => Vec
 | 1 => Cap
 | 2 => Queue
 | 3 => Conf
 | 4 => Node
 | 5 => Ask
 | 6 => App
 | 7 => Cont
 | 8 => Slot
 | 9 => Plan
 | 10 => State
 | 11 => View
 | 12 => Load
 | 13 => Attempt
 | 14 => Ratio
 | _ => Unit
@[reducible] def famF : Nat → List Ty
 | 0 => [.int .i64,.int .i64]
 | 1 => [.int .i64,.int .i64]
 | 2 => [.str,.slice (.st 1),.int .i64]
 | 3 => [.slice (.str),.slice (.st 2)]
 | 4 => [.int .i64,.int .i64,.int .i64,.int .i64,.int .i64,.int .i64,.int .i64,.bool]
 | 5 => [.int .i64,.int .i64,.int .i64,.int .i64,.int .i64,.int .i64,.int .i64,.int .i64]
 | 6 => [.int .i64,.int .i64,.str,.int .i64,.int .i64,.int .i64,.int .i64,.slice (.st 5),.int .i64,.int .i64,.slice (.int .i64),.slice (.int .i64),.slice (.int .i64),.slice (.int .i64)]
 | 7 => [.int .i64,.int .i64,.int .i64,.int .i64,.int .i64,.int .i64,.int .i64,.bool,.int .i64]
 | 8 => [.int .i64,.int .i64,.int .i64]
 | 9 => [.int .i64,.int .i64,.int .i64,.int .i64,.int .i64,.int .i64]
 | 10 => [.slice (.str),.slice (.st 2),.slice (.st 4),.slice (.st 6),.slice (.st 7),.slice (.st 8),.slice (.st 9),.int .i64,.int .i64,.int .i64]
 | 11 => [.slice (.str),.slice (.st 2),.slice (.st 4),.slice (.st 6),.slice (.st 7),.slice (.st 8),.slice (.st 9),.int .i64,.int .i64,.int .i64,.str,.int .i64,.int .i64]
 | 12 => [.str,.int .i64,.int .i64,.int .i64,.int .i64]
 | 13 => [.slice (.str),.slice (.st 2),.slice (.st 4),.slice (.st 6),.slice (.st 7),.slice (.st 8),.slice (.st 9),.int .i64,.int .i64,.int .i64,.int .i64,.int .i64,.int .i64,.int .i64,.int .i64,.int .i64,.int .i64,.bool,.int .i64,.int .i64]
 | 14 => [.int .u64,.int .u64]
 | _ => []
def famU : (n : Nat) → famS n → TupS famS (famF n)
 | 0,x => (x.Mem,x.Cores,())
 | 1,x => (x.Least,x.Most,())
 | 2,x => (x.Path,x.Caps,x.User,())
 | 3,x => (x.Labels,x.Queues,())
 | 4,x => (x.Id,x.Label,x.Rack,x.Cap.Mem,x.Cap.Cores,x.Seen,x.Beat,x.Up,())
 | 5,x => (x.Prio,x.Label,x.Size.Mem,x.Size.Cores,x.Count,x.Node,x.Rack,x.Missed,())
 | 6,x => (x.Id,x.State,x.Queue,x.User,x.Prio,x.Master.Mem,x.Master.Cores,x.Asks,x.Seen,x.Beat,x.Grants,x.Kills,x.Told,x.Lost,())
 | 7,x => (x.Id,x.App,x.Node,x.Size.Mem,x.Size.Cores,x.Prio,x.Label,x.Master,x.Notice,())
 | 8,x => (x.Node,x.App,x.Prio,())
 | 9,x => (x.Id,x.Label,x.From,x.Until,x.Need.Mem,x.Need.Cores,())
 | 10,x => (x.Conf.Labels,x.Conf.Queues,x.Nodes,x.Apps,x.Conts,x.Slots,x.Plans,x.Now,x.Epoch,x.Seq,())
 | 11,x => (x.s.Conf.Labels,x.s.Conf.Queues,x.s.Nodes,x.s.Apps,x.s.Conts,x.s.Slots,x.s.Plans,x.s.Now,x.s.Epoch,x.s.Seq,x.path,x.label,x.user,())
 | 12,x => (x.path,x.used.Mem,x.used.Cores,x.least.Mem,x.least.Cores,())
 | 13,x => (x.s.Conf.Labels,x.s.Conf.Queues,x.s.Nodes,x.s.Apps,x.s.Conts,x.s.Slots,x.s.Plans,x.s.Now,x.s.Epoch,x.s.Seq,x.n.Id,x.n.Label,x.n.Rack,x.n.Cap.Mem,x.n.Cap.Cores,x.n.Seen,x.n.Beat,x.n.Up,x.free.Mem,x.free.Cores,())
 | 14,x => (x.n,x.of,())
 | _ + 15,_ => ()
def famP : (n : Nat) → TupS famS (famF n) → famS n
 | 0,a => ⟨a.1,a.2.1⟩
 | 1,a => ⟨a.1,a.2.1⟩
 | 2,a => ⟨a.1,a.2.1,a.2.2.1⟩
 | 3,a => ⟨a.1,a.2.1⟩
 | 4,a => ⟨a.1,a.2.1,a.2.2.1,⟨a.2.2.2.1,a.2.2.2.2.1⟩,a.2.2.2.2.2.1,a.2.2.2.2.2.2.1,a.2.2.2.2.2.2.2.1⟩
 | 5,a => ⟨a.1,a.2.1,⟨a.2.2.1,a.2.2.2.1⟩,a.2.2.2.2.1,a.2.2.2.2.2.1,a.2.2.2.2.2.2.1,a.2.2.2.2.2.2.2.1⟩
 | 6,a => ⟨a.1,a.2.1,a.2.2.1,a.2.2.2.1,a.2.2.2.2.1,⟨a.2.2.2.2.2.1,a.2.2.2.2.2.2.1⟩,a.2.2.2.2.2.2.2.1,a.2.2.2.2.2.2.2.2.1,a.2.2.2.2.2.2.2.2.2.1,a.2.2.2.2.2.2.2.2.2.2.1,a.2.2.2.2.2.2.2.2.2.2.2.1,a.2.2.2.2.2.2.2.2.2.2.2.2.1,a.2.2.2.2.2.2.2.2.2.2.2.2.2.1⟩
 | 7,a => ⟨a.1,a.2.1,a.2.2.1,⟨a.2.2.2.1,a.2.2.2.2.1⟩,a.2.2.2.2.2.1,a.2.2.2.2.2.2.1,a.2.2.2.2.2.2.2.1,a.2.2.2.2.2.2.2.2.1⟩
 | 8,a => ⟨a.1,a.2.1,a.2.2.1⟩
 | 9,a => ⟨a.1,a.2.1,a.2.2.1,a.2.2.2.1,⟨a.2.2.2.2.1,a.2.2.2.2.2.1⟩⟩
 | 10,a => ⟨⟨a.1,a.2.1⟩,a.2.2.1,a.2.2.2.1,a.2.2.2.2.1,a.2.2.2.2.2.1,a.2.2.2.2.2.2.1,a.2.2.2.2.2.2.2.1,a.2.2.2.2.2.2.2.2.1,a.2.2.2.2.2.2.2.2.2.1⟩
 | 11,a => ⟨⟨⟨a.1,a.2.1⟩,a.2.2.1,a.2.2.2.1,a.2.2.2.2.1,a.2.2.2.2.2.1,a.2.2.2.2.2.2.1,a.2.2.2.2.2.2.2.1,a.2.2.2.2.2.2.2.2.1,a.2.2.2.2.2.2.2.2.2.1⟩,a.2.2.2.2.2.2.2.2.2.2.1,a.2.2.2.2.2.2.2.2.2.2.2.1,a.2.2.2.2.2.2.2.2.2.2.2.2.1⟩
 | 12,a => ⟨a.1,⟨a.2.1,a.2.2.1⟩,⟨a.2.2.2.1,a.2.2.2.2.1⟩⟩
 | 13,a => ⟨⟨⟨a.1,a.2.1⟩,a.2.2.1,a.2.2.2.1,a.2.2.2.2.1,a.2.2.2.2.2.1,a.2.2.2.2.2.2.1,a.2.2.2.2.2.2.2.1,a.2.2.2.2.2.2.2.2.1,a.2.2.2.2.2.2.2.2.2.1⟩,⟨a.2.2.2.2.2.2.2.2.2.2.1,a.2.2.2.2.2.2.2.2.2.2.2.1,a.2.2.2.2.2.2.2.2.2.2.2.2.1,⟨a.2.2.2.2.2.2.2.2.2.2.2.2.2.1,a.2.2.2.2.2.2.2.2.2.2.2.2.2.2.1⟩,a.2.2.2.2.2.2.2.2.2.2.2.2.2.2.2.1,a.2.2.2.2.2.2.2.2.2.2.2.2.2.2.2.2.1,a.2.2.2.2.2.2.2.2.2.2.2.2.2.2.2.2.2.1⟩,⟨a.2.2.2.2.2.2.2.2.2.2.2.2.2.2.2.2.2.2.1,a.2.2.2.2.2.2.2.2.2.2.2.2.2.2.2.2.2.2.2.1⟩⟩
 | 14,a => ⟨a.1,a.2.1⟩
 | _ + 15,_ => ()
theorem famUP : (n : Nat) → (a : TupS famS (famF n)) → famU n (famP n a) = a
 | 0,_ => rfl
 | 1,_ => rfl
 | 2,_ => rfl
 | 3,_ => rfl
 | 4,_ => rfl
 | 5,_ => rfl
 | 6,_ => rfl
 | 7,_ => rfl
 | 8,_ => rfl
 | 9,_ => rfl
 | 10,_ => rfl
 | 11,_ => rfl
 | 12,_ => rfl
 | 13,_ => rfl
 | 14,_ => rfl
 | _ + 15,_ => rfl
@[reducible] def fam : Fam:=⟨famS,famF,famU,famP,famUP⟩
noncomputable def row3 : TI fam:=⟨Tryz.t3.desc,1,8,[.i .i64 0],some (.int .i64),false⟩
noncomputable def row4 : TI fam:=⟨Tryz.t4.desc,1,1,[.b false],some (.bool),false⟩
noncomputable def row5 : TI fam:=⟨Tryz.t5.desc,1,1,[.i .u8 0],some (.int .u8),false⟩
noncomputable def row9 : TI fam:=⟨Tryz.t9.desc,1,16,[.s []],some (.str),false⟩
noncomputable def row24 : TI fam:=⟨Tryz.t24.desc,1,24,[.nl],some (.slice (.str)),false⟩
noncomputable def row25 : TI fam:=⟨Tryz.t25.desc,1,24,[.nl],some (.slice (.st 2)),false⟩
noncomputable def row27 : TI fam:=⟨Tryz.t26.desc,2,48,[.nl,.nl],some (.st 3),false⟩
noncomputable def row28 : TI fam:=⟨Tryz.t28.desc,1,24,[.nl],some (.slice (.st 4)),false⟩
noncomputable def row29 : TI fam:=⟨Tryz.t29.desc,1,24,[.nl],some (.slice (.st 6)),false⟩
noncomputable def row30 : TI fam:=⟨Tryz.t30.desc,1,24,[.nl],some (.slice (.st 7)),false⟩
noncomputable def row31 : TI fam:=⟨Tryz.t31.desc,1,24,[.nl],some (.slice (.st 8)),false⟩
noncomputable def row32 : TI fam:=⟨Tryz.t32.desc,1,24,[.nl],some (.slice (.st 9)),false⟩
noncomputable def row34 : TI fam:=⟨Tryz.t33.desc,10,192,[.nl,.nl,.nl,.nl,.nl,.nl,.nl,.i .i64 0,.i .i64 0,.i .i64 0],some (.st 10),false⟩
noncomputable def row36 : TI fam:=⟨Tryz.t36.desc,1,24,[.nl],some (.slice (.int .i64)),false⟩
noncomputable def row38 : TI fam:=⟨Tryz.t37.desc,2,16,[.i .i64 0,.i .i64 0],some (.st 0),true⟩
noncomputable def row40 : TI fam:=⟨Tryz.t39.desc,8,64,[.i .i64 0,.i .i64 0,.i .i64 0,.i .i64 0,.i .i64 0,.i .i64 0,.i .i64 0,.i .i64 0],some (.st 5),false⟩
noncomputable def row42 : TI fam:=⟨Tryz.t41.desc,9,72,[.i .i64 0,.i .i64 0,.i .i64 0,.i .i64 0,.i .i64 0,.i .i64 0,.i .i64 0,.b false,.i .i64 0],some (.st 7),false⟩
noncomputable def row45 : TI fam:=⟨Tryz.t45.desc,1,24,[.nl],some (.slice (.st 5)),false⟩
noncomputable def row47 : TI fam:=⟨Tryz.t46.desc,14,200,[.i .i64 0,.i .i64 0,.s [],.i .i64 0,.i .i64 0,.i .i64 0,.i .i64 0,.nl,.i .i64 0,.i .i64 0,.nl,.nl,.nl,.nl],some (.st 6),false⟩
noncomputable def row49 : TI fam:=⟨Tryz.t48.desc,8,64,[.i .i64 0,.i .i64 0,.i .i64 0,.i .i64 0,.i .i64 0,.i .i64 0,.i .i64 0,.b false],some (.st 4),false⟩
noncomputable def row51 : TI fam:=⟨Tryz.t50.desc,3,24,[.i .i64 0,.i .i64 0,.i .i64 0],some (.st 8),true⟩
noncomputable def row64 : TI fam:=⟨Tryz.t64.desc,1,8,[.v (.pointer none)],none,false⟩
noncomputable def row66 : TI fam:=⟨Tryz.t65.desc,20,272,[.nl,.nl,.nl,.nl,.nl,.nl,.nl,.i .i64 0,.i .i64 0,.i .i64 0,.i .i64 0,.i .i64 0,.i .i64 0,.i .i64 0,.i .i64 0,.i .i64 0,.i .i64 0,.b false,.i .i64 0,.i .i64 0],some (.st 13),false⟩
noncomputable def row73 : TI fam:=⟨Tryz.t72.desc,2,16,[.i .i64 0,.i .i64 0],some (.st 1),false⟩
noncomputable def row74 : TI fam:=⟨Tryz.t74.desc,1,24,[.nl],some (.slice (.st 1)),false⟩
noncomputable def row76 : TI fam:=⟨Tryz.t75.desc,3,48,[.s [],.nl,.i .i64 0],some (.st 2),false⟩
noncomputable def zW : TI fam:=⟨Tryz.t112.desc,6,48,[.i .i64 0,.i .i64 0,.i .i64 0,.i .i64 0,.i .i64 0,.i .i64 0],some (.st 9),false⟩
noncomputable def zI : TI fam:=⟨Tryz.t3.desc,1,8,[.i .i64 0],some (.int .i64),false⟩
noncomputable def Ac : TI fam:=⟨Tryz.t3.desc,1,8,[.i .i64 0],some (.int .i64),false⟩
noncomputable def zH : TI fam:=⟨Tryz.t130.desc,1,8,[.i .u64 0],some (.int .u64),false⟩
noncomputable def zV : TI fam:=⟨Tryz.t37.desc,2,16,[.i .i64 0,.i .i64 0],some (.st 0),false⟩
noncomputable def Af : TI fam:=⟨Tryz.t146.desc,13,224,[.nl,.nl,.nl,.nl,.nl,.nl,.nl,.i .i64 0,.i .i64 0,.i .i64 0,.s [],.i .i64 0,.i .i64 0],some (.st 11),false⟩
noncomputable def Ai : TI fam:=⟨Tryz.t72.desc,2,16,[.i .i64 0,.i .i64 0],some (.st 1),false⟩
noncomputable def z7 : TI fam:=⟨Tryz.t173.desc,1,24,[.nl],some (.slice (.st 0)),false⟩
noncomputable def Aa : TI fam:=⟨Tryz.t177.desc,1,24,[.nl],some (.slice (.st 12)),false⟩
noncomputable def Ad : TI fam:=⟨Tryz.t178.desc,5,48,[.s [],.i .i64 0,.i .i64 0,.i .i64 0,.i .i64 0],some (.st 12),false⟩
noncomputable def Al : TI fam:=⟨Tryz.t189.desc,1,8,[.i .u64 0],some (.int .u64),false⟩
noncomputable def zL : TI fam:=⟨Tryz.t215.desc,1,4,[.i .u32 0],some (.int .u32),false⟩
noncomputable def z3 : TI fam:=⟨Tryz.t216.desc,2,16,[.i .u64 0,.i .u64 0],some (.st 14),false⟩
noncomputable def tbl : List (Nat × TI fam):=[(3,row3),(4,row4),(5,row5),(9,row9),(24,row24),(25,row25),(27,row27),(28,row28),(29,row29),(30,row30),(31,row31),(32,row32),(34,row34),(36,row36),(38,row38),(40,row40),(42,row42),(45,row45),(47,row47),(49,row49),(51,row51),(64,row64),(66,row66),(73,row73),(74,row74),(76,row76),(113,zW),(121,zI),(122,Ac),(130,zH),(144,zV),(147,Af),(152,Ai),(173,z7),(177,Aa),(179,Ad),(189,Al),(215,zL),(217,z3)]
end Go.Fx.D
