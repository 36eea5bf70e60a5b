/-
  The types of the seat as plain Lean types, and its table of types (printed by a program). Conditions: none.
-/
import Derived.Test.YtofmfbgkkbionaaFxA
import Derived.Test.YtofmfbgkkbionaaProg
namespace Go.Fx.D
open Go Go.Fx Go.Proofs
set_option linter.unusedVariables false
structure Vec where
 Mem : Int
 Cores : Int
structure Cap where
 Least : Int
 Most : Int
structure Queue where
 Path : List UInt8
 Caps : List Cap
 User : Int
structure Conf where
 Labels : List (List UInt8)
 Queues : List Queue
structure Node where
 Id : Int
 Label : Int
 Rack : Int
 Cap : Vec
 Seen : Int
 Beat : Int
 Up : Bool
structure Ask where
 Prio : Int
 Label : Int
 Size : Vec
 Count : Int
 Node : Int
 Rack : Int
 Missed : Int
structure App where
 Id : Int
 State : Int
 Queue : List UInt8
 User : Int
 Prio : Int
 Master : Vec
 Asks : List Ask
 Seen : Int
 Beat : Int
 Grants : List Int
 Kills : List Int
 Told : List Int
 Lost : List Int
structure Cont where
 Id : Int
 App : Int
 Node : Int
 Size : Vec
 Prio : Int
 Label : Int
 Master : Bool
 Notice : Int
structure Slot where
 Node : Int
 App : Int
 Prio : Int
structure Plan where
 Id : Int
 Label : Int
 From : Int
 Until : Int
 Need : Vec
structure State where
 Conf : Conf
 Nodes : List Node
 Apps : List App
 Conts : List Cont
 Slots : List Slot
 Plans : List Plan
 Now : Int
 Epoch : Int
 Seq : Int
structure Arr2_Vec where
 a0 : Vec
 a1 : Vec
@[reducible] def famS : Nat → Type
 | 0 => Vec
 | 1 => Cap
 | 2 => Queue
 | 3 => Conf
 | 4 => Node
 | 5 => Ask
 | 6 => App
 | 7 => Cont
 | 8 => Slot
 | 9 => Plan
 | 10 => State
 | 11 => Arr2_Vec
 | _ => Unit
@[reducible] def famF : Nat → List Ty
 | 0 => [.int .i64,.int .i64]
 | 1 => [.int .i64,.int .i64]
 | 2 => [.str,.slice (.st 1),.int .i64]
 | 3 => [.slice (.str),.slice (.st 2)]
 | 4 => [.int .i64,.int .i64,.int .i64,.int .i64,.int .i64,.int .i64,.int .i64,.bool]
 | 5 => [.int .i64,.int .i64,.int .i64,.int .i64,.int .i64,.int .i64,.int .i64,.int .i64]
 | 6 => [.int .i64,.int .i64,.str,.int .i64,.int .i64,.int .i64,.int .i64,.slice (.st 5),.int .i64,.int .i64,.slice (.int .i64),.slice (.int .i64),.slice (.int .i64),.slice (.int .i64)]
 | 7 => [.int .i64,.int .i64,.int .i64,.int .i64,.int .i64,.int .i64,.int .i64,.bool,.int .i64]
 | 8 => [.int .i64,.int .i64,.int .i64]
 | 9 => [.int .i64,.int .i64,.int .i64,.int .i64,.int .i64,.int .i64]
 | 10 => [.slice (.str),.slice (.st 2),.slice (.st 4),.slice (.st 6),.slice (.st 7),.slice (.st 8),.slice (.st 9),.int .i64,.int .i64,.int .i64]
 | 11 => [.int .i64,.int .i64,.int .i64,.int .i64]
 | _ => []
def famU : (n : Nat) → famS n → TupS famS (famF n)
 | 0,x => (x.Mem,x.Cores,())
 | 1,x => (x.Least,x.Most,())
 | 2,x => (x.Path,x.Caps,x.User,())
 | 3,x => (x.Labels,x.Queues,())
 | 4,x => (x.Id,x.Label,x.Rack,x.Cap.Mem,x.Cap.Cores,x.Seen,x.Beat,x.Up,())
 | 5,x => (x.Prio,x.Label,x.Size.Mem,x.Size.Cores,x.Count,x.Node,x.Rack,x.Missed,())
 | 6,x => (x.Id,x.State,x.Queue,x.User,x.Prio,x.Master.Mem,x.Master.Cores,x.Asks,x.Seen,x.Beat,x.Grants,x.Kills,x.Told,x.Lost,())
 | 7,x => (x.Id,x.App,x.Node,x.Size.Mem,x.Size.Cores,x.Prio,x.Label,x.Master,x.Notice,())
 | 8,x => (x.Node,x.App,x.Prio,())
 | 9,x => (x.Id,x.Label,x.From,x.Until,x.Need.Mem,x.Need.Cores,())
 | 10,x => (x.Conf.Labels,x.Conf.Queues,x.Nodes,x.Apps,x.Conts,x.Slots,x.Plans,x.Now,x.Epoch,x.Seq,())
 | 11,x => (x.a0.Mem,x.a0.Cores,x.a1.Mem,x.a1.Cores,())
 | _ + 12,_ => ()
def famP : (n : Nat) → TupS famS (famF n) → famS n
 | 0,a => ⟨a.1,a.2.1⟩
 | 1,a => ⟨a.1,a.2.1⟩
 | 2,a => ⟨a.1,a.2.1,a.2.2.1⟩
 | 3,a => ⟨a.1,a.2.1⟩
 | 4,a => ⟨a.1,a.2.1,a.2.2.1,⟨a.2.2.2.1,a.2.2.2.2.1⟩,a.2.2.2.2.2.1,a.2.2.2.2.2.2.1,a.2.2.2.2.2.2.2.1⟩
 | 5,a => ⟨a.1,a.2.1,⟨a.2.2.1,a.2.2.2.1⟩,a.2.2.2.2.1,a.2.2.2.2.2.1,a.2.2.2.2.2.2.1,a.2.2.2.2.2.2.2.1⟩
 | 6,a => ⟨a.1,a.2.1,a.2.2.1,a.2.2.2.1,a.2.2.2.2.1,⟨a.2.2.2.2.2.1,a.2.2.2.2.2.2.1⟩,a.2.2.2.2.2.2.2.1,a.2.2.2.2.2.2.2.2.1,a.2.2.2.2.2.2.2.2.2.1,a.2.2.2.2.2.2.2.2.2.2.1,a.2.2.2.2.2.2.2.2.2.2.2.1,a.2.2.2.2.2.2.2.2.2.2.2.2.1,a.2.2.2.2.2.2.2.2.2.2.2.2.2.1⟩
 | 7,a => ⟨a.1,a.2.1,a.2.2.1,⟨a.2.2.2.1,a.2.2.2.2.1⟩,a.2.2.2.2.2.1,a.2.2.2.2.2.2.1,a.2.2.2.2.2.2.2.1,a.2.2.2.2.2.2.2.2.1⟩
 | 8,a => ⟨a.1,a.2.1,a.2.2.1⟩
 | 9,a => ⟨a.1,a.2.1,a.2.2.1,a.2.2.2.1,⟨a.2.2.2.2.1,a.2.2.2.2.2.1⟩⟩
 | 10,a => ⟨⟨a.1,a.2.1⟩,a.2.2.1,a.2.2.2.1,a.2.2.2.2.1,a.2.2.2.2.2.1,a.2.2.2.2.2.2.1,a.2.2.2.2.2.2.2.1,a.2.2.2.2.2.2.2.2.1,a.2.2.2.2.2.2.2.2.2.1⟩
 | 11,a => ⟨⟨a.1,a.2.1⟩,⟨a.2.2.1,a.2.2.2.1⟩⟩
 | _ + 12,_ => ()
theorem famUP : (n : Nat) → (a : TupS famS (famF n)) → famU n (famP n a) = a
 | 0,_ => rfl
 | 1,_ => rfl
 | 2,_ => rfl
 | 3,_ => rfl
 | 4,_ => rfl
 | 5,_ => rfl
 | 6,_ => rfl
 | 7,_ => rfl
 | 8,_ => rfl
 | 9,_ => rfl
 | 10,_ => rfl
 | 11,_ => rfl
 | _ + 12,_ => rfl
@[reducible] def fam : Fam:=⟨famS,famF,famU,famP,famUP⟩
noncomputable def row3 : TI fam:=⟨Try.t3.desc,1,8,[.i .i64 0],some (.int .i64),false⟩
noncomputable def row4 : TI fam:=⟨Try.t4.desc,1,1,[.b false],some (.bool),false⟩
noncomputable def row5 : TI fam:=⟨Try.t5.desc,1,1,[.i .u8 0],some (.int .u8),false⟩
noncomputable def row9 : TI fam:=⟨Try.t9.desc,1,16,[.s []],some (.str),false⟩
noncomputable def row22 : TI fam:=⟨Try.t22.desc,1,24,[.nl],some (.slice (.st 0)),false⟩
noncomputable def row23 : TI fam:=⟨Try.t23.desc,1,24,[.nl],some (.slice (.bool)),false⟩
noncomputable def row24 : TI fam:=⟨Try.t24.desc,1,24,[.nl],some (.slice (.int .i64)),false⟩
noncomputable def row26 : TI fam:=⟨Try.t26.desc,1,24,[.nl],some (.slice (.str)),false⟩
noncomputable def row27 : TI fam:=⟨Try.t27.desc,1,24,[.nl],some (.slice (.st 2)),false⟩
noncomputable def row29 : TI fam:=⟨Try.t28.desc,2,48,[.nl,.nl],some (.st 3),false⟩
noncomputable def row30 : TI fam:=⟨Try.t30.desc,1,24,[.nl],some (.slice (.st 4)),false⟩
noncomputable def row31 : TI fam:=⟨Try.t31.desc,1,24,[.nl],some (.slice (.st 6)),false⟩
noncomputable def row32 : TI fam:=⟨Try.t32.desc,1,24,[.nl],some (.slice (.st 7)),false⟩
noncomputable def row33 : TI fam:=⟨Try.t33.desc,1,24,[.nl],some (.slice (.st 8)),false⟩
noncomputable def row34 : TI fam:=⟨Try.t34.desc,1,24,[.nl],some (.slice (.st 9)),false⟩
noncomputable def row36 : TI fam:=⟨Try.t35.desc,10,192,[.nl,.nl,.nl,.nl,.nl,.nl,.nl,.i .i64 0,.i .i64 0,.i .i64 0],some (.st 10),false⟩
noncomputable def row38 : TI fam:=⟨Try.t38.desc,1,24,[.nl],some (.slice (.st 1)),false⟩
noncomputable def row40 : TI fam:=⟨Try.t39.desc,3,48,[.s [],.nl,.i .i64 0],some (.st 2),false⟩
noncomputable def row42 : TI fam:=⟨Try.t41.desc,2,16,[.i .i64 0,.i .i64 0],some (.st 1),false⟩
noncomputable def row44 : TI fam:=⟨Try.t43.desc,2,16,[.i .i64 0,.i .i64 0],some (.st 0),true⟩
noncomputable def row45 : TI fam:=⟨Try.t45.desc,4,32,[.i .i64 0,.i .i64 0,.i .i64 0,.i .i64 0],some (.st 11),false⟩
noncomputable def row48 : TI fam:=⟨Try.t47.desc,8,64,[.i .i64 0,.i .i64 0,.i .i64 0,.i .i64 0,.i .i64 0,.i .i64 0,.i .i64 0,.b false],some (.st 4),false⟩
noncomputable def row57 : TI fam:=⟨Try.t41.desc,2,16,[.i .i64 0,.i .i64 0],some (.st 1),false⟩
noncomputable def row58 : TI fam:=⟨Try.t3.desc,1,8,[.i .i64 0],some (.int .i64),false⟩
noncomputable def row65 : TI fam:=⟨Try.t43.desc,2,16,[.i .i64 0,.i .i64 0],some (.st 0),false⟩
noncomputable def row73 : TI fam:=⟨Try.t73.desc,1,8,[.i .u64 0],some (.int .u64),false⟩
noncomputable def row78 : TI fam:=⟨Try.t78.desc,1,8,[.i .u64 0],some (.int .u64),false⟩
noncomputable def row82 : TI fam:=⟨Try.t82.desc,1,4,[.i .u32 0],some (.int .u32),false⟩
noncomputable def oK : TI fam:=⟨Try.t100.desc,1,24,[.nl],some (.slice (.st 5)),false⟩
noncomputable def pa : TI fam:=⟨Try.t101.desc,14,200,[.i .i64 0,.i .i64 0,.s [],.i .i64 0,.i .i64 0,.i .i64 0,.i .i64 0,.nl,.i .i64 0,.i .i64 0,.nl,.nl,.nl,.nl],some (.st 6),false⟩
noncomputable def pj : TI fam:=⟨Try.t103.desc,9,72,[.i .i64 0,.i .i64 0,.i .i64 0,.i .i64 0,.i .i64 0,.i .i64 0,.i .i64 0,.b false,.i .i64 0],some (.st 7),false⟩
noncomputable def oZ : TI fam:=⟨Try.t105.desc,3,24,[.i .i64 0,.i .i64 0,.i .i64 0],some (.st 8),false⟩
noncomputable def oT : TI fam:=⟨Try.t107.desc,6,48,[.i .i64 0,.i .i64 0,.i .i64 0,.i .i64 0,.i .i64 0,.i .i64 0],some (.st 9),false⟩
noncomputable def oI : TI fam:=⟨Try.t112.desc,8,64,[.i .i64 0,.i .i64 0,.i .i64 0,.i .i64 0,.i .i64 0,.i .i64 0,.i .i64 0,.i .i64 0],some (.st 5),false⟩
noncomputable def tbl : List (Nat × TI fam):=[(3,row3),(4,row4),(5,row5),(9,row9),(22,row22),(23,row23),(24,row24),(26,row26),(27,row27),(29,row29),(30,row30),(31,row31),(32,row32),(33,row33),(34,row34),(36,row36),(38,row38),(40,row40),(42,row42),(44,row44),(45,row45),(48,row48),(57,row57),(58,row58),(65,row65),(73,row73),(78,row78),(82,row82),(100,oK),(102,pa),(104,pj),(106,oZ),(108,oT),(113,oI)]
end Go.Fx.D
