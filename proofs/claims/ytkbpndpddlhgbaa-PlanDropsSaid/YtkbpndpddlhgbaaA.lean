/-
  The types of the seat as plain Lean types, and its table of types (printed by a program). Conditions: none.
-/
import Derived.Test.YtkbpndpddlhgbaaFxA
import Derived.Test.YtkbpndpddlhgbaaProg
namespace Go.Fx.D
open Go Go.Fx Go.Proofs
set_option linter.unusedVariables false

structure Vec where
  Mem : Int
  Cores : Int

structure Plan where
  Id : Int
  Label : Int
  From : Int
  Until : Int
  Need : Vec

structure Cap where
  Least : Int
  Most : Int

structure Queue where
  Path : List UInt8
  Caps : List Cap
  User : Int

structure Conf where
  Labels : List (List UInt8)
  Queues : List Queue

structure Node where
  Id : Int
  Label : Int
  Rack : Int
  Cap : Vec
  Seen : Int
  Beat : Int
  Up : Bool

structure Ask where
  Prio : Int
  Label : Int
  Size : Vec
  Count : Int
  Node : Int
  Rack : Int
  Missed : Int

structure App where
  Id : Int
  State : Int
  Queue : List UInt8
  User : Int
  Prio : Int
  Master : Vec
  Asks : List Ask
  Seen : Int
  Beat : Int
  Grants : List Int
  Kills : List Int
  Told : List Int
  Lost : List Int

structure Cont where
  Id : Int
  App : Int
  Node : Int
  Size : Vec
  Prio : Int
  Label : Int
  Master : Bool
  Notice : Int

structure Slot where
  Node : Int
  App : Int
  Prio : Int

structure State where
  Conf : Conf
  Nodes : List Node
  Apps : List App
  Conts : List Cont
  Slots : List Slot
  Plans : List Plan
  Now : Int
  Epoch : Int
  Seq : Int

@[reducible] def famS : Nat → Type
  | 0 => Vec
  | 1 => Plan
  | 2 => Cap
  | 3 => Queue
  | 4 => Conf
  | 5 => Node
  | 6 => Ask
  | 7 => App
  | 8 => Cont
  | 9 => Slot
  | 10 => State
  | _ => Unit

@[reducible] def famF : Nat → List Ty
  | 0 => [.int .i64, .int .i64]
  | 1 => [.int .i64, .int .i64, .int .i64, .int .i64, .int .i64, .int .i64]
  | 2 => [.int .i64, .int .i64]
  | 3 => [.str, .slice (.st 2), .int .i64]
  | 4 => [.slice (.str), .slice (.st 3)]
  | 5 => [.int .i64, .int .i64, .int .i64, .int .i64, .int .i64, .int .i64, .int .i64, .bool]
  | 6 => [.int .i64, .int .i64, .int .i64, .int .i64, .int .i64, .int .i64, .int .i64, .int .i64]
  | 7 => [.int .i64, .int .i64, .str, .int .i64, .int .i64, .int .i64, .int .i64, .slice (.st 6), .int .i64, .int .i64, .slice (.int .i64), .slice (.int .i64), .slice (.int .i64), .slice (.int .i64)]
  | 8 => [.int .i64, .int .i64, .int .i64, .int .i64, .int .i64, .int .i64, .int .i64, .bool, .int .i64]
  | 9 => [.int .i64, .int .i64, .int .i64]
  | 10 => [.slice (.str), .slice (.st 3), .slice (.st 5), .slice (.st 7), .slice (.st 8), .slice (.st 9), .slice (.st 1), .int .i64, .int .i64, .int .i64]
  | _ => []

def famU : (n : Nat) → famS n → TupS famS (famF n)
  | 0, x => (x.Mem, x.Cores, ())
  | 1, x => (x.Id, x.Label, x.From, x.Until, x.Need.Mem, x.Need.Cores, ())
  | 2, x => (x.Least, x.Most, ())
  | 3, x => (x.Path, x.Caps, x.User, ())
  | 4, x => (x.Labels, x.Queues, ())
  | 5, x => (x.Id, x.Label, x.Rack, x.Cap.Mem, x.Cap.Cores, x.Seen, x.Beat, x.Up, ())
  | 6, x => (x.Prio, x.Label, x.Size.Mem, x.Size.Cores, x.Count, x.Node, x.Rack, x.Missed, ())
  | 7, x => (x.Id, x.State, x.Queue, x.User, x.Prio, x.Master.Mem, x.Master.Cores, x.Asks, x.Seen, x.Beat, x.Grants, x.Kills, x.Told, x.Lost, ())
  | 8, x => (x.Id, x.App, x.Node, x.Size.Mem, x.Size.Cores, x.Prio, x.Label, x.Master, x.Notice, ())
  | 9, x => (x.Node, x.App, x.Prio, ())
  | 10, x => (x.Conf.Labels, x.Conf.Queues, x.Nodes, x.Apps, x.Conts, x.Slots, x.Plans, x.Now, x.Epoch, x.Seq, ())
  | _ + 11, _ => ()

def famP : (n : Nat) → TupS famS (famF n) → famS n
  | 0, a => ⟨a.1, a.2.1⟩
  | 1, a => ⟨a.1, a.2.1, a.2.2.1, a.2.2.2.1, ⟨a.2.2.2.2.1, a.2.2.2.2.2.1⟩⟩
  | 2, a => ⟨a.1, a.2.1⟩
  | 3, a => ⟨a.1, a.2.1, a.2.2.1⟩
  | 4, a => ⟨a.1, a.2.1⟩
  | 5, a => ⟨a.1, a.2.1, a.2.2.1, ⟨a.2.2.2.1, a.2.2.2.2.1⟩, a.2.2.2.2.2.1, a.2.2.2.2.2.2.1, a.2.2.2.2.2.2.2.1⟩
  | 6, a => ⟨a.1, a.2.1, ⟨a.2.2.1, a.2.2.2.1⟩, a.2.2.2.2.1, a.2.2.2.2.2.1, a.2.2.2.2.2.2.1, a.2.2.2.2.2.2.2.1⟩
  | 7, a => ⟨a.1, a.2.1, a.2.2.1, a.2.2.2.1, a.2.2.2.2.1, ⟨a.2.2.2.2.2.1, a.2.2.2.2.2.2.1⟩, a.2.2.2.2.2.2.2.1, a.2.2.2.2.2.2.2.2.1, a.2.2.2.2.2.2.2.2.2.1, a.2.2.2.2.2.2.2.2.2.2.1, a.2.2.2.2.2.2.2.2.2.2.2.1, a.2.2.2.2.2.2.2.2.2.2.2.2.1, a.2.2.2.2.2.2.2.2.2.2.2.2.2.1⟩
  | 8, a => ⟨a.1, a.2.1, a.2.2.1, ⟨a.2.2.2.1, a.2.2.2.2.1⟩, a.2.2.2.2.2.1, a.2.2.2.2.2.2.1, a.2.2.2.2.2.2.2.1, a.2.2.2.2.2.2.2.2.1⟩
  | 9, a => ⟨a.1, a.2.1, a.2.2.1⟩
  | 10, a => ⟨⟨a.1, a.2.1⟩, a.2.2.1, a.2.2.2.1, a.2.2.2.2.1, a.2.2.2.2.2.1, a.2.2.2.2.2.2.1, a.2.2.2.2.2.2.2.1, a.2.2.2.2.2.2.2.2.1, a.2.2.2.2.2.2.2.2.2.1⟩
  | _ + 11, _ => ()

theorem famUP : (n : Nat) → (a : TupS famS (famF n)) → famU n (famP n a) = a
  | 0, _ => rfl
  | 1, _ => rfl
  | 2, _ => rfl
  | 3, _ => rfl
  | 4, _ => rfl
  | 5, _ => rfl
  | 6, _ => rfl
  | 7, _ => rfl
  | 8, _ => rfl
  | 9, _ => rfl
  | 10, _ => rfl
  | _ + 11, _ => rfl

@[reducible] def fam : Fam := ⟨famS, famF, famU, famP, famUP⟩

noncomputable def row3 : TI fam := ⟨Try.t3.desc, 1, 8, [.i .i64 0], some (.int .i64), false⟩
noncomputable def row4 : TI fam := ⟨Try.t4.desc, 1, 1, [.b false], some (.bool), false⟩
noncomputable def row9 : TI fam := ⟨Try.t9.desc, 1, 16, [.s []], some (.str), false⟩
noncomputable def row22 : TI fam := ⟨Try.t22.desc, 1, 24, [.nl], some (.slice (.st 1)), false⟩
noncomputable def row24 : TI fam := ⟨Try.t23.desc, 2, 16, [.i .i64 0, .i .i64 0], some (.st 0), true⟩
noncomputable def row26 : TI fam := ⟨Try.t25.desc, 6, 48, [.i .i64 0, .i .i64 0, .i .i64 0, .i .i64 0, .i .i64 0, .i .i64 0], some (.st 1), true⟩
noncomputable def row30 : TI fam := ⟨Try.t3.desc, 1, 8, [.i .i64 0], some (.int .i64), false⟩
noncomputable def row37 : TI fam := ⟨Try.t37.desc, 1, 24, [.nl], some (.slice (.int .i64)), false⟩
noncomputable def row42 : TI fam := ⟨Try.t42.desc, 1, 24, [.nl], some (.slice (.str)), false⟩
noncomputable def row43 : TI fam := ⟨Try.t43.desc, 1, 24, [.nl], some (.slice (.st 3)), false⟩
noncomputable def row45 : TI fam := ⟨Try.t44.desc, 2, 48, [.nl, .nl], some (.st 4), false⟩
noncomputable def row46 : TI fam := ⟨Try.t46.desc, 1, 24, [.nl], some (.slice (.st 5)), false⟩
noncomputable def row47 : TI fam := ⟨Try.t47.desc, 1, 24, [.nl], some (.slice (.st 7)), false⟩
noncomputable def row48 : TI fam := ⟨Try.t48.desc, 1, 24, [.nl], some (.slice (.st 8)), false⟩
noncomputable def row49 : TI fam := ⟨Try.t49.desc, 1, 24, [.nl], some (.slice (.st 9)), false⟩
noncomputable def row51 : TI fam := ⟨Try.t50.desc, 10, 192, [.nl, .nl, .nl, .nl, .nl, .nl, .nl, .i .i64 0, .i .i64 0, .i .i64 0], some (.st 10), false⟩
noncomputable def row54 : TI fam := ⟨Try.t53.desc, 8, 64, [.i .i64 0, .i .i64 0, .i .i64 0, .i .i64 0, .i .i64 0, .i .i64 0, .i .i64 0, .b false], some (.st 5), true⟩
noncomputable def row70 : TI fam := ⟨Try.t69.desc, 2, 16, [.i .i64 0, .i .i64 0], some (.st 2), true⟩
noncomputable def row71 : TI fam := ⟨Try.t71.desc, 1, 24, [.nl], some (.slice (.st 2)), false⟩
noncomputable def row73 : TI fam := ⟨Try.t72.desc, 3, 48, [.s [], .nl, .i .i64 0], some (.st 3), false⟩
noncomputable def row79 : TI fam := ⟨Try.t79.desc, 1, 24, [.nl], some (.slice (.st 6)), false⟩
noncomputable def row81 : TI fam := ⟨Try.t80.desc, 14, 200, [.i .i64 0, .i .i64 0, .s [], .i .i64 0, .i .i64 0, .i .i64 0, .i .i64 0, .nl, .i .i64 0, .i .i64 0, .nl, .nl, .nl, .nl], some (.st 7), false⟩
noncomputable def row83 : TI fam := ⟨Try.t82.desc, 9, 72, [.i .i64 0, .i .i64 0, .i .i64 0, .i .i64 0, .i .i64 0, .i .i64 0, .i .i64 0, .b false, .i .i64 0], some (.st 8), true⟩
noncomputable def row85 : TI fam := ⟨Try.t84.desc, 3, 24, [.i .i64 0, .i .i64 0, .i .i64 0], some (.st 9), true⟩
noncomputable def row92 : TI fam := ⟨Try.t23.desc, 2, 16, [.i .i64 0, .i .i64 0], some (.st 0), false⟩
noncomputable def row102 : TI fam := ⟨Try.t102.desc, 1, 24, [.nl], some (.slice (.st 0)), false⟩
noncomputable def row105 : TI fam := ⟨Try.t104.desc, 8, 64, [.i .i64 0, .i .i64 0, .i .i64 0, .i .i64 0, .i .i64 0, .i .i64 0, .i .i64 0, .i .i64 0], some (.st 6), true⟩
noncomputable def tbl : List (Nat × TI fam) := [(3, row3), (4, row4), (9, row9), (22, row22), (24, row24), (26, row26), (30, row30), (37, row37), (42, row42), (43, row43), (45, row45), (46, row46), (47, row47), (48, row48), (49, row49), (51, row51), (54, row54), (70, row70), (71, row71), (73, row73), (79, row79), (81, row81), (83, row83), (85, row85), (92, row92), (102, row102), (105, row105)]
end Go.Fx.D
