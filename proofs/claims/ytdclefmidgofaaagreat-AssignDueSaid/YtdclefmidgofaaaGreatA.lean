/-
  The types of the seat as plain Lean types, and its table of types (printed by a program). Conditions: none.
-/
import Derived.Test.YtdclefmidgofaaaGreatFxA
import Derived.Test.YtdclefmidgofaaaGreatProg
namespace Go.Fx.D
open Go Go.Fx Go.Proofs
set_option linter.unusedVariables false

structure Cap where
  Least : Int
  Most : Int

structure Queue where
  Path : List UInt8
  Caps : List Cap
  User : Int

structure Vec where
  Mem : Int
  Cores : Int

structure Node where
  Id : Int
  Label : Int
  Rack : Int
  Cap : Vec
  Seen : Int
  Beat : Int
  Up : Bool

structure Cont where
  Id : Int
  App : Int
  Node : Int
  Size : Vec
  Prio : Int
  Label : Int
  Master : Bool
  Notice : Int

structure Slot where
  Node : Int
  App : Int
  Prio : Int

structure Plan where
  Id : Int
  Label : Int
  From : Int
  Until : Int
  Need : Vec

structure Ask where
  Prio : Int
  Label : Int
  Size : Vec
  Count : Int
  Node : Int
  Rack : Int
  Missed : Int

structure App where
  Id : Int
  State : Int
  Queue : List UInt8
  User : Int
  Prio : Int
  Master : Vec
  Asks : List Ask
  Seen : Int
  Beat : Int
  Grants : List Int
  Kills : List Int
  Told : List Int
  Lost : List Int

structure Conf where
  Labels : List (List UInt8)
  Queues : List Queue

structure State where
  Conf : Conf
  Nodes : List Node
  Apps : List App
  Conts : List Cont
  Slots : List Slot
  Plans : List Plan
  Now : Int
  Epoch : Int
  Seq : Int

structure Attempt where
  s : State
  n : Node
  free : Vec

structure View where
  s : State
  path : List UInt8
  label : Int
  user : Int

structure Load where
  path : List UInt8
  used : Vec
  least : Vec

structure Ratio where
  n : Int
  of : Int

structure Arr2_Int where
  a0 : Int
  a1 : Int

@[reducible] def famS : Nat → Type
  | 0 => Cap
  | 1 => Queue
  | 2 => Vec
  | 3 => Node
  | 4 => Cont
  | 5 => Slot
  | 6 => Plan
  | 7 => Ask
  | 8 => App
  | 9 => Conf
  | 10 => State
  | 11 => Attempt
  | 12 => View
  | 13 => Load
  | 14 => Ratio
  | 15 => Arr2_Int
  | _ => Unit

@[reducible] def famF : Nat → List Ty
  | 0 => [.int .i64, .int .i64]
  | 1 => [.str, .slice (.st 0), .int .i64]
  | 2 => [.int .i64, .int .i64]
  | 3 => [.int .i64, .int .i64, .int .i64, .int .i64, .int .i64, .int .i64, .int .i64, .bool]
  | 4 => [.int .i64, .int .i64, .int .i64, .int .i64, .int .i64, .int .i64, .int .i64, .bool, .int .i64]
  | 5 => [.int .i64, .int .i64, .int .i64]
  | 6 => [.int .i64, .int .i64, .int .i64, .int .i64, .int .i64, .int .i64]
  | 7 => [.int .i64, .int .i64, .int .i64, .int .i64, .int .i64, .int .i64, .int .i64, .int .i64]
  | 8 => [.int .i64, .int .i64, .str, .int .i64, .int .i64, .int .i64, .int .i64, .slice (.st 7), .int .i64, .int .i64, .slice (.int .i64), .slice (.int .i64), .slice (.int .i64), .slice (.int .i64)]
  | 9 => [.slice (.str), .slice (.st 1)]
  | 10 => [.slice (.str), .slice (.st 1), .slice (.st 3), .slice (.st 8), .slice (.st 4), .slice (.st 5), .slice (.st 6), .int .i64, .int .i64, .int .i64]
  | 11 => [.slice (.str), .slice (.st 1), .slice (.st 3), .slice (.st 8), .slice (.st 4), .slice (.st 5), .slice (.st 6), .int .i64, .int .i64, .int .i64, .int .i64, .int .i64, .int .i64, .int .i64, .int .i64, .int .i64, .int .i64, .bool, .int .i64, .int .i64]
  | 12 => [.slice (.str), .slice (.st 1), .slice (.st 3), .slice (.st 8), .slice (.st 4), .slice (.st 5), .slice (.st 6), .int .i64, .int .i64, .int .i64, .str, .int .i64, .int .i64]
  | 13 => [.str, .int .i64, .int .i64, .int .i64, .int .i64]
  | 14 => [.int .u64, .int .u64]
  | 15 => [.int .i64, .int .i64]
  | _ => []

def famU : (n : Nat) → famS n → TupS famS (famF n)
  | 0, x => (x.Least, x.Most, ())
  | 1, x => (x.Path, x.Caps, x.User, ())
  | 2, x => (x.Mem, x.Cores, ())
  | 3, x => (x.Id, x.Label, x.Rack, x.Cap.Mem, x.Cap.Cores, x.Seen, x.Beat, x.Up, ())
  | 4, x => (x.Id, x.App, x.Node, x.Size.Mem, x.Size.Cores, x.Prio, x.Label, x.Master, x.Notice, ())
  | 5, x => (x.Node, x.App, x.Prio, ())
  | 6, x => (x.Id, x.Label, x.From, x.Until, x.Need.Mem, x.Need.Cores, ())
  | 7, x => (x.Prio, x.Label, x.Size.Mem, x.Size.Cores, x.Count, x.Node, x.Rack, x.Missed, ())
  | 8, x => (x.Id, x.State, x.Queue, x.User, x.Prio, x.Master.Mem, x.Master.Cores, x.Asks, x.Seen, x.Beat, x.Grants, x.Kills, x.Told, x.Lost, ())
  | 9, x => (x.Labels, x.Queues, ())
  | 10, x => (x.Conf.Labels, x.Conf.Queues, x.Nodes, x.Apps, x.Conts, x.Slots, x.Plans, x.Now, x.Epoch, x.Seq, ())
  | 11, x => (x.s.Conf.Labels, x.s.Conf.Queues, x.s.Nodes, x.s.Apps, x.s.Conts, x.s.Slots, x.s.Plans, x.s.Now, x.s.Epoch, x.s.Seq, x.n.Id, x.n.Label, x.n.Rack, x.n.Cap.Mem, x.n.Cap.Cores, x.n.Seen, x.n.Beat, x.n.Up, x.free.Mem, x.free.Cores, ())
  | 12, x => (x.s.Conf.Labels, x.s.Conf.Queues, x.s.Nodes, x.s.Apps, x.s.Conts, x.s.Slots, x.s.Plans, x.s.Now, x.s.Epoch, x.s.Seq, x.path, x.label, x.user, ())
  | 13, x => (x.path, x.used.Mem, x.used.Cores, x.least.Mem, x.least.Cores, ())
  | 14, x => (x.n, x.of, ())
  | 15, x => (x.a0, x.a1, ())
  | _ + 16, _ => ()

def famP : (n : Nat) → TupS famS (famF n) → famS n
  | 0, a => ⟨a.1, a.2.1⟩
  | 1, a => ⟨a.1, a.2.1, a.2.2.1⟩
  | 2, a => ⟨a.1, a.2.1⟩
  | 3, a => ⟨a.1, a.2.1, a.2.2.1, ⟨a.2.2.2.1, a.2.2.2.2.1⟩, a.2.2.2.2.2.1, a.2.2.2.2.2.2.1, a.2.2.2.2.2.2.2.1⟩
  | 4, a => ⟨a.1, a.2.1, a.2.2.1, ⟨a.2.2.2.1, a.2.2.2.2.1⟩, a.2.2.2.2.2.1, a.2.2.2.2.2.2.1, a.2.2.2.2.2.2.2.1, a.2.2.2.2.2.2.2.2.1⟩
  | 5, a => ⟨a.1, a.2.1, a.2.2.1⟩
  | 6, a => ⟨a.1, a.2.1, a.2.2.1, a.2.2.2.1, ⟨a.2.2.2.2.1, a.2.2.2.2.2.1⟩⟩
  | 7, a => ⟨a.1, a.2.1, ⟨a.2.2.1, a.2.2.2.1⟩, a.2.2.2.2.1, a.2.2.2.2.2.1, a.2.2.2.2.2.2.1, a.2.2.2.2.2.2.2.1⟩
  | 8, a => ⟨a.1, a.2.1, a.2.2.1, a.2.2.2.1, a.2.2.2.2.1, ⟨a.2.2.2.2.2.1, a.2.2.2.2.2.2.1⟩, a.2.2.2.2.2.2.2.1, a.2.2.2.2.2.2.2.2.1, a.2.2.2.2.2.2.2.2.2.1, a.2.2.2.2.2.2.2.2.2.2.1, a.2.2.2.2.2.2.2.2.2.2.2.1, a.2.2.2.2.2.2.2.2.2.2.2.2.1, a.2.2.2.2.2.2.2.2.2.2.2.2.2.1⟩
  | 9, a => ⟨a.1, a.2.1⟩
  | 10, a => ⟨⟨a.1, a.2.1⟩, a.2.2.1, a.2.2.2.1, a.2.2.2.2.1, a.2.2.2.2.2.1, a.2.2.2.2.2.2.1, a.2.2.2.2.2.2.2.1, a.2.2.2.2.2.2.2.2.1, a.2.2.2.2.2.2.2.2.2.1⟩
  | 11, a => ⟨⟨⟨a.1, a.2.1⟩, a.2.2.1, a.2.2.2.1, a.2.2.2.2.1, a.2.2.2.2.2.1, a.2.2.2.2.2.2.1, a.2.2.2.2.2.2.2.1, a.2.2.2.2.2.2.2.2.1, a.2.2.2.2.2.2.2.2.2.1⟩, ⟨a.2.2.2.2.2.2.2.2.2.2.1, a.2.2.2.2.2.2.2.2.2.2.2.1, a.2.2.2.2.2.2.2.2.2.2.2.2.1, ⟨a.2.2.2.2.2.2.2.2.2.2.2.2.2.1, a.2.2.2.2.2.2.2.2.2.2.2.2.2.2.1⟩, a.2.2.2.2.2.2.2.2.2.2.2.2.2.2.2.1, a.2.2.2.2.2.2.2.2.2.2.2.2.2.2.2.2.1, a.2.2.2.2.2.2.2.2.2.2.2.2.2.2.2.2.2.1⟩, ⟨a.2.2.2.2.2.2.2.2.2.2.2.2.2.2.2.2.2.2.1, a.2.2.2.2.2.2.2.2.2.2.2.2.2.2.2.2.2.2.2.1⟩⟩
  | 12, a => ⟨⟨⟨a.1, a.2.1⟩, a.2.2.1, a.2.2.2.1, a.2.2.2.2.1, a.2.2.2.2.2.1, a.2.2.2.2.2.2.1, a.2.2.2.2.2.2.2.1, a.2.2.2.2.2.2.2.2.1, a.2.2.2.2.2.2.2.2.2.1⟩, a.2.2.2.2.2.2.2.2.2.2.1, a.2.2.2.2.2.2.2.2.2.2.2.1, a.2.2.2.2.2.2.2.2.2.2.2.2.1⟩
  | 13, a => ⟨a.1, ⟨a.2.1, a.2.2.1⟩, ⟨a.2.2.2.1, a.2.2.2.2.1⟩⟩
  | 14, a => ⟨a.1, a.2.1⟩
  | 15, a => ⟨a.1, a.2.1⟩
  | _ + 16, _ => ()

theorem famUP : (n : Nat) → (a : TupS famS (famF n)) → famU n (famP n a) = a
  | 0, _ => rfl
  | 1, _ => rfl
  | 2, _ => rfl
  | 3, _ => rfl
  | 4, _ => rfl
  | 5, _ => rfl
  | 6, _ => rfl
  | 7, _ => rfl
  | 8, _ => rfl
  | 9, _ => rfl
  | 10, _ => rfl
  | 11, _ => rfl
  | 12, _ => rfl
  | 13, _ => rfl
  | 14, _ => rfl
  | 15, _ => rfl
  | _ + 16, _ => rfl

@[reducible] def fam : Fam := ⟨famS, famF, famU, famP, famUP⟩

noncomputable def row3 : TI fam := ⟨Tryz.t3.desc, 1, 8, [.i .i64 0], some (.int .i64), false⟩
noncomputable def row4 : TI fam := ⟨Tryz.t4.desc, 1, 1, [.b false], some (.bool), false⟩
noncomputable def row5 : TI fam := ⟨Tryz.t5.desc, 1, 1, [.i .u8 0], some (.int .u8), false⟩
noncomputable def row9 : TI fam := ⟨Tryz.t9.desc, 1, 16, [.s []], some (.str), false⟩
noncomputable def row24 : TI fam := ⟨Tryz.t24.desc, 1, 24, [.nl], some (.slice (.str)), false⟩
noncomputable def row25 : TI fam := ⟨Tryz.t25.desc, 1, 24, [.nl], some (.slice (.st 1)), false⟩
noncomputable def row27 : TI fam := ⟨Tryz.t26.desc, 2, 48, [.nl, .nl], some (.st 9), false⟩
noncomputable def row28 : TI fam := ⟨Tryz.t28.desc, 1, 24, [.nl], some (.slice (.st 3)), false⟩
noncomputable def row29 : TI fam := ⟨Tryz.t29.desc, 1, 24, [.nl], some (.slice (.st 8)), false⟩
noncomputable def row30 : TI fam := ⟨Tryz.t30.desc, 1, 24, [.nl], some (.slice (.st 4)), false⟩
noncomputable def row31 : TI fam := ⟨Tryz.t31.desc, 1, 24, [.nl], some (.slice (.st 5)), false⟩
noncomputable def row32 : TI fam := ⟨Tryz.t32.desc, 1, 24, [.nl], some (.slice (.st 6)), false⟩
noncomputable def row34 : TI fam := ⟨Tryz.t33.desc, 10, 192, [.nl, .nl, .nl, .nl, .nl, .nl, .nl, .i .i64 0, .i .i64 0, .i .i64 0], some (.st 10), false⟩
noncomputable def row36 : TI fam := ⟨Tryz.t36.desc, 2, 16, [.i .i64 0, .i .i64 0], some (.st 15), false⟩
noncomputable def row38 : TI fam := ⟨Tryz.t37.desc, 2, 16, [.i .i64 0, .i .i64 0], some (.st 2), true⟩
noncomputable def row40 : TI fam := ⟨Tryz.t39.desc, 9, 72, [.i .i64 0, .i .i64 0, .i .i64 0, .i .i64 0, .i .i64 0, .i .i64 0, .i .i64 0, .b false, .i .i64 0], some (.st 4), false⟩
noncomputable def row47 : TI fam := ⟨Tryz.t47.desc, 1, 24, [.nl], some (.slice (.int .i64)), false⟩
noncomputable def row49 : TI fam := ⟨Tryz.t48.desc, 8, 64, [.i .i64 0, .i .i64 0, .i .i64 0, .i .i64 0, .i .i64 0, .i .i64 0, .i .i64 0, .i .i64 0], some (.st 7), false⟩
noncomputable def row50 : TI fam := ⟨Tryz.t50.desc, 1, 24, [.nl], some (.slice (.st 7)), false⟩
noncomputable def row52 : TI fam := ⟨Tryz.t51.desc, 14, 200, [.i .i64 0, .i .i64 0, .s [], .i .i64 0, .i .i64 0, .i .i64 0, .i .i64 0, .nl, .i .i64 0, .i .i64 0, .nl, .nl, .nl, .nl], some (.st 8), false⟩
noncomputable def row54 : TI fam := ⟨Tryz.t53.desc, 8, 64, [.i .i64 0, .i .i64 0, .i .i64 0, .i .i64 0, .i .i64 0, .i .i64 0, .i .i64 0, .b false], some (.st 3), false⟩
noncomputable def row56 : TI fam := ⟨Tryz.t55.desc, 3, 24, [.i .i64 0, .i .i64 0, .i .i64 0], some (.st 5), false⟩
noncomputable def row60 : TI fam := ⟨Tryz.t59.desc, 2, 16, [.i .i64 0, .i .i64 0], some (.st 0), false⟩
noncomputable def row61 : TI fam := ⟨Tryz.t61.desc, 1, 24, [.nl], some (.slice (.st 0)), false⟩
noncomputable def row63 : TI fam := ⟨Tryz.t62.desc, 3, 48, [.s [], .nl, .i .i64 0], some (.st 1), false⟩
noncomputable def row73 : TI fam := ⟨Tryz.t73.desc, 1, 8, [.v (.pointer none)], none, false⟩
noncomputable def row75 : TI fam := ⟨Tryz.t74.desc, 20, 272, [.nl, .nl, .nl, .nl, .nl, .nl, .nl, .i .i64 0, .i .i64 0, .i .i64 0, .i .i64 0, .i .i64 0, .i .i64 0, .i .i64 0, .i .i64 0, .i .i64 0, .i .i64 0, .b false, .i .i64 0, .i .i64 0], some (.st 11), false⟩
noncomputable def row121 : TI fam := ⟨Tryz.t120.desc, 6, 48, [.i .i64 0, .i .i64 0, .i .i64 0, .i .i64 0, .i .i64 0, .i .i64 0], some (.st 6), false⟩
noncomputable def row129 : TI fam := ⟨Tryz.t3.desc, 1, 8, [.i .i64 0], some (.int .i64), false⟩
noncomputable def row130 : TI fam := ⟨Tryz.t3.desc, 1, 8, [.i .i64 0], some (.int .i64), false⟩
noncomputable def row137 : TI fam := ⟨Tryz.t137.desc, 1, 8, [.i .u64 0], some (.int .u64), false⟩
noncomputable def row151 : TI fam := ⟨Tryz.t37.desc, 2, 16, [.i .i64 0, .i .i64 0], some (.st 2), false⟩
noncomputable def row154 : TI fam := ⟨Tryz.t153.desc, 13, 224, [.nl, .nl, .nl, .nl, .nl, .nl, .nl, .i .i64 0, .i .i64 0, .i .i64 0, .s [], .i .i64 0, .i .i64 0], some (.st 12), false⟩
noncomputable def row159 : TI fam := ⟨Tryz.t59.desc, 2, 16, [.i .i64 0, .i .i64 0], some (.st 0), false⟩
noncomputable def row179 : TI fam := ⟨Tryz.t179.desc, 1, 24, [.nl], some (.slice (.st 2)), false⟩
noncomputable def row183 : TI fam := ⟨Tryz.t183.desc, 1, 24, [.nl], some (.slice (.st 13)), false⟩
noncomputable def row185 : TI fam := ⟨Tryz.t184.desc, 5, 48, [.s [], .i .i64 0, .i .i64 0, .i .i64 0, .i .i64 0], some (.st 13), false⟩
noncomputable def row194 : TI fam := ⟨Tryz.t194.desc, 1, 8, [.i .u64 0], some (.int .u64), false⟩
noncomputable def row220 : TI fam := ⟨Tryz.t220.desc, 1, 4, [.i .u32 0], some (.int .u32), false⟩
noncomputable def row222 : TI fam := ⟨Tryz.t221.desc, 2, 16, [.i .u64 0, .i .u64 0], some (.st 14), false⟩
noncomputable def tbl : List (Nat × TI fam) := [(3, row3), (4, row4), (5, row5), (9, row9), (24, row24), (25, row25), (27, row27), (28, row28), (29, row29), (30, row30), (31, row31), (32, row32), (34, row34), (36, row36), (38, row38), (40, row40), (47, row47), (49, row49), (50, row50), (52, row52), (54, row54), (56, row56), (60, row60), (61, row61), (63, row63), (73, row73), (75, row75), (121, row121), (129, row129), (130, row130), (137, row137), (151, row151), (154, row154), (159, row159), (179, row179), (183, row183), (185, row185), (194, row194), (220, row220), (222, row222)]
end Go.Fx.D
