/-
  The types of the seat as plain Lean types, and its table of types (printed by a program). Conditions: none.
-/
import Derived.Test.YtkbpndpddlhgbaaFxA
import Derived.Test.YtkbpndpddlhgbaaProg
namespace Go.Fx.D
open Go Go.Fx Go.Proofs
set_option linter.unusedVariables false

structure Vec where
  Mem : Int
  Cores : Int

structure Plan where
  Id : Int
  Label : Int
  From : Int
  Until : Int
  Need : Vec

@[reducible] def famS : Nat → Type
  | 0 => Vec
  | 1 => Plan
  | _ => Unit

@[reducible] def famF : Nat → List Ty
  | 0 => [.int .i64, .int .i64]
  | 1 => [.int .i64, .int .i64, .int .i64, .int .i64, .int .i64, .int .i64]
  | _ => []

def famU : (n : Nat) → famS n → TupS famS (famF n)
  | 0, x => (x.Mem, x.Cores, ())
  | 1, x => (x.Id, x.Label, x.From, x.Until, x.Need.Mem, x.Need.Cores, ())
  | _ + 2, _ => ()

def famP : (n : Nat) → TupS famS (famF n) → famS n
  | 0, a => ⟨a.1, a.2.1⟩
  | 1, a => ⟨a.1, a.2.1, a.2.2.1, a.2.2.2.1, ⟨a.2.2.2.2.1, a.2.2.2.2.2.1⟩⟩
  | _ + 2, _ => ()

theorem famUP : (n : Nat) → (a : TupS famS (famF n)) → famU n (famP n a) = a
  | 0, _ => rfl
  | 1, _ => rfl
  | _ + 2, _ => rfl

@[reducible] def fam : Fam := ⟨famS, famF, famU, famP, famUP⟩

noncomputable def row3 : TI fam := ⟨Try.t3.desc, 1, 8, [.i .i64 0], some (.int .i64), false⟩
noncomputable def row4 : TI fam := ⟨Try.t4.desc, 1, 1, [.b false], some (.bool), false⟩
noncomputable def row22 : TI fam := ⟨Try.t22.desc, 1, 24, [.nl], some (.slice (.st 1)), false⟩
noncomputable def row24 : TI fam := ⟨Try.t23.desc, 2, 16, [.i .i64 0, .i .i64 0], some (.st 0), true⟩
noncomputable def row26 : TI fam := ⟨Try.t25.desc, 6, 48, [.i .i64 0, .i .i64 0, .i .i64 0, .i .i64 0, .i .i64 0, .i .i64 0], some (.st 1), false⟩
noncomputable def row30 : TI fam := ⟨Try.t3.desc, 1, 8, [.i .i64 0], some (.int .i64), false⟩
noncomputable def row37 : TI fam := ⟨Try.t37.desc, 1, 24, [.nl], some (.slice (.int .i64)), false⟩
noncomputable def row92 : TI fam := ⟨Try.t23.desc, 2, 16, [.i .i64 0, .i .i64 0], some (.st 0), false⟩
noncomputable def tbl : List (Nat × TI fam) := [(3, row3), (4, row4), (22, row22), (24, row24), (26, row26), (30, row30), (37, row37), (92, row92)]
end Go.Fx.D
