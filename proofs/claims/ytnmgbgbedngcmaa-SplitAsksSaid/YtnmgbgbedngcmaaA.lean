/-
  The types of the seat as plain Lean types, and its table of types (printed by a program). Conditions: none.
-/
import Derived.Test.YtnmgbgbedngcmaaFxA
import Derived.Test.YtnmgbgbedngcmaaProg
namespace Go.Fx.D
open Go Go.Fx Go.Proofs
set_option linter.unusedVariables false

structure Rest where
  at_ : Int
  left : Int

structure Sub where
  Weight : Int
  Up : Bool
  Racks : List Int
  Load : Int

@[reducible] def famS : Nat → Type
  | 0 => Rest
  | 1 => Sub
  | _ => Unit

@[reducible] def famF : Nat → List Ty
  | 0 => [.int .i64, .int .i64]
  | 1 => [.int .i64, .bool, .slice (.int .i64), .int .i64]
  | _ => []

def famU : (n : Nat) → famS n → TupS famS (famF n)
  | 0, x => (x.at_, x.left, ())
  | 1, x => (x.Weight, x.Up, x.Racks, x.Load, ())
  | _ + 2, _ => ()

def famP : (n : Nat) → TupS famS (famF n) → famS n
  | 0, a => ⟨a.1, a.2.1⟩
  | 1, a => ⟨a.1, a.2.1, a.2.2.1, a.2.2.2.1⟩
  | _ + 2, _ => ()

theorem famUP : (n : Nat) → (a : TupS famS (famF n)) → famU n (famP n a) = a
  | 0, _ => rfl
  | 1, _ => rfl
  | _ + 2, _ => rfl

@[reducible] def fam : Fam := ⟨famS, famF, famU, famP, famUP⟩

noncomputable def row3 : TI fam := ⟨Try.t3.desc, 1, 8, [.i .i64 0], some (.int .i64), false⟩
noncomputable def row4 : TI fam := ⟨Try.t4.desc, 1, 1, [.b false], some (.bool), false⟩
noncomputable def row22 : TI fam := ⟨Try.t22.desc, 1, 24, [.nl], some (.slice (.int .i64)), false⟩
noncomputable def row30 : TI fam := ⟨Try.t30.desc, 1, 24, [.nl], some (.slice (.bool)), false⟩
noncomputable def row31 : TI fam := ⟨Try.t31.desc, 1, 24, [.nl], some (.slice (.st 1)), false⟩
noncomputable def row33 : TI fam := ⟨Try.t32.desc, 4, 48, [.i .i64 0, .b false, .nl, .i .i64 0], some (.st 1), false⟩
noncomputable def row34 : TI fam := ⟨Try.t3.desc, 1, 8, [.i .i64 0], some (.int .i64), false⟩
noncomputable def row43 : TI fam := ⟨Try.t43.desc, 1, 24, [.nl], some (.slice (.st 1)), false⟩
noncomputable def row51 : TI fam := ⟨Try.t51.desc, 1, 24, [.nl], some (.slice (.st 0)), false⟩
noncomputable def row53 : TI fam := ⟨Try.t52.desc, 2, 16, [.i .i64 0, .i .i64 0], some (.st 0), false⟩
noncomputable def row60 : TI fam := ⟨Try.t32.desc, 4, 48, [.i .i64 0, .b false, .nl, .i .i64 0], some (.st 1), false⟩
noncomputable def tbl : List (Nat × TI fam) := [(3, row3), (4, row4), (22, row22), (30, row30), (31, row31), (33, row33), (34, row34), (43, row43), (51, row51), (53, row53), (60, row60)]
end Go.Fx.D
