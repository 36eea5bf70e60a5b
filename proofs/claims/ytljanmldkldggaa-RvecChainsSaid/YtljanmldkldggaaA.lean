/-
  The types of the seat as plain Lean types, and its table of types (printed by a program). Conditions: none.
-/
import Derived.Test.YtljanmldkldggaaFxA
import Derived.Test.YtljanmldkldggaaProg
namespace Go.Fx.D
open Go Go.Fx Go.Proofs
set_option linter.unusedVariables false

structure Vec where
  Mem : Int
  Cores : Int

structure Arr2_Vec where
  a0 : Vec
  a1 : Vec

structure Ratio where
  n : Int
  of : Int

structure Frac where
  A : Int
  P : Int

structure Arr6_Vec where
  a0 : Vec
  a1 : Vec
  a2 : Vec
  a3 : Vec
  a4 : Vec
  a5 : Vec

@[reducible] def famS : Nat → Type
  | 0 => Vec
  | 1 => Arr2_Vec
  | 2 => Ratio
  | 3 => Frac
  | 4 => Arr6_Vec
  | _ => Unit

@[reducible] def famF : Nat → List Ty
  | 0 => [.int .i64, .int .i64]
  | 1 => [.int .i64, .int .i64, .int .i64, .int .i64]
  | 2 => [.int .u64, .int .u64]
  | 3 => [.int .i64, .int .i64]
  | 4 => [.int .i64, .int .i64, .int .i64, .int .i64, .int .i64, .int .i64, .int .i64, .int .i64, .int .i64, .int .i64, .int .i64, .int .i64]
  | _ => []

def famU : (n : Nat) → famS n → TupS famS (famF n)
  | 0, x => (x.Mem, x.Cores, ())
  | 1, x => (x.a0.Mem, x.a0.Cores, x.a1.Mem, x.a1.Cores, ())
  | 2, x => (x.n, x.of, ())
  | 3, x => (x.A, x.P, ())
  | 4, x => (x.a0.Mem, x.a0.Cores, x.a1.Mem, x.a1.Cores, x.a2.Mem, x.a2.Cores, x.a3.Mem, x.a3.Cores, x.a4.Mem, x.a4.Cores, x.a5.Mem, x.a5.Cores, ())
  | _ + 5, _ => ()

def famP : (n : Nat) → TupS famS (famF n) → famS n
  | 0, a => ⟨a.1, a.2.1⟩
  | 1, a => ⟨⟨a.1, a.2.1⟩, ⟨a.2.2.1, a.2.2.2.1⟩⟩
  | 2, a => ⟨a.1, a.2.1⟩
  | 3, a => ⟨a.1, a.2.1⟩
  | 4, a => ⟨⟨a.1, a.2.1⟩, ⟨a.2.2.1, a.2.2.2.1⟩, ⟨a.2.2.2.2.1, a.2.2.2.2.2.1⟩, ⟨a.2.2.2.2.2.2.1, a.2.2.2.2.2.2.2.1⟩, ⟨a.2.2.2.2.2.2.2.2.1, a.2.2.2.2.2.2.2.2.2.1⟩, ⟨a.2.2.2.2.2.2.2.2.2.2.1, a.2.2.2.2.2.2.2.2.2.2.2.1⟩⟩
  | _ + 5, _ => ()

theorem famUP : (n : Nat) → (a : TupS famS (famF n)) → famU n (famP n a) = a
  | 0, _ => rfl
  | 1, _ => rfl
  | 2, _ => rfl
  | 3, _ => rfl
  | 4, _ => rfl
  | _ + 5, _ => rfl

@[reducible] def fam : Fam := ⟨famS, famF, famU, famP, famUP⟩

noncomputable def row3 : TI fam := ⟨Try.t3.desc, 1, 8, [.i .i64 0], some (.int .i64), false⟩
noncomputable def row4 : TI fam := ⟨Try.t4.desc, 1, 1, [.b false], some (.bool), false⟩
noncomputable def row5 : TI fam := ⟨Try.t5.desc, 1, 1, [.i .u8 0], some (.int .u8), false⟩
noncomputable def row9 : TI fam := ⟨Try.t9.desc, 1, 16, [.s []], some (.str), false⟩
noncomputable def row23 : TI fam := ⟨Try.t22.desc, 2, 16, [.i .i64 0, .i .i64 0], some (.st 0), true⟩
noncomputable def row27 : TI fam := ⟨Try.t3.desc, 1, 8, [.i .i64 0], some (.int .i64), false⟩
noncomputable def row38 : TI fam := ⟨Try.t38.desc, 4, 32, [.i .i64 0, .i .i64 0, .i .i64 0, .i .i64 0], some (.st 1), false⟩
noncomputable def row39 : TI fam := ⟨Try.t39.desc, 1, 24, [.nl], some (.slice (.st 1)), false⟩
noncomputable def row44 : TI fam := ⟨Try.t44.desc, 1, 24, [.nl], some (.slice (.st 0)), false⟩
noncomputable def row45 : TI fam := ⟨Try.t45.desc, 12, 96, [.i .i64 0, .i .i64 0, .i .i64 0, .i .i64 0, .i .i64 0, .i .i64 0, .i .i64 0, .i .i64 0, .i .i64 0, .i .i64 0, .i .i64 0, .i .i64 0], some (.st 4), false⟩
noncomputable def row49 : TI fam := ⟨Try.t22.desc, 2, 16, [.i .i64 0, .i .i64 0], some (.st 0), false⟩
noncomputable def row52 : TI fam := ⟨Try.t52.desc, 1, 8, [.i .u64 0], some (.int .u64), false⟩
noncomputable def row54 : TI fam := ⟨Try.t53.desc, 2, 16, [.i .u64 0, .i .u64 0], some (.st 2), false⟩
noncomputable def row59 : TI fam := ⟨Try.t58.desc, 2, 16, [.i .i64 0, .i .i64 0], some (.st 3), false⟩
noncomputable def row70 : TI fam := ⟨Try.t70.desc, 1, 8, [.i .u64 0], some (.int .u64), false⟩
noncomputable def tbl : List (Nat × TI fam) := [(3, row3), (4, row4), (5, row5), (9, row9), (23, row23), (27, row27), (38, row38), (39, row39), (44, row44), (45, row45), (49, row49), (52, row52), (54, row54), (59, row59), (70, row70)]
end Go.Fx.D
