/-
  The functions of the program that this law reaches, as functions over plain data (printed by a program). Conditions: none.
-/
import Derived.Test.YteodpoelbdakgaaGreatD0
namespace Go.Fx.D
open Go Go.Fx Go.Proofs
set_option linter.unusedVariables false
noncomputable section
def jM (at_ : Int) (n : Int) : Option Int :=
 (nz n).bind fun _ =>
 (
 bif decide ((Int.tmod at_ n) < 0) then
  let k := w64 ((Int.tmod at_ n) + n)
  some k
 else
  some (Int.tmod at_ n)).bind fun k1 =>
 some k1
def h49 : Hint := (.s .z (.s .z (.s (.j [5] [(0, [(5, .v (.int .i64) [])])] .z) .z)))
def sp49 : Spec fam := ⟨[.v (.int .i64) [], .v (.int .i64) []], [.v (.int .i64) []], fun a => jM a.1 a.2.1⟩
def kS (node : Int) (t : State × List Cont) : Option ((State × List Cont) ⊕ ((State × List Cont))) :=
 bif decide ((t.2.length : Int) < 3) then
 (kU t.1 node).bind fun x1 =>
 bif x1.2.1 != 1 then
  some (.inr (x1.1, t.2))
 else
  (app 72 t.2 [x1.2.2]).bind fun l =>
  some (.inl (x1.1, l))
 else
 some (.inr (t.1, t.2))
def ng (s : State) (node : Int) : Option (State × List Cont) :=
 (jD s []).bind fun x =>
 (loop (kS node) (x, [])).bind fun q =>
 some (q.1, q.2)
def h55 : Hint := (.s .z (.s .z (.s .z (.s (.b (.l [(2, .box (.st 10) [0, 1, 2, 3, 4, 5, 6]), (6, .v (.slice (.st 7)) [0])] [2, 6, 7, 8, 9] [(2, [(2, .box (.st 10) [0, 1, 2, 3, 4, 5, 6]), (6, .v (.slice (.st 7)) [0])])] .z)) .z))))
def sp55 : Spec fam := ⟨[.v (.st 10) [], .v (.int .i64) []], [.v (.st 10) [0, 1, 2, 3, 4, 5, 6], .v (.slice (.st 7)) [0]], fun a => ng a.1 a.2.1⟩
def ej (a : List Cont) (b : List Cont) (i : Int) : Option (Int ⊕ (Bool ⊕ Unit)) :=
 bif decide (i < (a.length : Int)) then
 (idx a i).bind fun x =>
 (idx b i).bind fun x1 =>
 bif ! ((x.Id == x1.Id) && ((x.App == x1.App) && ((x.Node == x1.Node) && (((x.Size.Mem == x1.Size.Mem) && (x.Size.Cores == x1.Size.Cores)) && ((x.Prio == x1.Prio) && ((x.Label == x1.Label) && ((x.Master == x1.Master) && (x.Notice == x1.Notice)))))))) then
  some (.inr (.inl false))
 else
  some (.inl (w64 (i + 1)))
 else
 some (.inr (.inr ()))
def ic (a : List Cont) (b : List Cont) : Option Bool :=
 bif (a.length : Int) != (b.length : Int) then
 some false
 else
 (loop (ej a b) 0).bind fun q0 =>
 match q0 with
 | .inl q =>
  some q
 | .inr _ =>
  some true
def h57 : Hint := (.s .z (.s .z (.s (.s .z (.b (.l [(5, .v (.int .i64) [])] [4, 5] [(1, [(4, .v .bool [])]), (2, [])] .z))) .z)))
def sp57 : Spec fam := ⟨[.v (.slice (.st 7)) [], .v (.slice (.st 7)) []], [.v .bool []], fun a => ic a.1 a.2.1⟩
def bU (more : Int) (ids : List Int) (t1 : State × Int) : Option ((State × Int) ⊕ (Bool ⊕ Unit)) :=
 bif decide (t1.2 < (ids.length : Int)) then
 (
  (inb t1.2 ids.length).bind fun i =>
  (ids[i]?).bind fun x5 =>
  (kU t1.1 x5).bind fun x6 =>
  (inb t1.2 ids.length).bind fun i1 =>
  (ids[i1]?).bind fun x7 =>
  (bc t1.1 x7).bind fun x8 =>
  (
  bif x6.2.1 != x8.2.1 then
   some true
  else
   bif ! ((x6.2.2.Id == x8.2.2.Id) && ((x6.2.2.App == x8.2.2.App) && ((x6.2.2.Node == x8.2.2.Node) && (((x6.2.2.Size.Mem == x8.2.2.Size.Mem) && (x6.2.2.Size.Cores == x8.2.2.Size.Cores)) && ((x6.2.2.Prio == x8.2.2.Prio) && ((x6.2.2.Label == x8.2.2.Label) && ((x6.2.2.Master == x8.2.2.Master) && (x6.2.2.Notice == x8.2.2.Notice)))))))) then
   some true
   else
   (eu x6.1 x8.1).bind fun x9 =>
   some (! x9)).bind fun q =>
  bif q then
  some (.inr false)
  else
  (inb t1.2 ids.length).bind fun i2 =>
  (ids[i2]?).bind fun x10 =>
  (ng t1.1 x10).bind fun x11 =>
  (inb t1.2 ids.length).bind fun i3 =>
  (ids[i3]?).bind fun x12 =>
  (bB t1.1 x12).bind fun x13 =>
  (
   (ic x11.2 x13.2).bind fun x14 =>
   bif ! x14 then
   some true
   else
   (eu x11.1 x13.1).bind fun x15 =>
   some (! x15)).bind fun q1 =>
  bif q1 then
   some (.inr false)
  else
   (jM (w64 (more + t1.2)) 3).bind fun x16 =>
   bif x16 == 0 then
   some (.inl (x13.1))
   else
   some (.inl (t1.1)) : Option (State ⊕ Bool)).bind fun q0 =>
 match q0 with
 | .inl s =>
  some (.inl (s, w64 (t1.2 + 1)))
 | .inr q2 =>
  some (.inr (.inl q2))
 else
 some (.inr (.inr ()))
def bT (x3 : State) (t : List Int × Int) : Option ((List Int × Int) ⊕ List Int) :=
 bif decide (t.2 < (x3.Nodes.length : Int)) then
 (idx x3.Nodes t.2).bind fun x4 =>
 (app 8 t.1 [x4.Id]).bind fun l =>
 some (.inl (l, w64 (t.2 + 1)))
 else
 some (.inr t.1)
def c9 (x : Script) (more : Int) (id_ : Int) : Option Bool :=
 (hS).bind fun x1 =>
 bif ! x1 then
 some false
 else
 (bP x).bind fun x2 =>
 bif ! x2 then
  some true
 else
  (bv x).bind fun x3 =>
  (loop (bT x3) ([id_], 0)).bind fun ids =>
  (loop (bU more ids) (x3, 0)).bind fun q0 =>
  match q0 with
  | .inl q3 =>
  some q3
  | .inr _ =>
  some true
def h13 : Hint := (.s .z (.s .z (.s .z (.s .z (.s .z (.s (.s .z (.b (.l [(8, .v (.slice (.int .i64)) [0]), (9, .v (.int .i64) [])] [8, 9] [(2, [(8, .v (.slice (.int .i64)) [0])])] .z))) (.s (.s .z (.b (.l [(7, .box (.st 10) []), (10, .v (.int .i64) [])] [6, 7, 10, 11, 12, 13, 14, 15, 16, 17, 18, 19, 85, 113] [(1, [(6, .v .bool [])]), (4, [])] (.s .z (.s (.j [6, 7, 11, 12, 13, 14, 15, 16, 17, 18, 19, 85, 113] [(0, [(7, .box (.st 10) [])]), (1, [(6, .v .bool [])])] (.b (.s .z (.s .z (.s (.s (.j [] [(0, [(85, .v .bool [])])] .z) .z) (.s .z (.s .z (.s (.s (.j [] [(0, [(113, .v .bool [])])] .z) .z) .z)))))))) .z))))) .z)))))))
def sp13 : Spec fam := ⟨[.v (.st 12) [], .v (.int .i64) [], .v (.int .i64) []], [.v .bool []], fun a => c9 a.1 a.2.1 a.2.2.1⟩
end
end Go.Fx.D
