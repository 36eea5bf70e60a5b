/-
  The functions of the program that this law reaches, as functions over plain data (printed by a program). Conditions: none.
-/
import Derived.Test.YteodpoelbdakgaaGreatD0
namespace Go.Fx.D
open Go Go.Fx Go.Proofs
set_option linter.unusedVariables false
noncomputable section
def gy (at_ : Int) (n : Int) : Option Int :=
 (nz n).bind fun _ =>
 (
 bif decide ((Int.tmod at_ n) < 0) then
  let k := w64 ((Int.tmod at_ n) + n)
  some k
 else
  some (Int.tmod at_ n)).bind fun k1 =>
 some k1
def h49 : Hint := (.s .z (.s .z (.s (.j [5] [(0, [(5, .v (.int .i64) [])])] .z) .z)))
def sp49 : Spec fam := ⟨[.v (.int .i64) [], .v (.int .i64) []], [.v (.int .i64) []], fun a => gy a.1 a.2.1⟩
def kS (node : Int) (t : State × List Cont) : Option ((State × List Cont) ⊕ ((State × List Cont))) :=
 bif decide ((t.2.length : Int) < 3) then
 (jK t.1 node).bind fun x1 =>
 bif x1.2.1 != 1 then
  some (.inr (x1.1, t.2))
 else
  (app 72 t.2 [x1.2.2]).bind fun l =>
  some (.inl (x1.1, l))
 else
 some (.inr (t.1, t.2))
def m9 (s : State) (node : Int) : Option (State × List Cont) :=
 (jC s []).bind fun x =>
 (loop (kS node) (x, [])).bind fun q =>
 some (q.1, q.2)
def h55 : Hint := (.s .z (.s .z (.s .z (.s (.b (.l [(2, .box (.st 10) [0, 1, 2, 3, 4, 5, 6]), (6, .v (.slice (.st 7)) [0])] [2, 6, 7, 8, 9] [(2, [(2, .box (.st 10) [0, 1, 2, 3, 4, 5, 6]), (6, .v (.slice (.st 7)) [0])])] .z)) .z))))
def sp55 : Spec fam := ⟨[.v (.st 10) [], .v (.int .i64) []], [.v (.st 10) [0, 1, 2, 3, 4, 5, 6], .v (.slice (.st 7)) [0]], fun a => m9 a.1 a.2.1⟩
def b9 (s : State) (i1 : Int) : Option (Int ⊕ (Bool ⊕ Unit)) :=
 bif decide (i1 < (s.Nodes.length : Int)) then
 (idx s.Nodes i1).bind fun x9 =>
 (jK (⟨⟨s.Conf.Labels, s.Conf.Queues⟩, s.Nodes, s.Apps, s.Conts, s.Slots, s.Plans, s.Now, s.Epoch, 1048575⟩ : State) x9.Id).bind fun x10 =>
 (
  bif x10.2.1 != 0 then
  some true
  else
  (eC (⟨⟨s.Conf.Labels, s.Conf.Queues⟩, s.Nodes, s.Apps, s.Conts, s.Slots, s.Plans, s.Now, s.Epoch, 1048575⟩ : State) x10.1).bind fun x11 =>
  some (! x11)).bind fun q3 =>
 bif q3 then
  some (.inr (.inl false))
 else
  some (.inl (w64 (i1 + 1)))
 else
 some (.inr (.inr ()))
def bq (t : State × Int × Int) (x7 : State × List Cont) (t1 : Int × Int) : Option ((Int × Int) ⊕ (Bool ⊕ Int)) :=
 bif decide (t1.2 < (x7.2.length : Int)) then
 (inb t1.2 x7.2.length).bind fun i =>
 (x7.2[i]?).bind fun x8 =>
 bif x8.Id != (w64 ((shlK .i64 t.1.Epoch 20) + (w64 (t1.1 + 1)))) then
  some (.inr (.inl false))
 else
  some (.inl (w64 (t1.1 + 1), w64 (t1.2 + 1)))
 else
 some (.inr (.inr (t1.1)))
def bo (t : State × Int × Int) : Option ((State × Int × Int) ⊕ (Bool ⊕ State)) :=
 bif decide (t.2.2 < (t.1.Nodes.length : Int)) then
 (idx t.1.Nodes t.2.2).bind fun x6 =>
 (m9 t.1 x6.Id).bind fun x7 =>
 (loop (bq t x7) (t.2.1, 0)).bind fun q0 =>
 match q0 with
 | .inl q =>
  some (.inr (.inl q))
 | .inr last =>
  (
  bif x7.1.Seq != last then
   some true
  else
   some (decide ((x7.2.length : Int) > 3))).bind fun q1 =>
  bif q1 then
  some (.inr (.inl false))
  else
  some (.inl (x7.1, last, w64 (t.2.2 + 1)))
 else
 some (.inr (.inr (t.1)))
def dI (x : Script) (epoch : Int) (seq : Int) : Option Bool :=
 (hU).bind fun x1 =>
 bif ! x1 then
 some false
 else
 (bP x).bind fun x2 =>
 bif ! x2 then
  some true
 else
  (bz x).bind fun x3 =>
  (gy epoch 1000).bind fun x4 =>
  (gy seq 524288).bind fun x5 =>
  (loop bo ((⟨⟨x3.Conf.Labels, x3.Conf.Queues⟩, x3.Nodes, x3.Apps, x3.Conts, x3.Slots, x3.Plans, x3.Now, w64 ((w64 (x3.Epoch + 1)) + x4), x5⟩ : State), x5, 0)).bind fun q0 =>
  match q0 with
  | .inl q2 =>
  some q2
  | .inr s =>
  (loop (b9 s) 0).bind fun q0 =>
  match q0 with
  | .inl q4 =>
   some q4
  | .inr _ =>
   some true
def h14 : Hint := (.s .z (.s .z (.s .z (.s .z (.s .z (.s .z (.s (.s .z (.b (.l [(7, .box (.st 10) []), (8, .v (.int .i64) []), (9, .v (.int .i64) [])] [6, 7, 8, 9, 10, 11, 12, 81] [(1, [(6, .v .bool [])]), (2, [(7, .box (.st 10) [])])] (.s .z (.s (.b (.s .z (.s (.s .z (.b (.l [(8, .v (.int .i64) []), (12, .v (.int .i64) [])] [6, 8, 12] [(1, [(6, .v .bool [])]), (4, [(8, .v (.int .i64) [])])] .z))) (.s (.s (.j [] [(0, [(81, .v .bool [])])] .z) .z) .z)))) .z))))) (.s .z (.s (.s .z (.b (.l [(13, .v (.int .i64) [])] [6, 13, 14, 15, 110] [(1, [(6, .v .bool [])]), (6, [])] (.s .z (.s (.b (.s .z (.s (.j [] [(0, [(110, .v .bool [])])] .z) .z))) .z))))) .z)))))))))
def sp14 : Spec fam := ⟨[.v (.st 12) [], .v (.int .i64) [], .v (.int .i64) []], [.v .bool []], fun a => dI a.1 a.2.1 a.2.2.1⟩
end
end Go.Fx.D
