/-
  The functions of the program that this law reaches, as functions over plain data (printed by a program). Conditions: none.
-/
import Derived.Test.YteodpoelbdakgaaGreatD0
namespace Go.Fx.D
open Go Go.Fx Go.Proofs
set_option linter.unusedVariables false
noncomputable section
def bG (s : State) (node : Int) (t : Slot × Int) : Option ((Slot × Int) ⊕ ((Slot × Bool) ⊕ Slot)) :=
 bif decide (t.2 < (s.Slots.length : Int)) then
 (idx s.Slots t.2).bind fun x =>
 bif x.Node == node then
  (idx s.Slots t.2).bind fun x1 =>
  some (.inr (.inl (x1, true)))
 else
  some (.inl (t.1, w64 (t.2 + 1)))
 else
 some (.inr (.inr (t.1)))
def gn (s : State) (node : Int) : Option (Slot × Bool) :=
 (loop (bG s node) ((⟨0, 0, 0⟩ : Slot), 0)).bind fun q0 =>
 match q0 with
 | .inl q =>
 some (q.1, q.2)
 | .inr q1 =>
 some ((⟨0, 0, 0⟩ : Slot), false)
def aQ (a : Vec) (b : Vec) : Option Bool :=
 bif decide (a.Mem ≤ b.Mem) then
 some (decide (a.Cores ≤ b.Cores))
 else
 some false
def da (s : State) (label : Int) (t : Vec × Int) : Option ((Vec × Int) ⊕ Vec) :=
 bif decide (t.2 < (s.Nodes.length : Int)) then
 (
  (
  (idx s.Nodes t.2).bind fun x =>
  bif x.Up then
   (idx s.Nodes t.2).bind fun x1 =>
   some (x1.Label == label)
  else
   some false).bind fun q =>
  bif q then
  (idx s.Nodes t.2).bind fun x2 =>
  (az t.1 x2.Cap).bind fun x3 =>
  some x3
  else
  some t.1).bind fun v =>
 some (.inl (v, w64 (t.2 + 1)))
 else
 some (.inr t.1)
def d6 (s : State) (label : Int) : Option Vec :=
 (loop (da s label) ((⟨0, 0⟩ : Vec), 0)).bind fun v1 =>
 some v1
def eO (n : Int) : Option Bool :=
 bif decide (n ≥ 0) then
 some (decide (n ≤ 1125899906842624))
 else
 some false
def aS (a : Vec) : Option Bool :=
 (eO a.Mem).bind fun x =>
 bif x then
 (eO a.Cores).bind fun x1 =>
 some x1
 else
 some false
def ej (n : Int) (bp : Int) : Option Int :=
 some (w64 ((w64 ((w64 (Int.tdiv n 10000)) * bp)) + (w64 (Int.tdiv (w64 ((Int.tmod n 10000) * bp)) 10000))))
def ez (a : Vec) (bp : Int) : Option (Vec × Int) :=
 (
 (aS a).bind fun x =>
 bif ! x then
  some true
 else
  bif decide (bp < 0) then
  some true
  else
  some (decide (bp > 1000000))).bind fun q =>
 bif q then
 some ((⟨0, 0⟩ : Vec), 1)
 else
 (ej a.Mem bp).bind fun x1 =>
 (ej a.Cores bp).bind fun x2 =>
 (aS (⟨x1, x2⟩ : Vec)).bind fun x3 =>
 bif ! x3 then
  some ((⟨0, 0⟩ : Vec), 11)
 else
  some ((⟨x1, x2⟩ : Vec), 0)
def dz (s : State) (label : Int) (least : Bool) (up : List (List UInt8)) (t : Vec × Int) : Option ((Vec × Int) ⊕ Vec) :=
 bif decide (t.2 ≥ 0) then
 (inb t.2 up.length).bind fun i1 =>
 (up[i1]?).bind fun x2 =>
 (bu s.Conf x2).bind fun x3 =>
 (inb label x3.1.Caps.length).bind fun i2 =>
 (x3.1.Caps[i2]?).bind fun x4 =>
 (
  bif least then
  (inb label x3.1.Caps.length).bind fun i3 =>
  (x3.1.Caps[i3]?).bind fun x5 =>
  some x5.Least
  else
  some x4.Most).bind fun bp =>
 (ez t.1 bp).bind fun x6 =>
 some (.inl (x6.1, w64 (t.2 - 1)))
 else
 some (.inr t.1)
def eM (s : State) (path : List UInt8) (label : Int) (least : Bool) : Option Vec :=
 (bu s.Conf path).bind fun x =>
 (
 bif ! x.2 then
  some true
 else
  bif decide (label < 0) then
  some true
  else
  some (decide (label ≥ (s.Conf.Labels.length : Int)))).bind fun q =>
 bif q then
 some (⟨0, 0⟩ : Vec)
 else
 (d6 s label).bind fun x1 =>
 (cW path).bind fun up =>
 let i := w64 ((up.length : Int) - 2)
 (loop (dz s label least up) (x1, i)).bind fun v =>
 some v
def gS (s : State) (path : List UInt8) (label : Int) : Option Vec :=
 (eM s path label false).bind fun x =>
 some x
def dt (s : State) (label : Int) (t : Vec × Int) : Option ((Vec × Int) ⊕ Vec) :=
 bif decide (t.2 < (s.Plans.length : Int)) then
 (
  (idx s.Plans t.2).bind fun x =>
  (
  bif x.Label == label then
   bif decide (x.From ≤ s.Now) then
   some (decide (s.Now < x.Until))
   else
   some false
  else
   some false).bind fun q =>
  bif q then
  (az t.1 x.Need).bind fun x1 =>
  some x1
  else
  some t.1).bind fun v =>
 some (.inl (v, w64 (t.2 + 1)))
 else
 some (.inr t.1)
def gQ (s : State) (label : Int) : Option Vec :=
 (loop (dt s label) ((⟨0, 0⟩ : Vec), 0)).bind fun v1 =>
 some v1
def bH (s : State) (label : Int) (size : Vec) (up : List (List UInt8)) (i : Int) : Option (Int ⊕ (Bool ⊕ Unit)) :=
 bif decide (i < (up.length : Int)) then
 (inb i up.length).bind fun i1 =>
 (up[i1]?).bind fun x =>
 (aK s x label).bind fun x1 =>
 (az x1 size).bind fun x2 =>
 (inb i up.length).bind fun i2 =>
 (up[i2]?).bind fun x3 =>
 (gS s x3 label).bind fun x4 =>
 (aQ x2 x4).bind fun x5 =>
 bif ! x5 then
  some (.inr (.inl false))
 else
  (
  (inb i up.length).bind fun i3 =>
  (up[i3]?).bind fun x6 =>
  bif x6 == ([114, 111, 111, 116] : List UInt8) then
   (d6 s label).bind fun x7 =>
   (gQ s label).bind fun x8 =>
   (dj x7 x8).bind fun x9 =>
   (aQ x2 x9).bind fun x10 =>
   some (! x10)
  else
   some false).bind fun q =>
  bif q then
  some (.inr (.inl false))
  else
  some (.inl (w64 (i + 1)))
 else
 some (.inr (.inr ()))
def ek (s : State) (path : List UInt8) (label : Int) (size : Vec) : Option Bool :=
 (cW path).bind fun up =>
 (loop (bH s label size up) 0).bind fun q0 =>
 match q0 with
 | .inl q1 =>
 some q1
 | .inr _ =>
 some true
def cC (l : List Ask) (prio : Int) (t : Ask × Int) : Option ((Ask × Int) ⊕ ((Ask × Bool) ⊕ Ask)) :=
 bif decide (t.2 < (l.length : Int)) then
 (idx l t.2).bind fun x =>
 bif x.Prio == prio then
  (idx l t.2).bind fun x1 =>
  some (.inr (.inl (x1, true)))
 else
  some (.inl (t.1, w64 (t.2 + 1)))
 else
 some (.inr (.inr (t.1)))
def ic (l : List Ask) (prio : Int) : Option (Ask × Bool) :=
 (loop (cC l prio) ((⟨0, 0, ⟨0, 0⟩, 0, 0, 0, 0⟩ : Ask), 0)).bind fun q0 =>
 match q0 with
 | .inl q =>
 some (q.1, q.2)
 | .inr q1 =>
 some ((⟨0, 0, ⟨0, 0⟩, 0, 0, 0, 0⟩ : Ask), false)
def aO (a : Ask) (n : Node) : Option Int :=
 (
 bif ! n.Up then
  some true
 else
  some (n.Label != a.Label)).bind fun q =>
 bif q then
 some 4
 else
 (
  bif a.Rack == (-1) then
  some true
  else
  bif a.Node == n.Id then
   some true
  else
   bif a.Node == (-1) then
   some (a.Rack == n.Rack)
   else
   some false).bind fun q1 =>
 bif q1 then
  some 1
 else
  bif a.Rack == n.Rack then
  some 2
  else
  some 3
def aY (a : Ask) (n : Node) : Option Bool :=
 (aO a n).bind fun x =>
 bif x == 1 then
 some true
 else
 bif x == 2 then
  some (decide (a.Missed ≥ 2))
 else
  bif x == 3 then
  some (decide (a.Missed ≥ 4))
  else
  some false
def bE (s : State) (path : List UInt8) (label : Int) : Option Vec :=
 (eM s path label true).bind fun x =>
 some x
def eJ (s : State) (leaf : List UInt8) (a : Ask) : Option Bool :=
 (aK s leaf a.Label).bind fun x =>
 (az x a.Size).bind fun x1 =>
 (bE s leaf a.Label).bind fun x2 =>
 (aQ x1 x2).bind fun x3 =>
 some x3
def eE (s : State) (path : List UInt8) (label : Int) (user : Int) : Option Vec :=
 (cR s path label false user).bind fun x =>
 some x
def gR (s : State) (path : List UInt8) (label : Int) : Option Vec :=
 (bu s.Conf path).bind fun x =>
 bif ! x.2 then
 some (⟨0, 0⟩ : Vec)
 else
 (bE s path label).bind fun x1 =>
 (ez x1 x.1.User).bind fun x2 =>
 some x2.1
def cL (s : State) (leaf : List UInt8) (label : Int) (user : Int) : Option Bool :=
 (eE s leaf label user).bind fun x =>
 (gR s leaf label).bind fun x1 =>
 (aQ x x1).bind fun x2 =>
 some x2
def cu (s : State) (node : Int) (t : List Slot × Int) : Option ((List Slot × Int) ⊕ List Slot) :=
 bif decide (t.2 < (s.Slots.length : Int)) then
 (
  (idx s.Slots t.2).bind fun x =>
  bif x.Node != node then
  (idx s.Slots t.2).bind fun x1 =>
  (app 24 t.1 [x1]).bind fun l =>
  some l
  else
  some t.1).bind fun l1 =>
 some (.inl (l1, w64 (t.2 + 1)))
 else
 some (.inr t.1)
def dm (s : State) (node : Int) : Option State :=
 (loop (cu s node) ([], 0)).bind fun l2 =>
 some (⟨⟨s.Conf.Labels, s.Conf.Queues⟩, s.Nodes, s.Apps, s.Conts, l2, s.Plans, s.Now, s.Epoch, s.Seq⟩ : State)
def dq (l : List Ask) (prio : Int) (t : List Ask × Bool × Int) : Option ((List Ask × Bool × Int) ⊕ ((List Ask × Bool))) :=
 bif decide (t.2.2 < (l.length : Int)) then
 (
  (idx l t.2.2).bind fun x =>
  (
  bif x.Prio == prio then
   bif decide ((w64 (x.Count - 1)) ≤ 0) then
   some (.inr true)
   else
   some (.inl (true, (⟨x.Prio, x.Label, ⟨x.Size.Mem, x.Size.Cores⟩, w64 (x.Count - 1), x.Node, x.Rack, 0⟩ : Ask)))
  else
   some (.inl (t.2.1, x)) : Option ((Bool × Ask) ⊕ Bool)).bind fun q0 =>
  match q0 with
  | .inl q =>
  (app 64 t.1 [q.2]).bind fun l1 =>
  some (l1, q.1)
  | .inr is =>
  some (t.1, is)).bind fun q1 =>
 some (.inl (q1.1, q1.2, w64 (t.2.2 + 1)))
 else
 some (.inr (t.1, t.2.1))
def gT (l : List Ask) (prio : Int) : Option (List Ask × Bool) :=
 (loop (dq l prio) ([], false, 0)).bind fun q2 =>
 some (q2.1, q2.2)
def cH (s : State) (k : Int) : Option (Int ⊕ Int) :=
 (
 bif decide (k < (s.Conts.length : Int)) then
  (idx s.Conts k).bind fun x2 =>
  some (decide (x2.Id < (w64 ((shlK .i64 s.Epoch 20) + (w64 (s.Seq + 1))))))
 else
  some false).bind fun q =>
 bif q then
 some (.inl (w64 (k + 1)))
 else
 some (.inr k)
def dU (s : State) (n : Node) (a : App) (x : Ask) : Option (State × Cont) :=
 (gT a.Asks x.Prio).bind fun x1 =>
 (
 bif a.State == 1 then
  some (⟨a.Id, 2, a.Queue, a.User, a.Prio, ⟨a.Master.Mem, a.Master.Cores⟩, [], s.Now, 0, a.Grants, a.Kills, a.Told, a.Lost⟩ : App)
 else
  (app 8 [] a.Grants).bind fun l =>
  (app 8 l [w64 ((shlK .i64 s.Epoch 20) + (w64 (s.Seq + 1)))]).bind fun l1 =>
  some (⟨a.Id, a.State, a.Queue, a.User, a.Prio, ⟨a.Master.Mem, a.Master.Cores⟩, x1.1, a.Seen, a.Beat, l1, a.Kills, a.Told, a.Lost⟩ : App)).bind fun a1 =>
 (loop (cH s) 0).bind fun k1 =>
 (slc s.Conts 0 k1).bind fun l2 =>
 (app 72 [] l2).bind fun l3 =>
 (app 72 l3 [(⟨w64 ((shlK .i64 s.Epoch 20) + (w64 (s.Seq + 1))), a.Id, n.Id, ⟨x.Size.Mem, x.Size.Cores⟩, x.Prio, n.Label, a.State == 1, 0⟩ : Cont)]).bind fun l4 =>
 (slc s.Conts k1 (s.Conts.length : Int)).bind fun l5 =>
 (app 72 l4 l5).bind fun l6 =>
 (aX (⟨⟨s.Conf.Labels, s.Conf.Queues⟩, s.Nodes, s.Apps, l6, s.Slots, s.Plans, s.Now, s.Epoch, w64 (s.Seq + 1)⟩ : State) a1).bind fun x3 =>
 some (x3, (⟨w64 ((shlK .i64 s.Epoch 20) + (w64 (s.Seq + 1))), a.Id, n.Id, ⟨x.Size.Mem, x.Size.Cores⟩, x.Prio, n.Label, a.State == 1, 0⟩ : Cont))
def cO (s : State) (n : Node) (x : Slot) : Option (State × Int × Cont × Bool) :=
 (aG s x.App).bind fun x1 =>
 (ic x1.1.Asks x.Prio).bind fun x2 =>
 (
 bif ! x1.2 then
  some true
 else
  (a6 x1.1).bind fun x3 =>
  bif ! x3 then
  some true
  else
  bif ! x2.2 then
   some true
  else
   (aY x2.1 n).bind fun x4 =>
   bif ! x4 then
   some true
   else
   (aQ x2.1.Size n.Cap).bind fun x5 =>
   bif ! x5 then
    some true
   else
    (eJ s x1.1.Queue x2.1).bind fun x6 =>
    bif ! x6 then
    some true
    else
    (cL s x1.1.Queue n.Label x1.1.User).bind fun x7 =>
    some (! x7)).bind fun q =>
 bif q then
 (dm s n.Id).bind fun x8 =>
 some (x8, 0, (⟨0, 0, 0, ⟨0, 0⟩, 0, 0, false, 0⟩ : Cont), false)
 else
 (
  (br s n.Id).bind fun x9 =>
  (aQ x2.1.Size x9).bind fun x10 =>
  bif ! x10 then
  some true
  else
  (ek s x1.1.Queue n.Label x2.1.Size).bind fun x11 =>
  some (! x11)).bind fun q1 =>
 bif q1 then
  some (s, 3, (⟨0, 0, 0, ⟨0, 0⟩, 0, 0, false, 0⟩ : Cont), true)
 else
  (dm s n.Id).bind fun x12 =>
  (dU x12 n x1.1 x2.1).bind fun x13 =>
  some (x13.1, 1, x13.2, true)
def eH (a : Int) (b : Int) : Option (Int × Int) :=
 let mid := w64 ((w64 ((shrK .i64 a 25) * (andK .i64 b 33554431))) + (w64 ((andK .i64 a 33554431) * (shrK .i64 b 25))))
 let low := w64 ((w64 ((andK .i64 a 33554431) * (andK .i64 b 33554431))) + (shlK .i64 (andK .i64 mid 33554431) 25))
 some (w64 ((w64 ((w64 ((shrK .i64 a 25) * (shrK .i64 b 25))) + (shrK .i64 mid 25))) + (shrK .i64 low 50)), andK .i64 low 1125899906842623)
def bf (x : Frac) (y : Frac) : Option Int :=
 (
 bif x.A == 0 then
  some (⟨x.A, 1⟩ : Frac)
 else
  some x).bind fun x1 =>
 (
 bif y.A == 0 then
  some (⟨y.A, 1⟩ : Frac)
 else
  some y).bind fun y1 =>
 (
 bif x1.P == 0 then
  some true
 else
  some (y1.P == 0)).bind fun q =>
 bif q then
 (
  bif x1.P == 0 then
  some (y1.P == 0)
  else
  some false).bind fun q1 =>
 bif q1 then
  some 0
 else
  bif x1.P == 0 then
  some 1
  else
  some (-1)
 else
 (eH x1.A y1.P).bind fun x2 =>
 (eH y1.A x1.P).bind fun x3 =>
 (
  bif decide (x2.1 < x3.1) then
  some true
  else
  bif x2.1 == x3.1 then
   some (decide (x2.2 < x3.2))
  else
   some false).bind fun q2 =>
 bif q2 then
  some (-1)
 else
  (
  bif x2.1 == x3.1 then
   some (x2.2 == x3.2)
  else
   some false).bind fun q3 =>
  bif q3 then
  some 0
  else
  some 1
def cj (a : Vec) (p : Vec) : Option Frac :=
 (bf (⟨a.Mem, p.Mem⟩ : Frac) (⟨a.Cores, p.Cores⟩ : Frac)).bind fun x =>
 bif decide (x < 0) then
 some (⟨a.Cores, p.Cores⟩ : Frac)
 else
 some (⟨a.Mem, p.Mem⟩ : Frac)
def bg (a : Vec) (p : Vec) (b : Vec) (q : Vec) : Option Int :=
 (
 (aS a).bind fun x =>
 bif ! x then
  some true
 else
  (aS p).bind fun x1 =>
  bif ! x1 then
  some true
  else
  (aS b).bind fun x2 =>
  bif ! x2 then
   some true
  else
   (aS q).bind fun x3 =>
   some (! x3)).bind fun q1 =>
 bif q1 then
 some 0
 else
 (cj a p).bind fun x4 =>
 (cj b q).bind fun x5 =>
 (bf x4 x5).bind fun x6 =>
 some x6
def fT (s : State) (a : List UInt8) (b : List UInt8) (label : Int) : Option Bool :=
 (aK s a label).bind fun x =>
 (bE s a label).bind fun x1 =>
 (aK s b label).bind fun x2 =>
 (bE s b label).bind fun x3 =>
 (bg x x1 x2 x3).bind fun o =>
 bif decide (o < 0) then
 some true
 else
 bif o == 0 then
  some (Op.bytesLess a b)
 else
  some false
def cY (s : State) (label : Int) (l : List (List UInt8)) (t : List (List UInt8) × Int) (k : Int) : Option (Int ⊕ Int) :=
 (
 bif decide (k < (t.1.length : Int)) then
  (inb t.2 l.length).bind fun i =>
  (l[i]?).bind fun x =>
  (inb k t.1.length).bind fun i1 =>
  (t.1[i1]?).bind fun x1 =>
  (fT s x x1 label).bind fun x2 =>
  some (! x2)
 else
  some false).bind fun q =>
 bif q then
 some (.inl (w64 (k + 1)))
 else
 some (.inr k)
def cX (s : State) (label : Int) (l : List (List UInt8)) (t : List (List UInt8) × Int) : Option ((List (List UInt8) × Int) ⊕ List (List UInt8)) :=
 bif decide (t.2 < (l.length : Int)) then
 (loop (cY s label l t) 0).bind fun k1 =>
 (inS 0 k1 t.1.length).bind fun p =>
 (app 16 [] (sub t.1 p.1 p.2)).bind fun l1 =>
 (inb t.2 l.length).bind fun i2 =>
 (l[i2]?).bind fun x3 =>
 (app 16 l1 [x3]).bind fun l2 =>
 (inS k1 (t.1.length : Int) t.1.length).bind fun p1 =>
 (app 16 l2 (sub t.1 p1.1 p1.2)).bind fun l3 =>
 some (.inl (l3, w64 (t.2 + 1)))
 else
 some (.inr t.1)
def gg (s : State) (path : List UInt8) (label : Int) : Option (List (List UInt8)) :=
 (dg s.Conf path).bind fun l =>
 (loop (cX s label l) ([], 0)).bind fun out =>
 some out
def bO (s : State) (label : Int) (self : State → (List UInt8) → Int → Option (List (List UInt8))) (l : List (List UInt8)) (t : List (List UInt8) × Int) : Option ((List (List UInt8) × Int) ⊕ List (List UInt8)) :=
 bif decide (t.2 < (l.length : Int)) then
 (inb t.2 l.length).bind fun i =>
 (l[i]?).bind fun x =>
 (self s x label).bind fun x1 =>
 (app 16 t.1 x1).bind fun l1 =>
 some (.inl (l1, w64 (t.2 + 1)))
 else
 some (.inr t.1)
def bC (self : State → (List UInt8) → Int → Option (List (List UInt8))) (s : State) (path : List UInt8) (label : Int) : Option (List (List UInt8)) :=
 (gg s path label).bind fun l =>
 bif (l.length : Int) == 0 then
 some [path]
 else
 (loop (bO s label self l) ([], 0)).bind fun out =>
 some out
def a9 : Nat → State → (List UInt8) → Int → Option (List (List UInt8))
 | 0 => fun _ _ _ => none
 | n + 1 => bC (a9 n)
def iT (a0 : State) (a1 : List UInt8) (a2 : Int) : Option (List (List UInt8)) := a9 64 a0 a1 a2
def fj (s : State) (label : Int) : Option (List (List UInt8)) :=
 (iT s ([114, 111, 111, 116] : List UInt8) label).bind fun x =>
 some x
def bJ (out1 : List App) (t1 : List Int × Int) : Option ((List Int × Int) ⊕ List Int) :=
 bif decide (t1.2 < (out1.length : Int)) then
 (inb t1.2 out1.length).bind fun i1 =>
 (out1[i1]?).bind fun x3 =>
 (app 8 t1.1 [x3.Id]).bind fun l3 =>
 some (.inl (l3, w64 (t1.2 + 1)))
 else
 some (.inr t1.1)
def cZ (t : List App × Int) (x : App) (k : Int) : Option (Int ⊕ Int) :=
 (
 bif decide (k < (t.1.length : Int)) then
  (inb k t.1.length).bind fun i =>
  (t.1[i]?).bind fun x2 =>
  some (decide (x2.Prio ≥ x.Prio))
 else
  some false).bind fun q1 =>
 bif q1 then
 some (.inl (w64 (k + 1)))
 else
 some (.inr k)
def c7 (s : State) (queue : List UInt8) (t : List App × Int) : Option ((List App × Int) ⊕ List App) :=
 bif decide (t.2 < (s.Apps.length : Int)) then
 (
  (idx s.Apps t.2).bind fun x =>
  (
  (a6 x).bind fun x1 =>
  bif ! x1 then
   some true
  else
   some (! (x.Queue == queue))).bind fun q =>
  bif q then
  some t.1
  else
  (loop (cZ t x) 0).bind fun k1 =>
  (inS 0 k1 t.1.length).bind fun p =>
  (app 200 [] (sub t.1 p.1 p.2)).bind fun l =>
  (app 200 l [x]).bind fun l1 =>
  (inS k1 (t.1.length : Int) t.1.length).bind fun p1 =>
  (app 200 l1 (sub t.1 p1.1 p1.2)).bind fun l2 =>
  some l2).bind fun out =>
 some (.inl (out, w64 (t.2 + 1)))
 else
 some (.inr t.1)
def d7 (s : State) (queue : List UInt8) : Option (List Int) :=
 (loop (c7 s queue) ([], 0)).bind fun out1 =>
 (loop (bJ out1) ([], 0)).bind fun l4 =>
 some l4
def dB (prio : Int) (t : List Ask × Int) : Option ((List Ask × Int) ⊕ List Ask) :=
 bif decide (t.2 < (t.1.length : Int)) then
 (
  (inb t.2 t.1.length).bind fun i =>
  (t.1[i]?).bind fun x =>
  bif x.Prio == prio then
  (inb t.2 t.1.length).bind fun i1 =>
  (t.1[i1]?).bind fun x1 =>
  (inb t.2 t.1.length).bind fun i2 =>
  (t.1[i2]?).bind fun x2 =>
  some (List.set t.1 i2 (⟨x2.Prio, x2.Label, ⟨x2.Size.Mem, x2.Size.Cores⟩, x2.Count, x2.Node, x2.Rack, imin (w64 (x1.Missed + 1)) 100⟩ : Ask))
  else
  some t.1).bind fun out =>
 some (.inl (out, w64 (t.2 + 1)))
 else
 some (.inr t.1)
def gP (l : List Ask) (prio : Int) : Option (List Ask) :=
 (app 64 [] l).bind fun l1 =>
 (loop (dB prio) (l1, 0)).bind fun out1 =>
 some out1
def bB (s : State) (app_ : Int) (prio : Int) (i : Int) : Option (Int ⊕ (Bool ⊕ Unit)) :=
 bif decide (i < (s.Slots.length : Int)) then
 (
  (idx s.Slots i).bind fun x =>
  bif x.App == app_ then
  (idx s.Slots i).bind fun x1 =>
  some (x1.Prio == prio)
  else
  some false).bind fun q =>
 bif q then
  some (.inr (.inl true))
 else
  some (.inl (w64 (i + 1)))
 else
 some (.inr (.inr ()))
def fS (s : State) (app_ : Int) (prio : Int) : Option Bool :=
 (loop (bB s app_ prio) 0).bind fun q0 =>
 match q0 with
 | .inl q1 =>
 some q1
 | .inr _ =>
 some false
def db (s : State) (x : Slot) (k : Int) : Option (Int ⊕ Int) :=
 (
 bif decide (k < (s.Slots.length : Int)) then
  (idx s.Slots k).bind fun x1 =>
  some (decide (x1.Node < x.Node))
 else
  some false).bind fun q =>
 bif q then
 some (.inl (w64 (k + 1)))
 else
 some (.inr k)
def gf (s : State) (x : Slot) : Option State :=
 (loop (db s x) 0).bind fun k1 =>
 (slc s.Slots 0 k1).bind fun l =>
 (app 24 [] l).bind fun l1 =>
 (app 24 l1 [x]).bind fun l2 =>
 (slc s.Slots k1 (s.Slots.length : Int)).bind fun l3 =>
 (app 24 l2 l3).bind fun l4 =>
 some (⟨⟨s.Conf.Labels, s.Conf.Queues⟩, s.Nodes, s.Apps, s.Conts, l4, s.Plans, s.Now, s.Epoch, s.Seq⟩ : State)
def bv (s : State) (n : Node) (a : App) (x : Ask) (first : Bool) : Option (State × Int × Cont) :=
 (eJ s a.Queue x).bind fun is =>
 (
 (aO x n).bind fun x1 =>
 bif x1 == 4 then
  some true
 else
  (aQ x.Size n.Cap).bind fun x2 =>
  bif ! x2 then
  some true
  else
  bif first then
   some (! is)
  else
   some false).bind fun q =>
 bif q then
 some (s, 0, (⟨0, 0, 0, ⟨0, 0⟩, 0, 0, false, 0⟩ : Cont))
 else
 (aY x n).bind fun x3 =>
 bif ! x3 then
  (
  bif first == is then
   (gP a.Asks x.Prio).bind fun x4 =>
   (aX s (⟨a.Id, a.State, a.Queue, a.User, a.Prio, ⟨a.Master.Mem, a.Master.Cores⟩, x4, a.Seen, a.Beat, a.Grants, a.Kills, a.Told, a.Lost⟩ : App)).bind fun x5 =>
   some x5
  else
   some s).bind fun s1 =>
  some (s1, 0, (⟨0, 0, 0, ⟨0, 0⟩, 0, 0, false, 0⟩ : Cont))
 else
  (ek s a.Queue n.Label x.Size).bind fun x6 =>
  bif ! x6 then
  some (s, 0, (⟨0, 0, 0, ⟨0, 0⟩, 0, 0, false, 0⟩ : Cont))
  else
  (br s n.Id).bind fun x7 =>
  (aQ x.Size x7).bind fun x8 =>
  bif x8 then
   (dU s n a x).bind fun x9 =>
   some (x9.1, 1, x9.2)
  else
   (
   bif first then
    (fS s a.Id x.Prio).bind fun x10 =>
    some (! x10)
   else
    some false).bind fun q1 =>
   bif q1 then
   (gf s (⟨n.Id, a.Id, x.Prio⟩ : Slot)).bind fun x11 =>
   some (x11, 2, (⟨0, 0, 0, ⟨0, 0⟩, 0, 0, false, 0⟩ : Cont))
   else
   some (s, 0, (⟨0, 0, 0, ⟨0, 0⟩, 0, 0, false, 0⟩ : Cont))
def ah (n : Node) (first : Bool) (ids : List Int) (t1 : State × State × Cont × Int) (x2 : App × Bool) (t2 : State × State × Cont × Int) : Option ((State × State × Cont × Int) ⊕ ((State × Int × Cont) ⊕ (State × State × Cont))) :=
 bif decide (t2.2.2.2 < (x2.1.Asks.length : Int)) then
 (inb t1.2.2.2 ids.length).bind fun i3 =>
 (ids[i3]?).bind fun x5 =>
 (aG t2.1 x5).bind fun x6 =>
 (idx x2.1.Asks t2.2.2.2).bind fun x7 =>
 (bv t2.1 n x6.1 x7 first).bind fun x8 =>
 bif x8.2.1 != 0 then
  some (.inr (.inl (x8.1, x8.2.1, x8.2.2)))
 else
  some (.inl (x8.1, t2.2.1, t2.2.2.1, w64 (t2.2.2.2 + 1)))
 else
 some (.inr (.inr (t2.1, t2.2.1, t2.2.2.1)))
def am (n : Node) (first : Bool) (leaves : List (List UInt8)) (t : State × State × Cont × Int) (ids : List Int) (t1 : State × State × Cont × Int) : Option ((State × State × Cont × Int) ⊕ ((State × Int × Cont) ⊕ (State × State × Cont))) :=
 bif decide (t1.2.2.2 < (ids.length : Int)) then
 (
  (inb t1.2.2.2 ids.length).bind fun i1 =>
  (ids[i1]?).bind fun x1 =>
  (aG t1.1 x1).bind fun x2 =>
  (inb t.2.2.2 leaves.length).bind fun i2 =>
  (leaves[i2]?).bind fun x3 =>
  (cL t1.1 x3 n.Label x2.1.User).bind fun x4 =>
  bif ! x4 then
  some (.inl (t1.1, t1.2.1, t1.2.2.1))
  else
  (loop (ah n first ids t1 x2) (t1.1, t1.2.1, t1.2.2.1, 0)).bind fun q0 =>
  match q0 with
  | .inl q =>
   some (.inr (q.1, q.2.1, q.2.2))
  | .inr q1 =>
   some (.inl (q1.1, q1.2.1, q1.2.2)) : Option ((State × State × Cont) ⊕ (State × Int × Cont))).bind fun q0 =>
 match q0 with
 | .inl q2 =>
  some (.inl (q2.1, q2.2.1, q2.2.2, w64 (t1.2.2.2 + 1)))
 | .inr q3 =>
  some (.inr (.inl (q3.1, q3.2.1, q3.2.2)))
 else
 some (.inr (.inr (t1.1, t1.2.1, t1.2.2.1)))
def ag (n : Node) (first : Bool) (leaves : List (List UInt8)) (t : State × State × Cont × Int) : Option ((State × State × Cont × Int) ⊕ ((State × Int × Cont) ⊕ (State × State × Cont))) :=
 bif decide (t.2.2.2 < (leaves.length : Int)) then
 (inb t.2.2.2 leaves.length).bind fun i =>
 (leaves[i]?).bind fun x =>
 (d7 t.1 x).bind fun ids =>
 (loop (am n first leaves t ids) (t.1, t.2.1, t.2.2.1, 0)).bind fun q0 =>
 match q0 with
 | .inl q4 =>
  some (.inr (.inl (q4.1, q4.2.1, q4.2.2)))
 | .inr q5 =>
  some (.inl (q5.1, q5.2.1, q5.2.2, w64 (t.2.2.2 + 1)))
 else
 some (.inr (.inr (t.1, t.2.1, t.2.2.1)))
def ao (s : State) (n : Node) (first : Bool) : Option (State × Int × Cont) :=
 (fj s n.Label).bind fun leaves =>
 (loop (ag n first leaves) (s, (⟨⟨[], []⟩, [], [], [], [], [], 0, 0, 0⟩ : State), (⟨0, 0, 0, ⟨0, 0⟩, 0, 0, false, 0⟩ : Cont), 0)).bind fun q0 =>
 match q0 with
 | .inl q6 =>
 some (q6.1, q6.2.1, q6.2.2)
 | .inr q7 =>
 some (q7.1, 0, (⟨0, 0, 0, ⟨0, 0⟩, 0, 0, false, 0⟩ : Cont))
def ci (s : State) (node : Int) : Option (State × Int × Cont) :=
 (ce s node).bind fun x =>
 (
 bif ! x.2 then
  some true
 else
  bif ! x.1.Up then
  some true
  else
  bif decide ((s.Conts.length : Int) ≥ 200) then
   some true
  else
   some (decide (s.Seq ≥ 1048575))).bind fun q =>
 bif q then
 some (s, 0, (⟨0, 0, 0, ⟨0, 0⟩, 0, 0, false, 0⟩ : Cont))
 else
 (gn s node).bind fun x1 =>
 (
  bif x1.2 then
  (cO s x.1 x1.1).bind fun x2 =>
  bif x2.2.2.2 then
   some (.inr (x2.1, x2.2.1, x2.2.2.1))
  else
   some (.inl (x2.1, (⟨⟨[], []⟩, [], [], [], [], [], 0, 0, 0⟩ : State), (⟨0, 0, 0, ⟨0, 0⟩, 0, 0, false, 0⟩ : Cont)))
  else
  some (.inl (s, (⟨⟨[], []⟩, [], [], [], [], [], 0, 0, 0⟩ : State), (⟨0, 0, 0, ⟨0, 0⟩, 0, 0, false, 0⟩ : Cont))) : Option ((State × State × Cont) ⊕ (State × Int × Cont))).bind fun q0 =>
 match q0 with
 | .inl q1 =>
  (ao q1.1 x.1 true).bind fun x3 =>
  bif x3.2.1 != 0 then
  some (x3.1, x3.2.1, x3.2.2)
  else
  (ao x3.1 x.1 false).bind fun x4 =>
  some (x4.1, x4.2.1, x4.2.2)
 | .inr q2 =>
  some (q2.1, q2.2.1, q2.2.2)
def iX (at_ : Int) (n : Int) : Option Int :=
 (nz n).bind fun _ =>
 (
 bif decide ((Int.tmod at_ n) < 0) then
  let k := w64 ((Int.tmod at_ n) + n)
  some k
 else
  some (Int.tmod at_ n)).bind fun k1 =>
 some k1
def h63 : Hint := (.s .z (.s .z (.s .z (.s .z (.s (.j [8, 9, 10, 27, 28, 29, 30, 53, 109, 121, 148, 168] [(0, [(8, .box (.st 15) [20, 23, 24, 25, 26, 27, 28])])] (.s .z (.b (.s (.j [] [(0, [(30, .v .bool [])])] .z) (.c .z (.s (.j [] [(0, [(53, .v .bool [])])] .z) (.c (.s .z (.s (.s .z (.b (.l [(8, .box (.st 15) [20, 23, 24, 25, 26, 27, 28]), (9, .v (.int .i64) [])] [8, 9] [(3, [(8, .box (.st 15) [20, 23, 24, 25, 26, 27, 28])])] (.s .z (.s (.j [8] [(0, [(8, .box (.st 15) [20, 23, 24, 25, 26, 27, 28])])] .z) .z))))) (.s .z (.b (.l [(8, .box (.st 15) [20, 23, 24, 25, 26, 27, 28]), (10, .v (.int .i64) [])] [8, 10, 109] [(5, [(8, .box (.st 15) [20, 23, 24, 25, 26, 27, 28])])] (.s .z (.s (.j [8, 109] [(0, [(8, .box (.st 15) [20, 23, 24, 25, 26, 27, 28])])] (.b (.s (.j [] [(0, [(109, .v .bool [])])] .z) .z))) .z))))))) (.s (.j [] [(0, [(121, .v .bool [])])] .z) (.c .z (.s (.j [] [(0, [(148, .v .bool [])])] .z) (.c .z (.s .z (.c .z (.s (.j [] [(0, [(168, .v .bool [])])] .z) .z)))))))))))))) .z)))))
end
end Go.Fx.D
