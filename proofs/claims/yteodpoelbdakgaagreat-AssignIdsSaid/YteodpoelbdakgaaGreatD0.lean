/-
  The functions of the program that this law reaches, as functions over plain data (printed by a program). Conditions: none.
-/
import Derived.Test.YteodpoelbdakgaaGreatFxD
import Derived.Test.YteodpoelbdakgaaGreatA
namespace Go.Fx.D
open Go Go.Fx Go.Proofs
set_option linter.unusedVariables false
noncomputable section
def bP (x : Script) : Option Bool :=
 bif decide ((x.Ns.length : Int) ≤ 30) then
 some (decide ((x.Acts.length : Int) ≤ 80))
 else
 some false
def h16 : Hint := .z
def sp16 : Spec fam := ⟨[.v (.st 12) []], [.v .bool []], fun a => bP a.1⟩
def jh : Option State :=
 some (⟨⟨[([] : List UInt8)], [(⟨([114, 111, 111, 116] : List UInt8), [(⟨10000, 10000⟩ : Cap)], 10000⟩ : Queue)]⟩, [], [], [], [], [], 0, 0, 0⟩ : State)
def h37 : Hint := .z
noncomputable def sp37 : Spec fam := ⟨[], [.v (.st 10) [0, 1, 2, 3, 4, 5, 6]], fun _ => jh⟩
def c6 (s : State) (id_ : Int) (t : Node × Int) : Option ((Node × Int) ⊕ ((Node × Bool) ⊕ Node)) :=
 bif decide (t.2 < (s.Nodes.length : Int)) then
 (idx s.Nodes t.2).bind fun x =>
 bif x.Id == id_ then
  (idx s.Nodes t.2).bind fun x1 =>
  some (.inr (.inl (x1, true)))
 else
  some (.inl (t.1, w64 (t.2 + 1)))
 else
 some (.inr (.inr (t.1)))
def bf (s : State) (id_ : Int) : Option (Node × Bool) :=
 (loop (c6 s id_) ((⟨0, 0, 0, ⟨0, 0⟩, 0, 0, false⟩ : Node), 0)).bind fun q0 =>
 match q0 with
 | .inl q =>
 some (q.1, q.2)
 | .inr q1 =>
 some ((⟨0, 0, 0, ⟨0, 0⟩, 0, 0, false⟩ : Node), false)
def h95 : Hint := (.s .z (.s (.s .z (.b (.l [(4, .box (.st 4) []), (6, .v (.int .i64) [])] [4, 5, 6] [(1, [(4, .box (.st 4) []), (5, .v .bool [])]), (2, [(4, .box (.st 4) [])])] .z))) .z))
def sp95 : Spec fam := ⟨[.v (.st 10) [], .v (.int .i64) []], [.v (.st 4) [], .v .bool []], fun a => bf a.1 a.2.1⟩
def fT (n : Int) : Option Bool :=
 bif decide (n ≥ 0) then
 some (decide (n ≤ 1073741824))
 else
 some false
def h171 : Hint := .z
def sp171 : Spec fam := ⟨[.v (.int .i64) []], [.v .bool []], fun a => fT a.1⟩
def dS (s : State) (n : Node) (k : Int) : Option (Int ⊕ Int) :=
 (
 bif decide (k < (s.Nodes.length : Int)) then
  (idx s.Nodes k).bind fun x =>
  some (decide (x.Id < n.Id))
 else
  some false).bind fun q =>
 bif q then
 some (.inl (w64 (k + 1)))
 else
 some (.inr k)
def b_ (s : State) (n : Node) : Option State :=
 (loop (dS s n) 0).bind fun k1 =>
 (slc s.Nodes 0 k1).bind fun l =>
 (app 64 [] l).bind fun l1 =>
 (app 64 l1 [n]).bind fun l2 =>
 (
 (
  bif decide (k1 < (s.Nodes.length : Int)) then
  (idx s.Nodes k1).bind fun x1 =>
  some (x1.Id == n.Id)
  else
  some false).bind fun q1 =>
 bif q1 then
  some (w64 (k1 + 1))
 else
  some k1).bind fun k2 =>
 (slc s.Nodes k2 (s.Nodes.length : Int)).bind fun l3 =>
 (app 64 l2 l3).bind fun l4 =>
 some (⟨⟨s.Conf.Labels, s.Conf.Queues⟩, l4, s.Apps, s.Conts, s.Slots, s.Plans, s.Now, s.Epoch, s.Seq⟩ : State)
def h172 : Hint := (.s .z (.s .z (.s (.b (.l [(5, .v (.int .i64) [])] [5, 22] [(2, [(5, .v (.int .i64) [])])] (.s (.s (.j [] [(0, [(22, .v .bool [])])] .z) .z) .z))) (.s .z (.s .z (.s (.j [5, 50] [(0, [(5, .v (.int .i64) [])])] (.s (.j [] [(0, [(50, .v .bool [])])] .z) .z)) .z))))))
def sp172 : Spec fam := ⟨[.v (.st 10) [], .v (.st 4) []], [.v (.st 10) [2]], fun a => b_ a.1 a.2.1⟩
def bg (s : State) (n : Node) : Option (State × Int) :=
 (
 bif decide (n.Id < 0) then
  some true
 else
  bif decide (n.Id > 999) then
  some true
  else
  bif decide (n.Label < 0) then
   some true
  else
   bif decide (n.Label ≥ (s.Conf.Labels.length : Int)) then
   some true
   else
   bif decide (n.Rack < 0) then
    some true
   else
    bif decide (n.Rack > 99) then
    some true
    else
    (fT n.Cap.Mem).bind fun x =>
    bif ! x then
     some true
    else
     (fT n.Cap.Cores).bind fun x1 =>
     some (! x1)).bind fun q =>
 bif q then
 some (s, 1)
 else
 (bf s n.Id).bind fun x2 =>
 (
  bif x2.2 then
  some x2.1.Up
  else
  some false).bind fun q1 =>
 bif q1 then
  some (s, 7)
 else
  (
  bif ! x2.2 then
   some (decide ((s.Nodes.length : Int) ≥ 12))
  else
   some false).bind fun q2 =>
  bif q2 then
  some (s, 4)
  else
  (b_ s (⟨n.Id, n.Label, n.Rack, ⟨n.Cap.Mem, n.Cap.Cores⟩, s.Now, 0, true⟩ : Node)).bind fun x3 =>
  some (x3, 0)
def h101 : Hint := (.s .z (.s (.s (.j [] [(0, [(53, .v .bool [])])] .z) .z) (.s .z (.s (.s (.j [] [(0, [(66, .v .bool [])])] .z) .z) (.s (.s (.j [] [(0, [(75, .v .bool [])])] .z) .z) .z)))))
def sp101 : Spec fam := ⟨[.v (.st 10) [], .v (.st 4) []], [.v (.st 10) [], .v (.int .i64) []], fun a => bg a.1 a.2.1⟩
def co (s : State) (id_ : Int) (t : App × Int) : Option ((App × Int) ⊕ ((App × Bool) ⊕ App)) :=
 bif decide (t.2 < (s.Apps.length : Int)) then
 (idx s.Apps t.2).bind fun x =>
 bif x.Id == id_ then
  (idx s.Apps t.2).bind fun x1 =>
  some (.inr (.inl (x1, true)))
 else
  some (.inl (t.1, w64 (t.2 + 1)))
 else
 some (.inr (.inr (t.1)))
def aC (s : State) (id_ : Int) : Option (App × Bool) :=
 (loop (co s id_) ((⟨0, 0, [], 0, 0, ⟨0, 0⟩, [], 0, 0, [], [], [], []⟩ : App), 0)).bind fun q0 =>
 match q0 with
 | .inl q =>
 some (q.1, q.2)
 | .inr q1 =>
 some ((⟨0, 0, [], 0, 0, ⟨0, 0⟩, [], 0, 0, [], [], [], []⟩ : App), false)
def h20 : Hint := (.s .z (.s (.s .z (.b (.l [(4, .box (.st 6) [7, 10, 11, 12, 13]), (6, .v (.int .i64) [])] [4, 5, 6] [(1, [(4, .box (.st 6) []), (5, .v .bool [])]), (2, [(4, .box (.st 6) [7, 10, 11, 12, 13])])] .z))) .z))
def sp20 : Spec fam := ⟨[.v (.st 10) [], .v (.int .i64) []], [.v (.st 6) [], .v .bool []], fun a => aC a.1 a.2.1⟩
def aP (a : App) : Option Bool :=
 bif a.State == 1 then
 some true
 else
 some (a.State == 2)
def h21 : Hint := .z
def sp21 : Spec fam := ⟨[.v (.st 6) []], [.v .bool []], fun a => aP a.1⟩
def cY (c : Conf) (path : List UInt8) (t : Queue × Int) : Option ((Queue × Int) ⊕ ((Queue × Bool) ⊕ Queue)) :=
 bif decide (t.2 < (c.Queues.length : Int)) then
 (idx c.Queues t.2).bind fun x =>
 bif x.Path == path then
  (idx c.Queues t.2).bind fun x1 =>
  (app 16 [] x1.Caps).bind fun l =>
  some (.inr (.inl ((⟨x1.Path, l, x1.User⟩ : Queue), true)))
 else
  some (.inl (t.1, w64 (t.2 + 1)))
 else
 some (.inr (.inr (t.1)))
def bd (c : Conf) (path : List UInt8) : Option (Queue × Bool) :=
 (loop (cY c path) ((⟨[], [], 0⟩ : Queue), 0)).bind fun q0 =>
 match q0 with
 | .inl q =>
 some (q.1, q.2)
 | .inr q1 =>
 some ((⟨[], [], 0⟩ : Queue), false)
def h111 : Hint := (.s .z (.s (.s .z (.b (.l [(4, .box (.st 2) [1]), (6, .v (.int .i64) [])] [4, 5, 6, 7] [(1, [(4, .box (.st 2) [1]), (5, .v .bool [])]), (2, [(4, .box (.st 2) [1])])] .z))) .z))
def sp111 : Spec fam := ⟨[.v (.st 3) [], .v .str []], [.v (.st 2) [1], .v .bool []], fun a => bd a.1 a.2.1⟩
def jz (path : List UInt8) (k1 : Int) : Option (Int ⊕ Int) :=
 (
 bif decide (k1 ≥ 0) then
  (idx path k1).bind fun ch =>
  some ((ch.toNat : Int) != 46)
 else
  some false).bind fun q =>
 bif q then
 some (.inl (w64 (k1 - 1)))
 else
 some (.inr k1)
def cC (path : List UInt8) : Option (List UInt8) :=
 let k := w64 ((path.length : Int) - 1)
 (loop (jz path) k).bind fun k2 =>
 bif decide (k2 < 0) then
 some ([] : List UInt8)
 else
 (slc path 0 k2).bind fun s =>
 some s
def h113 : Hint := (.s .z (.s .z (.s (.b (.l [(3, .v (.int .i64) [])] [3, 14] [(2, [(3, .v (.int .i64) [])])] (.s (.s (.j [] [(0, [(14, .v .bool [])])] .z) .z) .z))) .z)))
def sp113 : Spec fam := ⟨[.v .str []], [.v .str []], fun a => cC a.1⟩
def gb (c : Conf) (path : List UInt8) (t : List (List UInt8) × Int) : Option ((List (List UInt8) × Int) ⊕ List (List UInt8)) :=
 bif decide (t.2 < (c.Queues.length : Int)) then
 (
  (
  bif ! (path == ([] : List UInt8)) then
   (idx c.Queues t.2).bind fun x =>
   (cC x.Path).bind fun x1 =>
   some (x1 == path)
  else
   some false).bind fun q =>
  bif q then
  (idx c.Queues t.2).bind fun x2 =>
  (app 16 t.1 [x2.Path]).bind fun l =>
  some l
  else
  some t.1).bind fun l1 =>
 some (.inl (l1, w64 (t.2 + 1)))
 else
 some (.inr t.1)
def bu (c : Conf) (path : List UInt8) : Option (List (List UInt8)) :=
 (loop (gb c path) ([], 0)).bind fun l2 =>
 some l2
def h135 : Hint := (.s .z (.s .z (.s (.s .z (.b (.l [(5, .v (.slice (.str)) [0]), (6, .v (.int .i64) [])] [5, 6, 26] [(2, [(5, .v (.slice (.str)) [0])])] (.s .z (.s (.j [5, 26] [(0, [(5, .v (.slice (.str)) [0])])] (.b (.s (.j [] [(0, [(26, .v .bool [])])] .z) .z))) .z))))) .z)))
def sp135 : Spec fam := ⟨[.v (.st 3) [], .v .str []], [.v (.slice (.str)) [0]], fun a => bu a.1 a.2.1⟩
def df (c : Conf) (path : List UInt8) : Option Bool :=
 (bd c path).bind fun x =>
 bif x.2 then
 (bu c path).bind fun x1 =>
 some ((x1.length : Int) == 0)
 else
 some false
def h64 : Hint := .z
def sp64 : Spec fam := ⟨[.v (.st 3) [], .v .str []], [.v .bool []], fun a => df a.1 a.2.1⟩
def gg (s : State) (a : App) (k : Int) : Option (Int ⊕ Int) :=
 (
 bif decide (k < (s.Apps.length : Int)) then
  (idx s.Apps k).bind fun x =>
  some (decide (x.Id < a.Id))
 else
  some false).bind fun q =>
 bif q then
 some (.inl (w64 (k + 1)))
 else
 some (.inr k)
def aL (s : State) (a : App) : Option State :=
 (loop (gg s a) 0).bind fun k1 =>
 (slc s.Apps 0 k1).bind fun l =>
 (app 200 [] l).bind fun l1 =>
 (app 200 l1 [a]).bind fun l2 =>
 (
 (
  bif decide (k1 < (s.Apps.length : Int)) then
  (idx s.Apps k1).bind fun x1 =>
  some (x1.Id == a.Id)
  else
  some false).bind fun q1 =>
 bif q1 then
  some (w64 (k1 + 1))
 else
  some k1).bind fun k2 =>
 (slc s.Apps k2 (s.Apps.length : Int)).bind fun l3 =>
 (app 200 l2 l3).bind fun l4 =>
 some (⟨⟨s.Conf.Labels, s.Conf.Queues⟩, s.Nodes, l4, s.Conts, s.Slots, s.Plans, s.Now, s.Epoch, s.Seq⟩ : State)
def h100 : Hint := (.s .z (.s .z (.s (.b (.l [(5, .v (.int .i64) [])] [5, 22] [(2, [(5, .v (.int .i64) [])])] (.s (.s (.j [] [(0, [(22, .v .bool [])])] .z) .z) .z))) (.s .z (.s .z (.s (.j [5, 50] [(0, [(5, .v (.int .i64) [])])] (.s (.j [] [(0, [(50, .v .bool [])])] .z) .z)) .z))))))
def sp100 : Spec fam := ⟨[.v (.st 10) [], .v (.st 6) []], [.v (.st 10) [3]], fun a => aL a.1 a.2.1⟩
def eL (n : Int) : Option Bool :=
 bif decide (n ≥ 1) then
 some (decide (n ≤ 1073741824))
 else
 some false
def h173 : Hint := .z
def sp173 : Spec fam := ⟨[.v (.int .i64) []], [.v .bool []], fun a => eL a.1⟩
def du (s : State) (t : List App × Bool × Int) : Option ((List App × Bool × Int) ⊕ List App) :=
 bif decide (t.2.2 < (s.Apps.length : Int)) then
 (
  (
  bif ! t.2.1 then
   (idx s.Apps t.2.2).bind fun x =>
   (aP x).bind fun x1 =>
   some (! x1)
  else
   some false).bind fun q =>
  bif q then
  some (t.1, true)
  else
  (idx s.Apps t.2.2).bind fun x2 =>
  (app 200 t.1 [x2]).bind fun l =>
  some (l, t.2.1)).bind fun q1 =>
 some (.inl (q1.1, q1.2, w64 (t.2.2 + 1)))
 else
 some (.inr t.1)
def gx (s : State) : Option State :=
 (loop (du s) ([], false, 0)).bind fun l1 =>
 some (⟨⟨s.Conf.Labels, s.Conf.Queues⟩, s.Nodes, l1, s.Conts, s.Slots, s.Plans, s.Now, s.Epoch, s.Seq⟩ : State)
def h174 : Hint := (.s .z (.s .z (.s .z (.s (.s .z (.b (.l [(3, .v (.slice (.st 6)) [0]), (4, .v .bool []), (5, .v (.int .i64) [])] [3, 4, 5, 23] [(2, [(3, .v (.slice (.st 6)) [0])])] (.s .z (.s (.j [3, 4, 23] [(0, [(3, .v (.slice (.st 6)) [0]), (4, .v .bool [])])] (.b (.s (.s (.j [] [(0, [(23, .v .bool [])])] .z) .z) .z))) .z))))) .z))))
def sp174 : Spec fam := ⟨[.v (.st 10) []], [.v (.st 10) [3]], fun a => gx a.1⟩
def hC (a : App) : Option (List Ask) :=
 some [(⟨0, 0, ⟨a.Master.Mem, a.Master.Cores⟩, 1, (-1), (-1), 0⟩ : Ask)]
def h175 : Hint := .z
def sp175 : Spec fam := ⟨[.v (.st 6) []], [.v (.slice (.st 5)) [0]], fun a => hC a.1⟩
def bQ (s : State) (t : Int × Int) : Option ((Int × Int) ⊕ Int) :=
 bif decide (t.2 < (s.Apps.length : Int)) then
 (
  (idx s.Apps t.2).bind fun x3 =>
  (aP x3).bind fun x4 =>
  bif x4 then
  some (w64 (t.1 + 1))
  else
  some t.1).bind fun live =>
 some (.inl (live, w64 (t.2 + 1)))
 else
 some (.inr t.1)
def bn (s : State) (a : App) : Option (State × Int) :=
 (
 bif decide (a.Id < 0) then
  some true
 else
  bif decide (a.Id > 9999) then
  some true
  else
  bif decide (a.User < 0) then
   some true
  else
   bif decide (a.User > 99) then
   some true
   else
   bif decide (a.Prio < 0) then
    some true
   else
    bif decide (a.Prio > 9) then
    some true
    else
    (eL a.Master.Mem).bind fun x =>
    bif ! x then
     some true
    else
     (eL a.Master.Cores).bind fun x1 =>
     some (! x1)).bind fun q =>
 bif q then
 some (s, 1)
 else
 (aC s a.Id).bind fun x2 =>
 bif x2.2 then
  some (s, 7)
 else
  (loop (bQ s) (0, 0)).bind fun live1 =>
  bif decide (live1 ≥ 16) then
  some (s, 4)
  else
  (df s.Conf a.Queue).bind fun x5 =>
  bif ! x5 then
   some (s, 19)
  else
   (
   bif decide ((s.Apps.length : Int) ≥ 16) then
    (gx s).bind fun x6 =>
    some x6
   else
    some s).bind fun s1 =>
   (hC a).bind fun x7 =>
   (aL s1 (⟨a.Id, 1, a.Queue, a.User, a.Prio, ⟨a.Master.Mem, a.Master.Cores⟩, x7, s1.Now, 0, [], [], [], []⟩ : App)).bind fun x8 =>
   some (x8, 0)
def h102 : Hint := (.s .z (.s (.s (.j [] [(0, [(51, .v .bool [])])] .z) .z) (.s .z (.s .z (.s .z (.s (.s .z (.b (.l [(8, .v (.int .i64) []), (9, .v (.int .i64) [])] [8, 9] [(2, [(8, .v (.int .i64) [])])] (.s .z (.s (.j [8] [(0, [(8, .v (.int .i64) [])])] .z) .z))))) (.s .z (.s .z (.s (.j [2] [(0, [(2, .box (.st 10) [])])] .z) .z)))))))))
def sp102 : Spec fam := ⟨[.v (.st 10) [], .v (.st 6) []], [.v (.st 10) [], .v (.int .i64) []], fun a => bn a.1 a.2.1⟩
def jS (s : List UInt8) (i : Int) : Option (Int ⊕ (Bool ⊕ Unit)) :=
 bif decide (i < (s.length : Int)) then
 (idx s i).bind fun ch =>
 (
  bif decide ((ch.toNat : Int) < 97) then
  bif decide ((ch.toNat : Int) < 48) then
   some ((ch.toNat : Int) != 45)
  else
   bif decide ((ch.toNat : Int) > 57) then
   some ((ch.toNat : Int) != 45)
   else
   some false
  else
  bif decide ((ch.toNat : Int) > 122) then
   bif decide ((ch.toNat : Int) < 48) then
   some ((ch.toNat : Int) != 45)
   else
   bif decide ((ch.toNat : Int) > 57) then
    some ((ch.toNat : Int) != 45)
   else
    some false
  else
   some false).bind fun q1 =>
 bif q1 then
  some (.inr (.inl false))
 else
  some (.inl (w64 (i + 1)))
 else
 some (.inr (.inr ()))
def fL (s : List UInt8) : Option Bool :=
 (
 bif decide ((s.length : Int) < 1) then
  some true
 else
  some (decide ((s.length : Int) > 12))).bind fun q =>
 bif q then
 some false
 else
 (loop (jS s) 0).bind fun q0 =>
 match q0 with
 | .inl q2 =>
  some q2
 | .inr _ =>
  some true
def h252 : Hint := (.s .z (.s (.s (.j [] [(0, [(12, .v .bool [])])] .z) .z) (.s (.s .z (.b (.l [(3, .v (.int .i64) [])] [2, 3, 39] [(1, [(2, .v .bool [])]), (2, [])] (.s .z (.s (.b (.s .z (.s (.j [] [(0, [(39, .v .bool [])])] .z) .z))) .z))))) .z)))
def sp252 : Spec fam := ⟨[.v .str []], [.v .bool []], fun a => fL a.1⟩
def lw (c : Conf) (i1 : Int) (k : Int) : Option (Int ⊕ (Int ⊕ Unit)) :=
 bif decide (k < i1) then
 (idx c.Labels i1).bind fun x3 =>
 (idx c.Labels k).bind fun x4 =>
 bif x3 == x4 then
  some (.inr (.inl 7))
 else
  some (.inl (w64 (k + 1)))
 else
 some (.inr (.inr ()))
def lk (c : Conf) (i1 : Int) : Option (Int ⊕ (Int ⊕ Unit)) :=
 bif decide (i1 < (c.Labels.length : Int)) then
 (loop (lw c i1) 1).bind fun q0 =>
 match q0 with
 | .inl q2 =>
  some (.inr (.inl q2))
 | .inr _ =>
  some (.inl (w64 (i1 + 1)))
 else
 some (.inr (.inr ()))
def lD (c : Conf) (i : Int) : Option (Int ⊕ (Int ⊕ Unit)) :=
 bif decide (i < (c.Labels.length : Int)) then
 (idx c.Labels i).bind fun x1 =>
 (fL x1).bind fun x2 =>
 bif ! x2 then
  some (.inr (.inl 12))
 else
  some (.inl (w64 (i + 1)))
 else
 some (.inr (.inr ()))
def dQ (c : Conf) : Option Int :=
 (
 bif decide ((c.Labels.length : Int) < 1) then
  some true
 else
  bif decide ((c.Labels.length : Int) > 3) then
  some true
  else
  some (decide ((c.Queues.length : Int) > 16))).bind fun q =>
 bif q then
 some 4
 else
 (idx c.Labels 0).bind fun x =>
 bif ! (x == ([] : List UInt8)) then
  some 12
 else
  (loop (lD c) 1).bind fun q0 =>
  match q0 with
  | .inl q1 =>
  some q1
  | .inr _ =>
  (loop (lk c) 1).bind fun q0 =>
  match q0 with
  | .inl q3 =>
   some q3
  | .inr _ =>
   some 0
def h167 : Hint := (.s .z (.s (.s (.j [] [(0, [(21, .v .bool [])])] .z) .z) (.s .z (.s (.s .z (.b (.l [(3, .v (.int .i64) [])] [2, 3] [(1, [(2, .v (.int .i64) [])]), (2, [])] .z))) (.s (.s .z (.b (.l [(4, .v (.int .i64) [])] [2, 4, 5] [(1, [(2, .v (.int .i64) [])]), (4, [])] (.s .z (.s (.b (.s .z (.b (.l [(5, .v (.int .i64) [])] [2, 5] [(1, [(2, .v (.int .i64) [])]), (6, [])] .z)))) .z))))) .z)))))
def sp167 : Spec fam := ⟨[.v (.st 3) []], [.v (.int .i64) []], fun a => dQ a.1⟩
def dZ (s : List UInt8) (t : Int × Int × Int) : Option ((Int × Int × Int) ⊕ (Bool ⊕ Int)) :=
 bif decide (t.2.2 ≤ (s.length : Int)) then
 (
  (
  bif decide (t.2.2 < (s.length : Int)) then
   (idx s t.2.2).bind fun ch =>
   some ((ch.toNat : Int) != 46)
  else
   some false).bind fun q =>
  bif q then
  some (.inl (t.1, t.2.1))
  else
  (
   (slc s t.1 t.2.2).bind fun s1 =>
   (fL s1).bind fun x =>
   bif ! x then
   some true
   else
   bif t.2.1 == 0 then
    (slc s t.1 t.2.2).bind fun s2 =>
    some (! (s2 == ([114, 111, 111, 116] : List UInt8)))
   else
    some false).bind fun q1 =>
  bif q1 then
   some (.inr false)
  else
   some (.inl (w64 (t.2.2 + 1), w64 (t.2.1 + 1))) : Option ((Int × Int) ⊕ Bool)).bind fun q0 =>
 match q0 with
 | .inl q2 =>
  some (.inl (q2.1, q2.2, w64 (t.2.2 + 1)))
 | .inr q3 =>
  some (.inr (.inl q3))
 else
 some (.inr (.inr (t.2.1)))
def hJ (s : List UInt8) : Option Bool :=
 (loop (dZ s) (0, 0, 0)).bind fun q0 =>
 match q0 with
 | .inl q4 =>
 some q4
 | .inr n =>
 some (decide (n ≤ 4))
def h253 : Hint := (.s .z (.s .z (.s (.s .z (.b (.l [(3, .v (.int .i64) []), (4, .v (.int .i64) []), (5, .v (.int .i64) [])] [2, 3, 4, 5, 21, 38] [(1, [(2, .v .bool [])]), (2, [(4, .v (.int .i64) [])])] (.s .z (.s (.j [2, 3, 4, 21, 38] [(0, [(3, .v (.int .i64) []), (4, .v (.int .i64) [])]), (1, [(2, .v .bool [])])] (.b (.s (.s (.j [] [(0, [(21, .v .bool [])])] .z) .z) (.s (.s (.j [] [(0, [(38, .v .bool [])])] .z) .z) .z)))) .z))))) .z)))
def sp253 : Spec fam := ⟨[.v .str []], [.v .bool []], fun a => hJ a.1⟩
def jy (x : Queue) (k : Int) : Option (Int ⊕ (Int ⊕ Unit)) :=
 bif decide (k < (x.Caps.length : Int)) then
 (idx x.Caps k).bind fun x5 =>
 (
  bif decide (x5.Least < 0) then
  some true
  else
  bif decide (x5.Least > 10000) then
   some true
  else
   bif decide (x5.Most < 0) then
   some true
   else
   bif decide (x5.Most > 10000) then
    some true
   else
    some (decide (x5.Least > x5.Most))).bind fun q3 =>
 bif q3 then
  some (.inr (.inl 1))
 else
  some (.inl (w64 (k + 1)))
 else
 some (.inr (.inr ()))
def eR (c : Conf) (i : Int) : Option Int :=
 (idx c.Queues i).bind fun x =>
 (hJ x.Path).bind fun x1 =>
 bif ! x1 then
 some 12
 else
 (
  bif decide (i > 0) then
  (idx c.Queues (w64 (i - 1))).bind fun x2 =>
  some (strLe x.Path x2.Path)
  else
  some false).bind fun q =>
 bif q then
  some 7
 else
  (cC x.Path).bind fun x3 =>
  (bd c x3).bind fun x4 =>
  (
  bif decide (i > 0) then
   some (! x4.2)
  else
   some false).bind fun q1 =>
  bif q1 then
  some 12
  else
  (
   bif decide (x.User < 1) then
   some true
   else
   bif decide (x.User > 1000000) then
    some true
   else
    some ((x.Caps.length : Int) != (c.Labels.length : Int))).bind fun q2 =>
  bif q2 then
   some 1
  else
   (loop (jy x) 0).bind fun q0 =>
   match q0 with
   | .inl q4 =>
   some q4
   | .inr _ =>
   some 0
def h168 : Hint := (.s .z (.s .z (.s .z (.s (.s (.j [] [(0, [(32, .v .bool [])])] .z) .z) (.s .z (.s (.s (.j [] [(0, [(46, .v .bool [])])] .z) .z) (.s (.s (.j [] [(0, [(63, .v .bool [])])] .z) .z) (.s (.s .z (.b (.l [(8, .v (.int .i64) [])] [4, 8, 9, 100] [(1, [(4, .v (.int .i64) [])]), (2, [])] (.s .z (.s (.b (.s .z (.s (.j [] [(0, [(100, .v .bool [])])] .z) .z))) .z))))) .z))))))))
def sp168 : Spec fam := ⟨[.v (.st 3) [], .v (.int .i64) []], [.v (.int .i64) []], fun a => eR a.1 a.2.1⟩
def gp (c : Conf) (kids : List (List UInt8)) (k : Int) (t : Int × Int) : Option ((Int × Int) ⊕ Int) :=
 bif decide (t.2 < (kids.length : Int)) then
 (inb t.2 kids.length).bind fun i1 =>
 (kids[i1]?).bind fun x1 =>
 (bd c x1).bind fun x2 =>
 (inb k x2.1.Caps.length).bind fun i2 =>
 (x2.1.Caps[i2]?).bind fun x3 =>
 let n := w64 (t.1 + x3.Least)
 some (.inl (n, w64 (t.2 + 1)))
 else
 some (.inr t.1)
def ms (c : Conf) (kids : List (List UInt8)) (k : Int) : Option (Int ⊕ (Bool ⊕ Unit)) :=
 (
 bif decide (k < (c.Labels.length : Int)) then
  some (decide ((kids.length : Int) > 0))
 else
  some false).bind fun q =>
 bif q then
 (loop (gp c kids k) (0, 0)).bind fun n1 =>
 bif n1 != 10000 then
  some (.inr (.inl false))
 else
  some (.inl (w64 (k + 1)))
 else
 some (.inr (.inr ()))
def jQ (c : Conf) (i : Int) : Option (Int ⊕ (Bool ⊕ Unit)) :=
 bif decide (i < (c.Queues.length : Int)) then
 (idx c.Queues i).bind fun x =>
 (bu c x.Path).bind fun kids =>
 (loop (ms c kids) 0).bind fun q0 =>
 match q0 with
 | .inl q1 =>
  some (.inr (.inl q1))
 | .inr _ =>
  some (.inl (w64 (i + 1)))
 else
 some (.inr (.inr ()))
def jg (c : Conf) : Option Bool :=
 (loop (jQ c) 0).bind fun q0 =>
 match q0 with
 | .inl q2 =>
 some q2
 | .inr _ =>
 some true
def h169 : Hint := (.s .z (.s (.s .z (.b (.l [(3, .v (.int .i64) [])] [2, 3, 4, 5, 6, 7, 8, 34] [(1, [(2, .v .bool [])]), (2, [])] (.s .z (.s (.b (.s .z (.s .z (.b (.l [(5, .v (.int .i64) [])] [2, 5, 6, 7, 8, 34] [(1, [(2, .v .bool [])]), (4, [])] (.s (.s (.j [] [(0, [(34, .v .bool [])])] .z) .z) (.s (.b (.s .z (.s (.s .z (.b (.l [(6, .v (.int .i64) []), (7, .v (.int .i64) [])] [6, 7, 8] [(6, [(6, .v (.int .i64) [])])] .z))) .z))) .z))))))) .z))))) .z))
def sp169 : Spec fam := ⟨[.v (.st 3) []], [.v .bool []], fun a => jg a.1⟩
def jw (c : Conf) (k : Int) : Option (Int ⊕ (Int ⊕ Unit)) :=
 bif decide (k < (c.Labels.length : Int)) then
 (idx c.Queues 0).bind fun x5 =>
 (idx x5.Caps k).bind fun x6 =>
 bif ! ((x6.Least == 10000) && (x6.Most == 10000)) then
  some (.inr (.inl 13))
 else
  some (.inl (w64 (k + 1)))
 else
 some (.inr (.inr ()))
def jp (c : Conf) (i : Int) : Option (Int ⊕ (Int ⊕ Unit)) :=
 bif decide (i < (c.Queues.length : Int)) then
 (eR c i).bind fun x3 =>
 bif x3 != 0 then
  (eR c i).bind fun x4 =>
  some (.inr (.inl x4))
 else
  some (.inl (w64 (i + 1)))
 else
 some (.inr (.inr ()))
def iD (c : Conf) : Option Int :=
 (dQ c).bind fun x =>
 bif x != 0 then
 (dQ c).bind fun x1 =>
 some x1
 else
 (
  bif (c.Queues.length : Int) == 0 then
  some true
  else
  (idx c.Queues 0).bind fun x2 =>
  some (! (x2.Path == ([114, 111, 111, 116] : List UInt8)))).bind fun q =>
 bif q then
  some 12
 else
  (loop (jp c) 0).bind fun q0 =>
  match q0 with
  | .inl q1 =>
  some q1
  | .inr _ =>
  (loop (jw c) 0).bind fun q0 =>
  match q0 with
  | .inl q2 =>
   some q2
  | .inr _ =>
   (jg c).bind fun x7 =>
   bif ! x7 then
   some 13
   else
   some 0
def h91 : Hint := (.s .z (.s .z (.s (.s (.j [] [(0, [(21, .v .bool [])])] .z) .z) (.s (.s .z (.b (.l [(3, .v (.int .i64) [])] [2, 3] [(1, [(2, .v (.int .i64) [])]), (2, [])] .z))) (.s (.s .z (.b (.l [(4, .v (.int .i64) [])] [2, 4] [(1, [(2, .v (.int .i64) [])]), (4, [])] .z))) .z)))))
def sp91 : Spec fam := ⟨[.v (.st 3) []], [.v (.int .i64) []], fun a => iD a.1⟩
def aD (s : State) (e : Int) : Option (State × Output) :=
 some (s, (⟨e, [], [], [], 0⟩ : Output))
def h132 : Hint := .z
def sp132 : Spec fam := ⟨[.v (.st 10) [], .v (.int .i64) []], [.v (.st 10) [], .v (.st 13) [1, 2, 3]], fun a => aD a.1 a.2.1⟩
def km (s : List UInt8) (c : Int) (t : List (List UInt8) × Int × Int) : Option ((List (List UInt8) × Int × Int) ⊕ ((List (List UInt8) × Int))) :=
 bif decide (t.2.2 < (s.length : Int)) then
 (
  (idx s t.2.2).bind fun ch =>
  bif (ch.toNat : Int) == c then
  (slc s t.2.1 t.2.2).bind fun s1 =>
  (app 16 t.1 [s1]).bind fun l =>
  some (l, w64 (t.2.2 + 1))
  else
  some (t.1, t.2.1)).bind fun q =>
 some (.inl (q.1, q.2, w64 (t.2.2 + 1)))
 else
 some (.inr (t.1, t.2.1))
def gT (s : List UInt8) (c : Int) : Option (List (List UInt8)) :=
 (loop (km s c) ([], 0, 0)).bind fun q1 =>
 (
 bif decide (q1.2 < (s.length : Int)) then
  (slc s q1.2 (s.length : Int)).bind fun s2 =>
  (app 16 q1.1 [s2]).bind fun l1 =>
  some l1
 else
  some q1.1).bind fun l2 =>
 some l2
def h292 : Hint := (.s .z (.s .z (.s .z (.s (.s .z (.b (.l [(5, .v (.slice (.str)) [0]), (6, .v (.int .i64) []), (7, .v (.int .i64) [])] [5, 6, 7] [(2, [(5, .v (.slice (.str)) [0]), (6, .v (.int .i64) [])])] (.s .z (.s (.j [5, 6] [(0, [(5, .v (.slice (.str)) [0]), (6, .v (.int .i64) [])])] .z) .z))))) (.s (.j [5] [(0, [(5, .v (.slice (.str)) [0])])] .z) .z)))))
def sp292 : Spec fam := ⟨[.v .str [], .v (.int .u8) []], [.v (.slice (.str)) [0]], fun a => gT a.1 a.2.1⟩
def fD (l : List (List UInt8)) (t : List (List UInt8) × Int) : Option ((List (List UInt8) × Int) ⊕ List (List UInt8)) :=
 bif decide (t.2 < (l.length : Int)) then
 (
  (inb t.2 l.length).bind fun i =>
  (l[i]?).bind fun x =>
  bif ! (x == ([] : List UInt8)) then
  (inb t.2 l.length).bind fun i1 =>
  (l[i1]?).bind fun x1 =>
  (app 16 t.1 [x1]).bind fun l1 =>
  some l1
  else
  some t.1).bind fun out =>
 some (.inl (out, w64 (t.2 + 1)))
 else
 some (.inr t.1)
def il (s : List UInt8) : Option (List (List UInt8)) :=
 (gT s 32).bind fun l =>
 (loop (fD l) ([], 0)).bind fun out1 =>
 some out1
def h293 : Hint := (.s .z (.s .z (.s .z (.s (.s .z (.b (.l [(3, .v (.slice (.str)) [0]), (5, .v (.int .i64) [])] [3, 5] [(2, [(3, .v (.slice (.str)) [0])])] (.s .z (.s (.j [3] [(0, [(3, .v (.slice (.str)) [0])])] .z) .z))))) .z))))
def sp293 : Spec fam := ⟨[.v .str []], [.v (.slice (.str)) [0]], fun a => il a.1⟩
def iT (s : List UInt8) (t : Int × Int) : Option ((Int × Int) ⊕ ((Int × Bool) ⊕ Int)) :=
 bif decide (t.2 < (s.length : Int)) then
 (
  (idx s t.2).bind fun ch1 =>
  bif decide ((ch1.toNat : Int) < 48) then
  some true
  else
  (idx s t.2).bind fun ch2 =>
  some (decide ((ch2.toNat : Int) > 57))).bind fun q1 =>
 bif q1 then
  some (.inr (.inl (0, false)))
 else
  (idx s t.2).bind fun ch3 =>
  let n := w64 ((w64 (t.1 * 10)) + (w64 (IntKind.u8.wrap ((ch3.toNat : Int) - 48))))
  some (.inl (n, w64 (t.2 + 1)))
 else
 some (.inr (.inr (t.1)))
def bV (s : List UInt8) : Option (Int × Bool) :=
 (
 bif decide ((s.length : Int) < 1) then
  some true
 else
  bif decide ((s.length : Int) > 7) then
  some true
  else
  (idx s 0).bind fun ch =>
  bif (ch.toNat : Int) == 48 then
   some (decide ((s.length : Int) > 1))
  else
   some false).bind fun q =>
 bif q then
 some (0, false)
 else
 (loop (iT s) (0, 0)).bind fun q0 =>
 match q0 with
 | .inl q2 =>
  some (q2.1, q2.2)
 | .inr n1 =>
  some (n1, true)
def h341 : Hint := (.s .z (.s (.s (.j [] [(0, [(23, .v .bool [])])] .z) .z) (.s .z (.s (.s .z (.b (.l [(4, .v (.int .i64) []), (5, .v (.int .i64) [])] [2, 3, 4, 5, 39] [(1, [(2, .v (.int .i64) []), (3, .v .bool [])]), (2, [(4, .v (.int .i64) [])])] (.s .z (.s (.b (.s (.s (.j [] [(0, [(39, .v .bool [])])] .z) .z) .z)) .z))))) .z))))
def sp341 : Spec fam := ⟨[.v .str []], [.v (.int .i64) [], .v .bool []], fun a => bV a.1⟩
def ma (s : List UInt8) (k : Int) : Option (Int ⊕ Int) :=
 (
 bif decide (k < (s.length : Int)) then
  (idx s k).bind fun ch =>
  some ((ch.toNat : Int) != 47)
 else
  some false).bind fun q =>
 bif q then
 some (.inl (w64 (k + 1)))
 else
 some (.inr k)
def iL (s : List UInt8) : Option (Cap × Bool) :=
 (loop (ma s) 0).bind fun k1 =>
 bif k1 == (s.length : Int) then
 some ((⟨0, 0⟩ : Cap), false)
 else
 (slc s 0 k1).bind fun s1 =>
 (bV s1).bind fun x =>
 (slc s (w64 (k1 + 1)) (s.length : Int)).bind fun s2 =>
 (bV s2).bind fun x1 =>
 bif x.2 then
  some ((⟨x.1, x1.1⟩ : Cap), x1.2)
 else
  some ((⟨x.1, x1.1⟩ : Cap), false)
def h342 : Hint := (.s .z (.s .z (.s (.b (.l [(4, .v (.int .i64) [])] [4, 18] [(2, [(4, .v (.int .i64) [])])] (.s (.s (.j [] [(0, [(18, .v .bool [])])] .z) .z) .z))) .z)))
def sp342 : Spec fam := ⟨[.v .str []], [.v (.st 1) [], .v .bool []], fun a => iL a.1⟩
def lW (w : List (List UInt8)) (t : Bool × Queue × Int) : Option ((Bool × Queue × Int) ⊕ ((Bool × Queue))) :=
 (
 bif decide (t.2.2 < (w.length : Int)) then
  some t.1
 else
  some false).bind fun q1 =>
 bif q1 then
 (idx w t.2.2).bind fun x4 =>
 (iL x4).bind fun x5 =>
 (app 16 t.2.1.Caps [x5.1]).bind fun l =>
 some (.inl (x5.2, (⟨t.2.1.Path, l, t.2.1.User⟩ : Queue), w64 (t.2.2 + 1)))
 else
 some (.inr (t.1, t.2.1))
def iG (w : List (List UInt8)) (labels : Int) : Option (Queue × Bool) :=
 (
 bif (w.length : Int) != (w64 (3 + labels)) then
  some true
 else
  (idx w 0).bind fun x =>
  some (! (x == ([113, 117, 101, 117, 101] : List UInt8)))).bind fun q =>
 bif q then
 some ((⟨[], [], 0⟩ : Queue), false)
 else
 (idx w 2).bind fun x1 =>
 (bV x1).bind fun x2 =>
 (idx w 1).bind fun x3 =>
 (loop (lW w) (x2.2, (⟨x3, [], x2.1⟩ : Queue), 3)).bind fun q2 =>
 some (q2.2, q2.1)
def h294 : Hint := (.s .z (.s (.s (.j [] [(0, [(21, .v .bool [])])] .z) .z) (.s .z (.s .z (.s (.s .z (.b (.l [(7, .v .bool []), (8, .box (.st 2) [1]), (9, .v (.int .i64) [])] [7, 8, 9, 10, 41] [(2, [(7, .v .bool []), (8, .box (.st 2) [1])])] (.s (.s (.j [] [(0, [(41, .v .bool [])])] .z) .z) .z)))) .z)))))
def sp294 : Spec fam := ⟨[.v (.slice (.str)) [], .v (.int .i64) []], [.v (.st 2) [1], .v .bool []], fun a => iG a.1 a.2.1⟩
def l7 (t : Conf × Conf × Bool × Int) (x3 : Queue × Bool) (k : Int) : Option (Int ⊕ Int) :=
 (
 bif decide (k < (t.2.1.Queues.length : Int)) then
  (inb k t.2.1.Queues.length).bind fun i3 =>
  (t.2.1.Queues[i3]?).bind fun x4 =>
  some (Op.bytesLess x4.Path x3.1.Path)
 else
  some false).bind fun q1 =>
 bif q1 then
 some (.inl (w64 (k + 1)))
 else
 some (.inr k)
def fa (l : List (List UInt8)) (t : Conf × Conf × Bool × Int) : Option ((Conf × Conf × Bool × Int) ⊕ ((Conf × Int) ⊕ (Conf × Conf × Bool))) :=
 bif decide (t.2.2.2 < (l.length : Int)) then
 (
  (inb t.2.2.2 l.length).bind fun i =>
  (l[i]?).bind fun x =>
  (il x).bind fun w =>
  bif (w.length : Int) == 0 then
  some (.inl (t.1, t.2.1, t.2.2.1))
  else
  bif (t.2.1.Labels.length : Int) == 0 then
   (inb 0 w.length).bind fun i1 =>
   (w[i1]?).bind fun x1 =>
   bif ! (x1 == ([108, 97, 98, 101, 108, 115] : List UInt8)) then
   some (.inr ((⟨[], []⟩ : Conf), 6))
   else
   bif decide ((w.length : Int) > 3) then
    some (.inr ((⟨[], []⟩ : Conf), 4))
   else
    (inS 1 (w.length : Int) w.length).bind fun p =>
    (app 16 [([] : List UInt8)] (sub w p.1 p.2)).bind fun l1 =>
    some (.inl (t.1, (⟨l1, t.2.1.Queues⟩ : Conf), t.2.2.1))
  else
   (
   bif (t.2.1.Queues.length : Int) == 16 then
    (inb 0 w.length).bind fun i2 =>
    (w[i2]?).bind fun x2 =>
    some (x2 == ([113, 117, 101, 117, 101] : List UInt8))
   else
    some false).bind fun q =>
   bif q then
   some (.inr ((⟨[], []⟩ : Conf), 4))
   else
   (iG w (t.2.1.Labels.length : Int)).bind fun x3 =>
   bif ! x3.2 then
    some (.inr ((⟨[], []⟩ : Conf), 6))
   else
    (loop (l7 t x3) 0).bind fun k1 =>
    (
    bif t.2.2.1 then
     some true
    else
     bif decide (k1 < (t.2.1.Queues.length : Int)) then
     (inb k1 t.2.1.Queues.length).bind fun i4 =>
     (t.2.1.Queues[i4]?).bind fun x5 =>
     let twice := x5.Path == x3.1.Path
     some twice
     else
     some false).bind fun twice1 =>
    (inS 0 k1 t.2.1.Queues.length).bind fun p1 =>
    (app 48 [] (sub t.2.1.Queues p1.1 p1.2)).bind fun l2 =>
    (app 48 l2 [x3.1]).bind fun l3 =>
    (inS k1 (t.2.1.Queues.length : Int) t.2.1.Queues.length).bind fun p2 =>
    (app 48 l3 (sub t.2.1.Queues p2.1 p2.2)).bind fun l4 =>
    some (.inl (t.1, (⟨t.2.1.Labels, l4⟩ : Conf), twice1)) : Option ((Conf × Conf × Bool) ⊕ (Conf × Int))).bind fun q0 =>
 match q0 with
 | .inl q2 =>
  some (.inl (q2.1, q2.2.1, q2.2.2, w64 (t.2.2.2 + 1)))
 | .inr q3 =>
  some (.inr (.inl (q3.1, q3.2)))
 else
 some (.inr (.inr (t.1, t.2.1, t.2.2.1)))
def iN (s : List UInt8) : Option (Conf × Int) :=
 bif decide ((s.length : Int) > 2000) then
 some ((⟨[], []⟩ : Conf), 5)
 else
 (gT s 10).bind fun l =>
 (loop (fa l) ((⟨[], []⟩ : Conf), (⟨[], []⟩ : Conf), false, 0)).bind fun q0 =>
 match q0 with
 | .inl q4 =>
  some (q4.1, q4.2)
 | .inr q5 =>
  bif (q5.2.1.Labels.length : Int) == 0 then
  some ((⟨[], []⟩ : Conf), 6)
  else
  bif q5.2.2 then
   some ((⟨[], []⟩ : Conf), 7)
  else
   some (q5.2.1, 0)
def h207 : Hint := (.s .z (.s .z (.s .z (.s .z (.s .z (.s (.s .z (.b (.l [(2, .box (.st 3) [0, 1]), (4, .box (.st 3) [0, 1]), (5, .v .bool []), (7, .v (.int .i64) [])] [2, 3, 4, 5, 7, 8, 9, 10, 11, 61, 89] [(1, [(2, .box (.st 3) [0, 1]), (3, .v (.int .i64) [])]), (2, [(2, .box (.st 3) [0, 1]), (4, .box (.st 3) [0, 1]), (5, .v .bool [])])] (.s .z (.s (.j [2, 3, 4, 5, 8, 9, 10, 11, 61, 89] [(0, [(2, .box (.st 3) [0, 1]), (4, .box (.st 3) [0, 1]), (5, .v .bool [])]), (1, [(2, .box (.st 3) [0, 1]), (3, .v (.int .i64) [])])] (.b (.s .z (.s .z (.s .z (.s (.s (.j [] [(0, [(61, .v .bool [])])] .z) .z) (.s .z (.s .z (.s .z (.s (.b (.l [(11, .v (.int .i64) [])] [11, 89] [(4, [(11, .v (.int .i64) [])])] (.s (.s (.j [] [(0, [(89, .v .bool [])])] .z) .z) .z))) (.s (.j [5] [(0, [(5, .v .bool [])])] .z) .z))))))))))) .z))))) .z))))))
def sp207 : Spec fam := ⟨[.v .str []], [.v (.st 3) [0, 1], .v (.int .i64) []], fun a => iN a.1⟩
def dz (s : State) (x : Conf × Int) (t1 : State × Output × Int) : Option ((State × Output × Int) ⊕ ((State × Output) ⊕ (State × Output))) :=
 bif decide (t1.2.2 < (s.Apps.length : Int)) then
 (
  (idx s.Apps t1.2.2).bind fun x6 =>
  (aP x6).bind fun x7 =>
  bif x7 then
  (idx s.Apps t1.2.2).bind fun x8 =>
  (df x.1 x8.Queue).bind fun x9 =>
  some (! x9)
  else
  some false).bind fun q2 =>
 bif q2 then
  (aD s 14).bind fun x10 =>
  some (.inr (.inl (x10.1, x10.2)))
 else
  some (.inl (t1.1, t1.2.1, w64 (t1.2.2 + 1)))
 else
 some (.inr (.inr (t1.1, t1.2.1)))
def dD (s : State) (x : Conf × Int) (t : State × Output × Int) : Option ((State × Output × Int) ⊕ ((State × Output) ⊕ (State × Output))) :=
 bif decide (t.2.2 < (s.Conf.Labels.length : Int)) then
 (inb t.2.2 x.1.Labels.length).bind fun i =>
 (x.1.Labels[i]?).bind fun x3 =>
 (idx s.Conf.Labels t.2.2).bind fun x4 =>
 bif ! (x3 == x4) then
  (aD s 14).bind fun x5 =>
  some (.inr (.inl (x5.1, x5.2)))
 else
  some (.inl (t.1, t.2.1, w64 (t.2.2 + 1)))
 else
 some (.inr (.inr (t.1, t.2.1)))
def gH (s : State) (text : List UInt8) : Option (State × Output) :=
 (iN text).bind fun x =>
 (
 bif x.2 == 0 then
  (iD x.1).bind fun e =>
  some e
 else
  some x.2).bind fun e1 =>
 bif e1 != 0 then
 (aD s e1).bind fun x1 =>
 some (x1.1, x1.2)
 else
 bif decide ((x.1.Labels.length : Int) < (s.Conf.Labels.length : Int)) then
  (aD s 14).bind fun x2 =>
  some (x2.1, x2.2)
 else
  (loop (dD s x) ((⟨⟨[], []⟩, [], [], [], [], [], 0, 0, 0⟩ : State), (⟨0, [], [], [], 0⟩ : Output), 0)).bind fun q0 =>
  match q0 with
  | .inl q =>
  some (q.1, q.2)
  | .inr q1 =>
  (loop (dz s x) (q1.1, q1.2, 0)).bind fun q0 =>
  match q0 with
  | .inl q3 =>
   some (q3.1, q3.2)
  | .inr q4 =>
   some ((⟨⟨x.1.Labels, x.1.Queues⟩, s.Nodes, s.Apps, s.Conts, s.Slots, s.Plans, s.Now, s.Epoch, s.Seq⟩ : State), (⟨0, [], [], [], 0⟩ : Output))
def h125 : Hint := (.s .z (.s .z (.s (.j [7] [(0, [(7, .v (.int .i64) [])])] .z) (.s .z (.s .z (.s (.s .z (.b (.l [(4, .box (.st 10) [0, 1, 2, 3, 4, 5, 6]), (5, .box (.st 13) [1, 2, 3]), (8, .v (.int .i64) [])] [4, 5, 8] [(1, [(4, .box (.st 10) []), (5, .box (.st 13) [1, 2, 3])]), (2, [(4, .box (.st 10) [0, 1, 2, 3, 4, 5, 6]), (5, .box (.st 13) [1, 2, 3])])] .z))) (.s (.s .z (.b (.l [(4, .box (.st 10) [0, 1, 2, 3, 4, 5, 6]), (5, .box (.st 13) [1, 2, 3]), (9, .v (.int .i64) [])] [4, 5, 9, 85] [(1, [(4, .box (.st 10) []), (5, .box (.st 13) [1, 2, 3])]), (4, [(4, .box (.st 10) [0, 1, 2, 3, 4, 5, 6]), (5, .box (.st 13) [1, 2, 3])])] (.s .z (.s (.b (.s (.j [] [(0, [(85, .v .bool [])])] .z) .z)) .z))))) .z)))))))
def sp125 : Spec fam := ⟨[.v (.st 10) [], .v .str []], [.v (.st 10) [], .v (.st 13) [1, 2, 3]], fun a => gH a.1 a.2.1⟩
def cm (s : State) (id_ : Int) (t : Cont × Int) : Option ((Cont × Int) ⊕ ((Cont × Bool) ⊕ Cont)) :=
 bif decide (t.2 < (s.Conts.length : Int)) then
 (idx s.Conts t.2).bind fun x =>
 bif x.Id == id_ then
  (idx s.Conts t.2).bind fun x1 =>
  some (.inr (.inl (x1, true)))
 else
  some (.inl (t.1, w64 (t.2 + 1)))
 else
 some (.inr (.inr (t.1)))
def aW (s : State) (id_ : Int) : Option (Cont × Bool) :=
 (loop (cm s id_) ((⟨0, 0, 0, ⟨0, 0⟩, 0, 0, false, 0⟩ : Cont), 0)).bind fun q0 =>
 match q0 with
 | .inl q =>
 some (q.1, q.2)
 | .inr q1 =>
 some ((⟨0, 0, 0, ⟨0, 0⟩, 0, 0, false, 0⟩ : Cont), false)
def h31 : Hint := (.s .z (.s (.s .z (.b (.l [(4, .box (.st 7) []), (6, .v (.int .i64) [])] [4, 5, 6] [(1, [(4, .box (.st 7) []), (5, .v .bool [])]), (2, [(4, .box (.st 7) [])])] .z))) .z))
def sp31 : Spec fam := ⟨[.v (.st 10) [], .v (.int .i64) []], [.v (.st 7) [], .v .bool []], fun a => aW a.1 a.2.1⟩
def cI (s : State) (node : Int) (t : Slot × Int) : Option ((Slot × Int) ⊕ ((Slot × Bool) ⊕ Slot)) :=
 bif decide (t.2 < (s.Slots.length : Int)) then
 (idx s.Slots t.2).bind fun x =>
 bif x.Node == node then
  (idx s.Slots t.2).bind fun x1 =>
  some (.inr (.inl (x1, true)))
 else
  some (.inl (t.1, w64 (t.2 + 1)))
 else
 some (.inr (.inr (t.1)))
def iB (s : State) (node : Int) : Option (Slot × Bool) :=
 (loop (cI s node) ((⟨0, 0, 0⟩ : Slot), 0)).bind fun q0 =>
 match q0 with
 | .inl q =>
 some (q.1, q.2)
 | .inr q1 =>
 some ((⟨0, 0, 0⟩ : Slot), false)
def h116 : Hint := (.s .z (.s (.s .z (.b (.l [(4, .box (.st 8) []), (6, .v (.int .i64) [])] [4, 5, 6] [(1, [(4, .box (.st 8) []), (5, .v .bool [])]), (2, [(4, .box (.st 8) [])])] .z))) .z))
def sp116 : Spec fam := ⟨[.v (.st 10) [], .v (.int .i64) []], [.v (.st 8) [], .v .bool []], fun a => iB a.1 a.2.1⟩
def aO (a : Vec) (b : Vec) : Option Bool :=
 bif decide (a.Mem ≤ b.Mem) then
 some (decide (a.Cores ≤ b.Cores))
 else
 some false
def h42 : Hint := .z
def sp42 : Spec fam := ⟨[.v (.st 0) [], .v (.st 0) []], [.v .bool []], fun a => aO a.1 a.2.1⟩
def fP (a : Vec) (b : Vec) : Option Vec :=
 some (⟨imax (w64 (a.Mem - b.Mem)) 0, imax (w64 (a.Cores - b.Cores)) 0⟩ : Vec)
def h107 : Hint := .z
def sp107 : Spec fam := ⟨[.v (.st 0) [], .v (.st 0) []], [.v (.st 0) []], fun a => fP a.1 a.2.1⟩
def aw (a : Vec) (b : Vec) : Option Vec :=
 some (⟨w64 (a.Mem + b.Mem), w64 (a.Cores + b.Cores)⟩ : Vec)
def h109 : Hint := .z
def sp109 : Spec fam := ⟨[.v (.st 0) [], .v (.st 0) []], [.v (.st 0) []], fun a => aw a.1 a.2.1⟩
def gG (s : State) (id_ : Int) (t : Vec × Int) : Option ((Vec × Int) ⊕ Vec) :=
 bif decide (t.2 < (s.Conts.length : Int)) then
 (
  (idx s.Conts t.2).bind fun x =>
  bif x.Node == id_ then
  (idx s.Conts t.2).bind fun x1 =>
  (aw t.1 x1.Size).bind fun x2 =>
  some x2
  else
  some t.1).bind fun v =>
 some (.inl (v, w64 (t.2 + 1)))
 else
 some (.inr t.1)
def jb (s : State) (id_ : Int) : Option Vec :=
 (loop (gG s id_) ((⟨0, 0⟩ : Vec), 0)).bind fun v1 =>
 some v1
def h108 : Hint := (.s .z (.s .z (.s (.s .z (.b (.l [(5, .box (.st 0) []), (6, .v (.int .i64) [])] [5, 6] [(2, [(5, .box (.st 0) [])])] (.s .z (.s (.j [5] [(0, [(5, .box (.st 0) [])])] .z) .z))))) .z)))
def sp108 : Spec fam := ⟨[.v (.st 10) [], .v (.int .i64) []], [.v (.st 0) []], fun a => jb a.1 a.2.1⟩
def fY (s : State) (id_ : Int) : Option Vec :=
 (bf s id_).bind fun x =>
 (
 bif ! x.2 then
  some true
 else
  some (! x.1.Up)).bind fun q =>
 bif q then
 some (⟨0, 0⟩ : Vec)
 else
 (jb s id_).bind fun x1 =>
 (fP x.1.Cap x1).bind fun x2 =>
 some x2
def h43 : Hint := (.s .z (.s .z (.s (.s (.j [] [(0, [(19, .v .bool [])])] .z) .z) .z)))
def sp43 : Spec fam := ⟨[.v (.st 10) [], .v (.int .i64) []], [.v (.st 0) []], fun a => fY a.1 a.2.1⟩
def eM (t : List UInt8 × List (List UInt8)) : Option ((List UInt8 × List (List UInt8)) ⊕ List (List UInt8)) :=
 bif ! (t.1 == ([] : List UInt8)) then
 (app 16 t.2 [t.1]).bind fun l =>
 (cC t.1).bind fun path1 =>
 some (.inl (path1, l))
 else
 some (.inr t.2)
def fb (path : List UInt8) : Option (List (List UInt8)) :=
 (loop eM (path, [])).bind fun l1 =>
 some l1
def h47 : Hint := (.s .z (.s .z (.s (.b (.l [(0, .v .str []), (3, .v (.slice (.str)) [0])] [0, 3] [(2, [(3, .v (.slice (.str)) [0])])] .z)) .z)))
def sp47 : Spec fam := ⟨[.v .str []], [.v (.slice (.str)) [0]], fun a => fb a.1⟩
def bZ (path : List UInt8) (up : List (List UInt8)) (i : Int) : Option (Int ⊕ (Bool ⊕ Unit)) :=
 bif decide (i < (up.length : Int)) then
 (inb i up.length).bind fun i1 =>
 (up[i1]?).bind fun x =>
 bif x == path then
  some (.inr (.inl true))
 else
  some (.inl (w64 (i + 1)))
 else
 some (.inr (.inr ()))
def dK (leaf : List UInt8) (path : List UInt8) : Option Bool :=
 (fb leaf).bind fun up =>
 (loop (bZ path up) 0).bind fun q0 =>
 match q0 with
 | .inl q =>
 some q
 | .inr _ =>
 some false
def h114 : Hint := (.s .z (.s .z (.s (.s .z (.b (.l [(6, .v (.int .i64) [])] [4, 6] [(1, [(4, .v .bool [])]), (2, [])] .z))) .z)))
def sp114 : Spec fam := ⟨[.v .str [], .v .str []], [.v .bool []], fun a => dK a.1 a.2.1⟩
def fE (s : State) (path : List UInt8) (label : Int) (all : Bool) (user : Int) (t : Vec × Int) : Option ((Vec × Int) ⊕ Vec) :=
 bif decide (t.2 < (s.Conts.length : Int)) then
 (
  (idx s.Conts t.2).bind fun x =>
  (aC s x.App).bind fun x1 =>
  (
  bif x1.2 then
   (idx s.Conts t.2).bind fun x2 =>
   bif x2.Label == label then
   (dK x1.1.Queue path).bind fun x3 =>
   bif x3 then
    bif all then
    some true
    else
    some (x1.1.User == user)
   else
    some false
   else
   some false
  else
   some false).bind fun q =>
  bif q then
  (idx s.Conts t.2).bind fun x4 =>
  (aw t.1 x4.Size).bind fun x5 =>
  some x5
  else
  some t.1).bind fun v =>
 some (.inl (v, w64 (t.2 + 1)))
 else
 some (.inr t.1)
def eQ (s : State) (path : List UInt8) (label : Int) (all : Bool) (user : Int) : Option Vec :=
 (loop (fE s path label all user) ((⟨0, 0⟩ : Vec), 0)).bind fun v1 =>
 some v1
def h97 : Hint := (.s .z (.s .z (.s (.s .z (.b (.l [(11, .box (.st 0) []), (12, .v (.int .i64) [])] [11, 12, 13, 59] [(2, [(11, .box (.st 0) [])])] (.s .z (.s (.j [11, 13, 59] [(0, [(11, .box (.st 0) [])])] (.b (.s .z (.s (.j [] [(0, [(59, .v .bool [])])] .z) .z)))) .z))))) .z)))
def sp97 : Spec fam := ⟨[.v (.st 10) [], .v .str [], .v (.int .i64) [], .v .bool [], .v (.int .i64) []], [.v (.st 0) []], fun a => eQ a.1 a.2.1 a.2.2.1 a.2.2.2.1 a.2.2.2.2.1⟩
def aQ (s : State) (path : List UInt8) (label : Int) : Option Vec :=
 (eQ s path label true 0).bind fun x =>
 some x
def h32 : Hint := .z
def sp32 : Spec fam := ⟨[.v (.st 10) [], .v .str [], .v (.int .i64) []], [.v (.st 0) []], fun a => aQ a.1 a.2.1 a.2.2.1⟩
def eW (s : State) (label : Int) (t : Vec × Int) : Option ((Vec × Int) ⊕ Vec) :=
 bif decide (t.2 < (s.Nodes.length : Int)) then
 (
  (
  (idx s.Nodes t.2).bind fun x =>
  bif x.Up then
   (idx s.Nodes t.2).bind fun x1 =>
   some (x1.Label == label)
  else
   some false).bind fun q =>
  bif q then
  (idx s.Nodes t.2).bind fun x2 =>
  (aw t.1 x2.Cap).bind fun x3 =>
  some x3
  else
  some t.1).bind fun v =>
 some (.inl (v, w64 (t.2 + 1)))
 else
 some (.inr t.1)
def bj (s : State) (label : Int) : Option Vec :=
 (loop (eW s label) ((⟨0, 0⟩ : Vec), 0)).bind fun v1 =>
 some v1
def h75 : Hint := (.s .z (.s .z (.s (.s .z (.b (.l [(5, .box (.st 0) []), (6, .v (.int .i64) [])] [5, 6, 30] [(2, [(5, .box (.st 0) [])])] (.s .z (.s (.j [5, 30] [(0, [(5, .box (.st 0) [])])] (.b (.s (.j [] [(0, [(30, .v .bool [])])] .z) .z))) .z))))) .z)))
def sp75 : Spec fam := ⟨[.v (.st 10) [], .v (.int .i64) []], [.v (.st 0) []], fun a => bj a.1 a.2.1⟩
def fM (n : Int) : Option Bool :=
 bif decide (n ≥ 0) then
 some (decide (n ≤ 1125899906842624))
 else
 some false
def h268 : Hint := .z
def sp268 : Spec fam := ⟨[.v (.int .i64) []], [.v .bool []], fun a => fM a.1⟩
def aX (a : Vec) : Option Bool :=
 (fM a.Mem).bind fun x =>
 bif x then
 (fM a.Cores).bind fun x1 =>
 some x1
 else
 some false
def h190 : Hint := .z
def sp190 : Spec fam := ⟨[.v (.st 0) []], [.v .bool []], fun a => aX a.1⟩
def eE (n : Int) (bp : Int) : Option Int :=
 some (w64 ((w64 ((w64 (Int.tdiv n 10000)) * bp)) + (w64 (Int.tdiv (w64 ((Int.tmod n 10000) * bp)) 10000))))
def h191 : Hint := .z
def sp191 : Spec fam := ⟨[.v (.int .i64) [], .v (.int .i64) []], [.v (.int .i64) []], fun a => eE a.1 a.2.1⟩
def eH (a : Vec) (bp : Int) : Option (Vec × Int) :=
 (
 (aX a).bind fun x =>
 bif ! x then
  some true
 else
  bif decide (bp < 0) then
  some true
  else
  some (decide (bp > 1000000))).bind fun q =>
 bif q then
 some ((⟨0, 0⟩ : Vec), 1)
 else
 (eE a.Mem bp).bind fun x1 =>
 (eE a.Cores bp).bind fun x2 =>
 (aX (⟨x1, x2⟩ : Vec)).bind fun x3 =>
 bif ! x3 then
  some ((⟨0, 0⟩ : Vec), 11)
 else
  some ((⟨x1, x2⟩ : Vec), 0)
def h112 : Hint := (.s .z (.s (.s (.j [] [(0, [(17, .v .bool [])])] .z) .z) .z))
def sp112 : Spec fam := ⟨[.v (.st 0) [], .v (.int .i64) []], [.v (.st 0) [], .v (.int .i64) []], fun a => eH a.1 a.2.1⟩
def gh (s : State) (label : Int) (least : Bool) (up : List (List UInt8)) (t : Vec × Int) : Option ((Vec × Int) ⊕ Vec) :=
 bif decide (t.2 ≥ 0) then
 (inb t.2 up.length).bind fun i1 =>
 (up[i1]?).bind fun x2 =>
 (bd s.Conf x2).bind fun x3 =>
 (inb label x3.1.Caps.length).bind fun i2 =>
 (x3.1.Caps[i2]?).bind fun x4 =>
 (
  bif least then
  (inb label x3.1.Caps.length).bind fun i3 =>
  (x3.1.Caps[i3]?).bind fun x5 =>
  some x5.Least
  else
  some x4.Most).bind fun bp =>
 (eH t.1 bp).bind fun x6 =>
 some (.inl (x6.1, w64 (t.2 - 1)))
 else
 some (.inr t.1)
def fU (s : State) (path : List UInt8) (label : Int) (least : Bool) : Option Vec :=
 (bd s.Conf path).bind fun x =>
 (
 bif ! x.2 then
  some true
 else
  bif decide (label < 0) then
  some true
  else
  some (decide (label ≥ (s.Conf.Labels.length : Int)))).bind fun q =>
 bif q then
 some (⟨0, 0⟩ : Vec)
 else
 (bj s label).bind fun x1 =>
 (fb path).bind fun up =>
 let i := w64 ((up.length : Int) - 2)
 (loop (gh s label least up) (x1, i)).bind fun v =>
 some v
def h98 : Hint := (.s .z (.s .z (.s (.s (.j [] [(0, [(37, .v .bool [])])] .z) .z) (.s .z (.s .z (.s (.s .z (.b (.l [(11, .box (.st 0) []), (13, .v (.int .i64) [])] [11, 13, 14, 15, 16] [(2, [(11, .box (.st 0) [])])] (.s .z (.s (.b (.s .z (.s .z (.s (.j [16] [(0, [(16, .v (.int .i64) [])])] .z) .z)))) .z))))) .z))))))
def sp98 : Spec fam := ⟨[.v (.st 10) [], .v .str [], .v (.int .i64) [], .v .bool []], [.v (.st 0) []], fun a => fU a.1 a.2.1 a.2.2.1 a.2.2.2.1⟩
def fV (s : State) (path : List UInt8) (label : Int) : Option Vec :=
 (fU s path label false).bind fun x =>
 some x
def h48 : Hint := .z
def sp48 : Spec fam := ⟨[.v (.st 10) [], .v .str [], .v (.int .i64) []], [.v (.st 0) []], fun a => fV a.1 a.2.1 a.2.2.1⟩
def ga (s : State) (label : Int) (t : Vec × Int) : Option ((Vec × Int) ⊕ Vec) :=
 bif decide (t.2 < (s.Plans.length : Int)) then
 (
  (idx s.Plans t.2).bind fun x =>
  (
  bif x.Label == label then
   bif decide (x.From ≤ s.Now) then
   some (decide (s.Now < x.Until))
   else
   some false
  else
   some false).bind fun q =>
  bif q then
  (aw t.1 x.Need).bind fun x1 =>
  some x1
  else
  some t.1).bind fun v =>
 some (.inl (v, w64 (t.2 + 1)))
 else
 some (.inr t.1)
def jl (s : State) (label : Int) : Option Vec :=
 (loop (ga s label) ((⟨0, 0⟩ : Vec), 0)).bind fun v1 =>
 some v1
def h110 : Hint := (.s .z (.s .z (.s (.s .z (.b (.l [(5, .box (.st 0) []), (6, .v (.int .i64) [])] [5, 6, 7, 38] [(2, [(5, .box (.st 0) [])])] (.s .z (.s (.j [5, 7, 38] [(0, [(5, .box (.st 0) [])])] (.b (.s .z (.s (.j [] [(0, [(38, .v .bool [])])] .z) .z)))) .z))))) .z)))
def sp110 : Spec fam := ⟨[.v (.st 10) [], .v (.int .i64) []], [.v (.st 0) []], fun a => jl a.1 a.2.1⟩
def cx (s : State) (label : Int) (size : Vec) (up : List (List UInt8)) (i : Int) : Option (Int ⊕ (Bool ⊕ Unit)) :=
 bif decide (i < (up.length : Int)) then
 (inb i up.length).bind fun i1 =>
 (up[i1]?).bind fun x =>
 (aQ s x label).bind fun x1 =>
 (aw x1 size).bind fun x2 =>
 (inb i up.length).bind fun i2 =>
 (up[i2]?).bind fun x3 =>
 (fV s x3 label).bind fun x4 =>
 (aO x2 x4).bind fun x5 =>
 bif ! x5 then
  some (.inr (.inl false))
 else
  (
  (inb i up.length).bind fun i3 =>
  (up[i3]?).bind fun x6 =>
  bif x6 == ([114, 111, 111, 116] : List UInt8) then
   (bj s label).bind fun x7 =>
   (jl s label).bind fun x8 =>
   (fP x7 x8).bind fun x9 =>
   (aO x2 x9).bind fun x10 =>
   some (! x10)
  else
   some false).bind fun q =>
  bif q then
  some (.inr (.inl false))
  else
  some (.inl (w64 (i + 1)))
 else
 some (.inr (.inr ()))
def eN (s : State) (path : List UInt8) (label : Int) (size : Vec) : Option Bool :=
 (fb path).bind fun up =>
 (loop (cx s label size up) 0).bind fun q0 =>
 match q0 with
 | .inl q1 =>
 some q1
 | .inr _ =>
 some true
def h44 : Hint := (.s .z (.s .z (.s (.s .z (.b (.l [(10, .v (.int .i64) [])] [8, 10, 11, 55] [(1, [(8, .v .bool [])]), (2, [])] (.s .z (.s (.b (.s .z (.s .z (.s (.j [] [(0, [(55, .v .bool [])])] .z) .z)))) .z))))) .z)))
def sp44 : Spec fam := ⟨[.v (.st 10) [], .v .str [], .v (.int .i64) [], .v (.st 0) []], [.v .bool []], fun a => eN a.1 a.2.1 a.2.2.1 a.2.2.2.1⟩
def dO (l : List Ask) (prio : Int) (t : Ask × Int) : Option ((Ask × Int) ⊕ ((Ask × Bool) ⊕ Ask)) :=
 bif decide (t.2 < (l.length : Int)) then
 (idx l t.2).bind fun x =>
 bif x.Prio == prio then
  (idx l t.2).bind fun x1 =>
  some (.inr (.inl (x1, true)))
 else
  some (.inl (t.1, w64 (t.2 + 1)))
 else
 some (.inr (.inr (t.1)))
def jT (l : List Ask) (prio : Int) : Option (Ask × Bool) :=
 (loop (dO l prio) ((⟨0, 0, ⟨0, 0⟩, 0, 0, 0, 0⟩ : Ask), 0)).bind fun q0 =>
 match q0 with
 | .inl q =>
 some (q.1, q.2)
 | .inr q1 =>
 some ((⟨0, 0, ⟨0, 0⟩, 0, 0, 0, 0⟩ : Ask), false)
def h192 : Hint := (.s .z (.s (.s .z (.b (.l [(4, .box (.st 5) []), (6, .v (.int .i64) [])] [4, 5, 6] [(1, [(4, .box (.st 5) []), (5, .v .bool [])]), (2, [(4, .box (.st 5) [])])] .z))) .z))
def sp192 : Spec fam := ⟨[.v (.slice (.st 5)) [], .v (.int .i64) []], [.v (.st 5) [], .v .bool []], fun a => jT a.1 a.2.1⟩
def aT (a : Ask) (n : Node) : Option Int :=
 (
 bif ! n.Up then
  some true
 else
  some (n.Label != a.Label)).bind fun q =>
 bif q then
 some 4
 else
 (
  bif a.Rack == (-1) then
  some true
  else
  bif a.Node == n.Id then
   some true
  else
   bif a.Node == (-1) then
   some (a.Rack == n.Rack)
   else
   some false).bind fun q1 =>
 bif q1 then
  some 1
 else
  bif a.Rack == n.Rack then
  some 2
  else
  some 3
def h269 : Hint := (.s .z (.s (.b (.s (.j [] [(0, [(5, .v .bool [])])] .z) (.c .z (.s (.j [] [(0, [(16, .v .bool [])])] .z) .z)))) .z))
def sp269 : Spec fam := ⟨[.v (.st 5) [], .v (.st 4) []], [.v (.int .i64) []], fun a => aT a.1 a.2.1⟩
def a5 (a : Ask) (n : Node) : Option Bool :=
 (aT a n).bind fun x =>
 bif x == 1 then
 some true
 else
 bif x == 2 then
  some (decide (a.Missed ≥ 2))
 else
  bif x == 3 then
  some (decide (a.Missed ≥ 4))
  else
  some false
def h193 : Hint := .z
def sp193 : Spec fam := ⟨[.v (.st 5) [], .v (.st 4) []], [.v .bool []], fun a => a5 a.1 a.2.1⟩
def a8 (s : State) (path : List UInt8) (label : Int) : Option Vec :=
 (fU s path label true).bind fun x =>
 some x
def h35 : Hint := .z
def sp35 : Spec fam := ⟨[.v (.st 10) [], .v .str [], .v (.int .i64) []], [.v (.st 0) []], fun a => a8 a.1 a.2.1 a.2.2.1⟩
def fR (s : State) (leaf : List UInt8) (a : Ask) : Option Bool :=
 (aQ s leaf a.Label).bind fun x =>
 (aw x a.Size).bind fun x1 =>
 (a8 s leaf a.Label).bind fun x2 =>
 (aO x1 x2).bind fun x3 =>
 some x3
def h194 : Hint := .z
def sp194 : Spec fam := ⟨[.v (.st 10) [], .v .str [], .v (.st 5) []], [.v .bool []], fun a => fR a.1 a.2.1 a.2.2.1⟩
def eo (s : State) (path : List UInt8) (label : Int) (user : Int) : Option Vec :=
 (eQ s path label false user).bind fun x =>
 some x
def h45 : Hint := .z
def sp45 : Spec fam := ⟨[.v (.st 10) [], .v .str [], .v (.int .i64) [], .v (.int .i64) []], [.v (.st 0) []], fun a => eo a.1 a.2.1 a.2.2.1 a.2.2.2.1⟩
def ja (s : State) (path : List UInt8) (label : Int) : Option Vec :=
 (bd s.Conf path).bind fun x =>
 bif ! x.2 then
 some (⟨0, 0⟩ : Vec)
 else
 (a8 s path label).bind fun x1 =>
 (eH x1 x.1.User).bind fun x2 =>
 some x2.1
def h46 : Hint := .z
def sp46 : Spec fam := ⟨[.v (.st 10) [], .v .str [], .v (.int .i64) []], [.v (.st 0) []], fun a => ja a.1 a.2.1 a.2.2.1⟩
def ce (s : State) (leaf : List UInt8) (label : Int) (user : Int) : Option Bool :=
 (eo s leaf label user).bind fun x =>
 (ja s leaf label).bind fun x1 =>
 (aO x x1).bind fun x2 =>
 some x2
def h195 : Hint := .z
def sp195 : Spec fam := ⟨[.v (.st 10) [], .v .str [], .v (.int .i64) [], .v (.int .i64) []], [.v .bool []], fun a => ce a.1 a.2.1 a.2.2.1 a.2.2.2.1⟩
def dA (s : State) (node : Int) (t : List Slot × Int) : Option ((List Slot × Int) ⊕ List Slot) :=
 bif decide (t.2 < (s.Slots.length : Int)) then
 (
  (idx s.Slots t.2).bind fun x =>
  bif x.Node != node then
  (idx s.Slots t.2).bind fun x1 =>
  (app 24 t.1 [x1]).bind fun l =>
  some l
  else
  some t.1).bind fun l1 =>
 some (.inl (l1, w64 (t.2 + 1)))
 else
 some (.inr t.1)
def bM (s : State) (node : Int) : Option State :=
 (loop (dA s node) ([], 0)).bind fun l2 =>
 some (⟨⟨s.Conf.Labels, s.Conf.Queues⟩, s.Nodes, s.Apps, s.Conts, l2, s.Plans, s.Now, s.Epoch, s.Seq⟩ : State)
def h196 : Hint := (.s .z (.s .z (.s (.s .z (.b (.l [(5, .v (.slice (.st 8)) [0]), (6, .v (.int .i64) [])] [5, 6] [(2, [(5, .v (.slice (.st 8)) [0])])] (.s .z (.s (.j [5] [(0, [(5, .v (.slice (.st 8)) [0])])] .z) .z))))) .z)))
def sp196 : Spec fam := ⟨[.v (.st 10) [], .v (.int .i64) []], [.v (.st 10) [5]], fun a => bM a.1 a.2.1⟩
def gA (l : List Ask) (prio : Int) (t : List Ask × Bool × Int) : Option ((List Ask × Bool × Int) ⊕ ((List Ask × Bool))) :=
 bif decide (t.2.2 < (l.length : Int)) then
 (
  (idx l t.2.2).bind fun x =>
  (
  bif x.Prio == prio then
   bif decide ((w64 (x.Count - 1)) ≤ 0) then
   some (.inr true)
   else
   some (.inl (true, (⟨x.Prio, x.Label, ⟨x.Size.Mem, x.Size.Cores⟩, w64 (x.Count - 1), x.Node, x.Rack, 0⟩ : Ask)))
  else
   some (.inl (t.2.1, x)) : Option ((Bool × Ask) ⊕ Bool)).bind fun q0 =>
  match q0 with
  | .inl q =>
  (app 64 t.1 [q.2]).bind fun l1 =>
  some (l1, q.1)
  | .inr is =>
  some (t.1, is)).bind fun q1 =>
 some (.inl (q1.1, q1.2, w64 (t.2.2 + 1)))
 else
 some (.inr (t.1, t.2.1))
def iX (l : List Ask) (prio : Int) : Option (List Ask × Bool) :=
 (loop (gA l prio) ([], false, 0)).bind fun q2 =>
 some (q2.1, q2.2)
def h270 : Hint := (.s .z (.s .z (.s .z (.s (.s .z (.b (.l [(6, .v (.slice (.st 5)) [0]), (7, .v .bool []), (8, .v (.int .i64) [])] [6, 7, 8, 9] [(2, [(6, .v (.slice (.st 5)) [0]), (7, .v .bool [])])] (.s .z (.s (.j [6, 7, 9] [(0, [(6, .v (.slice (.st 5)) [0]), (7, .v .bool [])])] (.b (.s .z (.s (.j [7, 9] [(0, [(7, .v .bool []), (9, .box (.st 5) [])]), (3, [(7, .v .bool [])])] .z) .z)))) .z))))) .z))))
def sp270 : Spec fam := ⟨[.v (.slice (.st 5)) [], .v (.int .i64) []], [.v (.slice (.st 5)) [0], .v .bool []], fun a => iX a.1 a.2.1⟩
def d8 (s : State) (k : Int) : Option (Int ⊕ Int) :=
 (
 bif decide (k < (s.Conts.length : Int)) then
  (idx s.Conts k).bind fun x2 =>
  some (decide (x2.Id < (w64 ((shlK .i64 s.Epoch 20) + (w64 (s.Seq + 1))))))
 else
  some false).bind fun q =>
 bif q then
 some (.inl (w64 (k + 1)))
 else
 some (.inr k)
def dN (s : State) (n : Node) (a : App) (x : Ask) : Option (State × Cont) :=
 (iX a.Asks x.Prio).bind fun x1 =>
 (
 bif a.State == 1 then
  some (⟨a.Id, 2, a.Queue, a.User, a.Prio, ⟨a.Master.Mem, a.Master.Cores⟩, [], s.Now, 0, a.Grants, a.Kills, a.Told, a.Lost⟩ : App)
 else
  (app 8 [] a.Grants).bind fun l =>
  (app 8 l [w64 ((shlK .i64 s.Epoch 20) + (w64 (s.Seq + 1)))]).bind fun l1 =>
  some (⟨a.Id, a.State, a.Queue, a.User, a.Prio, ⟨a.Master.Mem, a.Master.Cores⟩, x1.1, a.Seen, a.Beat, l1, a.Kills, a.Told, a.Lost⟩ : App)).bind fun a1 =>
 (loop (d8 s) 0).bind fun k1 =>
 (slc s.Conts 0 k1).bind fun l2 =>
 (app 72 [] l2).bind fun l3 =>
 (app 72 l3 [(⟨w64 ((shlK .i64 s.Epoch 20) + (w64 (s.Seq + 1))), a.Id, n.Id, ⟨x.Size.Mem, x.Size.Cores⟩, x.Prio, n.Label, a.State == 1, 0⟩ : Cont)]).bind fun l4 =>
 (slc s.Conts k1 (s.Conts.length : Int)).bind fun l5 =>
 (app 72 l4 l5).bind fun l6 =>
 (aL (⟨⟨s.Conf.Labels, s.Conf.Queues⟩, s.Nodes, s.Apps, l6, s.Slots, s.Plans, s.Now, s.Epoch, w64 (s.Seq + 1)⟩ : State) a1).bind fun x3 =>
 some (x3, (⟨w64 ((shlK .i64 s.Epoch 20) + (w64 (s.Seq + 1))), a.Id, n.Id, ⟨x.Size.Mem, x.Size.Cores⟩, x.Prio, n.Label, a.State == 1, 0⟩ : Cont))
def h197 : Hint := (.s .z (.s .z (.s .z (.s .z (.s (.j [6] [(0, [(6, .box (.st 6) [7])])] .z) (.s .z (.s (.b (.l [(11, .v (.int .i64) [])] [11, 78] [(2, [(11, .v (.int .i64) [])])] (.s (.s (.j [] [(0, [(78, .v .bool [])])] .z) .z) .z))) .z)))))))
def sp197 : Spec fam := ⟨[.v (.st 10) [], .v (.st 4) [], .v (.st 6) [], .v (.st 5) []], [.v (.st 10) [3], .v (.st 7) []], fun a => dN a.1 a.2.1 a.2.2.1 a.2.2.2.1⟩
def cF (s : State) (n : Node) (x : Slot) : Option (State × Int × Cont × Bool) :=
 (aC s x.App).bind fun x1 =>
 (jT x1.1.Asks x.Prio).bind fun x2 =>
 (
 bif ! x1.2 then
  some true
 else
  (aP x1.1).bind fun x3 =>
  bif ! x3 then
  some true
  else
  bif ! x2.2 then
   some true
  else
   (a5 x2.1 n).bind fun x4 =>
   bif ! x4 then
   some true
   else
   (aO x2.1.Size n.Cap).bind fun x5 =>
   bif ! x5 then
    some true
   else
    (fR s x1.1.Queue x2.1).bind fun x6 =>
    bif ! x6 then
    some true
    else
    (ce s x1.1.Queue n.Label x1.1.User).bind fun x7 =>
    some (! x7)).bind fun q =>
 bif q then
 (bM s n.Id).bind fun x8 =>
 some (x8, 0, (⟨0, 0, 0, ⟨0, 0⟩, 0, 0, false, 0⟩ : Cont), false)
 else
 (
  (fY s n.Id).bind fun x9 =>
  (aO x2.1.Size x9).bind fun x10 =>
  bif ! x10 then
  some true
  else
  (eN s x1.1.Queue n.Label x2.1.Size).bind fun x11 =>
  some (! x11)).bind fun q1 =>
 bif q1 then
  some (s, 3, (⟨0, 0, 0, ⟨0, 0⟩, 0, 0, false, 0⟩ : Cont), true)
 else
  (bM s n.Id).bind fun x12 =>
  (dN x12 n x1.1 x2.1).bind fun x13 =>
  some (x13.1, 1, x13.2, true)
def h117 : Hint := (.s .z (.s .z (.s .z (.s (.s (.j [] [(0, [(74, .v .bool [])])] .z) .z) (.s (.s (.j [] [(0, [(98, .v .bool [])])] .z) .z) .z)))))
def sp117 : Spec fam := ⟨[.v (.st 10) [], .v (.st 4) [], .v (.st 8) []], [.v (.st 10) [], .v (.int .i64) [], .v (.st 7) [], .v .bool []], fun a => cF a.1 a.2.1 a.2.2.1⟩
def fZ (a : Int) (b : Int) : Option (Int × Int) :=
 let mid := w64 ((w64 ((shrK .i64 a 25) * (andK .i64 b 33554431))) + (w64 ((andK .i64 a 33554431) * (shrK .i64 b 25))))
 let low := w64 ((w64 ((andK .i64 a 33554431) * (andK .i64 b 33554431))) + (shlK .i64 (andK .i64 mid 33554431) 25))
 some (w64 ((w64 ((w64 ((shrK .i64 a 25) * (shrK .i64 b 25))) + (shrK .i64 mid 25))) + (shrK .i64 low 50)), andK .i64 low 1125899906842623)
def h384 : Hint := .z
def sp384 : Spec fam := ⟨[.v (.int .i64) [], .v (.int .i64) []], [.v (.int .i64) [], .v (.int .i64) []], fun a => fZ a.1 a.2.1⟩
def bi (x : Frac) (y : Frac) : Option Int :=
 (
 bif x.A == 0 then
  some (⟨x.A, 1⟩ : Frac)
 else
  some x).bind fun x1 =>
 (
 bif y.A == 0 then
  some (⟨y.A, 1⟩ : Frac)
 else
  some y).bind fun y1 =>
 (
 bif x1.P == 0 then
  some true
 else
  some (y1.P == 0)).bind fun q =>
 bif q then
 (
  bif x1.P == 0 then
  some (y1.P == 0)
  else
  some false).bind fun q1 =>
 bif q1 then
  some 0
 else
  bif x1.P == 0 then
  some 1
  else
  some (-1)
 else
 (fZ x1.A y1.P).bind fun x2 =>
 (fZ y1.A x1.P).bind fun x3 =>
 (
  bif decide (x2.1 < x3.1) then
  some true
  else
  bif x2.1 == x3.1 then
   some (decide (x2.2 < x3.2))
  else
   some false).bind fun q2 =>
 bif q2 then
  some (-1)
 else
  (
  bif x2.1 == x3.1 then
   some (x2.2 == x3.2)
  else
   some false).bind fun q3 =>
  bif q3 then
  some 0
  else
  some 1
def h379 : Hint := (.s .z (.s (.j [2] [(0, [(2, .box (.st 14) [])])] .z) (.s (.j [3] [(0, [(3, .box (.st 14) [])])] .z) (.s (.s (.j [] [(0, [(24, .v .bool [])])] .z) (.c (.s (.b (.s (.j [] [(0, [(25, .v .bool [])])] .z) .z)) .z) .z)) (.s .z (.s .z (.s (.b (.s (.j [] [(0, [(54, .v .bool [])])] .z) (.c .z (.s (.j [] [(0, [(68, .v .bool [])])] .z) .z)))) .z)))))))
def sp379 : Spec fam := ⟨[.v (.st 14) [], .v (.st 14) []], [.v (.int .i64) []], fun a => bi a.1 a.2.1⟩
def bR (a : Vec) (p : Vec) : Option Frac :=
 (bi (⟨a.Mem, p.Mem⟩ : Frac) (⟨a.Cores, p.Cores⟩ : Frac)).bind fun x =>
 bif decide (x < 0) then
 some (⟨a.Cores, p.Cores⟩ : Frac)
 else
 some (⟨a.Mem, p.Mem⟩ : Frac)
def h380 : Hint := .z
def sp380 : Spec fam := ⟨[.v (.st 0) [], .v (.st 0) []], [.v (.st 14) []], fun a => bR a.1 a.2.1⟩
def bk (a : Vec) (p : Vec) (b : Vec) (q : Vec) : Option Int :=
 (
 (aX a).bind fun x =>
 bif ! x then
  some true
 else
  (aX p).bind fun x1 =>
  bif ! x1 then
  some true
  else
  (aX b).bind fun x2 =>
  bif ! x2 then
   some true
  else
   (aX q).bind fun x3 =>
   some (! x3)).bind fun q1 =>
 bif q1 then
 some 0
 else
 (bR a p).bind fun x4 =>
 (bR b q).bind fun x5 =>
 (bi x4 x5).bind fun x6 =>
 some x6
def h372 : Hint := (.s .z (.s (.s (.j [] [(0, [(26, .v .bool [])])] .z) .z) .z))
def sp372 : Spec fam := ⟨[.v (.st 0) [], .v (.st 0) [], .v (.st 0) [], .v (.st 0) []], [.v (.int .i64) []], fun a => bk a.1 a.2.1 a.2.2.1 a.2.2.2.1⟩
def ib (s : State) (a : List UInt8) (b : List UInt8) (label : Int) : Option Bool :=
 (aQ s a label).bind fun x =>
 (a8 s a label).bind fun x1 =>
 (aQ s b label).bind fun x2 =>
 (a8 s b label).bind fun x3 =>
 (bk x x1 x2 x3).bind fun o =>
 bif decide (o < 0) then
 some true
 else
 bif o == 0 then
  some (Op.bytesLess a b)
 else
  some false
def h360 : Hint := .z
def sp360 : Spec fam := ⟨[.v (.st 10) [], .v .str [], .v .str [], .v (.int .i64) []], [.v .bool []], fun a => ib a.1 a.2.1 a.2.2.1 a.2.2.2.1⟩
def fC (s : State) (label : Int) (l : List (List UInt8)) (t : List (List UInt8) × Int) (k : Int) : Option (Int ⊕ Int) :=
 (
 bif decide (k < (t.1.length : Int)) then
  (inb t.2 l.length).bind fun i =>
  (l[i]?).bind fun x =>
  (inb k t.1.length).bind fun i1 =>
  (t.1[i1]?).bind fun x1 =>
  (ib s x x1 label).bind fun x2 =>
  some (! x2)
 else
  some false).bind fun q =>
 bif q then
 some (.inl (w64 (k + 1)))
 else
 some (.inr k)
def fj (s : State) (label : Int) (l : List (List UInt8)) (t : List (List UInt8) × Int) : Option ((List (List UInt8) × Int) ⊕ List (List UInt8)) :=
 bif decide (t.2 < (l.length : Int)) then
 (loop (fC s label l t) 0).bind fun k1 =>
 (inS 0 k1 t.1.length).bind fun p =>
 (app 16 [] (sub t.1 p.1 p.2)).bind fun l1 =>
 (inb t.2 l.length).bind fun i2 =>
 (l[i2]?).bind fun x3 =>
 (app 16 l1 [x3]).bind fun l2 =>
 (inS k1 (t.1.length : Int) t.1.length).bind fun p1 =>
 (app 16 l2 (sub t.1 p1.1 p1.2)).bind fun l3 =>
 some (.inl (l3, w64 (t.2 + 1)))
 else
 some (.inr t.1)
def ip (s : State) (path : List UInt8) (label : Int) : Option (List (List UInt8)) :=
 (bu s.Conf path).bind fun l =>
 (loop (fj s label l) ([], 0)).bind fun out =>
 some out
def h327 : Hint := (.s .z (.s .z (.s .z (.s (.s .z (.b (.l [(8, .v (.slice (.str)) [0]), (9, .v (.int .i64) [])] [8, 9, 10, 39] [(2, [(8, .v (.slice (.str)) [0])])] (.s .z (.s (.b (.s .z (.s (.b (.l [(10, .v (.int .i64) [])] [10, 39] [(4, [(10, .v (.int .i64) [])])] (.s (.s (.j [] [(0, [(39, .v .bool [])])] .z) .z) .z))) .z))) .z))))) .z))))
def sp327 : Spec fam := ⟨[.v (.st 10) [], .v .str [], .v (.int .i64) []], [.v (.slice (.str)) [0]], fun a => ip a.1 a.2.1 a.2.2.1⟩
def cM (s : State) (label : Int) (self : State → (List UInt8) → Int → Option (List (List UInt8))) (l : List (List UInt8)) (t : List (List UInt8) × Int) : Option ((List (List UInt8) × Int) ⊕ List (List UInt8)) :=
 bif decide (t.2 < (l.length : Int)) then
 (inb t.2 l.length).bind fun i =>
 (l[i]?).bind fun x =>
 (self s x label).bind fun x1 =>
 (app 16 t.1 x1).bind fun l1 =>
 some (.inl (l1, w64 (t.2 + 1)))
 else
 some (.inr t.1)
def bX (self : State → (List UInt8) → Int → Option (List (List UInt8))) (s : State) (path : List UInt8) (label : Int) : Option (List (List UInt8)) :=
 (ip s path label).bind fun l =>
 bif (l.length : Int) == 0 then
 some [path]
 else
 (loop (cM s label self l) ([], 0)).bind fun out =>
 some out
def ba : Nat → State → (List UInt8) → Int → Option (List (List UInt8))
 | 0 => fun _ _ _ => none
 | n + 1 => bX (ba n)
def jR (a0 : State) (a1 : List UInt8) (a2 : Int) : Option (List (List UInt8)) := ba 64 a0 a1 a2
def h271 : Hint := (.s .z (.s .z (.s .z (.s .z (.s (.s .z (.b (.l [(8, .v (.slice (.str)) [0]), (9, .v (.int .i64) [])] [8, 9] [(2, [(8, .v (.slice (.str)) [0])])] .z))) .z)))))
def sp271 : Spec fam := ⟨[.v (.st 10) [], .v .str [], .v (.int .i64) []], [.v (.slice (.str)) [0]], fun a => jR a.1 a.2.1 a.2.2.1⟩
def Fl (n : Nat) : Spec fam := ⟨[.v (.st 10) [], .v .str [], .v (.int .i64) []], [.v (.slice (.str)) [0]], fun a => ba n a.1 a.2.1 a.2.2.1⟩
def gc (s : State) (label : Int) : Option (List (List UInt8)) :=
 (jR s ([114, 111, 111, 116] : List UInt8) label).bind fun x =>
 some x
def h198 : Hint := .z
def sp198 : Spec fam := ⟨[.v (.st 10) [], .v (.int .i64) []], [.v (.slice (.str)) [0]], fun a => gc a.1 a.2.1⟩
def cz (out1 : List App) (t1 : List Int × Int) : Option ((List Int × Int) ⊕ List Int) :=
 bif decide (t1.2 < (out1.length : Int)) then
 (inb t1.2 out1.length).bind fun i1 =>
 (out1[i1]?).bind fun x3 =>
 (app 8 t1.1 [x3.Id]).bind fun l3 =>
 some (.inl (l3, w64 (t1.2 + 1)))
 else
 some (.inr t1.1)
def fd (t : List App × Int) (x : App) (k : Int) : Option (Int ⊕ Int) :=
 (
 bif decide (k < (t.1.length : Int)) then
  (inb k t.1.length).bind fun i =>
  (t.1[i]?).bind fun x2 =>
  some (decide (x2.Prio ≥ x.Prio))
 else
  some false).bind fun q1 =>
 bif q1 then
 some (.inl (w64 (k + 1)))
 else
 some (.inr k)
def ff (s : State) (queue : List UInt8) (t : List App × Int) : Option ((List App × Int) ⊕ List App) :=
 bif decide (t.2 < (s.Apps.length : Int)) then
 (
  (idx s.Apps t.2).bind fun x =>
  (
  (aP x).bind fun x1 =>
  bif ! x1 then
   some true
  else
   some (! (x.Queue == queue))).bind fun q =>
  bif q then
  some t.1
  else
  (loop (fd t x) 0).bind fun k1 =>
  (inS 0 k1 t.1.length).bind fun p =>
  (app 200 [] (sub t.1 p.1 p.2)).bind fun l =>
  (app 200 l [x]).bind fun l1 =>
  (inS k1 (t.1.length : Int) t.1.length).bind fun p1 =>
  (app 200 l1 (sub t.1 p1.1 p1.2)).bind fun l2 =>
  some l2).bind fun out =>
 some (.inl (out, w64 (t.2 + 1)))
 else
 some (.inr t.1)
def eF (s : State) (queue : List UInt8) : Option (List Int) :=
 (loop (ff s queue) ([], 0)).bind fun out1 =>
 (loop (cz out1) ([], 0)).bind fun l4 =>
 some l4
def h199 : Hint := (.s .z (.s .z (.s (.s .z (.b (.l [(5, .v (.slice (.st 6)) [0]), (6, .v (.int .i64) [])] [5, 6, 7, 8, 9, 32, 46] [(2, [(5, .v (.slice (.st 6)) [0])])] (.s .z (.s (.j [5, 7, 8, 9, 32, 46] [(0, [(5, .v (.slice (.st 6)) [0])])] (.b (.s .z (.s (.s (.j [] [(0, [(32, .v .bool [])])] .z) .z) (.s .z (.s (.b (.l [(8, .v (.int .i64) [])] [8, 46] [(4, [(8, .v (.int .i64) [])])] (.s (.s (.j [] [(0, [(46, .v .bool [])])] .z) .z) .z))) .z)))))) .z))))) (.s .z (.s (.s .z (.b (.l [(10, .v (.slice (.int .i64)) [0]), (11, .v (.int .i64) [])] [10, 11] [(6, [(10, .v (.slice (.int .i64)) [0])])] .z))) .z)))))
def sp199 : Spec fam := ⟨[.v (.st 10) [], .v .str []], [.v (.slice (.int .i64)) [0]], fun a => eF a.1 a.2.1⟩
def gv (prio : Int) (t : List Ask × Int) : Option ((List Ask × Int) ⊕ List Ask) :=
 bif decide (t.2 < (t.1.length : Int)) then
 (
  (inb t.2 t.1.length).bind fun i =>
  (t.1[i]?).bind fun x =>
  bif x.Prio == prio then
  (inb t.2 t.1.length).bind fun i1 =>
  (t.1[i1]?).bind fun x1 =>
  (inb t.2 t.1.length).bind fun i2 =>
  (t.1[i2]?).bind fun x2 =>
  some (List.set t.1 i2 (⟨x2.Prio, x2.Label, ⟨x2.Size.Mem, x2.Size.Cores⟩, x2.Count, x2.Node, x2.Rack, imin (w64 (x1.Missed + 1)) 100⟩ : Ask))
  else
  some t.1).bind fun out =>
 some (.inl (out, w64 (t.2 + 1)))
 else
 some (.inr t.1)
def jf (l : List Ask) (prio : Int) : Option (List Ask) :=
 (app 64 [] l).bind fun l1 =>
 (loop (gv prio) (l1, 0)).bind fun out1 =>
 some out1
def h272 : Hint := (.s .z (.s .z (.s (.s .z (.b (.l [(5, .row (.st 5) false), (6, .v (.int .i64) [])] [5, 6] [(2, [(5, .row (.st 5) false)])] (.s .z (.s (.j [5] [(0, [(5, .row (.st 5) false)])] .z) .z))))) .z)))
def sp272 : Spec fam := ⟨[.v (.slice (.st 5)) [], .v (.int .i64) []], [.v (.slice (.st 5)) [0]], fun a => jf a.1 a.2.1⟩
def b7 (s : State) (app_ : Int) (prio : Int) (i : Int) : Option (Int ⊕ (Bool ⊕ Unit)) :=
 bif decide (i < (s.Slots.length : Int)) then
 (
  (idx s.Slots i).bind fun x =>
  bif x.App == app_ then
  (idx s.Slots i).bind fun x1 =>
  some (x1.Prio == prio)
  else
  some false).bind fun q =>
 bif q then
  some (.inr (.inl true))
 else
  some (.inl (w64 (i + 1)))
 else
 some (.inr (.inr ()))
def h_ (s : State) (app_ : Int) (prio : Int) : Option Bool :=
 (loop (b7 s app_ prio) 0).bind fun q0 =>
 match q0 with
 | .inl q1 =>
 some q1
 | .inr _ =>
 some false
def h273 : Hint := (.s .z (.s (.s .z (.b (.l [(7, .v (.int .i64) [])] [6, 7, 32] [(1, [(6, .v .bool [])]), (2, [])] (.s .z (.s (.b (.s (.j [] [(0, [(32, .v .bool [])])] .z) .z)) .z))))) .z))
def sp273 : Spec fam := ⟨[.v (.st 10) [], .v (.int .i64) [], .v (.int .i64) []], [.v .bool []], fun a => h_ a.1 a.2.1 a.2.2.1⟩
def fc (s : State) (x : Slot) (k : Int) : Option (Int ⊕ Int) :=
 (
 bif decide (k < (s.Slots.length : Int)) then
  (idx s.Slots k).bind fun x1 =>
  some (decide (x1.Node < x.Node))
 else
  some false).bind fun q =>
 bif q then
 some (.inl (w64 (k + 1)))
 else
 some (.inr k)
def iA (s : State) (x : Slot) : Option State :=
 (loop (fc s x) 0).bind fun k1 =>
 (slc s.Slots 0 k1).bind fun l =>
 (app 24 [] l).bind fun l1 =>
 (app 24 l1 [x]).bind fun l2 =>
 (slc s.Slots k1 (s.Slots.length : Int)).bind fun l3 =>
 (app 24 l2 l3).bind fun l4 =>
 some (⟨⟨s.Conf.Labels, s.Conf.Queues⟩, s.Nodes, s.Apps, s.Conts, l4, s.Plans, s.Now, s.Epoch, s.Seq⟩ : State)
def h274 : Hint := (.s .z (.s .z (.s (.b (.l [(5, .v (.int .i64) [])] [5, 22] [(2, [(5, .v (.int .i64) [])])] (.s (.s (.j [] [(0, [(22, .v .bool [])])] .z) .z) .z))) .z)))
def sp274 : Spec fam := ⟨[.v (.st 10) [], .v (.st 8) []], [.v (.st 10) [5]], fun a => iA a.1 a.2.1⟩
def bT (s : State) (n : Node) (a : App) (x : Ask) (first : Bool) : Option (State × Int × Cont) :=
 (fR s a.Queue x).bind fun is =>
 (
 (aT x n).bind fun x1 =>
 bif x1 == 4 then
  some true
 else
  (aO x.Size n.Cap).bind fun x2 =>
  bif ! x2 then
  some true
  else
  bif first then
   some (! is)
  else
   some false).bind fun q =>
 bif q then
 some (s, 0, (⟨0, 0, 0, ⟨0, 0⟩, 0, 0, false, 0⟩ : Cont))
 else
 (a5 x n).bind fun x3 =>
 bif ! x3 then
  (
  bif first == is then
   (jf a.Asks x.Prio).bind fun x4 =>
   (aL s (⟨a.Id, a.State, a.Queue, a.User, a.Prio, ⟨a.Master.Mem, a.Master.Cores⟩, x4, a.Seen, a.Beat, a.Grants, a.Kills, a.Told, a.Lost⟩ : App)).bind fun x5 =>
   some x5
  else
   some s).bind fun s1 =>
  some (s1, 0, (⟨0, 0, 0, ⟨0, 0⟩, 0, 0, false, 0⟩ : Cont))
 else
  (eN s a.Queue n.Label x.Size).bind fun x6 =>
  bif ! x6 then
  some (s, 0, (⟨0, 0, 0, ⟨0, 0⟩, 0, 0, false, 0⟩ : Cont))
  else
  (fY s n.Id).bind fun x7 =>
  (aO x.Size x7).bind fun x8 =>
  bif x8 then
   (dN s n a x).bind fun x9 =>
   some (x9.1, 1, x9.2)
  else
   (
   bif first then
    (h_ s a.Id x.Prio).bind fun x10 =>
    some (! x10)
   else
    some false).bind fun q1 =>
   bif q1 then
   (iA s (⟨n.Id, a.Id, x.Prio⟩ : Slot)).bind fun x11 =>
   some (x11, 2, (⟨0, 0, 0, ⟨0, 0⟩, 0, 0, false, 0⟩ : Cont))
   else
   some (s, 0, (⟨0, 0, 0, ⟨0, 0⟩, 0, 0, false, 0⟩ : Cont))
def h200 : Hint := (.s .z (.s .z (.s (.s (.j [] [(0, [(39, .v .bool [])])] .z) .z) (.s (.s .z (.c (.s (.j [5, 7] [(0, [(5, .box (.st 10) [])])] .z) .z) .z)) (.s .z (.s .z (.s (.s (.j [] [(0, [(97, .v .bool [])])] .z) .z) .z)))))))
def sp200 : Spec fam := ⟨[.v (.st 10) [], .v (.st 4) [], .v (.st 6) [], .v (.st 5) [], .v .bool []], [.v (.st 10) [], .v (.int .i64) [], .v (.st 7) []], fun a => bT a.1 a.2.1 a.2.2.1 a.2.2.2.1 a.2.2.2.2.1⟩
def aJ (n : Node) (first : Bool) (ids : List Int) (t1 : State × State × Cont × Int) (x2 : App × Bool) (t2 : State × State × Cont × Int) : Option ((State × State × Cont × Int) ⊕ ((State × Int × Cont) ⊕ (State × State × Cont))) :=
 bif decide (t2.2.2.2 < (x2.1.Asks.length : Int)) then
 (inb t1.2.2.2 ids.length).bind fun i3 =>
 (ids[i3]?).bind fun x5 =>
 (aC t2.1 x5).bind fun x6 =>
 (idx x2.1.Asks t2.2.2.2).bind fun x7 =>
 (bT t2.1 n x6.1 x7 first).bind fun x8 =>
 bif x8.2.1 != 0 then
  some (.inr (.inl (x8.1, x8.2.1, x8.2.2)))
 else
  some (.inl (x8.1, t2.2.1, t2.2.2.1, w64 (t2.2.2.2 + 1)))
 else
 some (.inr (.inr (t2.1, t2.2.1, t2.2.2.1)))
def aI (n : Node) (first : Bool) (leaves : List (List UInt8)) (t : State × State × Cont × Int) (ids : List Int) (t1 : State × State × Cont × Int) : Option ((State × State × Cont × Int) ⊕ ((State × Int × Cont) ⊕ (State × State × Cont))) :=
 bif decide (t1.2.2.2 < (ids.length : Int)) then
 (
  (inb t1.2.2.2 ids.length).bind fun i1 =>
  (ids[i1]?).bind fun x1 =>
  (aC t1.1 x1).bind fun x2 =>
  (inb t.2.2.2 leaves.length).bind fun i2 =>
  (leaves[i2]?).bind fun x3 =>
  (ce t1.1 x3 n.Label x2.1.User).bind fun x4 =>
  bif ! x4 then
  some (.inl (t1.1, t1.2.1, t1.2.2.1))
  else
  (loop (aJ n first ids t1 x2) (t1.1, t1.2.1, t1.2.2.1, 0)).bind fun q0 =>
  match q0 with
  | .inl q =>
   some (.inr (q.1, q.2.1, q.2.2))
  | .inr q1 =>
   some (.inl (q1.1, q1.2.1, q1.2.2)) : Option ((State × State × Cont) ⊕ (State × Int × Cont))).bind fun q0 =>
 match q0 with
 | .inl q2 =>
  some (.inl (q2.1, q2.2.1, q2.2.2, w64 (t1.2.2.2 + 1)))
 | .inr q3 =>
  some (.inr (.inl (q3.1, q3.2.1, q3.2.2)))
 else
 some (.inr (.inr (t1.1, t1.2.1, t1.2.2.1)))
def aM (n : Node) (first : Bool) (leaves : List (List UInt8)) (t : State × State × Cont × Int) : Option ((State × State × Cont × Int) ⊕ ((State × Int × Cont) ⊕ (State × State × Cont))) :=
 bif decide (t.2.2.2 < (leaves.length : Int)) then
 (inb t.2.2.2 leaves.length).bind fun i =>
 (leaves[i]?).bind fun x =>
 (eF t.1 x).bind fun ids =>
 (loop (aI n first leaves t ids) (t.1, t.2.1, t.2.2.1, 0)).bind fun q0 =>
 match q0 with
 | .inl q4 =>
  some (.inr (.inl (q4.1, q4.2.1, q4.2.2)))
 | .inr q5 =>
  some (.inl (q5.1, q5.2.1, q5.2.2, w64 (t.2.2.2 + 1)))
 else
 some (.inr (.inr (t.1, t.2.1, t.2.2.1)))
def aK (s : State) (n : Node) (first : Bool) : Option (State × Int × Cont) :=
 (gc s n.Label).bind fun leaves =>
 (loop (aM n first leaves) (s, (⟨⟨[], []⟩, [], [], [], [], [], 0, 0, 0⟩ : State), (⟨0, 0, 0, ⟨0, 0⟩, 0, 0, false, 0⟩ : Cont), 0)).bind fun q0 =>
 match q0 with
 | .inl q6 =>
 some (q6.1, q6.2.1, q6.2.2)
 | .inr q7 =>
 some (q7.1, 0, (⟨0, 0, 0, ⟨0, 0⟩, 0, 0, false, 0⟩ : Cont))
def h118 : Hint := (.s .z (.s .z (.s (.s .z (.b (.l [(3, .box (.st 10) []), (6, .box (.st 10) [0, 1, 2, 3, 4, 5, 6]), (8, .box (.st 7) []), (10, .v (.int .i64) [])] [3, 6, 7, 8, 10, 11, 12, 13, 14, 15, 16, 17, 18, 19, 20] [(1, [(6, .box (.st 10) []), (7, .v (.int .i64) []), (8, .box (.st 7) [])]), (2, [(3, .box (.st 10) []), (6, .box (.st 10) [0, 1, 2, 3, 4, 5, 6]), (8, .box (.st 7) [])])] (.s .z (.s (.b (.s .z (.s .z (.b (.l [(3, .box (.st 10) []), (6, .box (.st 10) [0, 1, 2, 3, 4, 5, 6]), (8, .box (.st 7) []), (12, .v (.int .i64) [])] [3, 6, 7, 8, 12, 13, 14, 15, 16, 17, 18, 19, 20] [(1, [(6, .box (.st 10) []), (7, .v (.int .i64) []), (8, .box (.st 7) [])]), (4, [(3, .box (.st 10) []), (6, .box (.st 10) [0, 1, 2, 3, 4, 5, 6]), (8, .box (.st 7) [])])] (.s .z (.s (.j [3, 6, 7, 8, 13, 14, 15, 16, 17, 18, 19, 20] [(0, [(3, .box (.st 10) []), (6, .box (.st 10) [0, 1, 2, 3, 4, 5, 6]), (8, .box (.st 7) [])]), (1, [(6, .box (.st 10) []), (7, .v (.int .i64) []), (8, .box (.st 7) [])])] (.b (.s .z (.s .z (.s .z (.b (.l [(3, .box (.st 10) []), (6, .box (.st 10) [0, 1, 2, 3, 4, 5, 6]), (8, .box (.st 7) []), (15, .v (.int .i64) [])] [3, 6, 7, 8, 15, 16, 17, 18, 19, 20] [(1, [(6, .box (.st 10) []), (7, .v (.int .i64) []), (8, .box (.st 7) [])]), (6, [(3, .box (.st 10) []), (6, .box (.st 10) [0, 1, 2, 3, 4, 5, 6]), (8, .box (.st 7) [])])] .z))))))) .z))))))) .z))))) .z)))
def sp118 : Spec fam := ⟨[.v (.st 10) [], .v (.st 4) [], .v .bool []], [.v (.st 10) [], .v (.int .i64) [], .v (.st 7) []], fun a => aK a.1 a.2.1 a.2.2.1⟩
def a6 (s : State) (node : Int) : Option (State × Int × Cont) :=
 (bf s node).bind fun x =>
 (
 bif ! x.2 then
  some true
 else
  bif ! x.1.Up then
  some true
  else
  bif decide ((s.Conts.length : Int) ≥ 200) then
   some true
  else
   some (decide (s.Seq ≥ 1048575))).bind fun q =>
 bif q then
 some (s, 0, (⟨0, 0, 0, ⟨0, 0⟩, 0, 0, false, 0⟩ : Cont))
 else
 (iB s node).bind fun x1 =>
 (
  bif x1.2 then
  (cF s x.1 x1.1).bind fun x2 =>
  bif x2.2.2.2 then
   some (.inr (x2.1, x2.2.1, x2.2.2.1))
  else
   some (.inl (x2.1, (⟨⟨[], []⟩, [], [], [], [], [], 0, 0, 0⟩ : State), (⟨0, 0, 0, ⟨0, 0⟩, 0, 0, false, 0⟩ : Cont)))
  else
  some (.inl (s, (⟨⟨[], []⟩, [], [], [], [], [], 0, 0, 0⟩ : State), (⟨0, 0, 0, ⟨0, 0⟩, 0, 0, false, 0⟩ : Cont))) : Option ((State × State × Cont) ⊕ (State × Int × Cont))).bind fun q0 =>
 match q0 with
 | .inl q1 =>
  (aK q1.1 x.1 true).bind fun x3 =>
  bif x3.2.1 != 0 then
  some (x3.1, x3.2.1, x3.2.2)
  else
  (aK x3.1 x.1 false).bind fun x4 =>
  some (x4.1, x4.2.1, x4.2.2)
 | .inr q2 =>
  some (q2.1, q2.2.1, q2.2.2)
def h54 : Hint := (.s .z (.s .z (.s (.s (.j [] [(0, [(40, .v .bool [])])] .z) .z) (.s .z (.s (.j [2, 4, 5, 6, 11, 12, 13, 14] [(0, [(2, .box (.st 10) []), (4, .box (.st 10) [0, 1, 2, 3, 4, 5, 6]), (6, .box (.st 7) [])]), (1, [(4, .box (.st 10) []), (5, .v (.int .i64) []), (6, .box (.st 7) [])])] .z) .z)))))
def sp54 : Spec fam := ⟨[.v (.st 10) [], .v (.int .i64) []], [.v (.st 10) [], .v (.int .i64) [], .v (.st 7) []], fun a => a6 a.1 a.2.1⟩
def bh (node : Int) (t : State × List Cont × Int) : Option ((State × List Cont × Int) ⊕ ((State × List Cont))) :=
 bif decide (t.2.2 < 3) then
 (a6 t.1 node).bind fun x =>
 bif x.2.1 != 1 then
  some (.inr (x.1, t.2.1))
 else
  (app 72 t.2.1 [x.2.2]).bind fun l =>
  some (.inl (x.1, l, w64 (t.2.2 + 1)))
 else
 some (.inr (t.1, t.2.1))
def cw (s : State) (node : Int) : Option (State × List Cont) :=
 (loop (bh node) (s, [], 0)).bind fun q =>
 some (q.1, q.2)
def h56 : Hint := (.s .z (.s .z (.s (.s .z (.b (.l [(2, .box (.st 10) []), (6, .v (.slice (.st 7)) [0]), (7, .v (.int .i64) [])] [2, 6, 7, 8, 9, 10] [(2, [(2, .box (.st 10) []), (6, .v (.slice (.st 7)) [0])])] .z))) .z)))
def sp56 : Spec fam := ⟨[.v (.st 10) [], .v (.int .i64) []], [.v (.st 10) [], .v (.slice (.st 7)) [0]], fun a => cw a.1 a.2.1⟩
def fe (s : State) (id_ : Int) (t : List Cont × Int) : Option ((List Cont × Int) ⊕ List Cont) :=
 bif decide (t.2 < (s.Conts.length : Int)) then
 (
  (idx s.Conts t.2).bind fun x =>
  bif x.Id != id_ then
  (idx s.Conts t.2).bind fun x1 =>
  (app 72 t.1 [x1]).bind fun l =>
  some l
  else
  some t.1).bind fun l1 =>
 some (.inl (l1, w64 (t.2 + 1)))
 else
 some (.inr t.1)
def cH (s : State) (id_ : Int) : Option State :=
 (loop (fe s id_) ([], 0)).bind fun l2 =>
 some (⟨⟨s.Conf.Labels, s.Conf.Queues⟩, s.Nodes, s.Apps, l2, s.Slots, s.Plans, s.Now, s.Epoch, s.Seq⟩ : State)
def h53 : Hint := (.s .z (.s .z (.s (.s .z (.b (.l [(5, .v (.slice (.st 7)) [0]), (6, .v (.int .i64) [])] [5, 6] [(2, [(5, .v (.slice (.st 7)) [0])])] (.s .z (.s (.j [5] [(0, [(5, .v (.slice (.st 7)) [0])])] .z) .z))))) .z)))
def sp53 : Spec fam := ⟨[.v (.st 10) [], .v (.int .i64) []], [.v (.st 10) [4]], fun a => cH a.1 a.2.1⟩
def e_ (s : State) (id_ : Int) (t1 : List Slot × Int) : Option ((List Slot × Int) ⊕ List Slot) :=
 bif decide (t1.2 < (s.Slots.length : Int)) then
 (
  (idx s.Slots t1.2).bind fun x3 =>
  bif x3.App != id_ then
  (idx s.Slots t1.2).bind fun x4 =>
  (app 24 t1.1 [x4]).bind fun l2 =>
  some l2
  else
  some t1.1).bind fun slots =>
 some (.inl (slots, w64 (t1.2 + 1)))
 else
 some (.inr t1.1)
def fm (s : State) (id_ : Int) (t : List Cont × List Int × Int) : Option ((List Cont × List Int × Int) ⊕ ((List Cont × List Int))) :=
 bif decide (t.2.2 < (s.Conts.length : Int)) then
 (
  (idx s.Conts t.2.2).bind fun x =>
  bif x.App == id_ then
  (idx s.Conts t.2.2).bind fun x1 =>
  (app 8 t.2.1 [x1.Id]).bind fun l =>
  some (t.1, l)
  else
  (idx s.Conts t.2.2).bind fun x2 =>
  (app 72 t.1 [x2]).bind fun l1 =>
  some (l1, t.2.1)).bind fun q =>
 some (.inl (q.1, q.2, w64 (t.2.2 + 1)))
 else
 some (.inr (t.1, t.2.1))
def cj (s : State) (id_ : Int) : Option (State × List Int) :=
 (loop (fm s id_) ([], [], 0)).bind fun q1 =>
 (loop (e_ s id_) ([], 0)).bind fun slots1 =>
 some ((⟨⟨s.Conf.Labels, s.Conf.Queues⟩, s.Nodes, s.Apps, q1.1, slots1, s.Plans, s.Now, s.Epoch, s.Seq⟩ : State), q1.2)
def h99 : Hint := (.s .z (.s .z (.s .z (.s .z (.s (.s .z (.b (.l [(6, .v (.slice (.st 7)) [0]), (8, .v (.slice (.int .i64)) [0]), (9, .v (.int .i64) [])] [6, 8, 9] [(2, [(6, .v (.slice (.st 7)) [0]), (8, .v (.slice (.int .i64)) [0])])] (.s .z (.s (.j [6, 8] [(0, [(6, .v (.slice (.st 7)) [0]), (8, .v (.slice (.int .i64)) [0])])] .z) .z))))) (.s (.s .z (.b (.l [(7, .v (.slice (.st 8)) [0]), (10, .v (.int .i64) [])] [7, 10] [(4, [(7, .v (.slice (.st 8)) [0])])] (.s .z (.s (.j [7] [(0, [(7, .v (.slice (.st 8)) [0])])] .z) .z))))) .z))))))
def sp99 : Spec fam := ⟨[.v (.st 10) [], .v (.int .i64) []], [.v (.st 10) [4, 5], .v (.slice (.int .i64)) [0]], fun a => cj a.1 a.2.1⟩
def da (l : List Int) (n : Int) (t : List Int × Int) : Option ((List Int × Int) ⊕ List Int) :=
 bif decide (t.2 < (l.length : Int)) then
 (
  (idx l t.2).bind fun x =>
  bif x != n then
  (idx l t.2).bind fun x1 =>
  (app 8 t.1 [x1]).bind fun l1 =>
  some l1
  else
  some t.1).bind fun out =>
 some (.inl (out, w64 (t.2 + 1)))
 else
 some (.inr t.1)
def bA (l : List Int) (n : Int) : Option (List Int × Bool) :=
 (loop (da l n) ([], 0)).bind fun out1 =>
 some (out1, decide ((out1.length : Int) < (l.length : Int)))
def h213 : Hint := (.s .z (.s .z (.s (.s .z (.b (.l [(6, .v (.slice (.int .i64)) [0]), (7, .v (.int .i64) [])] [6, 7] [(2, [(6, .v (.slice (.int .i64)) [0])])] (.s .z (.s (.j [6] [(0, [(6, .v (.slice (.int .i64)) [0])])] .z) .z))))) .z)))
def sp213 : Spec fam := ⟨[.v (.slice (.int .i64)) [], .v (.int .i64) []], [.v (.slice (.int .i64)) [0], .v .bool []], fun a => bA a.1 a.2.1⟩
def eU (ids : List Int) (t : State × Int) : Option ((State × Int) ⊕ State) :=
 bif decide (t.2 < (ids.length : Int)) then
 (
  (idx ids t.2).bind fun x =>
  (aW t.1 x).bind fun x1 =>
  bif ! x1.2 then
  some t.1
  else
  (aC t.1 x1.1.App).bind fun x2 =>
  bif x1.1.Master then
   (hC x2.1).bind fun x3 =>
   (aL t.1 (⟨x2.1.Id, 1, x2.1.Queue, x2.1.User, x2.1.Prio, ⟨x2.1.Master.Mem, x2.1.Master.Cores⟩, x3, t.1.Now, 0, [], [], [], []⟩ : App)).bind fun x4 =>
   (cj x4 x1.1.App).bind fun x5 =>
   some x5.1
  else
   (cH t.1 x1.1.Id).bind fun x6 =>
   (bA x2.1.Grants x1.1.Id).bind fun x7 =>
   (
   bif ! x7.2 then
    (app 8 [] x2.1.Kills).bind fun l =>
    (app 8 l [x1.1.Id]).bind fun l1 =>
    some (⟨x2.1.Id, x2.1.State, x2.1.Queue, x2.1.User, x2.1.Prio, ⟨x2.1.Master.Mem, x2.1.Master.Cores⟩, x2.1.Asks, x2.1.Seen, x2.1.Beat, x7.1, l1, x2.1.Told, x2.1.Lost⟩ : App)
   else
    some (⟨x2.1.Id, x2.1.State, x2.1.Queue, x2.1.User, x2.1.Prio, ⟨x2.1.Master.Mem, x2.1.Master.Cores⟩, x2.1.Asks, x2.1.Seen, x2.1.Beat, x7.1, x2.1.Kills, x2.1.Told, x2.1.Lost⟩ : App)).bind fun a =>
   (aL x6 a).bind fun x8 =>
   some x8).bind fun s1 =>
 some (.inl (s1, w64 (t.2 + 1)))
 else
 some (.inr t.1)
def bG (s : State) (ids : List Int) : Option State :=
 (loop (eU ids) (s, 0)).bind fun s2 =>
 some s2
def h165 : Hint := (.s .z (.s (.s .z (.b (.l [(2, .box (.st 10) []), (5, .v (.int .i64) [])] [2, 5, 6, 7, 8] [(2, [(2, .box (.st 10) [])])] (.s .z (.s (.j [2, 6, 7, 8] [(0, [(2, .box (.st 10) [])])] (.b (.s .z (.s .z (.s .z (.s .z (.s .z (.s .z (.s .z (.s (.j [8] [(0, [(8, .box (.st 6) [10])])] .z) .z)))))))))) .z))))) .z))
def sp165 : Spec fam := ⟨[.v (.st 10) [], .v (.slice (.int .i64)) []], [.v (.st 10) []], fun a => bG a.1 a.2.1⟩
def g9 (s : State) (node : Int) (t : List Int × Int) : Option ((List Int × Int) ⊕ List Int) :=
 bif decide (t.2 < (s.Conts.length : Int)) then
 (
  (idx s.Conts t.2).bind fun x =>
  bif x.Node == node then
  (idx s.Conts t.2).bind fun x1 =>
  (app 8 t.1 [x1.Id]).bind fun l =>
  some l
  else
  some t.1).bind fun l1 =>
 some (.inl (l1, w64 (t.2 + 1)))
 else
 some (.inr t.1)
def dY (s : State) (node : Int) : Option (List Int) :=
 (loop (g9 s node) ([], 0)).bind fun l2 =>
 some l2
def h208 : Hint := (.s .z (.s .z (.s (.s .z (.b (.l [(5, .v (.slice (.int .i64)) [0]), (6, .v (.int .i64) [])] [5, 6] [(2, [(5, .v (.slice (.int .i64)) [0])])] (.s .z (.s (.j [5] [(0, [(5, .v (.slice (.int .i64)) [0])])] .z) .z))))) .z)))
def sp208 : Spec fam := ⟨[.v (.st 10) [], .v (.int .i64) []], [.v (.slice (.int .i64)) [0]], fun a => dY a.1 a.2.1⟩
def ji (s : State) (id_ : Int) (beat : Int) : Option (State × Int) :=
 (bf s id_).bind fun x =>
 bif ! x.2 then
 some (s, 2)
 else
 bif ! x.1.Up then
  some (s, 18)
 else
  bif decide (beat < 0) then
  some (s, 15)
  else
  bif decide (beat < x.1.Beat) then
   some (s, 15)
  else
   bif decide ((w64 (beat - x.1.Beat)) > 1) then
   some (s, 1)
   else
   (b_ s (⟨x.1.Id, x.1.Label, x.1.Rack, ⟨x.1.Cap.Mem, x.1.Cap.Cores⟩, s.Now, beat, x.1.Up⟩ : Node)).bind fun x1 =>
   some (x1, 0)
def h209 : Hint := .z
def sp209 : Spec fam := ⟨[.v (.st 10) [], .v (.int .i64) [], .v (.int .i64) []], [.v (.st 10) [], .v (.int .i64) []], fun a => ji a.1 a.2.1 a.2.2.1⟩
def eY (x : Input) (x3 : State × Int) (t : List Int × Int) : Option ((List Int × Int) ⊕ List Int) :=
 bif decide (t.2 < (x.Ids.length : Int)) then
 (
  (idx x.Ids t.2).bind fun x5 =>
  (aW x3.1 x5).bind fun x6 =>
  (
  bif x6.2 then
   some (x6.1.Node == x.Id)
  else
   some false).bind fun q1 =>
  bif q1 then
  (app 8 t.1 [x6.1.Id]).bind fun l =>
  some l
  else
  some t.1).bind fun ids =>
 some (.inl (ids, w64 (t.2 + 1)))
 else
 some (.inr t.1)
def iK (s : State) (x : Input) : Option (State × Output) :=
 (bf s x.Id).bind fun x1 =>
 (
 bif x1.2 then
  bif x1.1.Up then
  some (x1.1.Beat == x.Beat)
  else
  some false
 else
  some false).bind fun q =>
 bif q then
 (dY s x.Id).bind fun x2 =>
 some (s, (⟨0, [], x2, [], 0⟩ : Output))
 else
 (ji s x.Id x.Beat).bind fun x3 =>
 bif x3.2 != 0 then
  (aD s x3.2).bind fun x4 =>
  some (x4.1, x4.2)
 else
  (loop (eY x x3) ([], 0)).bind fun ids1 =>
  (bG x3.1 ids1).bind fun x7 =>
  (cw x7 x.Id).bind fun x8 =>
  (dY x8.1 x.Id).bind fun x9 =>
  some (x8.1, (⟨0, [], x9, [], 0⟩ : Output))
def h126 : Hint := (.s .z (.s .z (.s (.s (.j [] [(0, [(32, .v .bool [])])] .z) .z) (.s .z (.s .z (.s .z (.s (.s .z (.b (.l [(10, .v (.slice (.int .i64)) [0]), (11, .v (.int .i64) [])] [10, 11, 12, 79] [(2, [(10, .v (.slice (.int .i64)) [0])])] (.s .z (.s (.j [10, 12, 79] [(0, [(10, .v (.slice (.int .i64)) [0])])] (.b (.s .z (.s (.j [] [(0, [(79, .v .bool [])])] .z) .z)))) .z))))) .z)))))))
def sp126 : Spec fam := ⟨[.v (.st 10) [], .v (.st 15) []], [.v (.st 10) [], .v (.st 13) [1, 2, 3]], fun a => iK a.1 a.2.1⟩
def eh (s : State) (ids : List Int) (t : List Cont × Int) : Option ((List Cont × Int) ⊕ List Cont) :=
 bif decide (t.2 < (ids.length : Int)) then
 (
  (idx ids t.2).bind fun x =>
  (aW s x).bind fun x1 =>
  bif x1.2 then
  (app 72 t.1 [x1.1]).bind fun l =>
  some l
  else
  some t.1).bind fun l1 =>
 some (.inl (l1, w64 (t.2 + 1)))
 else
 some (.inr t.1)
def dJ (s : State) (ids : List Int) : Option (List Cont) :=
 (loop (eh s ids) ([], 0)).bind fun l2 =>
 some l2
def h210 : Hint := (.s .z (.s .z (.s (.s .z (.b (.l [(5, .v (.slice (.st 7)) [0]), (6, .v (.int .i64) [])] [5, 6, 7] [(2, [(5, .v (.slice (.st 7)) [0])])] (.s .z (.s (.j [5, 7] [(0, [(5, .v (.slice (.st 7)) [0])])] .z) .z))))) .z)))
def sp210 : Spec fam := ⟨[.v (.st 10) [], .v (.slice (.int .i64)) []], [.v (.slice (.st 7)) [0]], fun a => dJ a.1 a.2.1⟩
def c8 (s : State) (app_ : Int) (t : List Int × Int) : Option ((List Int × Int) ⊕ List Int) :=
 bif decide (t.2 < (s.Conts.length : Int)) then
 (
  (
  (idx s.Conts t.2).bind fun x =>
  bif x.App == app_ then
   (idx s.Conts t.2).bind fun x1 =>
   some (x1.Notice != 0)
  else
   some false).bind fun q =>
  bif q then
  (idx s.Conts t.2).bind fun x2 =>
  (app 8 t.1 [x2.Id]).bind fun l =>
  some l
  else
  some t.1).bind fun l1 =>
 some (.inl (l1, w64 (t.2 + 1)))
 else
 some (.inr t.1)
def cD (s : State) (app_ : Int) : Option (List Int) :=
 (loop (c8 s app_) ([], 0)).bind fun l2 =>
 some l2
def h211 : Hint := (.s .z (.s .z (.s (.s .z (.b (.l [(5, .v (.slice (.int .i64)) [0]), (6, .v (.int .i64) [])] [5, 6, 30] [(2, [(5, .v (.slice (.int .i64)) [0])])] (.s .z (.s (.j [5, 30] [(0, [(5, .v (.slice (.int .i64)) [0])])] (.b (.s (.j [] [(0, [(30, .v .bool [])])] .z) .z))) .z))))) .z)))
def sp211 : Spec fam := ⟨[.v (.st 10) [], .v (.int .i64) []], [.v (.slice (.int .i64)) [0]], fun a => cD a.1 a.2.1⟩
def jk (n : Int) : Option Bool :=
 bif decide (n ≥ 1) then
 some (decide (n ≤ 1073741824))
 else
 some false
def h343 : Hint := .z
def sp343 : Spec fam := ⟨[.v (.int .i64) []], [.v .bool []], fun a => jk a.1⟩
def iJ (a : Ask) (labels : Int) : Option Int :=
 (
 bif decide (a.Prio < 0) then
  some true
 else
  bif decide (a.Prio > 9) then
  some true
  else
  bif decide (a.Label < 0) then
   some true
  else
   bif decide (a.Label ≥ labels) then
   some true
   else
   (jk a.Size.Mem).bind fun x =>
   bif ! x then
    some true
   else
    (jk a.Size.Cores).bind fun x1 =>
    bif ! x1 then
    some true
    else
    bif decide (a.Node < (-1)) then
     some true
    else
     bif decide (a.Node > 999) then
     some true
     else
     bif decide (a.Rack < (-1)) then
      some true
     else
      bif decide (a.Rack > 99) then
      some true
      else
      bif decide (a.Node ≥ 0) then
       some (decide (a.Rack < 0))
      else
       some false).bind fun q =>
 bif q then
 some 1
 else
 (
  bif decide (a.Count < 0) then
  some true
  else
  some (decide (a.Count > 50))).bind fun q1 =>
 bif q1 then
  some 4
 else
  some 0
def h295 : Hint := (.s .z (.s (.s (.j [] [(0, [(67, .v .bool [])])] .z) .z) (.s (.s (.j [] [(0, [(75, .v .bool [])])] .z) .z) .z)))
def sp295 : Spec fam := ⟨[.v (.st 5) [], .v (.int .i64) []], [.v (.int .i64) []], fun a => iJ a.1 a.2.1⟩
def g_ (l : List Ask) (a : Ask) (t : List Ask × Bool × Int) : Option ((List Ask × Bool × Int) ⊕ ((List Ask × Bool))) :=
 bif decide (t.2.2 < (l.length : Int)) then
 (
  (
  (
   bif ! t.2.1 then
   (idx l t.2.2).bind fun x =>
   some (decide (x.Prio > a.Prio))
   else
   some false).bind fun q =>
  bif q then
   (app 64 t.1 [(⟨a.Prio, a.Label, ⟨a.Size.Mem, a.Size.Cores⟩, a.Count, a.Node, a.Rack, 0⟩ : Ask)]).bind fun l1 =>
   some (l1, true)
  else
   some (t.1, t.2.1)).bind fun q1 =>
  (idx l t.2.2).bind fun x1 =>
  bif x1.Prio != a.Prio then
  (idx l t.2.2).bind fun x2 =>
  (app 64 q1.1 [x2]).bind fun l2 =>
  some (l2, q1.2)
  else
  some (q1.1, q1.2)).bind fun q2 =>
 some (.inl (q2.1, q2.2, w64 (t.2.2 + 1)))
 else
 some (.inr (t.1, t.2.1))
def jM (l : List Ask) (a : Ask) : Option (List Ask × Int) :=
 (loop (g_ l a) ([], a.Count == 0, 0)).bind fun q3 =>
 (
 bif ! q3.2 then
  (app 64 q3.1 [(⟨a.Prio, a.Label, ⟨a.Size.Mem, a.Size.Cores⟩, a.Count, a.Node, a.Rack, 0⟩ : Ask)]).bind fun l3 =>
  some l3
 else
  some q3.1).bind fun out =>
 bif decide ((out.length : Int) > 8) then
 some ([], 4)
 else
 some (out, 0)
def h296 : Hint := (.s .z (.s .z (.s .z (.s .z (.s (.s .z (.b (.l [(6, .v (.slice (.st 5)) [0]), (7, .v .bool []), (8, .v (.int .i64) [])] [6, 7, 8, 30] [(2, [(6, .v (.slice (.st 5)) [0]), (7, .v .bool [])])] (.s .z (.s (.j [6, 7, 30] [(0, [(6, .v (.slice (.st 5)) [0]), (7, .v .bool [])])] (.b (.s (.j [6, 7, 30] [(0, [(6, .v (.slice (.st 5)) [0]), (7, .v .bool [])])] (.s (.j [] [(0, [(30, .v .bool [])])] .z) .z)) .z))) .z))))) (.s (.j [6] [(0, [(6, .v (.slice (.st 5)) [0])])] .z) .z))))))
def sp296 : Spec fam := ⟨[.v (.slice (.st 5)) [], .v (.st 5) []], [.v (.slice (.st 5)) [0], .v (.int .i64) []], fun a => jM a.1 a.2.1⟩
def ef (s : State) (more : List Ask) (t : List Ask × Int) : Option ((List Ask × Int) ⊕ ((List Ask × Int) ⊕ List Ask)) :=
 bif decide (t.2 < (more.length : Int)) then
 (idx more t.2).bind fun x =>
 (iJ x (s.Conf.Labels.length : Int)).bind fun e =>
 bif e != 0 then
  some (.inr (.inl ([], e)))
 else
  (idx more t.2).bind fun x1 =>
  (jM t.1 x1).bind fun x2 =>
  bif x2.2 != 0 then
  some (.inr (.inl ([], x2.2)))
  else
  some (.inl (x2.1, w64 (t.2 + 1)))
 else
 some (.inr (.inr (t.1)))
def gY (s : State) (l : List Ask) (more : List Ask) : Option (List Ask × Int) :=
 (loop (ef s more) (l, 0)).bind fun q0 =>
 match q0 with
 | .inl q =>
 some (q.1, q.2)
 | .inr l1 =>
 some (l1, 0)
def h212 : Hint := (.s .z (.s (.s .z (.b (.l [(1, .v (.slice (.st 5)) []), (8, .v (.int .i64) [])] [1, 6, 7, 8, 9] [(1, [(6, .v (.slice (.st 5)) [0]), (7, .v (.int .i64) [])]), (2, [(1, .v (.slice (.st 5)) [])])] .z))) .z))
def sp212 : Spec fam := ⟨[.v (.st 10) [], .v (.slice (.st 5)) [], .v (.slice (.st 5)) []], [.v (.slice (.st 5)) [], .v (.int .i64) []], fun a => gY a.1 a.2.1 a.2.2.1⟩
def dt (x : Input) (t : State × App × Int) : Option ((State × App × Int) ⊕ ((State × App))) :=
 bif decide (t.2.2 < (x.Ids.length : Int)) then
 (
  (idx x.Ids t.2.2).bind fun x10 =>
  (aW t.1 x10).bind fun x11 =>
  (
  bif x11.2 then
   bif x11.1.App == t.2.1.Id then
   some (! x11.1.Master)
   else
   some false
  else
   some false).bind fun q =>
  bif q then
  (cH t.1 x11.1.Id).bind fun x12 =>
  (bA t.2.1.Grants x11.1.Id).bind fun x13 =>
  some (x12, (⟨t.2.1.Id, t.2.1.State, t.2.1.Queue, t.2.1.User, t.2.1.Prio, ⟨t.2.1.Master.Mem, t.2.1.Master.Cores⟩, t.2.1.Asks, t.2.1.Seen, t.2.1.Beat, x13.1, t.2.1.Kills, t.2.1.Told, t.2.1.Lost⟩ : App))
  else
  some (t.1, t.2.1)).bind fun q1 =>
 some (.inl (q1.1, q1.2, w64 (t.2.2 + 1)))
 else
 some (.inr (t.1, t.2.1))
def gw (s : State) (x : Input) : Option (State × Output) :=
 (aC s x.Id).bind fun x1 =>
 bif ! x1.2 then
 (aD s 2).bind fun x2 =>
 some (x2.1, x2.2)
 else
 bif x1.1.State != 2 then
  (aD s 14).bind fun x3 =>
  some (x3.1, x3.2)
 else
  bif decide (x.Beat < x1.1.Beat) then
  (aD s 15).bind fun x4 =>
  some (x4.1, x4.2)
  else
  bif x.Beat == x1.1.Beat then
   (dJ s x1.1.Told).bind fun x5 =>
   (cD s x1.1.Id).bind fun x6 =>
   (app 8 [] x1.1.Lost).bind fun l =>
   some (s, (⟨0, x5, x6, l, 0⟩ : Output))
  else
   bif decide ((w64 (x.Beat - 1)) > x1.1.Beat) then
   (aD s 1).bind fun x7 =>
   some (x7.1, x7.2)
   else
   (gY s x1.1.Asks x.Asks).bind fun x8 =>
   bif x8.2 != 0 then
    (aD s x8.2).bind fun x9 =>
    some (x9.1, x9.2)
   else
    (loop (dt x) (s, x1.1, 0)).bind fun q2 =>
    (dJ q2.1 q2.2.Grants).bind fun x14 =>
    (cD q2.1 q2.2.Id).bind fun x15 =>
    (app 8 [] q2.2.Kills).bind fun l1 =>
    (aL q2.1 (⟨q2.2.Id, q2.2.State, q2.2.Queue, q2.2.User, q2.2.Prio, ⟨q2.2.Master.Mem, q2.2.Master.Cores⟩, x8.1, q2.1.Now, x.Beat, [], [], q2.2.Grants, q2.2.Kills⟩ : App)).bind fun x16 =>
    some (x16, (⟨0, x14, x15, l1, 0⟩ : Output))
def h127 : Hint := (.s .z (.s .z (.s .z (.s .z (.s .z (.s (.s .z (.b (.l [(2, .box (.st 10) []), (6, .box (.st 6) []), (10, .v (.int .i64) [])] [2, 6, 10, 11, 12, 122] [(3, [(2, .box (.st 10) []), (6, .box (.st 6) [])])] (.s .z (.s (.j [2, 6, 11, 12, 122] [(0, [(2, .box (.st 10) []), (6, .box (.st 6) [])])] (.b (.s .z (.s (.j [] [(0, [(122, .v .bool [])])] .z) .z)))) .z))))) .z))))))
def sp127 : Spec fam := ⟨[.v (.st 10) [], .v (.st 15) []], [.v (.st 10) [], .v (.st 13) [1, 2, 3]], fun a => gw a.1 a.2.1⟩
def je (s : State) (id_ : Int) (state : Int) : Option (State × List Int) :=
 (aC s id_).bind fun x =>
 (
 bif ! x.2 then
  some true
 else
  (aP x.1).bind fun x1 =>
  some (! x1)).bind fun q =>
 bif q then
 some (s, [])
 else
 (aL s (⟨x.1.Id, state, x.1.Queue, x.1.User, x.1.Prio, ⟨x.1.Master.Mem, x.1.Master.Cores⟩, [], x.1.Seen, x.1.Beat, [], [], [], []⟩ : App)).bind fun x2 =>
 (cj x2 id_).bind fun x3 =>
 some (x3.1, x3.2)
def h38 : Hint := (.s .z (.s .z (.s (.s (.j [] [(0, [(22, .v .bool [])])] .z) .z) .z)))
def sp38 : Spec fam := ⟨[.v (.st 10) [], .v (.int .i64) [], .v (.int .i64) []], [.v (.st 10) [], .v (.slice (.int .i64)) [0]], fun a => je a.1 a.2.1 a.2.2.1⟩
def fS (s : State) (id_ : Int) (state : Int) : Option (State × Output) :=
 (aC s id_).bind fun x =>
 bif ! x.2 then
 (aD s 2).bind fun x1 =>
 some (x1.1, x1.2)
 else
 (aP x.1).bind fun x2 =>
 bif ! x2 then
  (aD s 14).bind fun x3 =>
  some (x3.1, x3.2)
 else
  (je s id_ state).bind fun x4 =>
  some (x4.1, (⟨0, [], [], x4.2, 0⟩ : Output))
def h128 : Hint := .z
def sp128 : Spec fam := ⟨[.v (.st 10) [], .v (.int .i64) [], .v (.int .i64) []], [.v (.st 10) [], .v (.st 13) [1, 2, 3]], fun a => fS a.1 a.2.1 a.2.2.1⟩
def dq (l : List Ask) (label : Int) (t : Vec × Int) : Option ((Vec × Int) ⊕ Vec) :=
 bif decide (t.2 < (l.length : Int)) then
 (
  (idx l t.2).bind fun x =>
  bif x.Label == label then
  (idx l t.2).bind fun x1 =>
  (idx l t.2).bind fun x2 =>
  (idx l t.2).bind fun x3 =>
  (idx l t.2).bind fun x4 =>
  (aw t.1 (⟨w64 (x1.Size.Mem * x2.Count), w64 (x3.Size.Cores * x4.Count)⟩ : Vec)).bind fun x5 =>
  some x5
  else
  some t.1).bind fun v =>
 some (.inl (v, w64 (t.2 + 1)))
 else
 some (.inr t.1)
def gD (l : List Ask) (label : Int) : Option Vec :=
 (loop (dq l label) ((⟨0, 0⟩ : Vec), 0)).bind fun v1 =>
 some v1
def h115 : Hint := (.s .z (.s .z (.s (.s .z (.b (.l [(5, .box (.st 0) []), (6, .v (.int .i64) [])] [5, 6] [(2, [(5, .box (.st 0) [])])] (.s .z (.s (.j [5] [(0, [(5, .box (.st 0) [])])] .z) .z))))) .z)))
def sp115 : Spec fam := ⟨[.v (.slice (.st 5)) [], .v (.int .i64) []], [.v (.st 0) []], fun a => gD a.1 a.2.1⟩
def cX (s : State) (path : List UInt8) (label : Int) (t : Vec × Int) : Option ((Vec × Int) ⊕ Vec) :=
 bif decide (t.2 < (s.Apps.length : Int)) then
 (
  (
  (idx s.Apps t.2).bind fun x =>
  (aP x).bind fun x1 =>
  bif x1 then
   (idx s.Apps t.2).bind fun x2 =>
   (dK x2.Queue path).bind fun x3 =>
   some x3
  else
   some false).bind fun q =>
  bif q then
  (idx s.Apps t.2).bind fun x4 =>
  (gD x4.Asks label).bind fun x5 =>
  (aw t.1 x5).bind fun x6 =>
  some x6
  else
  some t.1).bind fun v =>
 some (.inl (v, w64 (t.2 + 1)))
 else
 some (.inr t.1)
def ci (s : State) (path : List UInt8) (label : Int) : Option Vec :=
 (loop (cX s path label) ((⟨0, 0⟩ : Vec), 0)).bind fun v1 =>
 some v1
def h51 : Hint := (.s .z (.s .z (.s (.s .z (.b (.l [(7, .box (.st 0) []), (8, .v (.int .i64) [])] [7, 8, 32] [(2, [(7, .box (.st 0) [])])] (.s .z (.s (.j [7, 32] [(0, [(7, .box (.st 0) [])])] (.b (.s (.j [] [(0, [(32, .v .bool [])])] .z) .z))) .z))))) .z)))
def sp51 : Spec fam := ⟨[.v (.st 10) [], .v .str [], .v (.int .i64) []], [.v (.st 0) []], fun a => ci a.1 a.2.1 a.2.2.1⟩
def a_ (n : Int) : Option Int :=
 (
 bif decide (n < 0) then
  some true
 else
  some (decide (n > 1125899906842624))).bind fun q =>
 bif q then
 some 0
 else
 some n
def h304 : Hint := (.s .z (.s (.s (.j [] [(0, [(8, .v .bool [])])] .z) .z) .z))
def sp304 : Spec fam := ⟨[.v (.int .i64) []], [.v (.int .i64) []], fun a => a_ a.1⟩
def eu (want : List Int) (most : List Int) (n : Int) (t1 : Int × List Int × Int) : Option ((Int × List Int × Int) ⊕ List Int) :=
 bif decide (t1.2.2 < n) then
 (idx want t1.2.2).bind fun x7 =>
 (a_ x7).bind fun x8 =>
 (idx most t1.2.2).bind fun x9 =>
 (a_ x9).bind fun x10 =>
 (inb t1.2.2 t1.2.1.length).bind fun i =>
 (t1.2.1[i]?).bind fun x11 =>
 let x12 := imin (imax (w64 ((imin x8 x10) - x11)) 0) t1.1
 (inb t1.2.2 t1.2.1.length).bind fun i1 =>
 (t1.2.1[i1]?).bind fun x13 =>
 (inb t1.2.2 t1.2.1.length).bind fun i2 =>
 (t1.2.1[i2]?).bind fun x14 =>
 some (.inl (w64 (t1.1 - x12), List.set t1.2.1 i2 (w64 (x13 + x12)), w64 (t1.2.2 + 1)))
 else
 some (.inr t1.2.1)
def d4 (least : List Int) (want : List Int) (most : List Int) (n : Int) (t : Int × List Int × Int) : Option ((Int × List Int × Int) ⊕ ((Int × List Int))) :=
 bif decide (t.2.2 < n) then
 (idx least t.2.2).bind fun x =>
 (a_ x).bind fun x1 =>
 (idx want t.2.2).bind fun x2 =>
 (a_ x2).bind fun x3 =>
 (idx most t.2.2).bind fun x4 =>
 (a_ x4).bind fun x5 =>
 let x6 := imin (imin (imin x1 x3) x5) t.1
 (app 8 t.2.1 [x6]).bind fun l =>
 some (.inl (w64 (t.1 - x6), l, w64 (t.2.2 + 1)))
 else
 some (.inr (t.1, t.2.1))
def gX (total : Int) (least : List Int) (want : List Int) (most : List Int) : Option (List Int) :=
 let n := imin (imin (least.length : Int) (want.length : Int)) (most.length : Int)
 (a_ total).bind fun left =>
 (loop (d4 least want most n) (left, [], 0)).bind fun q =>
 (loop (eu want most n) (q.1, q.2, 0)).bind fun out =>
 some out
def h226 : Hint := (.s .z (.s .z (.s .z (.s .z (.s (.s .z (.b (.l [(10, .v (.int .i64) []), (11, .v (.slice (.int .i64)) [0]), (12, .v (.int .i64) [])] [10, 11, 12, 13] [(2, [(10, .v (.int .i64) []), (11, .v (.slice (.int .i64)) [0])])] .z))) (.s (.s .z (.b (.l [(10, .v (.int .i64) []), (11, .row (.int .i64) false), (14, .v (.int .i64) [])] [10, 11, 14, 15] [(4, [(11, .row (.int .i64) false)])] .z))) .z))))))
def sp226 : Spec fam := ⟨[.v (.int .i64) [], .v (.slice (.int .i64)) [], .v (.slice (.int .i64)) [], .v (.slice (.int .i64)) []], [.v (.slice (.int .i64)) [0]], fun a => gX a.1 a.2.1 a.2.2.1 a.2.2.2.1⟩
def dl (s : State) (label : Int) (self : State → (List UInt8) → Int → Int → Option (List Share)) (kids : List (List UInt8)) (x8 : List Int) (t1 : List Share × Int) : Option ((List Share × Int) ⊕ List Share) :=
 bif decide (t1.2 < (kids.length : Int)) then
 (inb t1.2 kids.length).bind fun i4 =>
 (kids[i4]?).bind fun x9 =>
 (inb t1.2 x8.length).bind fun i5 =>
 (x8[i5]?).bind fun x10 =>
 (self s x9 label x10).bind fun x11 =>
 (app 24 t1.1 x11).bind fun l3 =>
 some (.inl (l3, w64 (t1.2 + 1)))
 else
 some (.inr t1.1)
def dn (s : State) (label : Int) (kids : List (List UInt8)) (t : List Int × List Int × List Int × Int) : Option ((List Int × List Int × List Int × Int) ⊕ ((List Int × List Int × List Int))) :=
 bif decide (t.2.2.2 < (kids.length : Int)) then
 (inb t.2.2.2 kids.length).bind fun i =>
 (kids[i]?).bind fun x =>
 (a8 s x label).bind fun x1 =>
 (app 8 t.1 [x1.Mem]).bind fun l =>
 (inb t.2.2.2 kids.length).bind fun i1 =>
 (kids[i1]?).bind fun x2 =>
 (fV s x2 label).bind fun x3 =>
 (app 8 t.2.2.1 [x3.Mem]).bind fun l1 =>
 (inb t.2.2.2 kids.length).bind fun i2 =>
 (kids[i2]?).bind fun x4 =>
 (aQ s x4 label).bind fun x5 =>
 (inb t.2.2.2 kids.length).bind fun i3 =>
 (kids[i3]?).bind fun x6 =>
 (ci s x6 label).bind fun x7 =>
 (app 8 t.2.1 [w64 (x5.Mem + x7.Mem)]).bind fun l2 =>
 some (.inl (l, l2, l1, w64 (t.2.2.2 + 1)))
 else
 some (.inr (t.1, t.2.1, t.2.2.1))
def cW (self : State → (List UInt8) → Int → Int → Option (List Share)) (s : State) (path : List UInt8) (label : Int) (mem : Int) : Option (List Share) :=
 (bu s.Conf path).bind fun kids =>
 bif (kids.length : Int) == 0 then
 some [(⟨path, mem⟩ : Share)]
 else
 (loop (dn s label kids) ([], [], [], 0)).bind fun q =>
 (gX mem q.1 q.2.1 q.2.2).bind fun x8 =>
 (loop (dl s label self kids x8) ([], 0)).bind fun out =>
 some out
def bN : Nat → State → (List UInt8) → Int → Int → Option (List Share)
 | 0 => fun _ _ _ _ => none
 | n + 1 => cW (bN n)
def kC (a0 : State) (a1 : List UInt8) (a2 : Int) (a3 : Int) : Option (List Share) := bN 64 a0 a1 a2 a3
def h147 : Hint := (.s .z (.s .z (.s .z (.s .z (.s (.s .z (.b (.l [(10, .v (.slice (.int .i64)) [0]), (11, .v (.slice (.int .i64)) [0]), (12, .v (.slice (.int .i64)) [0]), (13, .v (.int .i64) [])] [10, 11, 12, 13] [(2, [(10, .v (.slice (.int .i64)) [0]), (11, .v (.slice (.int .i64)) [0]), (12, .v (.slice (.int .i64)) [0])])] .z))) (.s .z (.s .z (.s (.s .z (.b (.l [(15, .v (.slice (.st 16)) [0]), (16, .v (.int .i64) [])] [15, 16] [(4, [(15, .v (.slice (.st 16)) [0])])] .z))) .z))))))))
def sp147 : Spec fam := ⟨[.v (.st 10) [], .v .str [], .v (.int .i64) [], .v (.int .i64) []], [.v (.slice (.st 16)) [0]], fun a => kC a.1 a.2.1 a.2.2.1 a.2.2.2.1⟩
def Et (n : Nat) : Spec fam := ⟨[.v (.st 10) [], .v .str [], .v (.int .i64) [], .v (.int .i64) []], [.v (.slice (.st 16)) [0]], fun a => bN n a.1 a.2.1 a.2.2.1 a.2.2.2.1⟩
def dG (l : List Share) (t : List Share × Int) (k : Int) : Option (Int ⊕ Int) :=
 (
 bif decide (k < (t.1.length : Int)) then
  (inb k t.1.length).bind fun i =>
  (t.1[i]?).bind fun x1 =>
  (inb t.2 l.length).bind fun i1 =>
  (l[i1]?).bind fun x2 =>
  some (Op.bytesLess x1.Path x2.Path)
 else
  some false).bind fun q =>
 bif q then
 some (.inl (w64 (k + 1)))
 else
 some (.inr k)
def dB (l : List Share) (t : List Share × Int) : Option ((List Share × Int) ⊕ List Share) :=
 bif decide (t.2 < (l.length : Int)) then
 (loop (dG l t) 0).bind fun k1 =>
 (inS 0 k1 t.1.length).bind fun p =>
 (app 24 [] (sub t.1 p.1 p.2)).bind fun l1 =>
 (inb t.2 l.length).bind fun i2 =>
 (l[i2]?).bind fun x3 =>
 (app 24 l1 [x3]).bind fun l2 =>
 (inS k1 (t.1.length : Int) t.1.length).bind fun p1 =>
 (app 24 l2 (sub t.1 p1.1 p1.2)).bind fun l3 =>
 some (.inl (l3, w64 (t.2 + 1)))
 else
 some (.inr t.1)
def cR (s : State) (label : Int) : Option (List Share) :=
 (bj s label).bind fun x =>
 (kC s ([114, 111, 111, 116] : List UInt8) label x.Mem).bind fun l =>
 (loop (dB l) ([], 0)).bind fun out =>
 some out
def h74 : Hint := (.s .z (.s .z (.s .z (.s (.s .z (.b (.l [(5, .v (.slice (.st 16)) [0]), (7, .v (.int .i64) [])] [5, 7, 8, 39] [(2, [(5, .v (.slice (.st 16)) [0])])] (.s .z (.s (.b (.s .z (.s (.b (.l [(8, .v (.int .i64) [])] [8, 39] [(4, [(8, .v (.int .i64) [])])] (.s (.s (.j [] [(0, [(39, .v .bool [])])] .z) .z) .z))) .z))) .z))))) .z))))
def sp74 : Spec fam := ⟨[.v (.st 10) [], .v (.int .i64) []], [.v (.slice (.st 16)) [0]], fun a => cR a.1 a.2.1⟩
def ee (s : State) (path : List UInt8) (label : Int) (x : Vec) (x1 : Vec) (x2 : App) (k : Int) : Option (Int ⊕ (Int ⊕ Unit)) :=
 (
 bif decide (k < (x2.Asks.length : Int)) then
  (aP x2).bind fun x3 =>
  bif x3 then
  some (x2.Queue == path)
  else
  some false
 else
  some false).bind fun q =>
 bif q then
 (
  (idx x2.Asks k).bind fun x4 =>
  bif x4.Label == label then
  (idx x2.Asks k).bind fun x5 =>
  some (decide ((w64 (x5.Size.Mem + x.Mem)) ≤ x1.Mem))
  else
  some false).bind fun q1 =>
 bif q1 then
  (ci s path label).bind fun x6 =>
  some (.inr (.inl (imin x6.Mem (w64 (x1.Mem - x.Mem)))))
 else
  some (.inl (w64 (k + 1)))
 else
 some (.inr (.inr ()))
def d6 (s : State) (path : List UInt8) (label : Int) (x : Vec) (x1 : Vec) (i : Int) : Option (Int ⊕ (Int ⊕ Unit)) :=
 bif decide (i < (s.Apps.length : Int)) then
 (idx s.Apps i).bind fun x2 =>
 (loop (ee s path label x x1 x2) 0).bind fun q0 =>
 match q0 with
 | .inl q2 =>
  some (.inr (.inl q2))
 | .inr _ =>
  some (.inl (w64 (i + 1)))
 else
 some (.inr (.inr ()))
def ie (s : State) (path : List UInt8) (label : Int) : Option Int :=
 (aQ s path label).bind fun x =>
 (a8 s path label).bind fun x1 =>
 (loop (d6 s path label x x1) 0).bind fun q0 =>
 match q0 with
 | .inl q3 =>
 some q3
 | .inr _ =>
 some 0
def h76 : Hint := (.s .z (.s .z (.s (.s .z (.b (.l [(9, .v (.int .i64) [])] [6, 9, 10, 11, 48, 71] [(1, [(6, .v (.int .i64) [])]), (2, [])] (.s .z (.s (.b (.s .z (.s .z (.b (.l [(11, .v (.int .i64) [])] [6, 11, 48, 71] [(1, [(6, .v (.int .i64) [])]), (4, [])] (.s (.s (.j [] [(0, [(48, .v .bool [])])] .z) .z) (.s (.b (.s (.j [] [(0, [(71, .v .bool [])])] .z) .z)) .z))))))) .z))))) .z)))
def sp76 : Spec fam := ⟨[.v (.st 10) [], .v .str [], .v (.int .i64) []], [.v (.int .i64) []], fun a => ie a.1 a.2.1 a.2.2.1⟩
def bH (s : State) (c : Cont) : Option (List UInt8) :=
 (aC s c.App).bind fun x =>
 some x.1.Queue
def h148 : Hint := .z
def sp148 : Spec fam := ⟨[.v (.st 10) [], .v (.st 7) []], [.v .str []], fun a => bH a.1 a.2.1⟩
def dU (l : List Int) (n : Int) (i : Int) : Option (Int ⊕ (Bool ⊕ Unit)) :=
 bif decide (i < (l.length : Int)) then
 (idx l i).bind fun x =>
 bif x == n then
  some (.inr (.inl true))
 else
  some (.inl (w64 (i + 1)))
 else
 some (.inr (.inr ()))
def dX (l : List Int) (n : Int) : Option Bool :=
 (loop (dU l n) 0).bind fun q0 =>
 match q0 with
 | .inl q =>
 some q
 | .inr _ =>
 some false
def h149 : Hint := (.s .z (.s (.s .z (.b (.l [(5, .v (.int .i64) [])] [4, 5] [(1, [(4, .v .bool [])]), (2, [])] .z))) .z))
def sp149 : Spec fam := ⟨[.v (.slice (.int .i64)) [], .v (.int .i64) []], [.v .bool []], fun a => dX a.1 a.2.1⟩
def dm (s : State) (path : List UInt8) (label : Int) (l : List Int) (t : Int × Int) : Option ((Int × Int) ⊕ Int) :=
 bif decide (t.2 < (s.Conts.length : Int)) then
 (
  (idx s.Conts t.2).bind fun x =>
  (
  bif x.Label == label then
   bif path == ([] : List UInt8) then
   bif x.Notice != 0 then
    some true
   else
    (dX l x.Id).bind fun x1 =>
    some x1
   else
   (bH s x).bind fun x2 =>
   bif x2 == path then
    bif x.Notice != 0 then
    some true
    else
    (dX l x.Id).bind fun x3 =>
    some x3
   else
    some false
  else
   some false).bind fun q =>
  bif q then
  let n := w64 (t.1 + x.Size.Mem)
  some n
  else
  some t.1).bind fun n1 =>
 some (.inl (n1, w64 (t.2 + 1)))
 else
 some (.inr t.1)
def cP (s : State) (path : List UInt8) (label : Int) (l : List Int) : Option Int :=
 (loop (dm s path label l) (0, 0)).bind fun n2 =>
 some n2
def h77 : Hint := (.s .z (.s .z (.s (.s .z (.b (.l [(9, .v (.int .i64) []), (10, .v (.int .i64) [])] [9, 10, 11, 49] [(2, [(9, .v (.int .i64) [])])] (.s .z (.s (.j [9, 11, 49] [(0, [(9, .v (.int .i64) [])])] (.b (.s .z (.s (.j [] [(0, [(49, .v .bool [])])] .z) .z)))) .z))))) .z)))
def sp77 : Spec fam := ⟨[.v (.st 10) [], .v .str [], .v (.int .i64) [], .v (.slice (.int .i64)) []], [.v (.int .i64) []], fun a => cP a.1 a.2.1 a.2.2.1 a.2.2.2.1⟩
def dH (s : State) (path : List UInt8) (label : Int) (l : List Int) (t : Cont × Bool × Int) : Option ((Cont × Bool × Int) ⊕ ((Cont × Bool))) :=
 bif decide (t.2.2 < (s.Conts.length : Int)) then
 (
  (idx s.Conts t.2.2).bind fun x =>
  (
  bif x.Label != label then
   some true
  else
   (bH s x).bind fun x1 =>
   bif ! (x1 == path) then
   some true
   else
   bif x.Notice != 0 then
    some true
   else
    (dX l x.Id).bind fun x2 =>
    some x2).bind fun q =>
  bif q then
  some (t.1, t.2.1)
  else
  (
   bif ! t.2.1 then
   some true
   else
   bif t.1.Master then
    bif ! x.Master then
    some true
    else
    bif t.1.Master == x.Master then
     some (decide (x.Id > t.1.Id))
    else
     some false
   else
    bif t.1.Master == x.Master then
    some (decide (x.Id > t.1.Id))
    else
    some false).bind fun q1 =>
  bif q1 then
   some (x, true)
  else
   some (t.1, t.2.1)).bind fun q2 =>
 some (.inl (q2.1, q2.2, w64 (t.2.2 + 1)))
 else
 some (.inr (t.1, t.2.1))
def gK (s : State) (path : List UInt8) (label : Int) (l : List Int) : Option (Cont × Bool) :=
 (loop (dH s path label l) ((⟨0, 0, 0, ⟨0, 0⟩, 0, 0, false, 0⟩ : Cont), false, 0)).bind fun q3 =>
 some (q3.1, q3.2)
def h78 : Hint := (.s .z (.s .z (.s (.s .z (.b (.l [(10, .box (.st 7) []), (11, .v .bool []), (12, .v (.int .i64) [])] [10, 11, 12, 13, 48, 73] [(2, [(10, .box (.st 7) []), (11, .v .bool [])])] (.s .z (.s (.j [10, 11, 13, 48, 73] [(0, [(10, .box (.st 7) []), (11, .v .bool [])])] (.b (.s .z (.s (.s (.j [] [(0, [(48, .v .bool [])])] .z) .z) (.s (.j [] [(0, [(73, .v .bool [])])] .z) .z))))) .z))))) .z)))
def sp78 : Spec fam := ⟨[.v (.st 10) [], .v .str [], .v (.int .i64) [], .v (.slice (.int .i64)) []], [.v (.st 7) [], .v .bool []], fun a => gK a.1 a.2.1 a.2.2.1 a.2.2.2.1⟩
def fk (s : State) (label : Int) (shares : List Share) (l : List Int) (t1 : Int × Cont × Int) : Option ((Int × Cont × Int) ⊕ ((Int × Cont))) :=
 bif decide (t1.2.2 < (shares.length : Int)) then
 (
  (inb t1.2.2 shares.length).bind fun i1 =>
  (shares[i1]?).bind fun x5 =>
  (aQ s x5.Path label).bind fun x6 =>
  (inb t1.2.2 shares.length).bind fun i2 =>
  (shares[i2]?).bind fun x7 =>
  (cP s x5.Path label l).bind fun x8 =>
  let over := w64 ((w64 (x6.Mem - x7.Mem)) - x8)
  (gK s x5.Path label l).bind fun x9 =>
  (
  bif x9.2 then
   some (decide (over > t1.1))
  else
   some false).bind fun q =>
  bif q then
  some (over, x9.1)
  else
  some (t1.1, t1.2.1)).bind fun q1 =>
 some (.inl (q1.1, q1.2, w64 (t1.2.2 + 1)))
 else
 some (.inr (t1.1, t1.2.1))
def l_ (s : State) (label : Int) (shares : List Share) (need1 : Int) (l : List Int) : Option (List Int ⊕ (List Int ⊕ List Int)) :=
 (cP s ([] : List UInt8) label l).bind fun x4 =>
 bif decide (x4 < need1) then
 (loop (fk s label shares l) (0, (⟨0, 0, 0, ⟨0, 0⟩, 0, 0, false, 0⟩ : Cont), 0)).bind fun q2 =>
 bif q2.1 == 0 then
  some (.inr (.inl l))
 else
  (app 8 l [q2.2.Id]).bind fun l1 =>
  some (.inl l1)
 else
 some (.inr (.inr l))
def fA (s : State) (label : Int) (shares : List Share) (t : Int × Int) : Option ((Int × Int) ⊕ Int) :=
 bif decide (t.2 < (shares.length : Int)) then
 (inb t.2 shares.length).bind fun i =>
 (shares[i]?).bind fun x2 =>
 (ie s x2.Path label).bind fun x3 =>
 some (.inl (w64 (t.1 + x3), w64 (t.2 + 1)))
 else
 some (.inr t.1)
def ir (s : State) (label : Int) : Option (List Int) :=
 (cR s label).bind fun shares =>
 (bj s label).bind fun x =>
 (aQ s ([114, 111, 111, 116] : List UInt8) label).bind fun x1 =>
 let need := w64 (0 - (imax (w64 (x.Mem - x1.Mem)) 0))
 (loop (fA s label shares) (need, 0)).bind fun need1 =>
 (loop (l_ s label shares need1) []).bind fun q0 =>
 match q0 with
 | .inl q3 =>
 some q3
 | .inr l2 =>
 some l2
def h26 : Hint := (.s .z (.s .z (.s .z (.s (.s .z (.b (.l [(6, .v (.int .i64) []), (7, .v (.int .i64) [])] [6, 7] [(2, [(6, .v (.int .i64) [])])] .z))) (.s .z (.s (.b (.l [(8, .v (.slice (.int .i64)) [0])] [4, 8, 9, 10, 11, 12, 13, 14, 94] [(1, [(4, .v (.slice (.int .i64)) [0])]), (4, [(8, .v (.slice (.int .i64)) [0])])] (.s .z (.b (.s .z (.s (.s .z (.b (.l [(9, .v (.int .i64) []), (10, .box (.st 7) []), (11, .v (.int .i64) [])] [9, 10, 11, 12, 13, 14, 94] [(6, [(9, .v (.int .i64) []), (10, .box (.st 7) [])])] (.s .z (.s (.j [9, 10, 12, 13, 14, 94] [(0, [(9, .v (.int .i64) []), (10, .box (.st 7) [])])] (.b (.s .z (.s .z (.s .z (.s (.j [] [(0, [(94, .v .bool [])])] .z) .z)))))) .z))))) .z)))))) .z))))))
def sp26 : Spec fam := ⟨[.v (.st 10) [], .v (.int .i64) []], [.v (.slice (.int .i64)) [0]], fun a => ir a.1 a.2.1⟩
def gz (path : List UInt8) (l : List Share) (i : Int) : Option (Int ⊕ (Int ⊕ Unit)) :=
 bif decide (i < (l.length : Int)) then
 (inb i l.length).bind fun i1 =>
 (l[i1]?).bind fun x =>
 bif x.Path == path then
  (inb i l.length).bind fun i2 =>
  (l[i2]?).bind fun x1 =>
  some (.inr (.inl (x1.Mem)))
 else
  some (.inl (w64 (i + 1)))
 else
 some (.inr (.inr ()))
def iW (s : State) (label : Int) (path : List UInt8) : Option Int :=
 (cR s label).bind fun l =>
 (loop (gz path l) 0).bind fun q0 =>
 match q0 with
 | .inl q =>
 some q
 | .inr _ =>
 some 0
def h33 : Hint := (.s .z (.s .z (.s (.s .z (.b (.l [(8, .v (.int .i64) [])] [6, 8] [(1, [(6, .v (.int .i64) [])]), (2, [])] .z))) .z)))
def sp33 : Spec fam := ⟨[.v (.st 10) [], .v (.int .i64) [], .v .str []], [.v (.int .i64) []], fun a => iW a.1 a.2.1 a.2.2.1⟩
def fF (id_ : Int) (t : Int) (t1 : List Cont × Int) : Option ((List Cont × Int) ⊕ List Cont) :=
 bif decide (t1.2 < (t1.1.length : Int)) then
 (
  (inb t1.2 t1.1.length).bind fun i =>
  (t1.1[i]?).bind fun x =>
  bif x.Id == id_ then
  (inb t1.2 t1.1.length).bind fun i1 =>
  (t1.1[i1]?).bind fun x1 =>
  some (List.set t1.1 i1 (⟨x1.Id, x1.App, x1.Node, ⟨x1.Size.Mem, x1.Size.Cores⟩, x1.Prio, x1.Label, x1.Master, t⟩ : Cont))
  else
  some t1.1).bind fun l1 =>
 some (.inl (l1, w64 (t1.2 + 1)))
 else
 some (.inr t1.1)
def eK (s : State) (id_ : Int) (t : Int) : Option State :=
 (app 72 [] s.Conts).bind fun l =>
 (loop (fF id_ t) (l, 0)).bind fun l2 =>
 some (⟨⟨s.Conf.Labels, s.Conf.Queues⟩, s.Nodes, s.Apps, l2, s.Slots, s.Plans, s.Now, s.Epoch, s.Seq⟩ : State)
def h87 : Hint := (.s .z (.s .z (.s (.s .z (.b (.l [(7, .row (.st 7) false), (8, .v (.int .i64) [])] [7, 8] [(2, [(7, .row (.st 7) false)])] (.s .z (.s (.j [7] [(0, [(7, .row (.st 7) false)])] .z) .z))))) .z)))
def sp87 : Spec fam := ⟨[.v (.st 10) [], .v (.int .i64) [], .v (.int .i64) []], [.v (.st 10) [4]], fun a => eK a.1 a.2.1 a.2.2.1⟩
def dv (s : State) (c : Cont) (t : Int × Int) : Option ((Int × Int) ⊕ Int) :=
 (
 bif decide (t.2 < (s.Conts.length : Int)) then
  some c.Master
 else
  some false).bind fun q =>
 bif q then
 (
  (
  (idx s.Conts t.2).bind fun x =>
  bif x.App == c.App then
   (idx s.Conts t.2).bind fun x1 =>
   bif x1.Id != c.Id then
   (idx s.Conts t.2).bind fun x2 =>
   some (x2.Label == c.Label)
   else
   some false
  else
   some false).bind fun q1 =>
  bif q1 then
  (idx s.Conts t.2).bind fun x3 =>
  let n := w64 (t.1 + x3.Size.Mem)
  some n
  else
  some t.1).bind fun n1 =>
 some (.inl (n1, w64 (t.2 + 1)))
 else
 some (.inr t.1)
def go (s : State) (c : Cont) : Option Int :=
 (loop (dv s c) (0, 0)).bind fun n2 =>
 some n2
def h164 : Hint := (.s .z (.s .z (.s (.s .z (.b (.l [(5, .v (.int .i64) []), (6, .v (.int .i64) [])] [5, 6, 15, 48] [(2, [(5, .v (.int .i64) [])])] (.s (.s (.j [] [(0, [(15, .v .bool [])])] .z) .z) (.s (.j [5, 48] [(0, [(5, .v (.int .i64) [])])] (.b (.s (.j [] [(0, [(48, .v .bool [])])] .z) .z))) .z))))) .z)))
def sp164 : Spec fam := ⟨[.v (.st 10) [], .v (.st 7) []], [.v (.int .i64) []], fun a => go a.1 a.2.1⟩
def fg (label : Int) (l2 : List Cont) (t1 : State × Int) : Option ((State × Int) ⊕ State) :=
 bif decide (t1.2 < (l2.length : Int)) then
 (
  (inb t1.2 l2.length).bind fun i1 =>
  (l2[i1]?).bind fun x1 =>
  (aW t1.1 x1.Id).bind fun x2 =>
  bif ! x2.2 then
  some t1.1
  else
  (bH t1.1 x2.1).bind fun x3 =>
  (aQ t1.1 x3 label).bind fun x4 =>
  (go t1.1 x2.1).bind fun x5 =>
  (bH t1.1 x2.1).bind fun x6 =>
  (iW t1.1 label x6).bind fun x7 =>
  bif decide ((w64 (x4.Mem - x5)) > x7) then
   (bG t1.1 [x2.1.Id]).bind fun x8 =>
   some x8
  else
   (eK t1.1 x2.1.Id 0).bind fun x9 =>
   some x9).bind fun s1 =>
 some (.inl (s1, w64 (t1.2 + 1)))
 else
 some (.inr t1.1)
def lV (s : State) (label : Int) (t : List Cont × Int) : Option ((List Cont × Int) ⊕ List Cont) :=
 bif decide (t.2 ≥ 0) then
 (
  (idx s.Conts t.2).bind fun x =>
  (
  bif x.Label == label then
   bif x.Notice != 0 then
   some (decide ((w64 (x.Notice + 3)) ≤ s.Now))
   else
   some false
  else
   some false).bind fun q =>
  bif q then
  (app 72 t.1 [x]).bind fun l =>
  some l
  else
  some t.1).bind fun l1 =>
 some (.inl (l1, w64 (t.2 - 1)))
 else
 some (.inr t.1)
def iz (s : State) (label : Int) : Option State :=
 let i := w64 ((s.Conts.length : Int) - 1)
 (loop (lV s label) ([], i)).bind fun l2 =>
 (loop (fg label l2) (s, 0)).bind fun s2 =>
 some s2
def h86 : Hint := (.s .z (.s .z (.s (.s .z (.b (.l [(5, .v (.slice (.st 7)) [0]), (6, .v (.int .i64) [])] [5, 6, 7, 40] [(2, [(5, .v (.slice (.st 7)) [0])])] (.s .z (.s (.j [5, 7, 40] [(0, [(5, .v (.slice (.st 7)) [0])])] (.b (.s .z (.s (.j [] [(0, [(40, .v .bool [])])] .z) .z)))) .z))))) (.s (.s .z (.b (.l [(2, .box (.st 10) []), (8, .v (.int .i64) [])] [2, 8, 9] [(4, [(2, .box (.st 10) [])])] (.s .z (.s (.j [2, 9] [(0, [(2, .box (.st 10) [])])] .z) .z))))) .z))))
def sp86 : Spec fam := ⟨[.v (.st 10) [], .v (.int .i64) []], [.v (.st 10) []], fun a => iz a.1 a.2.1⟩
def eV (was : State) (now : State) (t : List Int × Int) : Option ((List Int × Int) ⊕ List Int) :=
 bif decide (t.2 < (was.Conts.length : Int)) then
 (
  (idx was.Conts t.2).bind fun x =>
  (aW now x.Id).bind fun x1 =>
  bif ! x1.2 then
  (idx was.Conts t.2).bind fun x2 =>
  (app 8 t.1 [x2.Id]).bind fun l =>
  some l
  else
  some t.1).bind fun l1 =>
 some (.inl (l1, w64 (t.2 + 1)))
 else
 some (.inr t.1)
def ez (was : State) (now : State) : Option (List Int) :=
 (loop (eV was now) ([], 0)).bind fun l2 =>
 some l2
def h88 : Hint := (.s .z (.s .z (.s (.s .z (.b (.l [(5, .v (.slice (.int .i64)) [0]), (6, .v (.int .i64) [])] [5, 6] [(2, [(5, .v (.slice (.int .i64)) [0])])] (.s .z (.s (.j [5] [(0, [(5, .v (.slice (.int .i64)) [0])])] .z) .z))))) .z)))
def sp88 : Spec fam := ⟨[.v (.st 10) [], .v (.st 10) []], [.v (.slice (.int .i64)) [0]], fun a => ez a.1 a.2.1⟩
def ek (l : List Int) (t1 : State × Int) : Option ((State × Int) ⊕ State) :=
 bif decide (t1.2 < (l.length : Int)) then
 (inb t1.2 l.length).bind fun i =>
 (l[i]?).bind fun x1 =>
 (eK t1.1 x1 (imax t1.1.Now 1)).bind fun x2 =>
 some (.inl (x2, w64 (t1.2 + 1)))
 else
 some (.inr t1.1)
def lr (t : State × Int) : Option ((State × Int) ⊕ State) :=
 bif decide (t.2 < (t.1.Conf.Labels.length : Int)) then
 (iz t.1 t.2).bind fun x =>
 (ir x t.2).bind fun l =>
 (loop (ek l) (x, 0)).bind fun s1 =>
 some (.inl (s1, w64 (t.2 + 1)))
 else
 some (.inr t.1)
def gZ (s : State) : Option (State × List Int) :=
 (loop lr (s, 0)).bind fun s2 =>
 (ez s s2).bind fun x3 =>
 some (s2, x3)
def h28 : Hint := (.s .z (.s .z (.s (.s .z (.b (.l [(1, .box (.st 10) []), (5, .v (.int .i64) [])] [1, 5, 6, 7] [(2, [(1, .box (.st 10) [])])] (.s .z (.s (.b (.s .z (.s .z (.s .z (.b (.l [(1, .box (.st 10) []), (7, .v (.int .i64) [])] [1, 7] [(4, [(1, .box (.st 10) [])])] .z)))))) .z))))) .z)))
def sp28 : Spec fam := ⟨[.v (.st 10) []], [.v (.st 10) [], .v (.slice (.int .i64)) [0]], fun a => gZ a.1⟩
def et (s : State) (t : List Int × Int) : Option ((List Int × Int) ⊕ List Int) :=
 bif decide (t.2 < (s.Nodes.length : Int)) then
 (
  (
  (idx s.Nodes t.2).bind fun x =>
  bif x.Up then
   (idx s.Nodes t.2).bind fun x1 =>
   some (decide ((w64 (s.Now - x1.Seen)) ≥ 10))
  else
   some false).bind fun q =>
  bif q then
  (idx s.Nodes t.2).bind fun x2 =>
  (app 8 t.1 [x2.Id]).bind fun l =>
  some l
  else
  some t.1).bind fun l1 =>
 some (.inl (l1, w64 (t.2 + 1)))
 else
 some (.inr t.1)
def hZ (s : State) : Option (List Int) :=
 (loop (et s) ([], 0)).bind fun l2 =>
 some l2
def h214 : Hint := (.s .z (.s .z (.s (.s .z (.b (.l [(3, .v (.slice (.int .i64)) [0]), (4, .v (.int .i64) [])] [3, 4, 29] [(2, [(3, .v (.slice (.int .i64)) [0])])] (.s .z (.s (.j [3, 29] [(0, [(3, .v (.slice (.int .i64)) [0])])] (.b (.s (.j [] [(0, [(29, .v .bool [])])] .z) .z))) .z))))) .z)))
def sp214 : Spec fam := ⟨[.v (.st 10) []], [.v (.slice (.int .i64)) [0]], fun a => hZ a.1⟩
def iZ (s : State) (id_ : Int) : Option State :=
 (bf s id_).bind fun x =>
 bif ! x.2 then
 some s
 else
 (b_ s (⟨x.1.Id, x.1.Label, x.1.Rack, ⟨x.1.Cap.Mem, x.1.Cap.Cores⟩, x.1.Seen, x.1.Beat, false⟩ : Node)).bind fun x1 =>
 some x1
def h215 : Hint := .z
def sp215 : Spec fam := ⟨[.v (.st 10) [], .v (.int .i64) []], [.v (.st 10) []], fun a => iZ a.1 a.2.1⟩
def dj (s : State) (t : List Int × Int) : Option ((List Int × Int) ⊕ List Int) :=
 bif decide (t.2 < (s.Apps.length : Int)) then
 (
  (
  (idx s.Apps t.2).bind fun x =>
  bif x.State == 2 then
   (idx s.Apps t.2).bind fun x1 =>
   some (decide ((w64 (s.Now - x1.Seen)) ≥ 15))
  else
   some false).bind fun q =>
  bif q then
  (idx s.Apps t.2).bind fun x2 =>
  (app 8 t.1 [x2.Id]).bind fun l =>
  some l
  else
  some t.1).bind fun l1 =>
 some (.inl (l1, w64 (t.2 + 1)))
 else
 some (.inr t.1)
def gE (s : State) : Option (List Int) :=
 (loop (dj s) ([], 0)).bind fun l2 =>
 some l2
def h216 : Hint := (.s .z (.s .z (.s (.s .z (.b (.l [(3, .v (.slice (.int .i64)) [0]), (4, .v (.int .i64) [])] [3, 4, 30] [(2, [(3, .v (.slice (.int .i64)) [0])])] (.s .z (.s (.j [3, 30] [(0, [(3, .v (.slice (.int .i64)) [0])])] (.b (.s (.j [] [(0, [(30, .v .bool [])])] .z) .z))) .z))))) .z)))
def sp216 : Spec fam := ⟨[.v (.st 10) []], [.v (.slice (.int .i64)) [0]], fun a => gE a.1⟩
def fw (s : State) (app_ : Int) (i : Int) : Option (Int ⊕ (Int ⊕ Unit)) :=
 bif decide (i < (s.Conts.length : Int)) then
 (
  (idx s.Conts i).bind fun x =>
  bif x.App == app_ then
  (idx s.Conts i).bind fun x1 =>
  some x1.Master
  else
  some false).bind fun q =>
 bif q then
  (idx s.Conts i).bind fun x2 =>
  some (.inr (.inl (x2.Id)))
 else
  some (.inl (w64 (i + 1)))
 else
 some (.inr (.inr ()))
def iw (s : State) (app_ : Int) : Option Int :=
 (loop (fw s app_) 0).bind fun q0 =>
 match q0 with
 | .inl q1 =>
 some q1
 | .inr _ =>
 some (-1)
def h217 : Hint := (.s .z (.s (.s .z (.b (.l [(5, .v (.int .i64) [])] [4, 5, 28] [(1, [(4, .v (.int .i64) [])]), (2, [])] (.s .z (.s (.b (.s (.j [] [(0, [(28, .v .bool [])])] .z) .z)) .z))))) .z))
def sp217 : Spec fam := ⟨[.v (.st 10) [], .v (.int .i64) []], [.v (.int .i64) []], fun a => iw a.1 a.2.1⟩
def fh (s2 : State) (t2 : List Plan × Int) : Option ((List Plan × Int) ⊕ List Plan) :=
 bif decide (t2.2 < (s2.Plans.length : Int)) then
 (
  (idx s2.Plans t2.2).bind fun x12 =>
  bif decide (x12.Until > s2.Now) then
  (idx s2.Plans t2.2).bind fun x13 =>
  (app 48 t2.1 [x13]).bind fun l2 =>
  some l2
  else
  some t2.1).bind fun ps =>
 some (.inl (ps, w64 (t2.2 + 1)))
 else
 some (.inr t2.1)
def fp (l1 : List Int) (t1 : State × Int) : Option ((State × Int) ⊕ State) :=
 bif decide (t1.2 < (l1.length : Int)) then
 (inb t1.2 l1.length).bind fun i3 =>
 (l1[i3]?).bind fun x9 =>
 (iw t1.1 x9).bind fun x10 =>
 (bG t1.1 [x10]).bind fun x11 =>
 some (.inl (x11, w64 (t1.2 + 1)))
 else
 some (.inr t1.1)
def fH (l : List Int) (t : State × Int) : Option ((State × Int) ⊕ State) :=
 bif decide (t.2 < (l.length : Int)) then
 (inb t.2 l.length).bind fun i =>
 (l[i]?).bind fun x2 =>
 (iZ t.1 x2).bind fun x3 =>
 (inb t.2 l.length).bind fun i1 =>
 (l[i1]?).bind fun x4 =>
 (bM x3 x4).bind fun x5 =>
 (inb t.2 l.length).bind fun i2 =>
 (l[i2]?).bind fun x6 =>
 (dY x5 x6).bind fun x7 =>
 (bG x5 x7).bind fun x8 =>
 some (.inl (x8, w64 (t.2 + 1)))
 else
 some (.inr t.1)
def iH (s : State) (n : Int) : Option (State × Output) :=
 (
 bif decide (n < 1) then
  some true
 else
  some (decide (n > 100))).bind fun q =>
 bif q then
 (aD s 1).bind fun x =>
 some (x.1, x.2)
 else
 bif decide ((w64 (s.Now + n)) > 1000000000) then
  (aD s 11).bind fun x1 =>
  some (x1.1, x1.2)
 else
  (hZ (⟨⟨s.Conf.Labels, s.Conf.Queues⟩, s.Nodes, s.Apps, s.Conts, s.Slots, s.Plans, w64 (s.Now + n), s.Epoch, s.Seq⟩ : State)).bind fun l =>
  (loop (fH l) ((⟨⟨s.Conf.Labels, s.Conf.Queues⟩, s.Nodes, s.Apps, s.Conts, s.Slots, s.Plans, w64 (s.Now + n), s.Epoch, s.Seq⟩ : State), 0)).bind fun s1 =>
  (gE s1).bind fun l1 =>
  (loop (fp l1) (s1, 0)).bind fun s2 =>
  (loop (fh s2) ([], 0)).bind fun ps1 =>
  (gZ (⟨⟨s2.Conf.Labels, s2.Conf.Queues⟩, s2.Nodes, s2.Apps, s2.Conts, s2.Slots, ps1, s2.Now, s2.Epoch, s2.Seq⟩ : State)).bind fun x14 =>
  (ez s x14.1).bind fun x15 =>
  some (x14.1, (⟨0, [], [], x15, 0⟩ : Output))
def h129 : Hint := (.s .z (.s (.s (.j [] [(0, [(17, .v .bool [])])] .z) .z) (.s .z (.s .z (.s .z (.s .z (.s (.s .z (.b (.l [(2, .box (.st 10) []), (8, .v (.int .i64) [])] [2, 8] [(2, [(2, .box (.st 10) [])])] .z))) (.s .z (.s (.s .z (.b (.l [(2, .box (.st 10) []), (9, .v (.int .i64) [])] [2, 9] [(4, [(2, .box (.st 10) [])])] .z))) (.s .z (.s (.s .z (.b (.l [(10, .v (.slice (.st 9)) [0]), (11, .v (.int .i64) [])] [10, 11] [(6, [(10, .v (.slice (.st 9)) [0])])] (.s .z (.s (.j [10] [(0, [(10, .v (.slice (.st 9)) [0])])] .z) .z))))) .z)))))))))))
def sp129 : Spec fam := ⟨[.v (.st 10) [], .v (.int .i64) []], [.v (.st 10) [], .v (.st 13) [1, 2, 3]], fun a => iH a.1 a.2.1⟩
def iy (n : Int) : Option Bool :=
 bif decide (n ≥ 0) then
 some (decide (n ≤ 1073741824))
 else
 some false
def h297 : Hint := .z
def sp297 : Spec fam := ⟨[.v (.int .i64) []], [.v .bool []], fun a => iy a.1⟩
def ia (l : List Plan) (label : Int) (t : Int) (t1 : Vec × Int) : Option ((Vec × Int) ⊕ Vec) :=
 bif decide (t1.2 < (l.length : Int)) then
 (
  (
  (idx l t1.2).bind fun x =>
  bif x.Label == label then
   (idx l t1.2).bind fun x1 =>
   bif decide (x1.From ≤ t) then
   (idx l t1.2).bind fun x2 =>
   some (decide (t < x2.Until))
   else
   some false
  else
   some false).bind fun q =>
  bif q then
  (idx l t1.2).bind fun x3 =>
  (aw t1.1 x3.Need).bind fun x4 =>
  some x4
  else
  some t1.1).bind fun v =>
 some (.inl (v, w64 (t1.2 + 1)))
 else
 some (.inr t1.1)
def gV (l : List Plan) (label : Int) (t : Int) : Option Vec :=
 (loop (ia l label t) ((⟨0, 0⟩ : Vec), 0)).bind fun v1 =>
 some v1
def h344 : Hint := (.s .z (.s .z (.s (.s .z (.b (.l [(7, .box (.st 0) []), (8, .v (.int .i64) [])] [7, 8, 40] [(2, [(7, .box (.st 0) [])])] (.s .z (.s (.j [7, 40] [(0, [(7, .box (.st 0) [])])] (.b (.s (.j [] [(0, [(40, .v .bool [])])] .z) .z))) .z))))) .z)))
def sp344 : Spec fam := ⟨[.v (.slice (.st 9)) [], .v (.int .i64) [], .v (.int .i64) []], [.v (.st 0) []], fun a => gV a.1 a.2.1 a.2.2.1⟩
def fy (l : List Plan) (total : Vec) (p : Plan) (t : Int) (long : Int) (i : Int) : Option (Int ⊕ (Bool ⊕ Unit)) :=
 bif decide (i < (l.length : Int)) then
 (idx l i).bind fun x3 =>
 (
  bif decide (x3.From > t) then
  bif decide ((w64 (x3.From - t)) < long) then
   (gV l p.Label x3.From).bind fun x4 =>
   (aw x4 p.Need).bind fun x5 =>
   (aO x5 total).bind fun x6 =>
   some (! x6)
  else
   some false
  else
  some false).bind fun q =>
 bif q then
  some (.inr (.inl false))
 else
  some (.inl (w64 (i + 1)))
 else
 some (.inr (.inr ()))
def eJ (l : List Plan) (total : Vec) (p : Plan) (t : Int) (long : Int) : Option Bool :=
 (gV l p.Label t).bind fun x =>
 (aw x p.Need).bind fun x1 =>
 (aO x1 total).bind fun x2 =>
 bif ! x2 then
 some false
 else
 (loop (fy l total p t long) 0).bind fun q0 =>
 match q0 with
 | .inl q1 =>
  some q1
 | .inr _ =>
  some true
def h298 : Hint := (.s .z (.s .z (.s (.s .z (.b (.l [(11, .v (.int .i64) [])] [10, 11, 57] [(1, [(10, .v .bool [])]), (2, [])] (.s .z (.s (.b (.s .z (.s (.j [] [(0, [(57, .v .bool [])])] .z) .z))) .z))))) .z)))
def sp298 : Spec fam := ⟨[.v (.slice (.st 9)) [], .v (.st 0) [], .v (.st 9) [], .v (.int .i64) [], .v (.int .i64) []], [.v .bool []], fun a => eJ a.1 a.2.1 a.2.2.1 a.2.2.2.1 a.2.2.2.2.1⟩
def lB (l : List Plan) (total : Vec) (p : Plan) (long : Int) (t : Int × Int) : Option ((Int × Int) ⊕ Int) :=
 bif decide (t.2 < (l.length : Int)) then
 (
  (
  bif decide (t.2 ≥ 0) then
   (idx l t.2).bind fun x2 =>
   some x2.Until
  else
   some p.From).bind fun t1 =>
  (
  bif decide (t1 ≥ p.From) then
   bif decide (t1 ≤ 1000000) then
   bif decide ((w64 (t1 + long)) ≤ p.Until) then
    bif decide (t.1 < 0) then
    (eJ l total p t1 long).bind fun x3 =>
    some x3
    else
    bif decide (t1 < t.1) then
     (eJ l total p t1 long).bind fun x4 =>
     some x4
    else
     some false
   else
    some false
   else
   some false
  else
   some false).bind fun q1 =>
  bif q1 then
  some t1
  else
  some t.1).bind fun best =>
 some (.inl (best, w64 (t.2 + 1)))
 else
 some (.inr t.1)
def hP (l : List Plan) (total : Vec) (p : Plan) (long : Int) : Option (Int × Int) :=
 (
 bif decide (long < 1) then
  some true
 else
  bif decide (long > 1000) then
  some true
  else
  bif decide (p.From < 0) then
   some true
  else
   bif decide (p.From > 1000000) then
   some true
   else
   bif decide (p.Until < 0) then
    some true
   else
    bif decide (p.Until > 1000000) then
    some true
    else
    (iy p.Need.Mem).bind fun x =>
    bif ! x then
     some true
    else
     (iy p.Need.Cores).bind fun x1 =>
     some (! x1)).bind fun q =>
 bif q then
 some (0, 1)
 else
 (loop (lB l total p long) ((-1), (-1))).bind fun best1 =>
 bif decide (best1 < 0) then
  some (0, 16)
 else
  some (best1, 0)
def h218 : Hint := (.s .z (.s (.s (.j [] [(0, [(52, .v .bool [])])] .z) .z) (.s .z (.s (.s .z (.b (.l [(10, .v (.int .i64) []), (11, .v (.int .i64) [])] [10, 11, 12, 100] [(2, [(10, .v (.int .i64) [])])] (.s .z (.s (.j [10, 12, 100] [(0, [(10, .v (.int .i64) [])])] (.b (.s .z (.s (.j [12] [(0, [(12, .v (.int .i64) [])])] .z) (.s (.j [] [(0, [(100, .v .bool [])])] .z) .z))))) .z))))) .z))))
def sp218 : Spec fam := ⟨[.v (.slice (.st 9)) [], .v (.st 0) [], .v (.st 9) [], .v (.int .i64) []], [.v (.int .i64) [], .v (.int .i64) []], fun a => hP a.1 a.2.1 a.2.2.1 a.2.2.2.1⟩
def gu (s : State) (p : Plan) (t : State × Int × Int) : Option ((State × Int × Int) ⊕ ((State × Int × Int) ⊕ (State × Int))) :=
 bif decide (t.2.2 < (s.Plans.length : Int)) then
 (
  (idx s.Plans t.2.2).bind fun x =>
  bif x.Id == p.Id then
  some (.inr (s, 0, 7))
  else
  (idx s.Plans t.2.2).bind fun x1 =>
  bif decide (x1.Id < p.Id) then
   some (.inl (t.1, w64 (t.2.2 + 1)))
  else
   some (.inl (t.1, t.2.1)) : Option ((State × Int) ⊕ (State × Int × Int))).bind fun q0 =>
 match q0 with
 | .inl q1 =>
  some (.inl (q1.1, q1.2, w64 (t.2.2 + 1)))
 | .inr q2 =>
  some (.inr (.inl (q2.1, q2.2.1, q2.2.2)))
 else
 some (.inr (.inr (t.1, t.2.1)))
def jd (s : State) (p : Plan) (long : Int) : Option (State × Int × Int) :=
 (
 bif decide (p.Id < 0) then
  some true
 else
  bif decide (p.Id > 999) then
  some true
  else
  bif decide (p.Label < 0) then
   some true
  else
   bif decide (p.Label ≥ (s.Conf.Labels.length : Int)) then
   some true
   else
   some ((p.Need.Mem == 0) && (p.Need.Cores == 0))).bind fun q =>
 bif q then
 some (s, 0, 1)
 else
 (loop (gu s p) ((⟨⟨[], []⟩, [], [], [], [], [], 0, 0, 0⟩ : State), 0, 0)).bind fun q0 =>
 match q0 with
 | .inl q3 =>
  some (q3.1, q3.2.1, q3.2.2)
 | .inr q4 =>
  bif decide ((s.Plans.length : Int) ≥ 12) then
  some (s, 0, 4)
  else
  bif decide (p.From < s.Now) then
   some (s, 0, 15)
  else
   (bj s p.Label).bind fun x2 =>
   (hP s.Plans x2 p long).bind fun x3 =>
   bif x3.2 != 0 then
   some (s, 0, x3.2)
   else
   (slc s.Plans 0 q4.2).bind fun l =>
   (app 48 [] l).bind fun l1 =>
   (app 48 l1 [(⟨p.Id, p.Label, x3.1, w64 (x3.1 + long), ⟨p.Need.Mem, p.Need.Cores⟩⟩ : Plan)]).bind fun l2 =>
   (slc s.Plans q4.2 (s.Plans.length : Int)).bind fun l3 =>
   (app 48 l2 l3).bind fun l4 =>
   some ((⟨⟨s.Conf.Labels, s.Conf.Queues⟩, s.Nodes, s.Apps, s.Conts, s.Slots, l4, s.Now, s.Epoch, s.Seq⟩ : State), x3.1, 0)
def h130 : Hint := (.s .z (.s (.s (.j [] [(0, [(41, .v .bool [])])] .z) .z) (.s .z (.s (.s .z (.b (.l [(6, .box (.st 10) [0, 1, 2, 3, 4, 5, 6]), (9, .v (.int .i64) []), (10, .v (.int .i64) [])] [6, 7, 8, 9, 10] [(1, [(6, .box (.st 10) []), (7, .v (.int .i64) []), (8, .v (.int .i64) [])]), (2, [(6, .box (.st 10) [0, 1, 2, 3, 4, 5, 6]), (9, .v (.int .i64) [])])] (.s .z (.s (.j [6, 7, 8, 9] [(0, [(6, .box (.st 10) [0, 1, 2, 3, 4, 5, 6]), (9, .v (.int .i64) [])]), (1, [(6, .box (.st 10) []), (7, .v (.int .i64) []), (8, .v (.int .i64) [])])] .z) .z))))) .z))))
def sp130 : Spec fam := ⟨[.v (.st 10) [], .v (.st 9) [], .v (.int .i64) []], [.v (.st 10) [], .v (.int .i64) [], .v (.int .i64) []], fun a => jd a.1 a.2.1 a.2.2.1⟩
def fu (s : State) (id_ : Int) (t : List Plan × Int) : Option ((List Plan × Int) ⊕ List Plan) :=
 bif decide (t.2 < (s.Plans.length : Int)) then
 (
  (idx s.Plans t.2).bind fun x =>
  bif x.Id != id_ then
  (idx s.Plans t.2).bind fun x1 =>
  (app 48 t.1 [x1]).bind fun l =>
  some l
  else
  some t.1).bind fun l1 =>
 some (.inl (l1, w64 (t.2 + 1)))
 else
 some (.inr t.1)
def iM (s : State) (id_ : Int) : Option (State × Int) :=
 (loop (fu s id_) ([], 0)).bind fun l2 =>
 bif (l2.length : Int) == (s.Plans.length : Int) then
 some (s, 2)
 else
 some ((⟨⟨s.Conf.Labels, s.Conf.Queues⟩, s.Nodes, s.Apps, s.Conts, s.Slots, l2, s.Now, s.Epoch, s.Seq⟩ : State), 0)
def h131 : Hint := (.s .z (.s .z (.s (.s .z (.b (.l [(6, .v (.slice (.st 9)) [0]), (7, .v (.int .i64) [])] [6, 7] [(2, [(6, .v (.slice (.st 9)) [0])])] (.s .z (.s (.j [6] [(0, [(6, .v (.slice (.st 9)) [0])])] .z) .z))))) .z)))
def sp131 : Spec fam := ⟨[.v (.st 10) [], .v (.int .i64) []], [.v (.st 10) [], .v (.int .i64) []], fun a => iM a.1 a.2.1⟩
def eD (s : State) (x : Input) : Option (State × Output) :=
 bif x.Kind == 1 then
 (gH s x.Text).bind fun x1 =>
 some (x1.1, x1.2)
 else
 bif x.Kind == 2 then
  (bg s x.Node).bind fun x2 =>
  some (x2.1, (⟨x2.2, [], [], [], 0⟩ : Output))
 else
  bif x.Kind == 3 then
  (iK s x).bind fun x3 =>
  some (x3.1, x3.2)
  else
  bif x.Kind == 4 then
   (bn s x.App).bind fun x4 =>
   some (x4.1, (⟨x4.2, [], [], [], 0⟩ : Output))
  else
   bif x.Kind == 5 then
   (gw s x).bind fun x5 =>
   some (x5.1, x5.2)
   else
   bif x.Kind == 6 then
    (fS s x.Id 3).bind fun x6 =>
    some (x6.1, x6.2)
   else
    bif x.Kind == 7 then
    (fS s x.Id 4).bind fun x7 =>
    some (x7.1, x7.2)
    else
    bif x.Kind == 8 then
     (iH s x.N).bind fun x8 =>
     some (x8.1, x8.2)
    else
     bif x.Kind == 9 then
     (jd s x.Plan x.N).bind fun x9 =>
     some (x9.1, (⟨x9.2.2, [], [], [], x9.2.1⟩ : Output))
     else
     bif x.Kind == 10 then
      (iM s x.Id).bind fun x10 =>
      some (x10.1, (⟨x10.2, [], [], [], 0⟩ : Output))
     else
      bif x.Kind == 11 then
      bif decide (s.Epoch ≥ 1048576) then
       (aD s 11).bind fun x11 =>
       some (x11.1, x11.2)
      else
       some ((⟨⟨s.Conf.Labels, s.Conf.Queues⟩, s.Nodes, s.Apps, s.Conts, s.Slots, s.Plans, s.Now, w64 (s.Epoch + 1), 0⟩ : State), (⟨0, [], [], [], 0⟩ : Output))
      else
      (aD s 3).bind fun x12 =>
      some (x12.1, x12.2)
def h60 : Hint := .z
def sp60 : Spec fam := ⟨[.v (.st 10) [], .v (.st 15) []], [.v (.st 10) [], .v (.st 13) [1, 2, 3]], fun a => eD a.1 a.2.1⟩
def bY (self : Int → Option (List UInt8)) (n : Int) : Option (List UInt8) :=
 bif decide (n < 0) then
 bif n == (-9223372036854775808) then
  some ([45, 57, 50, 50, 51, 51, 55, 50, 48, 51, 54, 56, 53, 52, 55, 55, 53, 56, 48, 56] : List UInt8)
 else
  (self (w64 (0 - n))).bind fun x =>
  (cat ([45] : List UInt8) x).bind fun s =>
  some s
 else
 bif decide (n ≥ 10) then
  (self (w64 (Int.tdiv n 10))).bind fun x1 =>
  (self (Int.tmod n 10)).bind fun x2 =>
  (cat x1 x2).bind fun s1 =>
  some s1
 else
  some (List.map toB [IntKind.u8.wrap (w64 (48 + n))])
def br : Nat → Int → Option (List UInt8)
 | 0 => fun _ => none
 | n + 1 => bY (br n)
def bK (a0 : Int) : Option (List UInt8) := br 64 a0
def h133 : Hint := .z
def sp133 : Spec fam := ⟨[.v (.int .i64) []], [.v .str []], fun a => bK a.1⟩
def E6 (n : Nat) : Spec fam := ⟨[.v (.int .i64) []], [.v .str []], fun a => br n a.1⟩
def gC (x1 : Queue) (t2 : List UInt8 × Int) : Option ((List UInt8 × Int) ⊕ List UInt8) :=
 bif decide (t2.2 < (x1.Caps.length : Int)) then
 (cat t2.1 ([32] : List UInt8)).bind fun s7 =>
 (idx x1.Caps t2.2).bind fun x3 =>
 (bK x3.Least).bind fun x4 =>
 (cat s7 x4).bind fun s8 =>
 (cat s8 ([47] : List UInt8)).bind fun s9 =>
 (idx x1.Caps t2.2).bind fun x5 =>
 (bK x5.Most).bind fun x6 =>
 (cat s9 x6).bind fun s10 =>
 some (.inl (s10, w64 (t2.2 + 1)))
 else
 some (.inr t2.1)
def gJ (c : Conf) (t1 : List UInt8 × Int) : Option ((List UInt8 × Int) ⊕ List UInt8) :=
 bif decide (t1.2 < (c.Queues.length : Int)) then
 (idx c.Queues t1.2).bind fun x1 =>
 (cat t1.1 ([113, 117, 101, 117, 101, 32] : List UInt8)).bind fun s3 =>
 (cat s3 x1.Path).bind fun s4 =>
 (cat s4 ([32] : List UInt8)).bind fun s5 =>
 (bK x1.User).bind fun x2 =>
 (cat s5 x2).bind fun s6 =>
 (loop (gC x1) (s6, 0)).bind fun out1 =>
 (cat out1 ([10] : List UInt8)).bind fun s11 =>
 some (.inl (s11, w64 (t1.2 + 1)))
 else
 some (.inr t1.1)
def mA (c : Conf) (t : List UInt8 × Int) : Option ((List UInt8 × Int) ⊕ List UInt8) :=
 bif decide (t.2 < (c.Labels.length : Int)) then
 (cat t.1 ([32] : List UInt8)).bind fun s =>
 (idx c.Labels t.2).bind fun x =>
 (cat s x).bind fun s1 =>
 some (.inl (s1, w64 (t.2 + 1)))
 else
 some (.inr t.1)
def fO (c : Conf) : Option (List UInt8) :=
 (loop (mA c) (([108, 97, 98, 101, 108, 115] : List UInt8), 1)).bind fun out =>
 (cat out ([10] : List UInt8)).bind fun s2 =>
 (loop (gJ c) (s2, 0)).bind fun out2 =>
 some out2
def h61 : Hint := (.s .z (.s .z (.s (.s .z (.b (.l [(3, .v .str []), (4, .v (.int .i64) [])] [3, 4] [(2, [(3, .v .str [])])] .z))) (.s .z (.s (.s .z (.b (.l [(3, .v .str []), (5, .v (.int .i64) [])] [3, 5, 6, 7] [(4, [(3, .v .str [])])] (.s .z (.s (.b (.s .z (.s .z (.s (.s .z (.b (.l [(3, .v .str []), (7, .v (.int .i64) [])] [3, 7] [(6, [(3, .v .str [])])] .z))) .z)))) .z))))) .z)))))
def sp61 : Spec fam := ⟨[.v (.st 3) []], [.v .str []], fun a => fO a.1⟩
def aS (at_ : Int) (n : Int) : Option Int :=
 (nz n).bind fun _ =>
 (
 bif decide ((Int.tmod at_ n) < 0) then
  let k := w64 ((Int.tmod at_ n) + n)
  some k
 else
  some (Int.tmod at_ n)).bind fun k1 =>
 some k1
def h134 : Hint := (.s .z (.s .z (.s (.j [5] [(0, [(5, .v (.int .i64) [])])] .z) .z)))
def sp134 : Spec fam := ⟨[.v (.int .i64) [], .v (.int .i64) []], [.v (.int .i64) []], fun a => aS a.1 a.2.1⟩
def bS (ns : List Int) (i : Int) : Option Int :=
 bif (ns.length : Int) == 0 then
 some i
 else
 (nz (ns.length : Int)).bind fun _ =>
 (idx ns (Int.tmod i (ns.length : Int))).bind fun x =>
 some x
def h136 : Hint := .z
def sp136 : Spec fam := ⟨[.v (.slice (.int .i64)) [], .v (.int .i64) []], [.v (.int .i64) []], fun a => bS a.1 a.2.1⟩
def db (kids : List (List UInt8)) (t3 : Conf × Int) (t4 : Conf × Int × Int) (n : Int) (x17 : Int) (t5 : Conf × Int) : Option ((Conf × Int) ⊕ Conf) :=
 bif decide (t5.2 < (t5.1.Queues.length : Int)) then
 (
  (inb t5.2 t5.1.Queues.length).bind fun i3 =>
  (t5.1.Queues[i3]?).bind fun x18 =>
  (inb t4.2.2 kids.length).bind fun i4 =>
  (kids[i4]?).bind fun x19 =>
  bif x18.Path == x19 then
  (inb t5.2 t5.1.Queues.length).bind fun i5 =>
  (t5.1.Queues[i5]?).bind fun x20 =>
  (t5.1.Queues[i5]?).bind fun x21 =>
  (inb t3.2 x21.Caps.length).bind fun i6 =>
  (t5.1.Queues[i5]?).bind fun x22 =>
  (x22.Caps[i6]?).bind fun y =>
  some (⟨t5.1.Labels, List.set t5.1.Queues i5 (⟨x22.Path, List.set x22.Caps i6 (⟨n, x17⟩ : Cap), x22.User⟩ : Queue)⟩ : Conf)
  else
  some t5.1).bind fun c1 =>
 some (.inl (c1, w64 (t5.2 + 1)))
 else
 some (.inr t5.1)
def c_ (ns : List Int) (t2 : Conf × Int) (kids : List (List UInt8)) (t3 : Conf × Int) (t4 : Conf × Int × Int) : Option ((Conf × Int × Int) ⊕ Conf) :=
 bif decide (t4.2.2 < (kids.length : Int)) then
 (
  bif decide (t4.2.2 < (w64 ((kids.length : Int) - 1))) then
  (bS ns (w64 ((w64 (t2.2 + t4.2.2)) + t3.2))).bind fun x8 =>
  (aS x8 (w64 (t4.2.1 + 1))).bind fun x9 =>
  (bS ns (w64 ((w64 (t2.2 * t4.2.2)) + t3.2))).bind fun x10 =>
  (aS x10 4).bind fun x11 =>
  (inb x11 [0, w64 (Int.tdiv t4.2.1 2), t4.2.1, x9].length).bind fun i1 =>
  ([0, w64 (Int.tdiv t4.2.1 2), t4.2.1, x9][i1]?).bind fun x12 =>
  some x12
  else
  some t4.2.1).bind fun n =>
 (bS ns (w64 (t4.2.2 + t3.2))).bind fun x13 =>
 (aS x13 (w64 ((w64 (10000 - n)) + 1))).bind fun x14 =>
 (bS ns (w64 (t2.2 + (w64 (2 * t4.2.2))))).bind fun x15 =>
 (aS x15 3).bind fun x16 =>
 (inb x16 [10000, n, w64 (n + x14)].length).bind fun i2 =>
 ([10000, n, w64 (n + x14)][i2]?).bind fun x17 =>
 (loop (db kids t3 t4 n x17) (t4.1, 0)).bind fun c2 =>
 some (.inl (c2, w64 (t4.2.1 - n), w64 (t4.2.2 + 1)))
 else
 some (.inr t4.1)
def gf (ns : List Int) (t2 : Conf × Int) (kids : List (List UInt8)) (t3 : Conf × Int) : Option ((Conf × Int) ⊕ Conf) :=
 bif decide (t3.2 < (t3.1.Labels.length : Int)) then
 (loop (c_ ns t2 kids t3) (t3.1, 10000, 0)).bind fun c3 =>
 some (.inl (c3, w64 (t3.2 + 1)))
 else
 some (.inr t3.1)
def cQ (ns : List Int) (x2 : List (List UInt8)) (t2 : Conf × Int) : Option ((Conf × Int) ⊕ Conf) :=
 bif decide (t2.2 < (x2.length : Int)) then
 (idx x2 t2.2).bind fun x7 =>
 (bu t2.1 x7).bind fun kids =>
 (loop (gf ns t2 kids) (t2.1, 0)).bind fun c4 =>
 some (.inl (c4, w64 (t2.2 + 1)))
 else
 some (.inr t2.1)
def gI (t : Conf × Int) (t1 : Queue × Int) : Option ((Queue × Int) ⊕ Queue) :=
 bif decide (t1.2 < (t.1.Labels.length : Int)) then
 (app 16 t1.1.Caps [(⟨10000, 10000⟩ : Cap)]).bind fun l =>
 some (.inl ((⟨t1.1.Path, l, t1.1.User⟩ : Queue), w64 (t1.2 + 1)))
 else
 some (.inr t1.1)
def c7 (ns : List Int) (x2 : List (List UInt8)) (t : Conf × Int) : Option ((Conf × Int) ⊕ Conf) :=
 bif decide (t.2 < (x2.length : Int)) then
 (idx x2 t.2).bind fun x3 =>
 (
  (
  bif decide (t.2 < (ns.length : Int)) then
   (idx ns t.2).bind fun x4 =>
   some ((Int.tmod x4 3) == 0)
  else
   some false).bind fun q =>
  bif q then
  (idx ns t.2).bind fun x5 =>
  (aS x5 20000).bind fun x6 =>
  some (⟨x3, [], w64 (1 + x6)⟩ : Queue)
  else
  some (⟨x3, [], 1000000⟩ : Queue)).bind fun q1 =>
 (loop (gI t) (q1, 0)).bind fun q2 =>
 (app 48 t.1.Queues [q2]).bind fun l1 =>
 some (.inl ((⟨t.1.Labels, l1⟩ : Conf), w64 (t.2 + 1)))
 else
 some (.inr t.1)
def fN (shape : Int) (ns : List Int) : Option Conf :=
 (aS (w64 (Int.tdiv shape 5)) 2).bind fun x =>
 (inS 0 (w64 (1 + x)) [([] : List UInt8), ([103, 112, 117] : List UInt8)].length).bind fun p =>
 (aS shape 5).bind fun x1 =>
 (inb x1 [[([114, 111, 111, 116] : List UInt8)], [([114, 111, 111, 116] : List UInt8), ([114, 111, 111, 116, 46, 97] : List UInt8), ([114, 111, 111, 116, 46, 98] : List UInt8)], [([114, 111, 111, 116] : List UInt8), ([114, 111, 111, 116, 46, 97] : List UInt8), ([114, 111, 111, 116, 46, 97, 46, 120] : List UInt8), ([114, 111, 111, 116, 46, 97, 46, 121] : List UInt8), ([114, 111, 111, 116, 46, 98] : List UInt8)], [([114, 111, 111, 116] : List UInt8), ([114, 111, 111, 116, 46, 97] : List UInt8), ([114, 111, 111, 116, 46, 98] : List UInt8), ([114, 111, 111, 116, 46, 98, 46, 120] : List UInt8), ([114, 111, 111, 116, 46, 98, 46, 120, 46, 112] : List UInt8), ([114, 111, 111, 116, 46, 98, 46, 120, 46, 113] : List UInt8), ([114, 111, 111, 116, 46, 99] : List UInt8)], [([114, 111, 111, 116] : List UInt8), ([114, 111, 111, 116, 46, 97] : List UInt8)]].length).bind fun i =>
 ([[([114, 111, 111, 116] : List UInt8)], [([114, 111, 111, 116] : List UInt8), ([114, 111, 111, 116, 46, 97] : List UInt8), ([114, 111, 111, 116, 46, 98] : List UInt8)], [([114, 111, 111, 116] : List UInt8), ([114, 111, 111, 116, 46, 97] : List UInt8), ([114, 111, 111, 116, 46, 97, 46, 120] : List UInt8), ([114, 111, 111, 116, 46, 97, 46, 121] : List UInt8), ([114, 111, 111, 116, 46, 98] : List UInt8)], [([114, 111, 111, 116] : List UInt8), ([114, 111, 111, 116, 46, 97] : List UInt8), ([114, 111, 111, 116, 46, 98] : List UInt8), ([114, 111, 111, 116, 46, 98, 46, 120] : List UInt8), ([114, 111, 111, 116, 46, 98, 46, 120, 46, 112] : List UInt8), ([114, 111, 111, 116, 46, 98, 46, 120, 46, 113] : List UInt8), ([114, 111, 111, 116, 46, 99] : List UInt8)], [([114, 111, 111, 116] : List UInt8), ([114, 111, 111, 116, 46, 97] : List UInt8)]][i]?).bind fun x2 =>
 (loop (c7 ns x2) ((⟨sub [([] : List UInt8), ([103, 112, 117] : List UInt8)] p.1 p.2, []⟩ : Conf), 0)).bind fun c =>
 (loop (cQ ns x2) (c, 0)).bind fun c5 =>
 some c5
def h62 : Hint := (.s .z (.s .z (.s .z (.s .z (.s (.s .z (.b (.l [(6, .box (.st 3) [1001]), (8, .v (.int .i64) [])] [6, 8, 9, 10, 59] [(2, [(6, .box (.st 3) [1001])])] (.s .z (.s (.b (.s .z (.s (.j [9, 59] [(0, [(9, .box (.st 2) [1])])] (.s (.j [] [(0, [(59, .v .bool [])])] .z) .z)) (.s (.s .z (.b (.l [(9, .box (.st 2) [1]), (10, .v (.int .i64) [])] [9, 10] [(4, [(9, .box (.st 2) [1])])] .z))) .z)))) .z))))) (.s (.s .z (.b (.l [(6, .box (.st 3) [1001]), (11, .v (.int .i64) [])] [6, 11, 12, 13, 14, 15, 16, 17, 18] [(6, [(6, .box (.st 3) [1001])])] (.s .z (.s (.b (.s .z (.s .z (.b (.l [(6, .box (.st 3) [1001]), (13, .v (.int .i64) [])] [6, 13, 14, 15, 16, 17, 18] [(8, [(6, .box (.st 3) [1001])])] (.s .z (.s (.b (.s .z (.s .z (.b (.l [(6, .box (.st 3) [1001]), (14, .v (.int .i64) []), (15, .v (.int .i64) [])] [6, 14, 15, 16, 17, 18] [(10, [(6, .box (.st 3) [1001])])] (.s .z (.s (.b (.s .z (.s (.j [16] [(0, [(16, .v (.int .i64) [])])] .z) (.s .z (.s .z (.s .z (.b (.l [(6, .box (.st 3) [1001]), (18, .v (.int .i64) [])] [6, 18] [(12, [(6, .box (.st 3) [1001])])] (.s .z (.s (.j [6] [(0, [(6, .box (.st 3) [1001])])] .z) .z)))))))))) .z))))))) .z))))))) .z))))) .z))))))
def sp62 : Spec fam := ⟨[.v (.int .i64) [], .v (.slice (.int .i64)) []], [.v (.st 3) [1001]], fun a => fN a.1 a.2.1⟩
def ej (c : Conf) (t : List (List UInt8) × Int) : Option ((List (List UInt8) × Int) ⊕ List (List UInt8)) :=
 bif decide (t.2 < (c.Queues.length : Int)) then
 (
  (idx c.Queues t.2).bind fun x =>
  (df c x.Path).bind fun x1 =>
  bif x1 then
  (idx c.Queues t.2).bind fun x2 =>
  (app 16 t.1 [x2.Path]).bind fun l =>
  some l
  else
  some t.1).bind fun l1 =>
 some (.inl (l1, w64 (t.2 + 1)))
 else
 some (.inr t.1)
def g7 (c : Conf) : Option (List (List UInt8)) :=
 (loop (ej c) ([], 0)).bind fun l2 =>
 some l2
def h18 : Hint := (.s .z (.s .z (.s (.s .z (.b (.l [(3, .v (.slice (.str)) [0]), (4, .v (.int .i64) [])] [3, 4] [(2, [(3, .v (.slice (.str)) [0])])] (.s .z (.s (.j [3] [(0, [(3, .v (.slice (.str)) [0])])] .z) .z))))) .z)))
def sp18 : Spec fam := ⟨[.v (.st 3) []], [.v (.slice (.str)) [0]], fun a => g7 a.1⟩
def am (at_ : Int) (n : Int) : Option Int :=
 (nz n).bind fun _ =>
 (
 bif decide ((Int.tmod at_ n) < 0) then
  let k := w64 ((Int.tmod at_ n) + n)
  some k
 else
  some (Int.tmod at_ n)).bind fun k1 =>
 some k1
def h137 : Hint := (.s .z (.s .z (.s (.j [5] [(0, [(5, .v (.int .i64) [])])] .z) .z)))
def sp137 : Spec fam := ⟨[.v (.int .i64) [], .v (.int .i64) []], [.v (.int .i64) []], fun a => am a.1 a.2.1⟩
def dd (n : Int) : Option Vec :=
 (am n 5).bind fun x =>
 (inb x [(⟨1, 1⟩ : Vec), (⟨2, 1⟩ : Vec), (⟨4, 4⟩ : Vec), (⟨3, 2⟩ : Vec), (⟨1, 3⟩ : Vec)].length).bind fun i =>
 ([(⟨1, 1⟩ : Vec), (⟨2, 1⟩ : Vec), (⟨4, 4⟩ : Vec), (⟨3, 2⟩ : Vec), (⟨1, 3⟩ : Vec)][i]?).bind fun x1 =>
 some x1
def h138 : Hint := .z
def sp138 : Spec fam := ⟨[.v (.int .i64) []], [.v (.st 0) []], fun a => dd a.1⟩
def b8 (a : Act) (s : State) (x1 : App) (t : Input × Int) : Option ((Input × Int) ⊕ Input) :=
 bif decide (t.2 < (s.Conts.length : Int)) then
 (
  (
  (idx s.Conts t.2).bind fun x11 =>
  bif x11.App == x1.Id then
   (am (w64 (a.D + t.2)) 11).bind fun x12 =>
   some (x12 == 10)
  else
   some false).bind fun q =>
  bif q then
  (idx s.Conts t.2).bind fun x13 =>
  (app 8 t.1.Ids [x13.Id]).bind fun l =>
  some (⟨t.1.Kind, t.1.Id, t.1.Beat, t.1.N, t.1.Text, ⟨t.1.Node.Id, t.1.Node.Label, t.1.Node.Rack, ⟨t.1.Node.Cap.Mem, t.1.Node.Cap.Cores⟩, t.1.Node.Seen, t.1.Node.Beat, t.1.Node.Up⟩, ⟨t.1.App.Id, t.1.App.State, t.1.App.Queue, t.1.App.User, t.1.App.Prio, ⟨t.1.App.Master.Mem, t.1.App.Master.Cores⟩, t.1.App.Asks, t.1.App.Seen, t.1.App.Beat, t.1.App.Grants, t.1.App.Kills, t.1.App.Told, t.1.App.Lost⟩, t.1.Asks, l, ⟨t.1.Plan.Id, t.1.Plan.Label, t.1.Plan.From, t.1.Plan.Until, ⟨t.1.Plan.Need.Mem, t.1.Plan.Need.Cores⟩⟩⟩ : Input)
  else
  some t.1).bind fun x14 =>
 some (.inl (x14, w64 (t.2 + 1)))
 else
 some (.inr t.1)
def dC (a : Act) (s : State) : Option Input :=
 bif (s.Apps.length : Int) == 0 then
 some (⟨5, 0, 0, 0, [], ⟨0, 0, 0, ⟨0, 0⟩, 0, 0, false⟩, ⟨0, 0, [], 0, 0, ⟨0, 0⟩, [], 0, 0, [], [], [], []⟩, [], [], ⟨0, 0, 0, 0, ⟨0, 0⟩⟩⟩ : Input)
 else
 (am a.A (s.Apps.length : Int)).bind fun x =>
 (idx s.Apps x).bind fun x1 =>
 (am a.B 8).bind fun x2 =>
 (
  bif decide ((Int.tmod a.C 3) > 0) then
  (am a.B 5).bind fun x3 =>
  (am a.C (s.Conf.Labels.length : Int)).bind fun x4 =>
  (dd a.D).bind fun x5 =>
  (am a.D 7).bind fun x6 =>
  (
   bif (Int.tmod a.D 4) == 1 then
   (am a.C 3).bind fun x7 =>
   some (⟨x3, x4, ⟨x5.Mem, x5.Cores⟩, x6, (-1), x7, 0⟩ : Ask)
   else
   some (⟨x3, x4, ⟨x5.Mem, x5.Cores⟩, x6, (-1), (-1), 0⟩ : Ask)).bind fun k =>
  (
   bif (Int.tmod a.D 4) == 2 then
   (am a.C 3).bind fun x8 =>
   (am a.B 6).bind fun x9 =>
   some (⟨k.Prio, k.Label, ⟨k.Size.Mem, k.Size.Cores⟩, k.Count, x9, x8, k.Missed⟩ : Ask)
   else
   some k).bind fun k1 =>
  some (⟨5, x1.Id, w64 ((w64 (x1.Beat + 1)) - (w64 (Int.tdiv x2 6))), 0, [], ⟨0, 0, 0, ⟨0, 0⟩, 0, 0, false⟩, ⟨0, 0, [], 0, 0, ⟨0, 0⟩, [], 0, 0, [], [], [], []⟩, [k1], [], ⟨0, 0, 0, 0, ⟨0, 0⟩⟩⟩ : Input)
  else
  some (⟨5, x1.Id, w64 ((w64 (x1.Beat + 1)) - (w64 (Int.tdiv x2 6))), 0, [], ⟨0, 0, 0, ⟨0, 0⟩, 0, 0, false⟩, ⟨0, 0, [], 0, 0, ⟨0, 0⟩, [], 0, 0, [], [], [], []⟩, [], [], ⟨0, 0, 0, 0, ⟨0, 0⟩⟩⟩ : Input)).bind fun x10 =>
 (loop (b8 a s x1) (x10, 0)).bind fun x15 =>
 some x15
def h139 : Hint := (.s .z (.s .z (.s .z (.s .z (.s .z (.s (.j [5, 7] [(0, [(5, .box (.st 15) [20, 23, 24, 25, 26, 27, 28])])] (.s .z (.c (.s .z (.s (.j [7] [(0, [(7, .box (.st 5) [])])] .z) (.s (.j [7] [(0, [(7, .box (.st 5) [])])] .z) .z))) .z))) (.s (.s .z (.b (.l [(5, .box (.st 15) [20, 23, 24, 25, 26, 27, 28]), (8, .v (.int .i64) [])] [5, 8, 104] [(2, [(5, .box (.st 15) [20, 23, 24, 25, 26, 27, 28])])] (.s .z (.s (.j [5, 104] [(0, [(5, .box (.st 15) [20, 23, 24, 25, 26, 27, 28])])] (.b (.s (.j [] [(0, [(104, .v .bool [])])] .z) .z))) .z))))) .z)))))))
def sp139 : Spec fam := ⟨[.v (.st 11) [], .v (.st 10) []], [.v (.st 15) [20, 23, 24, 25, 26, 27, 28]], fun a => dC a.1 a.2.1⟩
def cL (a : Act) (s : State) (id_ : Int) (t1 : Input × Int) : Option ((Input × Int) ⊕ Input) :=
 bif decide (t1.2 < (s.Conts.length : Int)) then
 (
  (
  (idx s.Conts t1.2).bind fun x11 =>
  bif x11.Node == id_ then
   (am (w64 (a.C + t1.2)) 9).bind fun x12 =>
   some (x12 == 8)
  else
   some false).bind fun q2 =>
  bif q2 then
  (idx s.Conts t1.2).bind fun x13 =>
  (app 8 t1.1.Ids [x13.Id]).bind fun l =>
  some (⟨t1.1.Kind, t1.1.Id, t1.1.Beat, t1.1.N, t1.1.Text, ⟨t1.1.Node.Id, t1.1.Node.Label, t1.1.Node.Rack, ⟨t1.1.Node.Cap.Mem, t1.1.Node.Cap.Cores⟩, t1.1.Node.Seen, t1.1.Node.Beat, t1.1.Node.Up⟩, ⟨t1.1.App.Id, t1.1.App.State, t1.1.App.Queue, t1.1.App.User, t1.1.App.Prio, ⟨t1.1.App.Master.Mem, t1.1.App.Master.Cores⟩, t1.1.App.Asks, t1.1.App.Seen, t1.1.App.Beat, t1.1.App.Grants, t1.1.App.Kills, t1.1.App.Told, t1.1.App.Lost⟩, t1.1.Asks, l, ⟨t1.1.Plan.Id, t1.1.Plan.Label, t1.1.Plan.From, t1.1.Plan.Until, ⟨t1.1.Plan.Need.Mem, t1.1.Plan.Need.Cores⟩⟩⟩ : Input)
  else
  some t1.1).bind fun x14 =>
 some (.inl (x14, w64 (t1.2 + 1)))
 else
 some (.inr t1.1)
def cJ (a : Act) (s : State) (id_ : Int) (t : Input × Int) : Option ((Input × Int) ⊕ Input) :=
 bif decide (t.2 < (s.Nodes.length : Int)) then
 (
  (idx s.Nodes t.2).bind fun x6 =>
  bif x6.Id == id_ then
  (idx s.Nodes t.2).bind fun x7 =>
  (am a.B 8).bind fun x8 =>
  some (⟨t.1.Kind, t.1.Id, w64 ((w64 (x7.Beat + 1)) - (w64 (Int.tdiv x8 6))), t.1.N, t.1.Text, ⟨t.1.Node.Id, t.1.Node.Label, t.1.Node.Rack, ⟨t.1.Node.Cap.Mem, t.1.Node.Cap.Cores⟩, t.1.Node.Seen, t.1.Node.Beat, t.1.Node.Up⟩, ⟨t.1.App.Id, t.1.App.State, t.1.App.Queue, t.1.App.User, t.1.App.Prio, ⟨t.1.App.Master.Mem, t.1.App.Master.Cores⟩, t.1.App.Asks, t.1.App.Seen, t.1.App.Beat, t.1.App.Grants, t.1.App.Kills, t.1.App.Told, t.1.App.Lost⟩, t.1.Asks, t.1.Ids, ⟨t.1.Plan.Id, t.1.Plan.Label, t.1.Plan.From, t.1.Plan.Until, ⟨t.1.Plan.Need.Mem, t.1.Plan.Need.Cores⟩⟩⟩ : Input)
  else
  some t.1).bind fun x9 =>
 some (.inl (x9, w64 (t.2 + 1)))
 else
 some (.inr t.1)
def d9 (a : Act) (s : State) : Option Input :=
 (am a.A 6).bind fun id_ =>
 (g7 s.Conf).bind fun leaves =>
 (am a.B 4).bind fun x =>
 (
 (am a.Kind 16).bind fun x1 =>
 (
  bif x1 == 0 then
  some (x1 == 0)
  else
  some (x1 == 1)).bind fun q =>
 bif q then
  (am a.B (s.Conf.Labels.length : Int)).bind fun x2 =>
  (am a.C 3).bind fun x3 =>
  (am a.D 12).bind fun x4 =>
  (am a.D 8).bind fun x5 =>
  some (⟨2, id_, 0, w64 (1 + x), [], ⟨id_, x2, x3, ⟨w64 (4 + x4), w64 (4 + x5)⟩, 0, 0, false⟩, ⟨0, 0, [], 0, 0, ⟨0, 0⟩, [], 0, 0, [], [], [], []⟩, [], [], ⟨0, 0, 0, 0, ⟨0, 0⟩⟩⟩ : Input)
 else
  (
  bif x1 == 2 then
   some (x1 == 2)
  else
   bif x1 == 3 then
   some (x1 == 3)
   else
   bif x1 == 4 then
    some (x1 == 4)
   else
    some (x1 == 5)).bind fun q1 =>
  bif q1 then
  (loop (cJ a s id_) ((⟨3, id_, 0, w64 (1 + x), [], ⟨0, 0, 0, ⟨0, 0⟩, 0, 0, false⟩, ⟨0, 0, [], 0, 0, ⟨0, 0⟩, [], 0, 0, [], [], [], []⟩, [], [], ⟨0, 0, 0, 0, ⟨0, 0⟩⟩⟩ : Input), 0)).bind fun x10 =>
  (loop (cL a s id_) (x10, 0)).bind fun x15 =>
  some x15
  else
  (
   bif x1 == 6 then
   some (x1 == 6)
   else
   some (x1 == 7)).bind fun q3 =>
  bif q3 then
   (am a.A 20).bind fun x16 =>
   (am a.B (leaves.length : Int)).bind fun x17 =>
   (inb x17 leaves.length).bind fun i =>
   (leaves[i]?).bind fun x18 =>
   (am a.C 3).bind fun x19 =>
   (am a.D 3).bind fun x20 =>
   (dd (w64 (Int.tdiv a.D 3))).bind fun x21 =>
   some (⟨4, id_, 0, w64 (1 + x), [], ⟨0, 0, 0, ⟨0, 0⟩, 0, 0, false⟩, ⟨x16, 0, x18, x19, x20, ⟨x21.Mem, x21.Cores⟩, [], 0, 0, [], [], [], []⟩, [], [], ⟨0, 0, 0, 0, ⟨0, 0⟩⟩⟩ : Input)
  else
   (
   bif x1 == 8 then
    some (x1 == 8)
   else
    bif x1 == 9 then
    some (x1 == 9)
    else
    some (x1 == 10)).bind fun q4 =>
   bif q4 then
   (dC a s).bind fun x22 =>
   some x22
   else
   bif x1 == 11 then
    (am a.B 2).bind fun x23 =>
    (inb x23 [6, 7].length).bind fun i1 =>
    ([6, 7][i1]?).bind fun x24 =>
    (am a.A 20).bind fun x25 =>
    some (⟨x24, x25, 0, w64 (1 + x), [], ⟨0, 0, 0, ⟨0, 0⟩, 0, 0, false⟩, ⟨0, 0, [], 0, 0, ⟨0, 0⟩, [], 0, 0, [], [], [], []⟩, [], [], ⟨0, 0, 0, 0, ⟨0, 0⟩⟩⟩ : Input)
   else
    (
    bif x1 == 12 then
     some (x1 == 12)
    else
     some (x1 == 13)).bind fun q5 =>
    bif q5 then
    (am a.A 5).bind fun x26 =>
    some (⟨8, id_, 0, w64 (1 + x26), [], ⟨0, 0, 0, ⟨0, 0⟩, 0, 0, false⟩, ⟨0, 0, [], 0, 0, ⟨0, 0⟩, [], 0, 0, [], [], [], []⟩, [], [], ⟨0, 0, 0, 0, ⟨0, 0⟩⟩⟩ : Input)
    else
    bif x1 == 14 then
     (am a.D 3).bind fun x27 =>
     (inb x27 [9, 9, 10].length).bind fun i2 =>
     ([9, 9, 10][i2]?).bind fun x28 =>
     (am a.B (s.Conf.Labels.length : Int)).bind fun x29 =>
     (am a.C 5).bind fun x30 =>
     (dd a.D).bind fun x31 =>
     (am a.C 12).bind fun x32 =>
     some (⟨x28, id_, 0, w64 (1 + x32), [], ⟨0, 0, 0, ⟨0, 0⟩, 0, 0, false⟩, ⟨0, 0, [], 0, 0, ⟨0, 0⟩, [], 0, 0, [], [], [], []⟩, [], [], ⟨id_, x29, w64 (s.Now + x30), w64 (s.Now + 20), ⟨x31.Mem, x31.Cores⟩⟩⟩ : Input)
    else
     bif x1 == 15 then
     (am a.A 3).bind fun x33 =>
     (inb x33 [11, 1, 1].length).bind fun i3 =>
     ([11, 1, 1][i3]?).bind fun x34 =>
     (fN a.B [a.C, a.D]).bind fun x35 =>
     (fO x35).bind fun x36 =>
     some (⟨x34, id_, 0, w64 (1 + x), x36, ⟨0, 0, 0, ⟨0, 0⟩, 0, 0, false⟩, ⟨0, 0, [], 0, 0, ⟨0, 0⟩, [], 0, 0, [], [], [], []⟩, [], [], ⟨0, 0, 0, 0, ⟨0, 0⟩⟩⟩ : Input)
     else
     some (⟨0, id_, 0, w64 (1 + x), [], ⟨0, 0, 0, ⟨0, 0⟩, 0, 0, false⟩, ⟨0, 0, [], 0, 0, ⟨0, 0⟩, [], 0, 0, [], [], [], []⟩, [], [], ⟨0, 0, 0, 0, ⟨0, 0⟩⟩⟩ : Input)).bind fun x37 =>
 some x37
def h63 : Hint := (.s .z (.s .z (.s .z (.s .z (.s (.j [8, 9, 10, 27, 28, 29, 30, 53, 109, 121, 148, 168] [(0, [(8, .box (.st 15) [20, 23, 24, 25, 26, 27, 28])])] (.s .z (.b (.s (.j [] [(0, [(30, .v .bool [])])] .z) (.c .z (.s (.j [] [(0, [(53, .v .bool [])])] .z) (.c (.s .z (.s (.s .z (.b (.l [(8, .box (.st 15) [20, 23, 24, 25, 26, 27, 28]), (9, .v (.int .i64) [])] [8, 9] [(3, [(8, .box (.st 15) [20, 23, 24, 25, 26, 27, 28])])] (.s .z (.s (.j [8] [(0, [(8, .box (.st 15) [20, 23, 24, 25, 26, 27, 28])])] .z) .z))))) (.s .z (.b (.l [(8, .box (.st 15) [20, 23, 24, 25, 26, 27, 28]), (10, .v (.int .i64) [])] [8, 10, 109] [(5, [(8, .box (.st 15) [20, 23, 24, 25, 26, 27, 28])])] (.s .z (.s (.j [8, 109] [(0, [(8, .box (.st 15) [20, 23, 24, 25, 26, 27, 28])])] (.b (.s (.j [] [(0, [(109, .v .bool [])])] .z) .z))) .z))))))) (.s (.j [] [(0, [(121, .v .bool [])])] .z) (.c .z (.s (.j [] [(0, [(148, .v .bool [])])] .z) (.c .z (.s .z (.c .z (.s (.j [] [(0, [(168, .v .bool [])])] .z) .z)))))))))))))) .z)))))
def sp63 : Spec fam := ⟨[.v (.st 11) [], .v (.st 10) []], [.v (.st 15) [20, 23, 24, 25, 26, 27, 28]], fun a => d9 a.1 a.2.1⟩
def bL (x : Script) (t : State × Int) : Option ((State × Int) ⊕ State) :=
 bif decide (t.2 < (x.Acts.length : Int)) then
 (idx x.Acts t.2).bind fun x5 =>
 (d9 x5 t.1).bind fun x6 =>
 (eD t.1 x6).bind fun x7 =>
 some (.inl (x7.1, w64 (t.2 + 1)))
 else
 some (.inr t.1)
def bz (x : Script) : Option State :=
 (jh).bind fun x1 =>
 (fN x.Shape x.Ns).bind fun x2 =>
 (fO x2).bind fun x3 =>
 (eD x1 (⟨1, 0, 0, 0, x3, ⟨0, 0, 0, ⟨0, 0⟩, 0, 0, false⟩, ⟨0, 0, [], 0, 0, ⟨0, 0⟩, [], 0, 0, [], [], [], []⟩, [], [], ⟨0, 0, 0, 0, ⟨0, 0⟩⟩⟩ : Input)).bind fun x4 =>
 (
 bif x4.2.Err == 0 then
  some x4.1
 else
  some x1).bind fun s =>
 (loop (bL x) (s, 0)).bind fun s1 =>
 some s1
def h17 : Hint := (.s .z (.s .z (.s .z (.s (.j [3] [(0, [(3, .box (.st 10) [])])] .z) (.s (.s .z (.b (.l [(3, .box (.st 10) []), (6, .v (.int .i64) [])] [3, 6] [(2, [(3, .box (.st 10) [])])] .z))) .z)))))
def sp17 : Spec fam := ⟨[.v (.st 12) []], [.v (.st 10) []], fun a => bz a.1⟩
def gF (x2 : Queue) (x3 : Queue) (k : Int) : Option (Int ⊕ (Bool ⊕ Unit)) :=
 bif decide (k < (x2.Caps.length : Int)) then
 (idx x2.Caps k).bind fun x4 =>
 (idx x3.Caps k).bind fun x5 =>
 bif ! ((x4.Least == x5.Least) && (x4.Most == x5.Most)) then
  some (.inr (.inl false))
 else
  some (.inl (w64 (k + 1)))
 else
 some (.inr (.inr ()))
def gj (a : Conf) (b : Conf) (i1 : Int) : Option (Int ⊕ (Bool ⊕ Unit)) :=
 bif decide (i1 < (a.Queues.length : Int)) then
 (idx a.Queues i1).bind fun x2 =>
 (idx b.Queues i1).bind fun x3 =>
 (
  bif ! (x2.Path == x3.Path) then
  some true
  else
  bif x2.User != x3.User then
   some true
  else
   some ((x2.Caps.length : Int) != (x3.Caps.length : Int))).bind fun q2 =>
 bif q2 then
  some (.inr (.inl false))
 else
  (loop (gF x2 x3) 0).bind fun q0 =>
  match q0 with
  | .inl q3 =>
  some (.inr (.inl q3))
  | .inr _ =>
  some (.inl (w64 (i1 + 1)))
 else
 some (.inr (.inr ()))
def gm (a : Conf) (b : Conf) (i : Int) : Option (Int ⊕ (Bool ⊕ Unit)) :=
 bif decide (i < (a.Labels.length : Int)) then
 (idx a.Labels i).bind fun x =>
 (idx b.Labels i).bind fun x1 =>
 bif ! (x == x1) then
  some (.inr (.inl false))
 else
  some (.inl (w64 (i + 1)))
 else
 some (.inr (.inr ()))
def iU (a : Conf) (b : Conf) : Option Bool :=
 (
 bif (a.Labels.length : Int) != (b.Labels.length : Int) then
  some true
 else
  some ((a.Queues.length : Int) != (b.Queues.length : Int))).bind fun q =>
 bif q then
 some false
 else
 (loop (gm a b) 0).bind fun q0 =>
 match q0 with
 | .inl q1 =>
  some q1
 | .inr _ =>
  (loop (gj a b) 0).bind fun q0 =>
  match q0 with
  | .inl q4 =>
  some q4
  | .inr _ =>
  some true
def h89 : Hint := (.s .z (.s (.s (.j [] [(0, [(25, .v .bool [])])] .z) .z) (.s (.s .z (.b (.l [(5, .v (.int .i64) [])] [4, 5] [(1, [(4, .v .bool [])]), (2, [])] .z))) (.s (.s .z (.b (.l [(6, .v (.int .i64) [])] [4, 6, 7, 8, 9, 81] [(1, [(4, .v .bool [])]), (4, [])] (.s .z (.s (.b (.s .z (.s (.s (.j [] [(0, [(81, .v .bool [])])] .z) .z) (.s .z (.b (.l [(9, .v (.int .i64) [])] [4, 9] [(1, [(4, .v .bool [])]), (6, [])] .z)))))) .z))))) .z))))
def sp89 : Spec fam := ⟨[.v (.st 3) [], .v (.st 3) []], [.v .bool []], fun a => iU a.1 a.2.1⟩
def fq (a : List Int) (b : List Int) (i : Int) : Option (Int ⊕ (Bool ⊕ Unit)) :=
 bif decide (i < (a.length : Int)) then
 (idx a i).bind fun x =>
 (idx b i).bind fun x1 =>
 bif x != x1 then
  some (.inr (.inl false))
 else
  some (.inl (w64 (i + 1)))
 else
 some (.inr (.inr ()))
def bC (a : List Int) (b : List Int) : Option Bool :=
 bif (a.length : Int) != (b.length : Int) then
 some false
 else
 (loop (fq a b) 0).bind fun q0 =>
 match q0 with
 | .inl q =>
  some q
 | .inr _ =>
  some true
def h166 : Hint := (.s .z (.s .z (.s (.s .z (.b (.l [(5, .v (.int .i64) [])] [4, 5] [(1, [(4, .v .bool [])]), (2, [])] .z))) .z)))
def sp166 : Spec fam := ⟨[.v (.slice (.int .i64)) [], .v (.slice (.int .i64)) []], [.v .bool []], fun a => bC a.1 a.2.1⟩
def gn (a : App) (b : App) (i : Int) : Option (Int ⊕ (Bool ⊕ Unit)) :=
 bif decide (i < (a.Asks.length : Int)) then
 (idx a.Asks i).bind fun x =>
 (idx b.Asks i).bind fun x1 =>
 bif ! ((x.Prio == x1.Prio) && ((x.Label == x1.Label) && (((x.Size.Mem == x1.Size.Mem) && (x.Size.Cores == x1.Size.Cores)) && ((x.Count == x1.Count) && ((x.Node == x1.Node) && ((x.Rack == x1.Rack) && (x.Missed == x1.Missed))))))) then
  some (.inr (.inl false))
 else
  some (.inl (w64 (i + 1)))
 else
 some (.inr (.inr ()))
def iV (a : App) (b : App) : Option Bool :=
 (
 bif a.Id != b.Id then
  some true
 else
  bif a.State != b.State then
  some true
  else
  bif ! (a.Queue == b.Queue) then
   some true
  else
   bif a.User != b.User then
   some true
   else
   bif a.Prio != b.Prio then
    some true
   else
    bif ! ((a.Master.Mem == b.Master.Mem) && (a.Master.Cores == b.Master.Cores)) then
    some true
    else
    bif a.Seen != b.Seen then
     some true
    else
     bif a.Beat != b.Beat then
     some true
     else
     some ((a.Asks.length : Int) != (b.Asks.length : Int))).bind fun q =>
 bif q then
 some false
 else
 (loop (gn a b) 0).bind fun q0 =>
 match q0 with
 | .inl q1 =>
  some q1
 | .inr _ =>
  (bC a.Grants b.Grants).bind fun x2 =>
  bif x2 then
  (bC a.Kills b.Kills).bind fun x3 =>
  bif x3 then
   (bC a.Told b.Told).bind fun x4 =>
   bif x4 then
   (bC a.Lost b.Lost).bind fun x5 =>
   some x5
   else
   some false
  else
   some false
  else
  some false
def h90 : Hint := (.s .z (.s (.s (.j [] [(0, [(68, .v .bool [])])] .z) .z) (.s (.s .z (.b (.l [(5, .v (.int .i64) [])] [4, 5] [(1, [(4, .v .bool [])]), (2, [])] .z))) .z)))
def sp90 : Spec fam := ⟨[.v (.st 6) [], .v (.st 6) []], [.v .bool []], fun a => iV a.1 a.2.1⟩
def eX (a : State) (b : State) (t4 : Bool × Int) : Option ((Bool × Int) ⊕ Bool) :=
 bif decide (t4.2 < (a.Plans.length : Int)) then
 (
  bif t4.1 then
  (idx a.Plans t4.2).bind fun x10 =>
  (idx b.Plans t4.2).bind fun x11 =>
  let ok11 := (x10.Id == x11.Id) && ((x10.Label == x11.Label) && ((x10.From == x11.From) && ((x10.Until == x11.Until) && ((x10.Need.Mem == x11.Need.Mem) && (x10.Need.Cores == x11.Need.Cores)))))
  some ok11
  else
  some false).bind fun ok12 =>
 some (.inl (ok12, w64 (t4.2 + 1)))
 else
 some (.inr t4.1)
def fB (a : State) (b : State) (t3 : Bool × Int) : Option ((Bool × Int) ⊕ Bool) :=
 bif decide (t3.2 < (a.Slots.length : Int)) then
 (
  bif t3.1 then
  (idx a.Slots t3.2).bind fun x8 =>
  (idx b.Slots t3.2).bind fun x9 =>
  let ok8 := (x8.Node == x9.Node) && ((x8.App == x9.App) && (x8.Prio == x9.Prio))
  some ok8
  else
  some false).bind fun ok9 =>
 some (.inl (ok9, w64 (t3.2 + 1)))
 else
 some (.inr t3.1)
def fx (a : State) (b : State) (t2 : Bool × Int) : Option ((Bool × Int) ⊕ Bool) :=
 bif decide (t2.2 < (a.Conts.length : Int)) then
 (
  bif t2.1 then
  (idx a.Conts t2.2).bind fun x6 =>
  (idx b.Conts t2.2).bind fun x7 =>
  let ok5 := (x6.Id == x7.Id) && ((x6.App == x7.App) && ((x6.Node == x7.Node) && (((x6.Size.Mem == x7.Size.Mem) && (x6.Size.Cores == x7.Size.Cores)) && ((x6.Prio == x7.Prio) && ((x6.Label == x7.Label) && ((x6.Master == x7.Master) && (x6.Notice == x7.Notice)))))))
  some ok5
  else
  some false).bind fun ok6 =>
 some (.inl (ok6, w64 (t2.2 + 1)))
 else
 some (.inr t2.1)
def fI (a : State) (b : State) (t1 : Bool × Int) : Option ((Bool × Int) ⊕ Bool) :=
 bif decide (t1.2 < (a.Apps.length : Int)) then
 (
  bif t1.1 then
  (idx a.Apps t1.2).bind fun x3 =>
  (idx b.Apps t1.2).bind fun x4 =>
  (iV x3 x4).bind fun x5 =>
  some x5
  else
  some false).bind fun ok3 =>
 some (.inl (ok3, w64 (t1.2 + 1)))
 else
 some (.inr t1.1)
def eZ (a : State) (b : State) (t : Bool × Int) : Option ((Bool × Int) ⊕ Bool) :=
 bif decide (t.2 < (a.Nodes.length : Int)) then
 (
  bif t.1 then
  (idx a.Nodes t.2).bind fun x1 =>
  (idx b.Nodes t.2).bind fun x2 =>
  let ok := (x1.Id == x2.Id) && ((x1.Label == x2.Label) && ((x1.Rack == x2.Rack) && (((x1.Cap.Mem == x2.Cap.Mem) && (x1.Cap.Cores == x2.Cap.Cores)) && ((x1.Seen == x2.Seen) && ((x1.Beat == x2.Beat) && (x1.Up == x2.Up))))))
  some ok
  else
  some false).bind fun ok1 =>
 some (.inl (ok1, w64 (t.2 + 1)))
 else
 some (.inr t.1)
def eC (a : State) (b : State) : Option Bool :=
 (
 (iU a.Conf b.Conf).bind fun x =>
 bif ! x then
  some true
 else
  bif a.Now != b.Now then
  some true
  else
  bif a.Epoch != b.Epoch then
   some true
  else
   bif a.Seq != b.Seq then
   some true
   else
   bif (a.Nodes.length : Int) != (b.Nodes.length : Int) then
    some true
   else
    bif (a.Apps.length : Int) != (b.Apps.length : Int) then
    some true
    else
    bif (a.Conts.length : Int) != (b.Conts.length : Int) then
     some true
    else
     bif (a.Slots.length : Int) != (b.Slots.length : Int) then
     some true
     else
     some ((a.Plans.length : Int) != (b.Plans.length : Int))).bind fun q =>
 bif q then
 some false
 else
 (loop (eZ a b) (true, 0)).bind fun ok2 =>
 (loop (fI a b) (ok2, 0)).bind fun ok4 =>
 (loop (fx a b) (ok4, 0)).bind fun ok7 =>
 (loop (fB a b) (ok7, 0)).bind fun ok10 =>
 (loop (eX a b) (ok10, 0)).bind fun ok13 =>
 some ok13
def h29 : Hint := (.s .z (.s (.s (.j [] [(0, [(82, .v .bool [])])] .z) .z) (.s .z (.s (.s .z (.b (.l [(5, .v .bool []), (6, .v (.int .i64) [])] [5, 6] [(2, [(5, .v .bool [])])] (.s .z (.s (.j [5] [(0, [(5, .v .bool [])])] .z) .z))))) (.s (.s .z (.b (.l [(5, .v .bool []), (7, .v (.int .i64) [])] [5, 7] [(4, [(5, .v .bool [])])] (.s .z (.s (.j [5] [(0, [(5, .v .bool [])])] .z) .z))))) (.s (.s .z (.b (.l [(5, .v .bool []), (8, .v (.int .i64) [])] [5, 8] [(6, [(5, .v .bool [])])] (.s .z (.s (.j [5] [(0, [(5, .v .bool [])])] .z) .z))))) (.s (.s .z (.b (.l [(5, .v .bool []), (9, .v (.int .i64) [])] [5, 9] [(8, [(5, .v .bool [])])] (.s .z (.s (.j [5] [(0, [(5, .v .bool [])])] .z) .z))))) (.s (.s .z (.b (.l [(5, .v .bool []), (10, .v (.int .i64) [])] [5, 10] [(10, [(5, .v .bool [])])] (.s .z (.s (.j [5] [(0, [(5, .v .bool [])])] .z) .z))))) .z))))))))
def sp29 : Spec fam := ⟨[.v (.st 10) [], .v (.st 10) []], [.v .bool []], fun a => eC a.1 a.2.1⟩
def BM (_a0 : List Cont) (_a1 : (TupT fam [.st 7] → Option Bool)) : Option Int := none
def h81 : Hint := .z
def sp81 : Spec fam := ⟨[.v (.slice (.st 7)) [], .fn [.st 7] .bool], [.v (.int .i64) []], fun a => BM a.1 a.2.1⟩
def sU (s : List Cont) : Option (List Cont) :=
 bif s.isEmpty then
 none
 else
 (app 72 [] s).bind fun l =>
 some l
def nI (s : List Cont) : Option (List Cont) := app 72 [] s
def h158 : Hint := .z
def sp158 : Spec fam := ⟨[.v (.slice (.st 7)) []], [.v (.slice (.st 7)) [0]], fun a => nI a.1⟩
def DL : Spec fam := ⟨[.v (.slice (.st 7)) []], [.v (.slice (.st 7)) [0]], fun a => sU a.1⟩
def ye (s : List Ask) : Option (List Ask) :=
 bif s.isEmpty then
 none
 else
 (app 64 [] s).bind fun l =>
 some l
def mZ (s : List Ask) : Option (List Ask) := app 64 [] s
def h265 : Hint := .z
def sp265 : Spec fam := ⟨[.v (.slice (.st 5)) []], [.v (.slice (.st 5)) [0]], fun a => mZ a.1⟩
def Db : Spec fam := ⟨[.v (.slice (.st 5)) []], [.v (.slice (.st 5)) [0]], fun a => ye a.1⟩
def kE (l : List Int) : Option (List Int) :=
 (mkl 8 (l.length : Int) (l.length : Int) 0).bind fun l1 =>
 some (cpy l1 0 l1.length l)
def h302 : Hint := .z
def sp302 : Spec fam := ⟨[.v (.slice (.int .i64)) []], [.v (.slice (.int .i64)) [0]], fun a => kE a.1⟩
def mS (a : App) : Option App :=
 (mZ a.Asks).bind fun x =>
 (kE a.Grants).bind fun x1 =>
 (kE a.Kills).bind fun x2 =>
 (kE a.Told).bind fun x3 =>
 (kE a.Lost).bind fun x4 =>
 some (⟨a.Id, a.State, a.Queue, a.User, a.Prio, ⟨a.Master.Mem, a.Master.Cores⟩, x, a.Seen, a.Beat, x1, x2, x3, x4⟩ : App)
def h222 : Hint := .z
def sp222 : Spec fam := ⟨[.v (.st 6) []], [.v (.st 6) [7, 10, 11, 12, 13, 9999]], fun a => mS a.1⟩
def lR (s : List (List UInt8)) : Option (List (List UInt8)) :=
 bif s.isEmpty then
 none
 else
 (app 16 [] s).bind fun l =>
 some l
def di (s : List (List UInt8)) : Option (List (List UInt8)) := app 16 [] s
def h227 : Hint := .z
def sp227 : Spec fam := ⟨[.v (.slice (.str)) []], [.v (.slice (.str)) [0]], fun a => di a.1⟩
def D8 : Spec fam := ⟨[.v (.slice (.str)) []], [.v (.slice (.str)) [0]], fun a => lR a.1⟩
def r9 (s : List Queue) : Option (List Queue) :=
 bif s.isEmpty then
 none
 else
 (app 48 [] s).bind fun l =>
 some l
def m0 (s : List Queue) : Option (List Queue) := app 48 [] s
def h228 : Hint := .z
def sp228 : Spec fam := ⟨[.v (.slice (.st 2)) []], [.v (.slice (.st 2)) [0]], fun a => m0 a.1⟩
def CS : Spec fam := ⟨[.v (.slice (.st 2)) []], [.v (.slice (.st 2)) [0]], fun a => r9 a.1⟩
def xM (s : List Cap) : Option (List Cap) :=
 bif s.isEmpty then
 none
 else
 (app 16 [] s).bind fun l =>
 some l
def oc (s : List Cap) : Option (List Cap) := app 16 [] s
def h229 : Hint := .z
def sp229 : Spec fam := ⟨[.v (.slice (.st 1)) []], [.v (.slice (.st 1)) [0]], fun a => oc a.1⟩
def CZ : Spec fam := ⟨[.v (.slice (.st 1)) []], [.v (.slice (.st 1)) [0]], fun a => xM a.1⟩
def xo (s : List Node) : Option (List Node) :=
 bif s.isEmpty then
 none
 else
 (app 64 [] s).bind fun l =>
 some l
def rB (s : List Node) : Option (List Node) := app 64 [] s
def h230 : Hint := .z
def sp230 : Spec fam := ⟨[.v (.slice (.st 4)) []], [.v (.slice (.st 4)) [0]], fun a => rB a.1⟩
def DT : Spec fam := ⟨[.v (.slice (.st 4)) []], [.v (.slice (.st 4)) [0]], fun a => xo a.1⟩
def v6 (s : List Slot) : Option (List Slot) :=
 bif s.isEmpty then
 none
 else
 (app 24 [] s).bind fun l =>
 some l
def qS (s : List Slot) : Option (List Slot) := app 24 [] s
def h231 : Hint := .z
def sp231 : Spec fam := ⟨[.v (.slice (.st 8)) []], [.v (.slice (.st 8)) [0]], fun a => qS a.1⟩
def C5 : Spec fam := ⟨[.v (.slice (.st 8)) []], [.v (.slice (.st 8)) [0]], fun a => v6 a.1⟩
def xz (s : List Plan) : Option (List Plan) :=
 bif s.isEmpty then
 none
 else
 (app 48 [] s).bind fun l =>
 some l
def qK (s : List Plan) : Option (List Plan) := app 48 [] s
def h232 : Hint := .z
def sp232 : Spec fam := ⟨[.v (.slice (.st 9)) []], [.v (.slice (.st 9)) [0]], fun a => qK a.1⟩
def DO : Spec fam := ⟨[.v (.slice (.st 9)) []], [.v (.slice (.st 9)) [0]], fun a => xz a.1⟩
def t_ (s : List App) : Option (List App) :=
 bif s.isEmpty then
 none
 else
 (app 200 [] s).bind fun l =>
 some l
def oF (s : List App) : Option (List App) := app 200 [] s
def h233 : Hint := .z
def sp233 : Spec fam := ⟨[.v (.slice (.st 6)) []], [.v (.slice (.st 6)) [0]], fun a => oF a.1⟩
def C4 : Spec fam := ⟨[.v (.slice (.st 6)) []], [.v (.slice (.st 6)) [0]], fun a => t_ a.1⟩
def nh (x9 : List App) (t1 : List App × Int) : Option ((List App × Int) ⊕ List App) :=
 bif decide (t1.2 < (x9.length : Int)) then
 (inb t1.2 t1.1.length).bind fun i2 =>
 (t1.1[i2]?).bind fun x10 =>
 (mS x10).bind fun x11 =>
 (inb t1.2 t1.1.length).bind fun i3 =>
 (t1.1[i3]?).bind fun x12 =>
 some (.inl (List.set t1.1 i3 x11, w64 (t1.2 + 1)))
 else
 some (.inr t1.1)
def m_ (x1 : List Queue) (t : List Queue × Int) : Option ((List Queue × Int) ⊕ List Queue) :=
 bif decide (t.2 < (x1.length : Int)) then
 (inb t.2 t.1.length).bind fun i =>
 (t.1[i]?).bind fun x2 =>
 (oc x2.Caps).bind fun x3 =>
 (inb t.2 t.1.length).bind fun i1 =>
 (t.1[i1]?).bind fun x4 =>
 some (.inl (List.set t.1 i1 (⟨x4.Path, x3, x4.User⟩ : Queue), w64 (t.2 + 1)))
 else
 some (.inr t.1)
def mR (s : State) : Option State :=
 (di s.Conf.Labels).bind fun x =>
 (m0 s.Conf.Queues).bind fun x1 =>
 (loop (m_ x1) (x1, 0)).bind fun q =>
 (rB s.Nodes).bind fun x5 =>
 (nI s.Conts).bind fun x6 =>
 (qS s.Slots).bind fun x7 =>
 (qK s.Plans).bind fun x8 =>
 (oF s.Apps).bind fun x9 =>
 (loop (nh x9) (x9, 0)).bind fun q1 =>
 some (⟨⟨x, q⟩, x5, q1, x6, x7, x8, s.Now, s.Epoch, s.Seq⟩ : State)
def h150 : Hint := (.s .z (.s .z (.s (.s .z (.b (.l [(14, .row (.st 2) false), (23, .v (.int .i64) [])] [3, 4, 14, 23, 24, 25, 26, 27, 28, 29, 30, 31, 32, 33, 34, 35, 36, 37] [(2, [(14, .row (.st 2) false)])] .z))) (.s .z (.s .z (.s (.s .z (.b (.l [(56, .row (.st 6) false), (61, .v (.int .i64) [])] [5, 6, 56, 61] [(4, [(56, .row (.st 6) false)])] .z))) .z))))))
def sp150 : Spec fam := ⟨[.v (.st 10) []], [.v (.st 10) [0, 1, 2, 3, 4, 5, 6]], fun a => mR a.1⟩
def yg (c : Cont) (p : Int) : Option Bool :=
 some (c.Id == p)
def h151 : Hint := .z
def sp151 : Spec fam := ⟨[.v (.st 7) [], .rp (.int .i64)], [.v .bool []], fun a => yg a.1 a.2.1⟩
def ko (s : List App) (f : (TupT fam [.st 6] → Option Bool)) (t : Int) : Option (Int ⊕ (Int ⊕ Unit)) :=
 bif decide (t < (s.length : Int)) then
 (idx s t).bind fun x =>
 (f (x, ())).bind fun r =>
 bif r then
  some (.inr (.inl t))
 else
  some (.inl (w64 (t + 1)))
 else
 some (.inr (.inr ()))
def kw (s : List App) (f : (TupT fam [.st 6] → Option Bool)) : Option Int :=
 (loop (ko s f) 0).bind fun q0 =>
 match q0 with
 | .inl q =>
 some q
 | .inr _ =>
 some (-1)
def h234 : Hint := (.s .z (.s (.s .z (.b (.l [(8, .v (.int .i64) [])] [4, 5, 8] [(1, [(4, .v (.int .i64) [])]), (2, [])] .z))) .z))
def sp234 : Spec fam := ⟨[.v (.slice (.st 6)) [], .fn [.st 6] .bool], [.v (.int .i64) []], fun a => kw a.1 a.2.1⟩
def ri (a : App) (p : Int) : Option Bool :=
 some (a.Id == p)
def h235 : Hint := .z
def sp235 : Spec fam := ⟨[.v (.st 6) [], .rp (.int .i64)], [.v .bool []], fun a => ri a.1 a.2.1⟩
def nW (s : State) (id_ : Int) : Option Int :=
 (kw s.Apps (fun a' => ri a'.1 id_)).bind fun x =>
 some x
def h152 : Hint := .z
def sp152 : Spec fam := ⟨[.v (.st 10) [], .v (.int .i64) []], [.v (.int .i64) []], fun a => nW a.1 a.2.1⟩
def xU (_a0 : State) (_a1 : Int) : Option State := none
def h153 : Hint := .z
def sp153 : Spec fam := ⟨[.v (.st 10) [], .v (.int .i64) []], [.v (.st 10) []], fun a => xU a.1 a.2.1⟩
def vN (_a0 : List Cont) (_a1 : Int) (_a2 : Int) : Option (List Cont) := none
def h154 : Hint := .z
def sp154 : Spec fam := ⟨[.v (.slice (.st 7)) [], .v (.int .i64) [], .v (.int .i64) []], [.v (.slice (.st 7)) []], fun a => vN a.1 a.2.1 a.2.2.1⟩
def oM (_a0 : List Int) (_a1 : Int) : Option Int := none
def h155 : Hint := .z
def sp155 : Spec fam := ⟨[.v (.slice (.int .i64)) [], .v (.int .i64) []], [.v (.int .i64) []], fun a => oM a.1 a.2.1⟩
def og (_a0 : List Int) (_a1 : Int) (_a2 : Int) : Option (List Int) := none
def h156 : Hint := .z
def sp156 : Spec fam := ⟨[.v (.slice (.int .i64)) [], .v (.int .i64) [], .v (.int .i64) []], [.v (.slice (.int .i64)) []], fun a => og a.1 a.2.1 a.2.2.1⟩
def ky (ids : List Int) (t : Int) : Option (Int ⊕ Unit) :=
 bif decide (t < (ids.length : Int)) then
 (idx ids t).bind fun x1 =>
 none
 else
 some (.inr ())
def jC (s : State) (ids : List Int) : Option State :=
 (mR s).bind fun x =>
 (loop (ky ids) 0).bind fun _ =>
 (mR x).bind fun x2 =>
 some x2
def h79 : Hint := (.s .z (.s .z (.s (.s .z (.b (.l [(16, .v (.int .i64) [])] [16] [(2, [])] .z))) .z)))
def sp79 : Spec fam := ⟨[.v (.st 10) [], .v (.slice (.int .i64)) []], [.v (.st 10) [0, 1, 2, 3, 4, 5, 6]], fun a => jC a.1 a.2.1⟩
def jN (s : List Node) (f : (TupT fam [.st 4] → Option Bool)) (t : Int) : Option (Int ⊕ (Int ⊕ Unit)) :=
 bif decide (t < (s.length : Int)) then
 (idx s t).bind fun x =>
 (f (x, ())).bind fun r =>
 bif r then
  some (.inr (.inl t))
 else
  some (.inl (w64 (t + 1)))
 else
 some (.inr (.inr ()))
def j1 (s : List Node) (f : (TupT fam [.st 4] → Option Bool)) : Option Int :=
 (loop (jN s f) 0).bind fun q0 =>
 match q0 with
 | .inl q =>
 some q
 | .inr _ =>
 some (-1)
def h254 : Hint := (.s .z (.s (.s .z (.b (.l [(8, .v (.int .i64) [])] [4, 5, 8] [(1, [(4, .v (.int .i64) [])]), (2, [])] .z))) .z))
def sp254 : Spec fam := ⟨[.v (.slice (.st 4)) [], .fn [.st 4] .bool], [.v (.int .i64) []], fun a => j1 a.1 a.2.1⟩
def ol (i : Int) (n : Node) : Option Bool :=
 some (n.Id == i)
def h255 : Hint := .z
def sp255 : Spec fam := ⟨[.v (.int .i64) [], .v (.st 4) []], [.v .bool []], fun a => ol a.1 a.2.1⟩
def sB (s : State) (id_ : Int) : Option Int :=
 (j1 s.Nodes (fun a' => ol id_ a'.1)).bind fun x =>
 some x
def h176 : Hint := .z
def sp176 : Spec fam := ⟨[.v (.st 10) [], .v (.int .i64) []], [.v (.int .i64) []], fun a => sB a.1 a.2.1⟩
def mC (s : State) (id_ : Int) : Option (Node × Bool) :=
 (sB s id_).bind fun i =>
 bif decide (i < 0) then
 some ((⟨0, 0, 0, ⟨0, 0⟩, 0, 0, false⟩ : Node), false)
 else
 (idx s.Nodes i).bind fun x =>
 some (x, true)
def h103 : Hint := .z
def sp103 : Spec fam := ⟨[.v (.st 10) [], .v (.int .i64) []], [.v (.st 4) [], .v .bool []], fun a => mC a.1 a.2.1⟩
def a7 (v : Vec) : Option Bool :=
 bif decide (v.Mem ≥ 0) then
 bif decide (v.Mem ≤ 1125899906842624) then
  bif decide (v.Cores ≥ 0) then
  some (decide (v.Cores ≤ 1125899906842624))
  else
  some false
 else
  some false
 else
 some false
def h289 : Hint := .z
def sp289 : Spec fam := ⟨[.v (.st 0) []], [.v .bool []], fun a => a7 a.1⟩
def nB (v : Vec) : Option (Vec × Int) :=
 (a7 v).bind fun x =>
 bif ! x then
 some ((⟨0, 0⟩ : Vec), 11)
 else
 some (v, 0)
def h315 : Hint := .z
def sp315 : Spec fam := ⟨[.v (.st 0) []], [.v (.st 0) [], .v (.int .i64) []], fun a => nB a.1⟩
def kv (a : Vec) (b : Vec) : Option (Vec × Int) :=
 (
 (a7 a).bind fun x =>
 bif ! x then
  some true
 else
  (a7 b).bind fun x1 =>
  some (! x1)).bind fun q =>
 bif q then
 some ((⟨0, 0⟩ : Vec), 1)
 else
 (nB (⟨w64 (a.Mem + b.Mem), w64 (a.Cores + b.Cores)⟩ : Vec)).bind fun x2 =>
 some (x2.1, x2.2)
def h256 : Hint := (.s .z (.s (.s (.j [] [(0, [(13, .v .bool [])])] .z) .z) .z))
def sp256 : Spec fam := ⟨[.v (.st 0) [], .v (.st 0) []], [.v (.st 0) [], .v (.int .i64) []], fun a => kv a.1 a.2.1⟩
def lH (s : State) (id_ : Int) (t : Vec × Int) : Option ((Vec × Int) ⊕ Vec) :=
 bif decide (t.2 < (s.Conts.length : Int)) then
 (
  (idx s.Conts t.2).bind fun x =>
  bif x.Node == id_ then
  (kv t.1 x.Size).bind fun x1 =>
  some x1.1
  else
  some t.1).bind fun out =>
 some (.inl (out, w64 (t.2 + 1)))
 else
 some (.inr t.1)
def nR (s : State) (id_ : Int) : Option Vec :=
 (loop (lH s id_) ((⟨0, 0⟩ : Vec), 0)).bind fun out1 =>
 some out1
def h177 : Hint := (.s .z (.s .z (.s (.s .z (.b (.l [(5, .box (.st 0) []), (11, .v (.int .i64) [])] [5, 7, 11] [(2, [(5, .box (.st 0) [])])] (.s .z (.s .z (.s (.j [5, 7] [(0, [(5, .box (.st 0) [])])] .z) .z)))))) .z)))
def sp177 : Spec fam := ⟨[.v (.st 10) [], .v (.int .i64) []], [.v (.st 0) []], fun a => nR a.1 a.2.1⟩
def nP (s : State) (id_ : Int) : Option Vec :=
 (mC s id_).bind fun x =>
 (
 bif ! x.2 then
  some true
 else
  some (! x.1.Up)).bind fun q =>
 bif q then
 some (⟨0, 0⟩ : Vec)
 else
 (nR s id_).bind fun x1 =>
 some (⟨imax (w64 (x.1.Cap.Mem - x1.Mem)) 0, imax (w64 (x.1.Cap.Cores - x1.Cores)) 0⟩ : Vec)
def h104 : Hint := (.s .z (.s .z (.s (.s (.j [] [(0, [(20, .v .bool [])])] .z) .z) .z)))
def sp104 : Spec fam := ⟨[.v (.st 10) [], .v (.int .i64) []], [.v (.st 0) []], fun a => nP a.1 a.2.1⟩
def ny (a : App) : Option Bool :=
 bif a.State == 1 then
 some true
 else
 some (a.State == 2)
def h65 : Hint := .z
def sp65 : Spec fam := ⟨[.v (.st 6) []], [.v .bool []], fun a => ny a.1⟩
def np (s : State) (id_ : Int) : Option (App × Bool) :=
 (nW s id_).bind fun i =>
 bif decide (i < 0) then
 some ((⟨0, 0, [], 0, 0, ⟨0, 0⟩, [], 0, 0, [], [], [], []⟩ : App), false)
 else
 (idx s.Apps i).bind fun x =>
 (mS x).bind fun x1 =>
 some (x1, true)
def h143 : Hint := .z
def sp143 : Spec fam := ⟨[.v (.st 10) [], .v (.int .i64) []], [.v (.st 6) [7, 10, 11, 12, 13, 9999], .v .bool []], fun a => np a.1 a.2.1⟩
def jE (s : List Slot) (f : (TupT fam [.st 8] → Option Bool)) (t : Int) : Option (Int ⊕ (Int ⊕ Unit)) :=
 bif decide (t < (s.length : Int)) then
 (idx s t).bind fun x =>
 (f (x, ())).bind fun r =>
 bif r then
  some (.inr (.inl t))
 else
  some (.inl (w64 (t + 1)))
 else
 some (.inr (.inr ()))
def ii (s : List Slot) (f : (TupT fam [.st 8] → Option Bool)) : Option Int :=
 (loop (jE s f) 0).bind fun q0 =>
 match q0 with
 | .inl q =>
 some q
 | .inr _ =>
 some (-1)
def h178 : Hint := (.s .z (.s (.s .z (.b (.l [(8, .v (.int .i64) [])] [4, 5, 8] [(1, [(4, .v (.int .i64) [])]), (2, [])] .z))) .z))
def sp178 : Spec fam := ⟨[.v (.slice (.st 8)) [], .fn [.st 8] .bool], [.v (.int .i64) []], fun a => ii a.1 a.2.1⟩
def ft (x : Slot) (p : Attempt) : Option Bool :=
 some (x.Node == p.n.Id)
def h179 : Hint := .z
def sp179 : Spec fam := ⟨[.v (.st 8) [], .rpp (.st 19)], [.v .bool []], fun a => ft a.1 a.2.1⟩
def jm (a : App) (prio : Int) (t : Ask × Int) : Option ((Ask × Int) ⊕ ((Ask × Bool) ⊕ Ask)) :=
 bif decide (t.2 < (a.Asks.length : Int)) then
 (idx a.Asks t.2).bind fun x =>
 bif x.Prio == prio then
  some (.inr (.inl (x, true)))
 else
  some (.inl (t.1, w64 (t.2 + 1)))
 else
 some (.inr (.inr (t.1)))
def na (a : App) (prio : Int) : Option (Ask × Bool) :=
 (loop (jm a prio) ((⟨0, 0, ⟨0, 0⟩, 0, 0, 0, 0⟩ : Ask), 0)).bind fun q0 =>
 match q0 with
 | .inl q =>
 some (q.1, q.2)
 | .inr q1 =>
 some ((⟨0, 0, ⟨0, 0⟩, 0, 0, 0, 0⟩ : Ask), false)
def h180 : Hint := (.s .z (.s (.s .z (.b (.l [(4, .box (.st 5) []), (11, .v (.int .i64) [])] [4, 5, 7, 11] [(1, [(4, .box (.st 5) []), (5, .v .bool [])]), (2, [(4, .box (.st 5) [])])] .z))) .z))
def sp180 : Spec fam := ⟨[.v (.st 6) [], .v (.int .i64) []], [.v (.st 5) [], .v .bool []], fun a => na a.1 a.2.1⟩
def kg (a : Ask) (n : Node) : Option Int :=
 (
 (
  bif ! n.Up then
  some true
  else
  some (n.Label != a.Label)).bind fun q =>
 bif q then
  some (.inr (.inl 4))
 else
  bif a.Rack == (-1) then
  some (.inl ())
  else
  (
   bif a.Node == n.Id then
   some (a.Node == n.Id)
   else
   bif a.Node == (-1) then
    some (a.Rack == n.Rack)
   else
    some false).bind fun q1 =>
  bif q1 then
   some (.inl ())
  else
   bif a.Rack == n.Rack then
   some (.inr (.inr (.inr ())))
   else
   some (.inr (.inr (.inl ()))) : Option (Unit ⊕ Int ⊕ Unit ⊕ Unit)).bind fun q0 =>
 match q0 with
 | .inl _ =>
 some 1
 | .inr (.inl q2) =>
 some q2
 | .inr (.inr (.inl _)) =>
 some 3
 | .inr (.inr (.inr _)) =>
 some 2
def h257 : Hint := (.s .z (.s (.b (.s (.b (.s (.j [5, 20] [(0, []), (1, [(4, .v (.int .i64) [])]), (2, []), (6, [])] (.b (.b (.s (.b (.s (.s (.s (.j [] [(0, [(5, .v .bool [])])] .z) .z) (.s .z (.s (.s (.j [] [(0, [(20, .v .bool [])])] .z) .z) .z))) .z)) .z)))) .z)) .z)) .z))
def sp257 : Spec fam := ⟨[.v (.st 5) [], .v (.st 4) []], [.v (.int .i64) []], fun a => kg a.1 a.2.1⟩
def iC (a : Ask) (n : Node) : Option Bool :=
 (kg a n).bind fun x =>
 bif x == 1 then
 some true
 else
 bif x == 2 then
  some (decide (a.Missed ≥ 2))
 else
  bif x == 3 then
  some (decide (a.Missed ≥ 4))
  else
  some false
def h181 : Hint := .z
def sp181 : Spec fam := ⟨[.v (.st 5) [], .v (.st 4) []], [.v .bool []], fun a => iC a.1 a.2.1⟩
def iO (a : Vec) (b : Vec) : Option Bool :=
 bif decide (a.Mem ≤ b.Mem) then
 some (decide (a.Cores ≤ b.Cores))
 else
 some false
def h258 : Hint := .z
def sp258 : Spec fam := ⟨[.v (.st 0) [], .v (.st 0) []], [.v .bool []], fun a => iO a.1 a.2.1⟩
def cV (t : Attempt) (x : Ask) : Option Bool :=
 (kg x t.n).bind fun x1 =>
 bif x1 != 4 then
 (iO x.Size t.n.Cap).bind fun x2 =>
 some x2
 else
 some false
def h182 : Hint := .z
def sp182 : Spec fam := ⟨[.rp (.st 19), .v (.st 5) []], [.v .bool []], fun a => cV a.1 a.2.1⟩
def dP (v : View) (c : Cont) (t : App × Int) : Option ((App × Int) ⊕ ((App × Bool) ⊕ App)) :=
 bif decide (t.2 < (v.s.Apps.length : Int)) then
 (idx v.s.Apps t.2).bind fun x =>
 bif x.Id == c.App then
  some (.inr (.inl (x, true)))
 else
  some (.inl (t.1, w64 (t.2 + 1)))
 else
 some (.inr (.inr (t.1)))
def jH (v : View) (c : Cont) : Option (App × Bool) :=
 (loop (dP v c) ((⟨0, 0, [], 0, 0, ⟨0, 0⟩, [], 0, 0, [], [], [], []⟩ : App), 0)).bind fun q0 =>
 match q0 with
 | .inl q =>
 some (q.1, q.2)
 | .inr q1 =>
 some ((⟨0, 0, [], 0, 0, ⟨0, 0⟩, [], 0, 0, [], [], [], []⟩ : App), false)
def h276 : Hint := (.s .z (.s (.s .z (.b (.l [(4, .box (.st 6) [7, 10, 11, 12, 13]), (12, .v (.int .i64) [])] [4, 5, 7, 12] [(1, [(4, .box (.st 6) []), (5, .v .bool [])]), (2, [(4, .box (.st 6) [7, 10, 11, 12, 13])])] .z))) .z))
def sp276 : Spec fam := ⟨[.v (.st 17) [], .v (.st 7) []], [.v (.st 6) [], .v .bool []], fun a => jH a.1 a.2.1⟩
def js (s : List UInt8) (prefix_ : List UInt8) : Option Bool :=
 bif decide ((s.length : Int) ≥ (prefix_.length : Int)) then
 (slc s 0 (prefix_.length : Int)).bind fun s1 =>
 some (s1 == prefix_)
 else
 some false
def h362 : Hint := .z
def sp362 : Spec fam := ⟨[.v .str [], .v .str []], [.v .bool []], fun a => js a.1 a.2.1⟩
def i_ (s : List UInt8) (prefix_ : List UInt8) : Option Bool :=
 (js s prefix_).bind fun x =>
 some x
def h330 : Hint := .z
def sp330 : Spec fam := ⟨[.v .str [], .v .str []], [.v .bool []], fun a => i_ a.1 a.2.1⟩
def kW (v : View) (a : App) : Option Bool :=
 (
 bif a.Queue == v.path then
  some true
 else
  (cat v.path ([46] : List UInt8)).bind fun s =>
  (i_ a.Queue s).bind fun x =>
  some x).bind fun below =>
 bif below then
 bif v.user == (-1) then
  some true
 else
  some (a.User == v.user)
 else
 some false
def h277 : Hint := (.s .z (.s (.j [] [(0, [(5, .v .bool [])])] .z) .z))
def sp277 : Spec fam := ⟨[.v (.st 17) [], .v (.st 6) []], [.v .bool []], fun a => kW a.1 a.2.1⟩
def iu (v : View) (t : Vec × Int) : Option ((Vec × Int) ⊕ Vec) :=
 bif decide (t.2 < (v.s.Conts.length : Int)) then
 (
  (idx v.s.Conts t.2).bind fun x =>
  (jH v x).bind fun x1 =>
  (
  bif x1.2 then
   bif x.Label == v.label then
   (kW v x1.1).bind fun x2 =>
   some x2
   else
   some false
  else
   some false).bind fun q =>
  bif q then
  (kv t.1 x.Size).bind fun x3 =>
  some x3.1
  else
  some t.1).bind fun out =>
 some (.inl (out, w64 (t.2 + 1)))
 else
 some (.inr t.1)
def ij (v : View) : Option Vec :=
 (loop (iu v) ((⟨0, 0⟩ : Vec), 0)).bind fun out1 =>
 some out1
def h202 : Hint := (.s .z (.s .z (.s .z (.s (.s .z (.b (.l [(3, .box (.st 0) []), (15, .v (.int .i64) [])] [3, 6, 7, 8, 15, 37] [(2, [(3, .box (.st 0) [])])] (.s .z (.s .z (.s (.j [3, 6, 7, 8, 37] [(0, [(3, .box (.st 0) [])])] (.b (.s .z (.s .z (.s (.j [] [(0, [(37, .v .bool [])])] .z) .z))))) .z)))))) .z))))
def sp202 : Spec fam := ⟨[.v (.st 17) []], [.v (.st 0) []], fun a => ij a.1⟩
def kZ (s : State) (path : List UInt8) (label : Int) : Option Vec :=
 (ij (⟨⟨⟨s.Conf.Labels, s.Conf.Queues⟩, s.Nodes, s.Apps, s.Conts, s.Slots, s.Plans, s.Now, s.Epoch, s.Seq⟩, path, label, (-1)⟩ : View)).bind fun x =>
 some x
def h121 : Hint := .z
def sp121 : Spec fam := ⟨[.v (.st 10) [], .v .str [], .v (.int .i64) []], [.v (.st 0) []], fun a => kZ a.1 a.2.1 a.2.2.1⟩
def mv (l : List Vec) (t : Vec × Int) : Option ((Vec × Int) ⊕ Vec) :=
 bif decide (t.2 < (l.length : Int)) then
 (idx l t.2).bind fun x =>
 (kv t.1 x).bind fun x1 =>
 some (.inl (x1.1, w64 (t.2 + 1)))
 else
 some (.inr t.1)
def nx (l : List Vec) : Option Vec :=
 (loop (mv l) ((⟨0, 0⟩ : Vec), 0)).bind fun out =>
 some out
def h224 : Hint := (.s .z (.s .z (.s (.s .z (.b (.l [(3, .box (.st 0) []), (8, .v (.int .i64) [])] [3, 5, 8] [(2, [(3, .box (.st 0) [])])] .z))) .z)))
def sp224 : Spec fam := ⟨[.v (.slice (.st 0)) []], [.v (.st 0) []], fun a => nx a.1⟩
def la (s : State) (label : Int) (t : List Vec × Int) : Option ((List Vec × Int) ⊕ List Vec) :=
 bif decide (t.2 < (s.Nodes.length : Int)) then
 (
  (idx s.Nodes t.2).bind fun x =>
  (
  bif x.Up then
   some (x.Label == label)
  else
   some false).bind fun q =>
  bif q then
  (app 16 t.1 [x.Cap]).bind fun l =>
  some l
  else
  some t.1).bind fun l1 =>
 some (.inl (l1, w64 (t.2 + 1)))
 else
 some (.inr t.1)
def lj (s : State) (label : Int) : Option Vec :=
 (loop (la s label) ([], 0)).bind fun l2 =>
 (nx l2).bind fun x1 =>
 some x1
def h145 : Hint := (.s .z (.s .z (.s (.s .z (.b (.l [(5, .v (.slice (.st 0)) [0]), (11, .v (.int .i64) [])] [5, 7, 11, 22] [(2, [(5, .v (.slice (.st 0)) [0])])] (.s .z (.s .z (.s (.j [5, 7, 22] [(0, [(5, .v (.slice (.st 0)) [0])])] (.b (.s .z (.s (.j [] [(0, [(22, .v .bool [])])] .z) .z)))) .z)))))) .z)))
def sp145 : Spec fam := ⟨[.v (.st 10) [], .v (.int .i64) []], [.v (.st 0) []], fun a => lj a.1 a.2.1⟩
def cS (s : List UInt8) (c : Int) (i1 : Int) : Option (Int ⊕ (Int ⊕ Unit)) :=
 bif decide (i1 ≥ 0) then
 (idx s i1).bind fun ch =>
 bif (ch.toNat : Int) == c then
  some (.inr (.inl i1))
 else
  some (.inl (w64 (i1 - 1)))
 else
 some (.inr (.inr ()))
def aG (s : List UInt8) (c : Int) : Option Int :=
 let i := w64 ((s.length : Int) - 1)
 (loop (cS s c) i).bind fun q0 =>
 match q0 with
 | .inl q =>
 some q
 | .inr _ =>
 some (-1)
def h328 : Hint := (.s .z (.s (.s .z (.b (.l [(5, .v (.int .i64) [])] [4, 5] [(1, [(4, .v (.int .i64) [])]), (2, [])] .z))) .z))
def sp328 : Spec fam := ⟨[.v .str [], .v (.int .u8) []], [.v (.int .i64) []], fun a => aG a.1 a.2.1⟩
def mL (t1 : Int × Int × Int) : Option ((Int × Int × Int) ⊕ Int) :=
 bif decide (t1.2.2 > 0) then
 (
  bif (andK .i64 t1.2.2 1) != 0 then
  let pow := IntKind.u32.wrap (t1.1 * t1.2.1)
  some pow
  else
  some t1.1).bind fun pow1 =>
 let sq := IntKind.u32.wrap (t1.2.1 * t1.2.1)
 some (.inl (pow1, sq, shrK .i64 t1.2.2 1))
 else
 some (.inr t1.1)
def mM (sep : List UInt8) (t : Int × Int) : Option ((Int × Int) ⊕ Int) :=
 bif decide (t.2 ≥ 0) then
 (idx sep t.2).bind fun ch =>
 let hash := IntKind.u32.wrap ((IntKind.u32.wrap (t.1 * 16777619)) + (IntKind.u32.wrap (ch.toNat : Int)))
 some (.inl (hash, w64 (t.2 - 1)))
 else
 some (.inr t.1)
def jW (sep : List UInt8) : Option (Int × Int) :=
 let i := w64 ((sep.length : Int) - 1)
 (loop (mM sep) (0, i)).bind fun hash1 =>
 (loop mL (1, 16777619, (sep.length : Int))).bind fun pow2 =>
 some (hash1, pow2)
def h361 : Hint := (.s .z (.s .z (.s (.s .z (.b (.l [(4, .v (.int .u32) []), (5, .v (.int .i64) [])] [4, 5] [(2, [(4, .v (.int .u32) [])])] .z))) (.s .z (.s (.s .z (.b (.l [(6, .v (.int .u32) []), (7, .v (.int .u32) []), (8, .v (.int .i64) [])] [6, 7, 8] [(4, [(6, .v (.int .u32) [])])] (.s .z (.s (.b (.s (.j [6] [(0, [(6, .v (.int .u32) [])])] .z) .z)) .z))))) .z)))))
def sp361 : Spec fam := ⟨[.v .str []], [.v (.int .u32) [], .v (.int .u32) []], fun a => jW a.1⟩
def ku (s : List UInt8) (sep : List UInt8) (x : Int × Int) (t1 : Int × Int) : Option ((Int × Int) ⊕ (Int ⊕ Unit)) :=
 bif decide (t1.2 ≥ 0) then
 (idx s t1.2).bind fun ch1 =>
 let h2 := IntKind.u32.wrap ((IntKind.u32.wrap (t1.1 * 16777619)) + (IntKind.u32.wrap (ch1.toNat : Int)))
 (idx s (w64 (t1.2 + (sep.length : Int)))).bind fun ch2 =>
 let h3 := IntKind.u32.wrap (h2 - (IntKind.u32.wrap (x.2 * (IntKind.u32.wrap (ch2.toNat : Int)))))
 (
  bif h3 == x.1 then
  (slc s t1.2 (w64 (t1.2 + (sep.length : Int)))).bind fun s2 =>
  some (s2 == sep)
  else
  some false).bind fun q1 =>
 bif q1 then
  some (.inr (.inl (t1.2)))
 else
  some (.inl (h3, w64 (t1.2 - 1)))
 else
 some (.inr (.inr ()))
def kt (s : List UInt8) (last : Int) (t : Int × Int) : Option ((Int × Int) ⊕ Int) :=
 bif decide (t.2 ≥ last) then
 (idx s t.2).bind fun ch =>
 let h := IntKind.u32.wrap ((IntKind.u32.wrap (t.1 * 16777619)) + (IntKind.u32.wrap (ch.toNat : Int)))
 some (.inl (h, w64 (t.2 - 1)))
 else
 some (.inr t.1)
def fQ (s : List UInt8) (sep : List UInt8) : Option Int :=
 (jW sep).bind fun x =>
 let last := w64 ((s.length : Int) - (sep.length : Int))
 let i := w64 ((s.length : Int) - 1)
 (loop (kt s last) (0, i)).bind fun h1 =>
 (
 bif h1 == x.1 then
  (slc s last (s.length : Int)).bind fun s1 =>
  some (s1 == sep)
 else
  some false).bind fun q =>
 bif q then
 some last
 else
 (loop (ku s sep x) (h1, w64 (last - 1))).bind fun q0 =>
 match q0 with
 | .inl q2 =>
  some q2
 | .inr _ =>
  some (-1)
def h329 : Hint := (.s .z (.s .z (.s .z (.s .z (.s .z (.s (.s .z (.b (.l [(9, .v (.int .u32) []), (10, .v (.int .i64) [])] [9, 10] [(2, [(9, .v (.int .u32) [])])] .z))) (.s (.s (.j [] [(0, [(47, .v .bool [])])] .z) .z) (.s (.s .z (.b (.l [(9, .v (.int .u32) []), (11, .v (.int .i64) [])] [4, 9, 11, 85] [(1, [(4, .v (.int .i64) [])]), (4, [])] (.s .z (.s (.b (.s .z (.s .z (.s .z (.s (.j [] [(0, [(85, .v .bool [])])] .z) .z))))) .z))))) .z))))))))
def sp329 : Spec fam := ⟨[.v .str [], .v .str []], [.v (.int .i64) []], fun a => fQ a.1 a.2.1⟩
def de (s : List UInt8) (substr : List UInt8) : Option Int :=
 bif (substr.length : Int) == 0 then
 some (s.length : Int)
 else
 bif (substr.length : Int) == 1 then
  (idx substr 0).bind fun ch =>
  (aG s (ch.toNat : Int)).bind fun x =>
  some x
 else
  bif (substr.length : Int) == (s.length : Int) then
  bif substr == s then
   some 0
  else
   some (-1)
  else
  bif decide ((substr.length : Int) > (s.length : Int)) then
   some (-1)
  else
   (fQ s substr).bind fun x1 =>
   some x1
def h275 : Hint := .z
def sp275 : Spec fam := ⟨[.v .str [], .v .str []], [.v (.int .i64) []], fun a => de a.1 a.2.1⟩
def jJ (path : List UInt8) : Option (List UInt8 × Bool) :=
 (de path ([46] : List UInt8)).bind fun i =>
 bif decide (i < 0) then
 some (([] : List UInt8), false)
 else
 (slc path 0 i).bind fun s =>
 some (s, true)
def h201 : Hint := .z
def sp201 : Spec fam := ⟨[.v .str []], [.v .str [], .v .bool []], fun a => jJ a.1⟩
def mf (t : List UInt8 × List (List UInt8)) : Option ((List UInt8 × List (List UInt8)) ⊕ List (List UInt8)) :=
 bif ! (t.1 == ([] : List UInt8)) then
 (app 16 t.2 [t.1]).bind fun l =>
 (jJ t.1).bind fun x =>
 some (.inl (x.1, l))
 else
 some (.inr t.2)
def pw (path : List UInt8) : Option (List (List UInt8)) :=
 (loop mf (path, [])).bind fun out =>
 some out
def h278 : Hint := (.s .z (.s .z (.s (.b (.l [(0, .v .str []), (3, .v (.slice (.str)) [0])] [0, 3] [(2, [(3, .v (.slice (.str)) [0])])] .z)) .z)))
def sp278 : Spec fam := ⟨[.v .str []], [.v (.slice (.str)) [0]], fun a => pw a.1⟩
def jU (s : List Queue) (f : (TupT fam [.st 2] → Option Bool)) (t : Int) : Option (Int ⊕ (Int ⊕ Unit)) :=
 bif decide (t < (s.length : Int)) then
 (idx s t).bind fun x =>
 (f (x, ())).bind fun r =>
 bif r then
  some (.inr (.inl t))
 else
  some (.inl (w64 (t + 1)))
 else
 some (.inr (.inr ()))
def pZ (s : List Queue) (f : (TupT fam [.st 2] → Option Bool)) : Option Int :=
 (loop (jU s f) 0).bind fun q0 =>
 match q0 with
 | .inl q =>
 some q
 | .inr _ =>
 some (-1)
def h331 : Hint := (.s .z (.s (.s .z (.b (.l [(8, .v (.int .i64) [])] [4, 5, 8] [(1, [(4, .v (.int .i64) [])]), (2, [])] .z))) .z))
def sp331 : Spec fam := ⟨[.v (.slice (.st 2)) [], .fn [.st 2] .bool], [.v (.int .i64) []], fun a => pZ a.1 a.2.1⟩
def lm (q : Queue) (p : List UInt8) : Option Bool :=
 some (q.Path == p)
def h332 : Hint := .z
def sp332 : Spec fam := ⟨[.v (.st 2) [], .rp .str], [.v .bool []], fun a => lm a.1 a.2.1⟩
def mc (c : Conf) (path : List UInt8) : Option (Queue × Bool) :=
 (pZ c.Queues (fun a' => lm a'.1 path)).bind fun i =>
 bif decide (i < 0) then
 some ((⟨[], [], 0⟩ : Queue), false)
 else
 (idx c.Queues i).bind fun x =>
 (oc x.Caps).bind fun x1 =>
 some ((⟨x.Path, x1, x.User⟩ : Queue), true)
def h279 : Hint := .z
def sp279 : Spec fam := ⟨[.v (.st 3) [], .v .str []], [.v (.st 2) [1], .v .bool []], fun a => mc a.1 a.2.1⟩
def k8 (x : Int) (y : Int) : Option (Int × Int) :=
 let w0 := IntKind.u64.wrap ((andK .u64 x 4294967295) * (andK .u64 y 4294967295))
 let t := IntKind.u64.wrap ((IntKind.u64.wrap ((shrK .u64 x 32) * (andK .u64 y 4294967295))) + (shrK .u64 w0 32))
 let w1 := IntKind.u64.wrap ((andK .u64 t 4294967295) + (IntKind.u64.wrap ((andK .u64 x 4294967295) * (shrK .u64 y 32))))
 let hi := IntKind.u64.wrap ((IntKind.u64.wrap ((IntKind.u64.wrap ((shrK .u64 x 32) * (shrK .u64 y 32))) + (shrK .u64 t 32))) + (shrK .u64 w1 32))
 some (hi, IntKind.u64.wrap (x * y))
def h340 : Hint := .z
def sp340 : Spec fam := ⟨[.v (.int .u64) [], .v (.int .u64) []], [.v (.int .u64) [], .v (.int .u64) []], fun a => k8 a.1 a.2.1⟩
def tg (x : Int) : Option Int :=
 (
 bif decide (x ≥ 4294967296) then
  some (shrK .u64 x 32, 32)
 else
  some (x, 0)).bind fun q =>
 (
 bif decide (q.1 ≥ 65536) then
  some (shrK .u64 q.1 16, w64 (q.2 + 16))
 else
  some (q.1, q.2)).bind fun q1 =>
 (
 bif decide (q1.1 ≥ 256) then
  some (shrK .u64 q1.1 8, w64 (q1.2 + 8))
 else
  some (q1.1, q1.2)).bind fun q2 =>
 (idx ([0, 1, 2, 2, 3, 3, 3, 3, 4, 4, 4, 4, 4, 4, 4, 4, 5, 5, 5, 5, 5, 5, 5, 5, 5, 5, 5, 5, 5, 5, 5, 5, 6, 6, 6, 6, 6, 6, 6, 6, 6, 6, 6, 6, 6, 6, 6, 6, 6, 6, 6, 6, 6, 6, 6, 6, 6, 6, 6, 6, 6, 6, 6, 6, 7, 7, 7, 7, 7, 7, 7, 7, 7, 7, 7, 7, 7, 7, 7, 7, 7, 7, 7, 7, 7, 7, 7, 7, 7, 7, 7, 7, 7, 7, 7, 7, 7, 7, 7, 7, 7, 7, 7, 7, 7, 7, 7, 7, 7, 7, 7, 7, 7, 7, 7, 7, 7, 7, 7, 7, 7, 7, 7, 7, 7, 7, 7, 7, 8, 8, 8, 8, 8, 8, 8, 8, 8, 8, 8, 8, 8, 8, 8, 8, 8, 8, 8, 8, 8, 8, 8, 8, 8, 8, 8, 8, 8, 8, 8, 8, 8, 8, 8, 8, 8, 8, 8, 8, 8, 8, 8, 8, 8, 8, 8, 8, 8, 8, 8, 8, 8, 8, 8, 8, 8, 8, 8, 8, 8, 8, 8, 8, 8, 8, 8, 8, 8, 8, 8, 8, 8, 8, 8, 8, 8, 8, 8, 8, 8, 8, 8, 8, 8, 8, 8, 8, 8, 8, 8, 8, 8, 8, 8, 8, 8, 8, 8, 8, 8, 8, 8, 8, 8, 8, 8, 8, 8, 8, 8, 8, 8, 8, 8, 8, 8, 8, 8, 8, 8, 8, 8, 8, 8, 8, 8, 8] : List UInt8) (IntKind.u8.wrap q2.1)).bind fun ch =>
 let n := w64 (q2.2 + (w64 (ch.toNat : Int)))
 some n
def h251 : Hint := (.s .z (.s (.j [0, 2] [(0, [(0, .v (.int .u64) []), (2, .v (.int .i64) [])])] .z) (.s (.j [0, 2] [(0, [(0, .v (.int .u64) []), (2, .v (.int .i64) [])])] .z) (.s (.j [0, 2] [(0, [(0, .v (.int .u64) []), (2, .v (.int .i64) [])])] .z) .z))))
def sp251 : Spec fam := ⟨[.v (.int .u64) []], [.v (.int .i64) []], fun a => tg a.1⟩
def mO (x : Int) : Option Int :=
 (tg x).bind fun x1 =>
 some (w64 (64 - x1))
def h373 : Hint := .z
def sp373 : Spec fam := ⟨[.v (.int .u64) []], [.v (.int .i64) []], fun a => mO a.1⟩
def vJ (yn1 : Int) (yn0 : Int) (un0 : Int) (t1 : Int × Int) : Option ((Int × Int) ⊕ Int) :=
 (
 bif decide (t1.2 ≥ 4294967296) then
  some true
 else
  some (decide ((IntKind.u64.wrap (t1.2 * yn0)) > (IntKind.u64.wrap ((IntKind.u64.wrap (4294967296 * t1.1)) + un0))))).bind fun q2 =>
 bif q2 then
 bif decide ((IntKind.u64.wrap (t1.1 + yn1)) ≥ 4294967296) then
  some (.inr (IntKind.u64.wrap (t1.2 - 1)))
 else
  some (.inl (IntKind.u64.wrap (t1.1 + yn1), IntKind.u64.wrap (t1.2 - 1)))
 else
 some (.inr t1.2)
def vH (yn1 : Int) (yn0 : Int) (un1 : Int) (t : Int × Int) : Option ((Int × Int) ⊕ Int) :=
 (
 bif decide (t.1 ≥ 4294967296) then
  some true
 else
  some (decide ((IntKind.u64.wrap (t.1 * yn0)) > (IntKind.u64.wrap ((IntKind.u64.wrap (4294967296 * t.2)) + un1))))).bind fun q =>
 bif q then
 bif decide ((IntKind.u64.wrap (t.2 + yn1)) ≥ 4294967296) then
  some (.inr (IntKind.u64.wrap (t.1 - 1)))
 else
  some (.inl (IntKind.u64.wrap (t.1 - 1), IntKind.u64.wrap (t.2 + yn1)))
 else
 some (.inr t.1)
def qi (hi : Int) (lo : Int) (y : Int) : Option (Int × Int) :=
 bif y == 0 then
 none
 else
 bif decide (y ≤ hi) then
  none
 else
  bif hi == 0 then
  (nz y).bind fun _ =>
  (nz y).bind fun _ =>
  some (IntKind.u64.wrap (Int.tdiv lo y), Int.tmod lo y)
  else
  (mO y).bind fun x =>
  (nn (IntKind.u64.wrap x)).bind fun _ =>
  let yn1 := shrK .u64 (shlK .u64 y (IntKind.u64.wrap x)) 32
  let yn0 := andK .u64 (shlK .u64 y (IntKind.u64.wrap x)) 4294967295
  (nn (IntKind.u64.wrap x)).bind fun _ =>
  (nn (IntKind.u64.wrap (64 - (IntKind.u64.wrap x)))).bind fun _ =>
  let un32 := orK .u64 (shlK .u64 hi (IntKind.u64.wrap x)) (shrK .u64 lo (IntKind.u64.wrap (64 - (IntKind.u64.wrap x))))
  (nn (IntKind.u64.wrap x)).bind fun _ =>
  let un1 := shrK .u64 (shlK .u64 lo (IntKind.u64.wrap x)) 32
  let un0 := andK .u64 (shlK .u64 lo (IntKind.u64.wrap x)) 4294967295
  (nz yn1).bind fun _ =>
  let rhat := IntKind.u64.wrap (un32 - (IntKind.u64.wrap ((IntKind.u64.wrap (Int.tdiv un32 yn1)) * yn1)))
  (loop (vH yn1 yn0 un1) (IntKind.u64.wrap (Int.tdiv un32 yn1), rhat)).bind fun q1 =>
  let un21 := IntKind.u64.wrap ((IntKind.u64.wrap ((IntKind.u64.wrap (un32 * 4294967296)) + un1)) - (IntKind.u64.wrap (q1 * (shlK .u64 y (IntKind.u64.wrap x)))))
  (nz yn1).bind fun _ =>
  let rhat1 := IntKind.u64.wrap (un21 - (IntKind.u64.wrap ((IntKind.u64.wrap (Int.tdiv un21 yn1)) * yn1)))
  (loop (vJ yn1 yn0 un0) (rhat1, IntKind.u64.wrap (Int.tdiv un21 yn1))).bind fun q0 =>
  (nn (IntKind.u64.wrap x)).bind fun _ =>
  let quo := IntKind.u64.wrap ((IntKind.u64.wrap (q1 * 4294967296)) + q0)
  let rem := shrK .u64 (IntKind.u64.wrap ((IntKind.u64.wrap ((IntKind.u64.wrap (un21 * 4294967296)) + un0)) - (IntKind.u64.wrap (q0 * (shlK .u64 y (IntKind.u64.wrap x)))))) (IntKind.u64.wrap x)
  some (quo, rem)
def h363 : Hint := (.s .z (.s .z (.s .z (.s .z (.s .z (.s .z (.s .z (.s .z (.s .z (.s .z (.s .z (.s .z (.s .z (.s .z (.s (.b (.l [(15, .v (.int .u64) []), (16, .v (.int .u64) [])] [15, 16, 78] [(2, [(15, .v (.int .u64) [])])] (.s (.s (.j [] [(0, [(78, .v .bool [])])] .z) .z) .z))) (.s .z (.s .z (.s .z (.s (.b (.l [(16, .v (.int .u64) []), (18, .v (.int .u64) [])] [16, 18, 113] [(4, [(18, .v (.int .u64) [])])] (.s (.s (.j [] [(0, [(113, .v .bool [])])] .z) .z) .z))) .z)))))))))))))))))))
def sp363 : Spec fam := ⟨[.v (.int .u64) [], .v (.int .u64) [], .v (.int .u64) []], [.v (.int .u64) [], .v (.int .u64) []], fun a => qi a.1 a.2.1 a.2.2.1⟩
def nC (n : Int) (bp : Int) : Option Int :=
 (k8 (IntKind.u64.wrap n) (IntKind.u64.wrap bp)).bind fun x =>
 (qi x.1 x.2 10000).bind fun x1 =>
 some (w64 x1.1)
def h333 : Hint := .z
def sp333 : Spec fam := ⟨[.v (.int .i64) [], .v (.int .i64) []], [.v (.int .i64) []], fun a => nC a.1 a.2.1⟩
def mB (a : Vec) (bp : Int) : Option (Vec × Int) :=
 (
 (a7 a).bind fun x =>
 bif ! x then
  some true
 else
  bif decide (bp < 0) then
  some true
  else
  some (decide (bp > 1000000))).bind fun q =>
 bif q then
 some ((⟨0, 0⟩ : Vec), 1)
 else
 (nC a.Mem bp).bind fun x1 =>
 (nC a.Cores bp).bind fun x2 =>
 (nB (⟨x1, x2⟩ : Vec)).bind fun x3 =>
 some (x3.1, x3.2)
def h280 : Hint := (.s .z (.s (.s (.j [] [(0, [(16, .v .bool [])])] .z) .z) .z))
def sp280 : Spec fam := ⟨[.v (.st 0) [], .v (.int .i64) []], [.v (.st 0) [], .v (.int .i64) []], fun a => mB a.1 a.2.1⟩
def lE (s : State) (label : Int) (part : (TupT fam [.st 1] → Option Int)) (up : List (List UInt8)) (t : Vec × Vec × Int) : Option ((Vec × Vec × Int) ⊕ (Vec ⊕ (Vec × Vec))) :=
 bif decide (t.2.2 ≥ 0) then
 (inb t.2.2 up.length).bind fun i1 =>
 (up[i1]?).bind fun x2 =>
 (mc s.Conf x2).bind fun x3 =>
 (
  bif ! x3.2 then
  some true
  else
  bif decide (label < 0) then
   some true
  else
   some (decide (label ≥ (x3.1.Caps.length : Int)))).bind fun q =>
 bif q then
  some (.inr (.inl (⟨0, 0⟩ : Vec)))
 else
  (inb label x3.1.Caps.length).bind fun i2 =>
  (x3.1.Caps[i2]?).bind fun x4 =>
  (part (x4, ())).bind fun r =>
  (mB t.2.1 r).bind fun x5 =>
  some (.inl (t.1, x5.1, w64 (t.2.2 - 1)))
 else
 some (.inr (.inr (t.1, t.2.1)))
def mg (s : State) (path : List UInt8) (label : Int) (part : (TupT fam [.st 1] → Option Int)) : Option Vec :=
 (pw path).bind fun up =>
 (mc s.Conf path).bind fun x =>
 bif ! x.2 then
 some (⟨0, 0⟩ : Vec)
 else
 (lj s label).bind fun x1 =>
 let i := w64 ((up.length : Int) - 2)
 (loop (lE s label part up) ((⟨0, 0⟩ : Vec), x1, i)).bind fun q0 =>
 match q0 with
 | .inl q1 =>
  some q1
 | .inr q2 =>
  some q2.2
def h203 : Hint := (.s .z (.s .z (.s .z (.s .z (.s (.s .z (.b (.l [(8, .box (.st 0) []), (12, .box (.st 0) []), (13, .v (.int .i64) [])] [8, 12, 13, 14, 60] [(1, [(8, .box (.st 0) [])]), (2, [(8, .box (.st 0) []), (12, .box (.st 0) [])])] (.s .z (.s (.b (.s .z (.s (.s (.j [] [(0, [(60, .v .bool [])])] .z) .z) .z))) .z))))) .z)))))
def sp203 : Spec fam := ⟨[.v (.st 10) [], .v .str [], .v (.int .i64) [], .fn [.st 1] (.int .i64)], [.v (.st 0) []], fun a => mg a.1 a.2.1 a.2.2.1 a.2.2.2.1⟩
def mr (c : Cap) : Option Int :=
 some c.Least
def h204 : Hint := .z
def sp204 : Spec fam := ⟨[.v (.st 1) []], [.v (.int .i64) []], fun a => mr a.1⟩
def ke (s : State) (path : List UInt8) (label : Int) : Option Vec :=
 (mg s path label (fun a' => mr a'.1)).bind fun x =>
 some x
def h122 : Hint := .z
def sp122 : Spec fam := ⟨[.v (.st 10) [], .v .str [], .v (.int .i64) []], [.v (.st 0) []], fun a => ke a.1 a.2.1 a.2.2.1⟩
def eA (t : Attempt) (a : App) (x : Ask) : Option Bool :=
 (kZ t.s a.Queue t.n.Label).bind fun x1 =>
 (kv x1 x.Size).bind fun x2 =>
 bif x2.2 == 0 then
 (ke t.s a.Queue t.n.Label).bind fun x3 =>
 (iO x2.1 x3).bind fun x4 =>
 some x4
 else
 some false
def h183 : Hint := .z
def sp183 : Spec fam := ⟨[.rp (.st 19), .v (.st 6) [], .v (.st 5) []], [.v .bool []], fun a => eA a.1 a.2.1 a.2.2.1⟩
def kT (s : State) (path : List UInt8) (label : Int) (user : Int) : Option Vec :=
 bif user == (-1) then
 some (⟨0, 0⟩ : Vec)
 else
 (ij (⟨⟨⟨s.Conf.Labels, s.Conf.Queues⟩, s.Nodes, s.Apps, s.Conts, s.Slots, s.Plans, s.Now, s.Epoch, s.Seq⟩, path, label, user⟩ : View)).bind fun x =>
 some x
def h259 : Hint := .z
def sp259 : Spec fam := ⟨[.v (.st 10) [], .v .str [], .v (.int .i64) [], .v (.int .i64) []], [.v (.st 0) []], fun a => kT a.1 a.2.1 a.2.2.1 a.2.2.2.1⟩
def nO (s : State) (path : List UInt8) (label : Int) : Option Vec :=
 (mc s.Conf path).bind fun x =>
 (ke s path label).bind fun x1 =>
 (mB x1 x.1.User).bind fun x2 =>
 some x2.1
def h260 : Hint := .z
def sp260 : Spec fam := ⟨[.v (.st 10) [], .v .str [], .v (.int .i64) []], [.v (.st 0) []], fun a => nO a.1 a.2.1 a.2.2.1⟩
def dL (t : Attempt) (a : App) : Option Bool :=
 (kT t.s a.Queue t.n.Label a.User).bind fun x =>
 (nO t.s a.Queue t.n.Label).bind fun x1 =>
 (iO x x1).bind fun x2 =>
 some x2
def h184 : Hint := .z
def sp184 : Spec fam := ⟨[.rp (.st 19), .v (.st 6) []], [.v .bool []], fun a => dL a.1 a.2.1⟩
def dV (t : Attempt) (x : Ask) : Option Bool :=
 (iO x.Size t.free).bind fun x1 =>
 some x1
def h185 : Hint := .z
def sp185 : Spec fam := ⟨[.rp (.st 19), .v (.st 5) []], [.v .bool []], fun a => dV a.1 a.2.1⟩
def mN (c : Cap) : Option Int :=
 some c.Most
def h346 : Hint := .z
def sp346 : Spec fam := ⟨[.v (.st 1) []], [.v (.int .i64) []], fun a => mN a.1⟩
def nQ (s : State) (path : List UInt8) (label : Int) : Option Vec :=
 (mg s path label (fun a' => mN a'.1)).bind fun x =>
 some x
def h300 : Hint := .z
def sp300 : Spec fam := ⟨[.v (.st 10) [], .v .str [], .v (.int .i64) []], [.v (.st 0) []], fun a => nQ a.1 a.2.1 a.2.2.1⟩
def lF (s : State) (label : Int) (t : List Vec × Int) : Option ((List Vec × Int) ⊕ List Vec) :=
 bif decide (t.2 < (s.Plans.length : Int)) then
 (
  (idx s.Plans t.2).bind fun x =>
  (
  bif x.Label == label then
   bif decide (x.From ≤ s.Now) then
   some (decide (x.Until > s.Now))
   else
   some false
  else
   some false).bind fun q =>
  bif q then
  (app 16 t.1 [x.Need]).bind fun l =>
  some l
  else
  some t.1).bind fun l1 =>
 some (.inl (l1, w64 (t.2 + 1)))
 else
 some (.inr t.1)
def nM (s : State) (label : Int) : Option Vec :=
 (loop (lF s label) ([], 0)).bind fun l2 =>
 (nx l2).bind fun x1 =>
 some x1
def h316 : Hint := (.s .z (.s .z (.s (.s .z (.b (.l [(5, .v (.slice (.st 0)) [0]), (11, .v (.int .i64) [])] [5, 7, 11, 32] [(2, [(5, .v (.slice (.st 0)) [0])])] (.s .z (.s .z (.s (.j [5, 7, 32] [(0, [(5, .v (.slice (.st 0)) [0])])] (.b (.s .z (.s (.j [] [(0, [(32, .v .bool [])])] .z) .z)))) .z)))))) .z)))
def sp316 : Spec fam := ⟨[.v (.st 10) [], .v (.int .i64) []], [.v (.st 0) []], fun a => nM a.1 a.2.1⟩
def jY (s : State) (label : Int) (size : Vec) (x : List (List UInt8)) (t : Int) : Option (Int ⊕ (Bool ⊕ Unit)) :=
 bif decide (t < (x.length : Int)) then
 (inb t x.length).bind fun i =>
 (x[i]?).bind fun x1 =>
 (kZ s x1 label).bind fun x2 =>
 (kv x2 size).bind fun x3 =>
 (
  bif x3.2 != 0 then
  some true
  else
  (nQ s x1 label).bind fun x4 =>
  (iO x3.1 x4).bind fun x5 =>
  some (! x5)).bind fun q =>
 bif q then
  some (.inr (.inl false))
 else
  (lj s label).bind fun x6 =>
  (nM s label).bind fun x7 =>
  (
  bif x1 == ([114, 111, 111, 116] : List UInt8) then
   bif ! (((imax (w64 (x6.Mem - x7.Mem)) 0) == x6.Mem) && ((imax (w64 (x6.Cores - x7.Cores)) 0) == x6.Cores)) then
   (iO x3.1 (⟨imax (w64 (x6.Mem - x7.Mem)) 0, imax (w64 (x6.Cores - x7.Cores)) 0⟩ : Vec)).bind fun x8 =>
   some (! x8)
   else
   some false
  else
   some false).bind fun q1 =>
  bif q1 then
  some (.inr (.inl false))
  else
  some (.inl (w64 (t + 1)))
 else
 some (.inr (.inr ()))
def nL (s : State) (path : List UInt8) (label : Int) (size : Vec) : Option Bool :=
 (pw path).bind fun x =>
 (loop (jY s label size x) 0).bind fun q0 =>
 match q0 with
 | .inl q2 =>
 some q2
 | .inr _ =>
 some true
def h261 : Hint := (.s .z (.s (.s .z (.b (.l [(19, .v (.int .i64) [])] [8, 10, 11, 12, 13, 14, 15, 19, 42, 74] [(1, [(8, .v .bool [])]), (2, [])] (.s .z (.s .z (.s (.b (.s .z (.s .z (.s (.s (.j [] [(0, [(42, .v .bool [])])] .z) .z) (.s .z (.s .z (.s (.j [] [(0, [(74, .v .bool [])])] .z) .z))))))) .z)))))) .z))
def sp261 : Spec fam := ⟨[.v (.st 10) [], .v .str [], .v (.int .i64) [], .v (.st 0) []], [.v .bool []], fun a => nL a.1 a.2.1 a.2.2.1 a.2.2.2.1⟩
def dR (t : Attempt) (a : App) (x : Ask) : Option Bool :=
 (nL t.s a.Queue t.n.Label x.Size).bind fun x1 =>
 some x1
def h186 : Hint := .z
def sp186 : Spec fam := ⟨[.rp (.st 19), .v (.st 6) [], .v (.st 5) []], [.v .bool []], fun a => dR a.1 a.2.1 a.2.2.1⟩
def lG (s : List Slot) (i : Int) (j : Int) : Option (List Slot) := del s i j
def h187 : Hint := .z
def sp187 : Spec fam := ⟨[.v (.slice (.st 8)) [0], .v (.int .i64) [], .v (.int .i64) []], [.v (.slice (.st 8)) [0]], fun a => lG a.1 a.2.1 a.2.2.1⟩
def oA (l : List Ask) : Option (List Ask) :=
 (mkl 64 (l.length : Int) (l.length : Int) (⟨0, 0, ⟨0, 0⟩, 0, 0, 0, 0⟩ : Ask)).bind fun l1 =>
 some (cpy l1 0 l1.length l)
def h317 : Hint := .z
def sp317 : Spec fam := ⟨[.v (.slice (.st 5)) []], [.v (.slice (.st 5)) [0]], fun a => oA a.1⟩
def kq (s : List Ask) (f : (TupT fam [.st 5] → Option Bool)) (t : Int) : Option (Int ⊕ (Int ⊕ Unit)) :=
 bif decide (t < (s.length : Int)) then
 (idx s t).bind fun x =>
 (f (x, ())).bind fun r =>
 bif r then
  some (.inr (.inl t))
 else
  some (.inl (w64 (t + 1)))
 else
 some (.inr (.inr ()))
def kF (s : List Ask) (f : (TupT fam [.st 5] → Option Bool)) : Option Int :=
 (loop (kq s f) 0).bind fun q0 =>
 match q0 with
 | .inl q =>
 some q
 | .inr _ =>
 some (-1)
def h354 : Hint := (.s .z (.s (.s .z (.b (.l [(8, .v (.int .i64) [])] [4, 5, 8] [(1, [(4, .v (.int .i64) [])]), (2, [])] .z))) .z))
def sp354 : Spec fam := ⟨[.v (.slice (.st 5)) [], .fn [.st 5] .bool], [.v (.int .i64) []], fun a => kF a.1 a.2.1⟩
def qJ (a : Ask) (p : Int) : Option Bool :=
 some (a.Prio == p)
def h355 : Hint := .z
def sp355 : Spec fam := ⟨[.v (.st 5) [], .rp (.int .i64)], [.v .bool []], fun a => qJ a.1 a.2.1⟩
def nX (l : List Ask) (prio : Int) : Option Int :=
 (kF l (fun a' => qJ a'.1 prio)).bind fun x =>
 some x
def h318 : Hint := .z
def sp318 : Spec fam := ⟨[.v (.slice (.st 5)) [], .v (.int .i64) []], [.v (.int .i64) []], fun a => nX a.1 a.2.1⟩
def oJ (s : List Ask) (i : Int) (j : Int) : Option (List Ask) := del s i j
def h319 : Hint := .z
def sp319 : Spec fam := ⟨[.v (.slice (.st 5)) [0], .v (.int .i64) [], .v (.int .i64) []], [.v (.slice (.st 5)) [0]], fun a => oJ a.1 a.2.1 a.2.2.1⟩
def oW (l : List Ask) (prio : Int) : Option (List Ask × Bool) :=
 (oA l).bind fun out =>
 (nX out prio).bind fun i =>
 bif decide (i < 0) then
 some (out, false)
 else
 (inb i out.length).bind fun i1 =>
 (out[i1]?).bind fun x =>
 (inb i (List.set out i1 (⟨x.Prio, x.Label, ⟨x.Size.Mem, x.Size.Cores⟩, x.Count, x.Node, x.Rack, 0⟩ : Ask)).length).bind fun i2 =>
 ((List.set out i1 (⟨x.Prio, x.Label, ⟨x.Size.Mem, x.Size.Cores⟩, x.Count, x.Node, x.Rack, 0⟩ : Ask))[i2]?).bind fun x1 =>
 (inb i (List.set out i1 (⟨x.Prio, x.Label, ⟨x.Size.Mem, x.Size.Cores⟩, x.Count, x.Node, x.Rack, 0⟩ : Ask)).length).bind fun i3 =>
 ((List.set out i1 (⟨x.Prio, x.Label, ⟨x.Size.Mem, x.Size.Cores⟩, x.Count, x.Node, x.Rack, 0⟩ : Ask))[i3]?).bind fun x2 =>
 (
  (inb i (List.set (List.set out i1 (⟨x.Prio, x.Label, ⟨x.Size.Mem, x.Size.Cores⟩, x.Count, x.Node, x.Rack, 0⟩ : Ask)) i3 (⟨x2.Prio, x2.Label, ⟨x2.Size.Mem, x2.Size.Cores⟩, w64 (x1.Count - 1), x2.Node, x2.Rack, x2.Missed⟩ : Ask)).length).bind fun i4 =>
  ((List.set (List.set out i1 (⟨x.Prio, x.Label, ⟨x.Size.Mem, x.Size.Cores⟩, x.Count, x.Node, x.Rack, 0⟩ : Ask)) i3 (⟨x2.Prio, x2.Label, ⟨x2.Size.Mem, x2.Size.Cores⟩, w64 (x1.Count - 1), x2.Node, x2.Rack, x2.Missed⟩ : Ask))[i4]?).bind fun x3 =>
  bif decide (x3.Count ≤ 0) then
  (oJ (List.set (List.set out i1 (⟨x.Prio, x.Label, ⟨x.Size.Mem, x.Size.Cores⟩, x.Count, x.Node, x.Rack, 0⟩ : Ask)) i3 (⟨x2.Prio, x2.Label, ⟨x2.Size.Mem, x2.Size.Cores⟩, w64 (x1.Count - 1), x2.Node, x2.Rack, x2.Missed⟩ : Ask)) i (w64 (i + 1))).bind fun out1 =>
  some out1
  else
  some (List.set (List.set out i1 (⟨x.Prio, x.Label, ⟨x.Size.Mem, x.Size.Cores⟩, x.Count, x.Node, x.Rack, 0⟩ : Ask)) i3 (⟨x2.Prio, x2.Label, ⟨x2.Size.Mem, x2.Size.Cores⟩, w64 (x1.Count - 1), x2.Node, x2.Rack, x2.Missed⟩ : Ask))).bind fun out2 =>
 some (out2, true)
def h262 : Hint := (.s .z (.s .z (.s .z (.s .z (.s .z (.s .z (.s (.j [6] [(0, [(6, .v (.slice (.st 5)) [0])])] .z) .z)))))))
def sp262 : Spec fam := ⟨[.v (.slice (.st 5)) [], .v (.int .i64) []], [.v (.slice (.st 5)) [0], .v .bool []], fun a => oW a.1 a.2.1⟩
def wo (_a0 : List App) (_a1 : Int) (_a2 : List App) : Option (List App) := none
def h356 : Hint := .z
def sp356 : Spec fam := ⟨[.v (.slice (.st 6)) [], .v (.int .i64) [], .v (.slice (.st 6)) []], [.v (.slice (.st 6)) []], fun a => wo a.1 a.2.1 a.2.2.1⟩
def xO (s : State) (a : App) (k : Int) : Option (Int ⊕ Int) :=
 (
 bif decide (k < (s.Apps.length : Int)) then
  (inb k s.Apps.length).bind fun i2 =>
  (s.Apps[i2]?).bind fun x1 =>
  some (decide (x1.Id < a.Id))
 else
  some false).bind fun q =>
 bif q then
 some (.inl (w64 (k + 1)))
 else
 some (.inr k)
def qj (s : State) (a : App) : Option State :=
 (nW s a.Id).bind fun i =>
 bif decide (i ≥ 0) then
 (inb i s.Apps.length).bind fun i1 =>
 (s.Apps[i1]?).bind fun x =>
 some (⟨⟨s.Conf.Labels, s.Conf.Queues⟩, s.Nodes, List.set s.Apps i1 a, s.Conts, s.Slots, s.Plans, s.Now, s.Epoch, s.Seq⟩ : State)
 else
 (loop (xO s a) 0).bind fun k1 =>
 none
def h320 : Hint := (.s .z (.s .z (.s .z (.s (.b (.l [(6, .v (.int .i64) [])] [6, 34] [(2, [(6, .v (.int .i64) [])])] (.s (.s (.j [] [(0, [(34, .v .bool [])])] .z) .z) .z))) .z))))
def sp320 : Spec fam := ⟨[.v (.st 10) [0, 1, 2, 3, 4, 5, 6], .v (.st 6) [7, 10, 11, 12, 13, 9999]], [.v (.st 10) [0, 1, 2, 3, 4, 5, 6]], fun a => qj a.1 a.2.1⟩
def lP (s : State) (a : App) : Option State :=
 (mR s).bind fun x =>
 (mS a).bind fun x1 =>
 (qj x x1).bind fun x2 =>
 some x2
def h263 : Hint := .z
def sp263 : Spec fam := ⟨[.v (.st 10) [], .ln (.st 6)], [.v (.st 10) [0, 1, 2, 3, 4, 5, 6]], fun a => lP a.1 a.2.1⟩
def tx (s : List Cont) (i : Int) (v : List Cont) : Option (List Cont) :=
 (inS i (s.length : Int) s.length).bind fun p =>
 bif (v.length : Int) == 0 then
 some s
 else
 bif i == (s.length : Int) then
  (app 72 s v).bind fun l =>
  some l
 else
  none
def lI (s : List Cont) (i : Int) (v : List Cont) : Option (List Cont) := ins s i v
def h264 : Hint := .z
def sp264 : Spec fam := ⟨[.v (.slice (.st 7)) [0], .v (.int .i64) [], .v (.slice (.st 7)) [0]], [.v (.slice (.st 7)) [0]], fun a => lI a.1 a.2.1 a.2.2.1⟩
def E5 : Spec fam := ⟨[.v (.slice (.st 7)) [0], .v (.int .i64) [], .v (.slice (.st 7)) [0]], [.v (.slice (.st 7)) [0]], fun a => tx a.1 a.2.1 a.2.2.1⟩
def dF (t : Attempt) (x2 : State) (k : Int) : Option (Int ⊕ Int) :=
 (
 bif decide (k < (x2.Conts.length : Int)) then
  (inb k x2.Conts.length).bind fun i =>
  (x2.Conts[i]?).bind fun x3 =>
  some (decide (x3.Id < (w64 ((shlK .i64 t.s.Epoch 20) + (w64 (t.s.Seq + 1))))))
 else
  some false).bind fun q =>
 bif q then
 some (.inl (w64 (k + 1)))
 else
 some (.inr k)
def bJ (t : Attempt) (a : App) (x : Ask) : Option (Cont × Attempt) :=
 (oW a.Asks x.Prio).bind fun x1 =>
 (
 bif a.State == 1 then
  some (⟨a.Id, 2, a.Queue, a.User, a.Prio, ⟨a.Master.Mem, a.Master.Cores⟩, [], t.s.Now, 0, a.Grants, a.Kills, a.Told, a.Lost⟩ : App)
 else
  (app 8 a.Grants [w64 ((shlK .i64 t.s.Epoch 20) + (w64 (t.s.Seq + 1)))]).bind fun l =>
  some (⟨a.Id, a.State, a.Queue, a.User, a.Prio, ⟨a.Master.Mem, a.Master.Cores⟩, x1.1, a.Seen, a.Beat, l, a.Kills, a.Told, a.Lost⟩ : App)).bind fun a1 =>
 (lP (⟨⟨t.s.Conf.Labels, t.s.Conf.Queues⟩, t.s.Nodes, t.s.Apps, t.s.Conts, t.s.Slots, t.s.Plans, t.s.Now, t.s.Epoch, w64 (t.s.Seq + 1)⟩ : State) a1).bind fun x2 =>
 (loop (dF t x2) 0).bind fun k1 =>
 (lI x2.Conts k1 [(⟨w64 ((shlK .i64 t.s.Epoch 20) + (w64 (t.s.Seq + 1))), a.Id, t.n.Id, ⟨x.Size.Mem, x.Size.Cores⟩, x.Prio, x.Label, a.State == 1, 0⟩ : Cont)]).bind fun x4 =>
 some ((⟨w64 ((shlK .i64 t.s.Epoch 20) + (w64 (t.s.Seq + 1))), a.Id, t.n.Id, ⟨x.Size.Mem, x.Size.Cores⟩, x.Prio, x.Label, a.State == 1, 0⟩ : Cont), (⟨⟨⟨x2.Conf.Labels, x2.Conf.Queues⟩, x2.Nodes, x2.Apps, x4, x2.Slots, x2.Plans, x2.Now, x2.Epoch, x2.Seq⟩, ⟨t.n.Id, t.n.Label, t.n.Rack, ⟨t.n.Cap.Mem, t.n.Cap.Cores⟩, t.n.Seen, t.n.Beat, t.n.Up⟩, ⟨t.free.Mem, t.free.Cores⟩⟩ : Attempt))
def h188 : Hint := (.s .z (.s .z (.s .z (.s .z (.s (.j [1, 4] [(0, [(4, .box (.st 6) [7, 10, 11, 12, 13])])] .z) (.s .z (.s .z (.s (.b (.l [(8, .v (.int .i64) [])] [8, 104] [(2, [(8, .v (.int .i64) [])])] (.s (.s (.j [] [(0, [(104, .v .bool [])])] .z) .z) .z))) .z))))))))
def sp188 : Spec fam := ⟨[.box (.st 19) [0, 1, 2, 3, 4, 5, 6], .v (.st 6) [7, 10, 11, 12, 13], .v (.st 5) []], [.v (.st 7) []], fun a => bJ a.1 a.2.1 a.2.2.1⟩
def bw (t : Attempt) : Option (Int × Cont × Bool × Attempt) :=
 (ii t.s.Slots (fun a' => ft a'.1 t)).bind fun i =>
 bif decide (i < 0) then
 some (0, (⟨0, 0, 0, ⟨0, 0⟩, 0, 0, false, 0⟩ : Cont), false, t)
 else
 (inb i t.s.Slots.length).bind fun i1 =>
 (t.s.Slots[i1]?).bind fun x =>
 (np t.s x.App).bind fun x1 =>
 (na x1.1 x.Prio).bind fun x2 =>
 (
  bif x1.2 then
  (ny x1.1).bind fun x3 =>
  bif x3 then
   bif x2.2 then
   (iC x2.1 t.n).bind fun x4 =>
   bif x4 then
    (cV t x2.1).bind fun x5 =>
    bif x5 then
    (eA t x1.1 x2.1).bind fun x6 =>
    bif x6 then
     (dL t x1.1).bind fun x7 =>
     some x7
    else
     some false
    else
    some false
   else
    some false
   else
   some false
  else
   some false
  else
  some false).bind fun stays =>
 (
  bif stays then
  (dV t x2.1).bind fun x8 =>
  bif x8 then
   (dR t x1.1 x2.1).bind fun x9 =>
   some (! x9)
  else
   some true
  else
  some false).bind fun q =>
 bif q then
  some (3, (⟨0, 0, 0, ⟨0, 0⟩, 0, 0, false, 0⟩ : Cont), true, t)
 else
  (lG t.s.Slots i (w64 (i + 1))).bind fun x10 =>
  bif ! stays then
  some (0, (⟨0, 0, 0, ⟨0, 0⟩, 0, 0, false, 0⟩ : Cont), false, (⟨⟨⟨t.s.Conf.Labels, t.s.Conf.Queues⟩, t.s.Nodes, t.s.Apps, t.s.Conts, x10, t.s.Plans, t.s.Now, t.s.Epoch, t.s.Seq⟩, ⟨t.n.Id, t.n.Label, t.n.Rack, ⟨t.n.Cap.Mem, t.n.Cap.Cores⟩, t.n.Seen, t.n.Beat, t.n.Up⟩, ⟨t.free.Mem, t.free.Cores⟩⟩ : Attempt))
  else
  (bJ (⟨⟨⟨t.s.Conf.Labels, t.s.Conf.Queues⟩, t.s.Nodes, t.s.Apps, t.s.Conts, x10, t.s.Plans, t.s.Now, t.s.Epoch, t.s.Seq⟩, ⟨t.n.Id, t.n.Label, t.n.Rack, ⟨t.n.Cap.Mem, t.n.Cap.Cores⟩, t.n.Seen, t.n.Beat, t.n.Up⟩, ⟨t.free.Mem, t.free.Cores⟩⟩ : Attempt) x1.1 x2.1).bind fun x11 =>
  some (1, x11.1, true, x11.2)
def h105 : Hint := (.s .z (.s .z (.s .z (.s .z (.s .z (.s .z (.s (.j [11] [(0, [(11, .v .bool [])])] .z) (.s (.s (.j [] [(0, [(91, .v .bool [])])] .z) .z) .z))))))))
def sp105 : Spec fam := ⟨[.box (.st 19) [0, 1, 2, 3, 4, 5, 6]], [.v (.int .i64) [], .v (.st 7) [], .v .bool []], fun a => bw a.1⟩
def mD (c : Conf) (path : List UInt8) (t : List (List UInt8) × Int) : Option ((List (List UInt8) × Int) ⊕ List (List UInt8)) :=
 bif decide (t.2 < (c.Queues.length : Int)) then
 (
  (idx c.Queues t.2).bind fun x =>
  (jJ x.Path).bind fun x1 =>
  (
  bif x1.2 then
   some (x1.1 == path)
  else
   some false).bind fun q =>
  bif q then
  (app 16 t.1 [x.Path]).bind fun l =>
  some l
  else
  some t.1).bind fun out =>
 some (.inl (out, w64 (t.2 + 1)))
 else
 some (.inr t.1)
def o6 (c : Conf) (path : List UInt8) : Option (List (List UInt8)) :=
 (loop (mD c path) ([], 0)).bind fun out1 =>
 some out1
def h120 : Hint := (.s .z (.s .z (.s (.s .z (.b (.l [(5, .v (.slice (.str)) [0]), (13, .v (.int .i64) [])] [5, 7, 8, 9, 13, 28] [(2, [(5, .v (.slice (.str)) [0])])] (.s .z (.s .z (.s (.j [5, 7, 8, 9, 28] [(0, [(5, .v (.slice (.str)) [0])])] (.b (.s .z (.s .z (.s (.j [] [(0, [(28, .v .bool [])])] .z) .z))))) .z)))))) .z)))
def sp120 : Spec fam := ⟨[.v (.st 3) [], .v .str []], [.v (.slice (.str)) [0]], fun a => o6 a.1 a.2.1⟩
def nf (s : List Load) (f : (TupT fam [.st 18, .st 18] → Option Int)) : Option (List Load) := sortG (F := fam) (.st 18) f s
def h123 : Hint := .z
def sp123 : Spec fam := ⟨[.row (.st 18) false, .fn [.st 18, .st 18] (.int .i64)], [], fun a => nf a.1 a.2.1⟩
def jt (vals : List Int) (t : Int) : Option (Int ⊕ (Int ⊕ Unit)) :=
 bif decide (t < (vals.length : Int)) then
 (idx vals t).bind fun x =>
 bif x != 0 then
  some (.inr (.inl x))
 else
  some (.inl (w64 (t + 1)))
 else
 some (.inr (.inr ()))
def lz (vals : List Int) : Option Int :=
 (loop (jt vals) 0).bind fun q0 =>
 match q0 with
 | .inl q =>
 some q
 | .inr _ =>
 some 0
def h68 : Hint := (.s .z (.s .z (.s (.s .z (.b (.l [(8, .v (.int .i64) [])] [2, 5, 8] [(1, [(2, .v (.int .i64) [])]), (2, [])] .z))) .z)))
def sp68 : Spec fam := ⟨[.v (.slice (.int .i64)) []], [.v (.int .i64) []], fun a => lz a.1⟩
def iY (x : List UInt8) : Option Bool :=
 some (! (x == x))
def h225 : Hint := .z
def sp225 : Spec fam := ⟨[.v .str []], [.v .bool []], fun a => iY a.1⟩
def g8 (x : List UInt8) (y : List UInt8) : Option Int :=
 (iY x).bind fun xNaN =>
 (iY y).bind fun yNaN =>
 bif xNaN then
 bif yNaN then
  some 0
 else
  some (-1)
 else
 bif yNaN then
  some 1
 else
  bif Op.bytesLess x y then
  some (-1)
  else
  bif ! (strLe x y) then
   some 1
  else
   some 0
def h146 : Hint := .z
def sp146 : Spec fam := ⟨[.v .str [], .v .str []], [.v (.int .i64) []], fun a => g8 a.1 a.2.1⟩
def eT (r : Ratio) (q : Ratio) : Option Int :=
 (
 bif r.of == 0 then
  some (q.of == 0)
 else
  some false).bind fun q1 =>
 bif q1 then
 some 0
 else
 bif r.of == 0 then
  some 1
 else
  bif q.of == 0 then
  some (-1)
  else
  (k8 r.n q.of).bind fun x =>
  (k8 q.n r.of).bind fun x1 =>
  (
   bif decide (x.1 < x1.1) then
   some true
   else
   bif x.1 == x1.1 then
    some (decide (x.2 < x1.2))
   else
    some false).bind fun q2 =>
  bif q2 then
   some (-1)
  else
   (
   bif x.1 == x1.1 then
    some (x.2 == x1.2)
   else
    some false).bind fun q3 =>
   bif q3 then
   some 0
   else
   some 1
def h291 : Hint := (.s .z (.s (.b (.s (.j [] [(0, [(9, .v .bool [])])] .z) .z)) (.s .z (.s .z (.s (.b (.s (.j [] [(0, [(42, .v .bool [])])] .z) (.c .z (.s (.j [] [(0, [(56, .v .bool [])])] .z) .z)))) .z)))))
def sp291 : Spec fam := ⟨[.v (.st 20) [], .v (.st 20) []], [.v (.int .i64) []], fun a => eT a.1 a.2.1⟩
def mU (a : Vec) (p : Vec) (get : (TupT fam [.st 0] → Option Int)) : Option Ratio :=
 (get (a, ())).bind fun r =>
 (get (p, ())).bind fun r1 =>
 bif r == 0 then
 some (⟨0, 1⟩ : Ratio)
 else
 some (⟨IntKind.u64.wrap r, IntKind.u64.wrap r1⟩ : Ratio)
def h337 : Hint := .z
def sp337 : Spec fam := ⟨[.v (.st 0) [], .v (.st 0) [], .fn [.st 0] (.int .i64)], [.v (.st 20) []], fun a => mU a.1 a.2.1 a.2.2.1⟩
def mu (v : Vec) : Option Int :=
 some v.Mem
def h338 : Hint := .z
def sp338 : Spec fam := ⟨[.v (.st 0) []], [.v (.int .i64) []], fun a => mu a.1⟩
def k_ (v : Vec) : Option Int :=
 some v.Cores
def h339 : Hint := .z
def sp339 : Spec fam := ⟨[.v (.st 0) []], [.v (.int .i64) []], fun a => k_ a.1⟩
def nq (a : Vec) (p : Vec) : Option Ratio :=
 (mU a p (fun a' => mu a'.1)).bind fun x =>
 (mU a p (fun a' => k_ a'.1)).bind fun x1 =>
 (eT x x1).bind fun x2 =>
 bif decide (x2 < 0) then
 some x1
 else
 some x
def h290 : Hint := .z
def sp290 : Spec fam := ⟨[.v (.st 0) [], .v (.st 0) []], [.v (.st 20) []], fun a => nq a.1 a.2.1⟩
def k9 (a : Vec) (p : Vec) (b : Vec) (q : Vec) : Option Int :=
 (
 (a7 a).bind fun x =>
 bif ! x then
  some true
 else
  (a7 p).bind fun x1 =>
  bif ! x1 then
  some true
  else
  (a7 b).bind fun x2 =>
  bif ! x2 then
   some true
  else
   (a7 q).bind fun x3 =>
   some (! x3)).bind fun q1 =>
 bif q1 then
 some 0
 else
 (nq a p).bind fun x4 =>
 (nq b q).bind fun x5 =>
 (eT x4 x5).bind fun x6 =>
 some x6
def h206 : Hint := (.s .z (.s (.s (.j [] [(0, [(26, .v .bool [])])] .z) .z) .z))
def sp206 : Spec fam := ⟨[.v (.st 0) [], .v (.st 0) [], .v (.st 0) [], .v (.st 0) []], [.v (.int .i64) []], fun a => k9 a.1 a.2.1 a.2.2.1 a.2.2.2.1⟩
def bE (a : Load) (b : Load) : Option Int :=
 (k9 a.used a.least b.used b.least).bind fun x =>
 (g8 a.path b.path).bind fun x1 =>
 (lz [x, x1]).bind fun x2 =>
 some x2
def h124 : Hint := .z
def sp124 : Spec fam := ⟨[.v (.st 18) [], .v (.st 18) []], [.v (.int .i64) []], fun a => bE a.1 a.2.1⟩
def j2 (x4 : List Load) (t1 : List (List UInt8) × Int) : Option ((List (List UInt8) × Int) ⊕ List (List UInt8)) :=
 bif decide (t1.2 < (x4.length : Int)) then
 (inb t1.2 x4.length).bind fun i1 =>
 (x4[i1]?).bind fun x5 =>
 (inS t1.2 (t1.1.length : Int) t1.1.length).bind fun p =>
 some (.inl (cpy t1.1 p.1 p.2 [x5.path], w64 (t1.2 + 1)))
 else
 some (.inr t1.1)
def jV (s : State) (label : Int) (x : List (List UInt8)) (t : List Load × Int) : Option ((List Load × Int) ⊕ List Load) :=
 bif decide (t.2 < (x.length : Int)) then
 (inb t.2 x.length).bind fun i =>
 (x[i]?).bind fun x1 =>
 (kZ s x1 label).bind fun x2 =>
 (ke s x1 label).bind fun x3 =>
 (app 48 t.1 [(⟨x1, ⟨x2.Mem, x2.Cores⟩, ⟨x3.Mem, x3.Cores⟩⟩ : Load)]).bind fun l =>
 some (.inl (l, w64 (t.2 + 1)))
 else
 some (.inr t.1)
def nJ (s : State) (path : List UInt8) (label : Int) : Option (List (List UInt8)) :=
 (o6 s.Conf path).bind fun x =>
 (loop (jV s label x) ([], 0)).bind fun l1 =>
 (nf l1 (fun a' => bE a'.1 a'.2.1)).bind fun x4 =>
 (mkl 16 (x4.length : Int) (x4.length : Int) []).bind fun l2 =>
 (loop (j2 x4) (l2, 0)).bind fun out =>
 some out
def h59 : Hint := (.s .z (.s .z (.s (.s .z (.b (.l [(7, .v (.slice (.st 18)) [0]), (18, .v (.int .i64) [])] [7, 9, 18, 19, 20, 21, 22, 23, 24, 25, 26, 27, 28, 29, 30, 31, 32, 33, 34, 35] [(2, [(7, .v (.slice (.st 18)) [0])])] .z))) (.s .z (.s .z (.s (.s .z (.b (.l [(10, .row .str false), (43, .v (.int .i64) [])] [10, 11, 12, 43] [(4, [(10, .row .str false)])] .z))) .z))))))
def sp59 : Spec fam := ⟨[.v (.st 10) [], .v .str [], .v (.int .i64) []], [.v (.slice (.str)) [0]], fun a => nJ a.1 a.2.1 a.2.2.1⟩
def jP (s : State) (label : Int) (deep : Int) (self : State → (List UInt8) → Int → Int → Option (List (List UInt8))) (kids : List (List UInt8)) (t : List (List UInt8) × Int) : Option ((List (List UInt8) × Int) ⊕ List (List UInt8)) :=
 bif decide (t.2 < (kids.length : Int)) then
 (inb t.2 kids.length).bind fun i =>
 (kids[i]?).bind fun x =>
 (self s x label (w64 (deep + 1))).bind fun x1 =>
 (app 16 t.1 x1).bind fun l =>
 some (.inl (l, w64 (t.2 + 1)))
 else
 some (.inr t.1)
def j6 (self : State → (List UInt8) → Int → Int → Option (List (List UInt8))) (s : State) (path : List UInt8) (label : Int) (deep : Int) : Option (List (List UInt8)) :=
 (nJ s path label).bind fun kids =>
 (
 bif (kids.length : Int) == 0 then
  some true
 else
  some (decide (deep > 4))).bind fun q =>
 bif q then
 some [path]
 else
 (loop (jP s label deep self kids) ([], 0)).bind fun out =>
 some out
def dg : Nat → State → (List UInt8) → Int → Int → Option (List (List UInt8))
 | 0 => fun _ _ _ _ => none
 | n + 1 => j6 (dg n)
def pe (a0 : State) (a1 : List UInt8) (a2 : Int) (a3 : Int) : Option (List (List UInt8)) := dg 64 a0 a1 a2 a3
def h119 : Hint := (.s .z (.s .z (.s (.s (.j [17, 18, 19, 20, 21, 22, 23] [(0, [(23, .v .bool [])])] .z) .z) (.s .z (.s (.s .z (.b (.l [(10, .v (.slice (.str)) [0]), (28, .v (.int .i64) [])] [10, 12, 28] [(2, [(10, .v (.slice (.str)) [0])])] .z))) .z)))))
def sp119 : Spec fam := ⟨[.v (.st 10) [], .v .str [], .v (.int .i64) [], .v (.int .i64) []], [.v (.slice (.str)) [0]], fun a => pe a.1 a.2.1 a.2.2.1 a.2.2.2.1⟩
def Fj (n : Nat) : Spec fam := ⟨[.v (.st 10) [], .v .str [], .v (.int .i64) [], .v (.int .i64) []], [.v (.slice (.str)) [0]], fun a => dg n a.1 a.2.1 a.2.2.1 a.2.2.2.1⟩
def mF (s : State) (label : Int) : Option (List (List UInt8)) :=
 (pe s ([114, 111, 111, 116] : List UInt8) label 1).bind fun x =>
 some x
def h58 : Hint := .z
def sp58 : Spec fam := ⟨[.v (.st 10) [], .v (.int .i64) []], [.v (.slice (.str)) [0]], fun a => mF a.1 a.2.1⟩
def gM (a : Int) (cmp : (TupT fam [.st 6, .st 6] → Option Int)) (t1 : List App × Int) : Option ((List App × Int) ⊕ List App) :=
 (
 bif decide (t1.2 > a) then
  (inb t1.2 t1.1.length).bind fun i =>
  (t1.1[i]?).bind fun x =>
  (inb (w64 (t1.2 - 1)) t1.1.length).bind fun i1 =>
  (t1.1[i1]?).bind fun x1 =>
  (cmp (x, x1, ())).bind fun r =>
  some (decide (r < 0))
 else
  some false).bind fun q =>
 bif q then
 (inb (w64 (t1.2 - 1)) t1.1.length).bind fun i2 =>
 (t1.1[i2]?).bind fun x2 =>
 (inb t1.2 t1.1.length).bind fun i3 =>
 (t1.1[i3]?).bind fun x3 =>
 (inb t1.2 t1.1.length).bind fun i4 =>
 (t1.1[i4]?).bind fun x4 =>
 (inb (w64 (t1.2 - 1)) (List.set t1.1 i4 x2).length).bind fun i5 =>
 ((List.set t1.1 i4 x2)[i5]?).bind fun x5 =>
 some (.inl (List.set (List.set t1.1 i4 x2) i5 x3, w64 (t1.2 - 1)))
 else
 some (.inr t1.1)
def ka (a : Int) (b : Int) (cmp : (TupT fam [.st 6, .st 6] → Option Int)) (t : List App × Int) : Option ((List App × Int) ⊕ List App) :=
 bif decide (t.2 < b) then
 (loop (gM a cmp) (t.1, t.2)).bind fun data1 =>
 some (.inl (data1, w64 (t.2 + 1)))
 else
 some (.inr t.1)
def ou (data : List App) (a : Int) (b : Int) (cmp : (TupT fam [.st 6, .st 6] → Option Int)) : Option (List App) :=
 (loop (ka a b cmp) (data, w64 (a + 1))).bind fun data2 =>
 some data2
def h219 : Hint := (.s .z (.b (.l [(0, .row (.st 6) false), (8, .v (.int .i64) [])] [0, 8, 9, 34] [(2, [(0, .row (.st 6) false)])] (.s .z (.s (.b (.s .z (.b (.l [(0, .row (.st 6) false), (9, .v (.int .i64) [])] [0, 9, 34] [(4, [(0, .row (.st 6) false)])] (.s (.s (.j [] [(0, [(34, .v .bool [])])] .z) .z) .z))))) .z)))))
def sp219 : Spec fam := ⟨[.row (.st 6) false, .v (.int .i64) [], .v (.int .i64) [], .fn [.st 6, .st 6] (.int .i64)], [], fun a => ou a.1 a.2.1 a.2.2.1 a.2.2.2.1⟩
def tW (a : Int) (b : Int) (n : Int) (t : List App × Int) : Option ((List App × Int) ⊕ List App) :=
 bif decide (t.2 < n) then
 (inb (w64 (b + t.2)) t.1.length).bind fun i =>
 (t.1[i]?).bind fun x =>
 (inb (w64 (a + t.2)) t.1.length).bind fun i1 =>
 (t.1[i1]?).bind fun x1 =>
 (inb (w64 (a + t.2)) t.1.length).bind fun i2 =>
 (t.1[i2]?).bind fun x2 =>
 (inb (w64 (b + t.2)) (List.set t.1 i2 x).length).bind fun i3 =>
 ((List.set t.1 i2 x)[i3]?).bind fun x3 =>
 some (.inl (List.set (List.set t.1 i2 x) i3 x1, w64 (t.2 + 1)))
 else
 some (.inr t.1)
def mh (data : List App) (a : Int) (b : Int) (n : Int) (cmp : (TupT fam [.st 6, .st 6] → Option Int)) : Option (List App) :=
 (loop (tW a b n) (data, 0)).bind fun data1 =>
 some data1
def h345 : Hint := (.s .z (.b (.l [(0, .row (.st 6) false), (10, .v (.int .i64) [])] [0, 10] [(2, [(0, .row (.st 6) false)])] .z)))
def sp345 : Spec fam := ⟨[.row (.st 6) false, .v (.int .i64) [], .v (.int .i64) [], .v (.int .i64) [], .fn [.st 6, .st 6] (.int .i64)], [], fun a => mh a.1 a.2.1 a.2.2.1 a.2.2.2.1 a.2.2.2.2.1⟩
def tV (m : Int) (cmp : (TupT fam [.st 6, .st 6] → Option Int)) (t : List App × Int × Int) : Option ((List App × Int × Int) ⊕ ((List App × Int))) :=
 bif t.2.1 != t.2.2 then
 bif decide (t.2.1 > t.2.2) then
  (mh t.1 (w64 (m - t.2.1)) m t.2.2 cmp).bind fun x =>
  let i := w64 (t.2.1 - t.2.2)
  some (.inl (x, i, t.2.2))
 else
  (mh t.1 (w64 (m - t.2.1)) (w64 ((w64 (m + t.2.2)) - t.2.1)) t.2.1 cmp).bind fun x1 =>
  let j := w64 (t.2.2 - t.2.1)
  some (.inl (x1, t.2.1, j))
 else
 some (.inr (t.1, t.2.1))
def qI (data : List App) (a : Int) (m : Int) (b : Int) (cmp : (TupT fam [.st 6, .st 6] → Option Int)) : Option (List App) :=
 (loop (tV m cmp) (data, w64 (m - a), w64 (b - m))).bind fun q =>
 (mh q.1 (w64 (m - q.2)) m q.2 cmp).bind fun x2 =>
 some x2
def h299 : Hint := (.s .z (.s .z (.s (.b (.l [(0, .row (.st 6) false), (10, .v (.int .i64) []), (11, .v (.int .i64) [])] [0, 10, 11] [(2, [(0, .row (.st 6) false), (10, .v (.int .i64) [])])] .z)) .z)))
def sp299 : Spec fam := ⟨[.row (.st 6) false, .v (.int .i64) [], .v (.int .i64) [], .v (.int .i64) [], .fn [.st 6, .st 6] (.int .i64)], [], fun a => qI a.1 a.2.1 a.2.2.1 a.2.2.2.1 a.2.2.2.2.1⟩
def r8 (data : List App) (cmp : (TupT fam [.st 6, .st 6] → Option Int)) (p : Int) (t4 : Int × Int) : Option ((Int × Int) ⊕ Int) :=
 bif decide (t4.1 < t4.2) then
 let c := w64 (shrK .u64 (IntKind.u64.wrap (w64 (t4.1 + t4.2))) 1)
 (inb (w64 (p - c)) data.length).bind fun i14 =>
 (data[i14]?).bind fun x12 =>
 (inb c data.length).bind fun i15 =>
 (data[i15]?).bind fun x13 =>
 (cmp (x12, x13, ())).bind fun r2 =>
 bif ! (decide (r2 < 0)) then
  some (.inl (w64 (c + 1), t4.2))
 else
  some (.inl (t4.1, c))
 else
 some (.inr t4.1)
def r7 (i9 : Int) (t3 : List App × Int) : Option ((List App × Int) ⊕ List App) :=
 bif decide (t3.2 > i9) then
 (inb (w64 (t3.2 - 1)) t3.1.length).bind fun i10 =>
 (t3.1[i10]?).bind fun x8 =>
 (inb t3.2 t3.1.length).bind fun i11 =>
 (t3.1[i11]?).bind fun x9 =>
 (inb t3.2 t3.1.length).bind fun i12 =>
 (t3.1[i12]?).bind fun x10 =>
 (inb (w64 (t3.2 - 1)) (List.set t3.1 i12 x8).length).bind fun i13 =>
 ((List.set t3.1 i12 x8)[i13]?).bind fun x11 =>
 some (.inl (List.set (List.set t3.1 i12 x8) i13 x9, w64 (t3.2 - 1)))
 else
 some (.inr t3.1)
def rY (data : List App) (m : Int) (cmp : (TupT fam [.st 6, .st 6] → Option Int)) (t2 : Int × Int) : Option ((Int × Int) ⊕ Int) :=
 bif decide (t2.1 < t2.2) then
 let h1 := w64 (shrK .u64 (IntKind.u64.wrap (w64 (t2.1 + t2.2))) 1)
 (inb m data.length).bind fun i7 =>
 (data[i7]?).bind fun x6 =>
 (inb h1 data.length).bind fun i8 =>
 (data[i8]?).bind fun x7 =>
 (cmp (x6, x7, ())).bind fun r1 =>
 bif ! (decide (r1 < 0)) then
  some (.inl (w64 (h1 + 1), t2.2))
 else
  some (.inl (t2.1, h1))
 else
 some (.inr t2.1)
def rX (i2 : Int) (t1 : List App × Int) : Option ((List App × Int) ⊕ List App) :=
 bif decide (t1.2 < (w64 (i2 - 1))) then
 (inb (w64 (t1.2 + 1)) t1.1.length).bind fun i3 =>
 (t1.1[i3]?).bind fun x2 =>
 (inb t1.2 t1.1.length).bind fun i4 =>
 (t1.1[i4]?).bind fun x3 =>
 (inb t1.2 t1.1.length).bind fun i5 =>
 (t1.1[i5]?).bind fun x4 =>
 (inb (w64 (t1.2 + 1)) (List.set t1.1 i5 x2).length).bind fun i6 =>
 ((List.set t1.1 i5 x2)[i6]?).bind fun x5 =>
 some (.inl (List.set (List.set t1.1 i5 x2) i6 x3, w64 (t1.2 + 1)))
 else
 some (.inr t1.1)
def rZ (data : List App) (a : Int) (cmp : (TupT fam [.st 6, .st 6] → Option Int)) (t : Int × Int) : Option ((Int × Int) ⊕ Int) :=
 bif decide (t.1 < t.2) then
 let h := w64 (shrK .u64 (IntKind.u64.wrap (w64 (t.1 + t.2))) 1)
 (inb h data.length).bind fun i =>
 (data[i]?).bind fun x =>
 (inb a data.length).bind fun i1 =>
 (data[i1]?).bind fun x1 =>
 (cmp (x, x1, ())).bind fun r =>
 bif decide (r < 0) then
  some (.inl (w64 (h + 1), t.2))
 else
  some (.inl (t.1, h))
 else
 some (.inr t.1)
def uG (self : (List App) → Int → Int → Int → ((TupT fam [.st 6, .st 6] → Option Int)) → Option (List App)) (data : List App) (a : Int) (m : Int) (b : Int) (cmp : (TupT fam [.st 6, .st 6] → Option Int)) : Option (List App) :=
 bif (w64 (m - a)) == 1 then
 (loop (rZ data a cmp) (m, b)).bind fun i2 =>
 (loop (rX i2) (data, a)).bind fun data1 =>
 some data1
 else
 bif (w64 (b - m)) == 1 then
  (loop (rY data m cmp) (a, m)).bind fun i9 =>
  (loop (r7 i9) (data, m)).bind fun data2 =>
  some data2
 else
  let mid := w64 (shrK .u64 (IntKind.u64.wrap (w64 (a + b))) 1)
  (
  bif decide (m > mid) then
   let start := w64 ((w64 (mid + m)) - b)
   some (start, mid)
  else
   some (a, m)).bind fun q =>
  let p := w64 ((w64 (mid + m)) - 1)
  (loop (r8 data cmp p) (q.1, q.2)).bind fun start1 =>
  let end_ := w64 ((w64 (mid + m)) - start1)
  (
  (
   bif decide (start1 < m) then
   some (decide (m < end_))
   else
   some false).bind fun q1 =>
  bif q1 then
   (qI data start1 m end_ cmp).bind fun x14 =>
   some x14
  else
   some data).bind fun data3 =>
  (
  (
   bif decide (a < start1) then
   some (decide (start1 < mid))
   else
   some false).bind fun q2 =>
  bif q2 then
   (self data3 a start1 mid cmp).bind fun x15 =>
   some x15
  else
   some data3).bind fun data4 =>
  (
  bif decide (mid < end_) then
   some (decide (end_ < b))
  else
   some false).bind fun q3 =>
  bif q3 then
  (self data4 mid end_ b cmp).bind fun x16 =>
  some x16
  else
  some data4
def mX : Nat → (List App) → Int → Int → Int → ((TupT fam [.st 6, .st 6] → Option Int)) → Option (List App)
 | 0 => fun _ _ _ _ _ => none
 | n + 1 => uG (mX n)
def oB (a0 : List App) (a1 : Int) (a2 : Int) (a3 : Int) (a4 : (TupT fam [.st 6, .st 6] → Option Int)) : Option (List App) := mX 64 a0 a1 a2 a3 a4
def h220 : Hint := (.s (.s .z (.c (.s .z (.s .z (.s (.b (.l [(10, .v (.int .i64) []), (11, .v (.int .i64) [])] [10, 11, 12] [(2, [(10, .v (.int .i64) [])])] .z)) (.s (.s .z (.b (.l [(0, .row (.st 6) false), (13, .v (.int .i64) [])] [0, 13] [(4, [(0, .row (.st 6) false)])] .z))) .z)))) .z)) (.s (.s .z (.c (.s .z (.s .z (.s (.b (.l [(14, .v (.int .i64) []), (15, .v (.int .i64) [])] [14, 15, 16] [(6, [(14, .v (.int .i64) [])])] .z)) (.s (.s .z (.b (.l [(0, .row (.st 6) false), (17, .v (.int .i64) [])] [0, 17] [(8, [(0, .row (.st 6) false)])] .z))) .z)))) .z)) (.s .z (.s .z (.s .z (.s (.j [20, 21] [(0, [(20, .v (.int .i64) []), (21, .v (.int .i64) [])])] .z) (.s .z (.s (.b (.l [(20, .v (.int .i64) []), (21, .v (.int .i64) [])] [20, 21, 23] [(10, [(20, .v (.int .i64) [])])] .z)) (.s .z (.s (.j [0, 185] [(0, [(0, .row (.st 6) false)])] (.s (.j [] [(0, [(185, .v .bool [])])] .z) .z)) (.s (.j [0, 199] [(0, [(0, .row (.st 6) false)])] (.s (.j [] [(0, [(199, .v .bool [])])] .z) .z)) (.s (.j [] [(0, [(213, .v .bool [])])] .z) .z))))))))))))
def sp220 : Spec fam := ⟨[.row (.st 6) false, .v (.int .i64) [], .v (.int .i64) [], .v (.int .i64) [], .fn [.st 6, .st 6] (.int .i64)], [], fun a => oB a.1 a.2.1 a.2.2.1 a.2.2.2.1 a.2.2.2.2.1⟩
def EQ (n : Nat) : Spec fam := ⟨[.row (.st 6) false, .v (.int .i64) [], .v (.int .i64) [], .v (.int .i64) [], .fn [.st 6, .st 6] (.int .i64)], [], fun a => mX n a.1 a.2.1 a.2.2.1 a.2.2.2.1 a.2.2.2.2.1⟩
def tq (n : Int) (cmp : (TupT fam [.st 6, .st 6] → Option Int)) (t1 : List App × Int) (t2 : List App × Int × Int) : Option ((List App × Int × Int) ⊕ ((List App × Int))) :=
 bif decide (t2.2.2 ≤ n) then
 (oB t2.1 t2.2.1 (w64 (t2.2.1 + t1.2)) t2.2.2 cmp).bind fun x2 =>
 let b := w64 (t2.2.2 + (w64 (2 * t1.2)))
 some (.inl (x2, t2.2.2, b))
 else
 some (.inr (t2.1, t2.2.1))
def mI (n : Int) (cmp : (TupT fam [.st 6, .st 6] → Option Int)) (t1 : List App × Int) : Option ((List App × Int) ⊕ List App) :=
 bif decide (t1.2 < n) then
 (loop (tq n cmp t1) (t1.1, 0, w64 (2 * t1.2))).bind fun q1 =>
 (
  let m := w64 (q1.2 + t1.2)
  bif decide (m < n) then
  (oB q1.1 q1.2 m n cmp).bind fun x3 =>
  some x3
  else
  some q1.1).bind fun data1 =>
 some (.inl (data1, w64 (t1.2 * 2)))
 else
 some (.inr t1.1)
def me (n : Int) (cmp : (TupT fam [.st 6, .st 6] → Option Int)) (t : List App × Int × Int) : Option ((List App × Int × Int) ⊕ ((List App × Int))) :=
 bif decide (t.2.2 ≤ n) then
 (ou t.1 t.2.1 t.2.2 cmp).bind fun x =>
 some (.inl (x, t.2.2, w64 (t.2.2 + 20)))
 else
 some (.inr (t.1, t.2.1))
def oy (data : List App) (n : Int) (cmp : (TupT fam [.st 6, .st 6] → Option Int)) : Option (List App) :=
 (loop (me n cmp) (data, 0, 20)).bind fun q =>
 (ou q.1 q.2 n cmp).bind fun x1 =>
 (loop (mI n cmp) (x1, 20)).bind fun data2 =>
 some data2
def h140 : Hint := (.s .z (.s .z (.s (.b (.l [(0, .row (.st 6) false), (7, .v (.int .i64) []), (8, .v (.int .i64) [])] [0, 7, 8] [(2, [(0, .row (.st 6) false), (7, .v (.int .i64) [])])] .z)) (.s .z (.b (.l [(0, .row (.st 6) false), (6, .v (.int .i64) [])] [0, 6, 7, 8, 9] [(4, [(0, .row (.st 6) false)])] (.s .z (.b (.s .z (.s (.b (.l [(0, .row (.st 6) false), (7, .v (.int .i64) []), (8, .v (.int .i64) [])] [0, 7, 8] [(6, [(0, .row (.st 6) false), (7, .v (.int .i64) [])])] .z)) (.s (.j [0, 9] [(0, [(0, .row (.st 6) false)])] .z) .z)))))))))))
def sp140 : Spec fam := ⟨[.row (.st 6) false, .v (.int .i64) [], .fn [.st 6, .st 6] (.int .i64)], [], fun a => oy a.1 a.2.1 a.2.2.1⟩
def lq (x : List App) (cmp : (TupT fam [.st 6, .st 6] → Option Int)) : Option (List App) :=
 (oy x (x.length : Int) cmp).bind fun x1 =>
 some x1
def h66 : Hint := .z
def sp66 : Spec fam := ⟨[.row (.st 6) false, .fn [.st 6, .st 6] (.int .i64)], [], fun a => lq a.1 a.2.1⟩
def kR (x : Int) : Option Bool :=
 some (x != x)
def h141 : Hint := .z
def sp141 : Spec fam := ⟨[.v (.int .i64) []], [.v .bool []], fun a => kR a.1⟩
def gU (x : Int) (y : Int) : Option Int :=
 (kR x).bind fun xNaN =>
 (kR y).bind fun yNaN =>
 bif xNaN then
 bif yNaN then
  some 0
 else
  some (-1)
 else
 bif yNaN then
  some 1
 else
  bif decide (x < y) then
  some (-1)
  else
  bif decide (x > y) then
   some 1
  else
   some 0
def h69 : Hint := .z
def sp69 : Spec fam := ⟨[.v (.int .i64) [], .v (.int .i64) []], [.v (.int .i64) []], fun a => gU a.1 a.2.1⟩
def jv (a : App) (b : App) : Option Int :=
 (gU b.Prio a.Prio).bind fun x =>
 (gU a.Id b.Id).bind fun x1 =>
 (lz [x, x1]).bind fun x2 =>
 some x2
def h67 : Hint := .z
def sp67 : Spec fam := ⟨[.v (.st 6) [], .v (.st 6) []], [.v (.int .i64) []], fun a => jv a.1 a.2.1⟩
def j5 (x2 : List App) (t1 : List Int × Int) : Option ((List Int × Int) ⊕ List Int) :=
 bif decide (t1.2 < (x2.length : Int)) then
 (inb t1.2 x2.length).bind fun i =>
 (x2[i]?).bind fun x3 =>
 (inb t1.2 t1.1.length).bind fun i1 =>
 (t1.1[i1]?).bind fun x4 =>
 some (.inl (List.set t1.1 i1 x3.Id, w64 (t1.2 + 1)))
 else
 some (.inr t1.1)
def lK (s : State) (queue : List UInt8) (t : List App × Int) : Option ((List App × Int) ⊕ List App) :=
 bif decide (t.2 < (s.Apps.length : Int)) then
 (
  (idx s.Apps t.2).bind fun x =>
  (
  (ny x).bind fun x1 =>
  bif x1 then
   some (x.Queue == queue)
  else
   some false).bind fun q =>
  bif q then
  (app 200 t.1 [x]).bind fun l =>
  some l
  else
  some t.1).bind fun l1 =>
 some (.inl (l1, w64 (t.2 + 1)))
 else
 some (.inr t.1)
def nN (s : State) (queue : List UInt8) : Option (List Int) :=
 (loop (lK s queue) ([], 0)).bind fun l2 =>
 (lq l2 (fun a' => jv a'.1 a'.2.1)).bind fun x2 =>
 (mkl 8 (x2.length : Int) (x2.length : Int) 0).bind fun l3 =>
 (loop (j5 x2) (l3, 0)).bind fun out =>
 some out
def h19 : Hint := (.s .z (.s .z (.s (.s .z (.b (.l [(5, .v (.slice (.st 6)) [0]), (14, .v (.int .i64) [])] [5, 7, 14, 15, 16, 17, 18, 19, 20, 21, 22, 23, 24, 25, 26, 27, 28, 29, 30] [(2, [(5, .v (.slice (.st 6)) [0])])] (.s .z (.s .z (.s (.j [5, 7, 16, 17, 18, 19, 20, 21, 22, 23, 24, 25, 26, 27, 28, 29] [(0, [(5, .v (.slice (.st 6)) [0])])] (.b (.s .z (.s (.j [18, 19, 20, 21, 22, 23, 24, 25] [(0, [(25, .v .bool [])])] .z) .z)))) .z)))))) (.s .z (.s .z (.s (.s .z (.b (.l [(8, .row (.int .i64) false), (38, .v (.int .i64) [])] [8, 9, 10, 38] [(4, [(8, .row (.int .i64) false)])] .z))) .z))))))
def sp19 : Spec fam := ⟨[.v (.st 10) [], .v .str []], [.v (.slice (.int .i64)) [0]], fun a => nN a.1 a.2.1⟩
def oQ (l : List Ask) (prio : Int) : Option (List Ask) :=
 (oA l).bind fun out =>
 (
 (nX out prio).bind fun i =>
 bif decide (i ≥ 0) then
  (inb i out.length).bind fun i1 =>
  (out[i1]?).bind fun x =>
  (inb i out.length).bind fun i2 =>
  (out[i2]?).bind fun x1 =>
  some (List.set out i2 (⟨x1.Prio, x1.Label, ⟨x1.Size.Mem, x1.Size.Cores⟩, x1.Count, x1.Node, x1.Rack, imin (w64 (x.Missed + 1)) 100⟩ : Ask))
 else
  some out).bind fun out1 =>
 some out1
def h323 : Hint := (.s .z (.s .z (.s (.j [5, 6] [(0, [(5, .row (.st 5) false)])] .z) .z)))
def sp323 : Spec fam := ⟨[.v (.slice (.st 5)) [], .v (.int .i64) []], [.v (.slice (.st 5)) [0]], fun a => oQ a.1 a.2.1⟩
def ic (t : Attempt) (a : App) (prio : Int) : Option (App × Attempt) :=
 (oQ a.Asks prio).bind fun x =>
 (lP t.s (⟨a.Id, a.State, a.Queue, a.User, a.Prio, ⟨a.Master.Mem, a.Master.Cores⟩, x, a.Seen, a.Beat, a.Grants, a.Kills, a.Told, a.Lost⟩ : App)).bind fun x1 =>
 some ((⟨a.Id, a.State, a.Queue, a.User, a.Prio, ⟨a.Master.Mem, a.Master.Cores⟩, x, a.Seen, a.Beat, a.Grants, a.Kills, a.Told, a.Lost⟩ : App), (⟨⟨⟨x1.Conf.Labels, x1.Conf.Queues⟩, x1.Nodes, x1.Apps, x1.Conts, x1.Slots, x1.Plans, x1.Now, x1.Epoch, x1.Seq⟩, ⟨t.n.Id, t.n.Label, t.n.Rack, ⟨t.n.Cap.Mem, t.n.Cap.Cores⟩, t.n.Seen, t.n.Beat, t.n.Up⟩, ⟨t.free.Mem, t.free.Cores⟩⟩ : Attempt))
def h266 : Hint := .z
def sp266 : Spec fam := ⟨[.box (.st 19) [0, 1, 2, 3, 4, 5, 6], .v (.st 6) [7, 10, 11, 12, 13], .v (.int .i64) []], [.v (.st 6) [7, 10, 11, 12, 13]], fun a => ic a.1 a.2.1 a.2.2.1⟩
def lL (s : List Slot) (f : (TupT fam [.st 8] → Option Bool)) : Option Bool :=
 (ii s f).bind fun x =>
 some (decide (x ≥ 0))
def h324 : Hint := .z
def sp324 : Spec fam := ⟨[.v (.slice (.st 8)) [], .fn [.st 8] .bool], [.v .bool []], fun a => lL a.1 a.2.1⟩
def jo (x : Slot) (p : Int) (p1 : Int) : Option Bool :=
 bif x.App == p then
 some (x.Prio == p1)
 else
 some false
def h325 : Hint := .z
def sp325 : Spec fam := ⟨[.v (.st 8) [], .rp (.int .i64), .rp (.int .i64)], [.v .bool []], fun a => jo a.1 a.2.1 a.2.2.1⟩
def tD (s : List Slot) (i : Int) (v : List Slot) : Option (List Slot) :=
 (inS i (s.length : Int) s.length).bind fun p =>
 bif (v.length : Int) == 0 then
 some s
 else
 bif i == (s.length : Int) then
  (app 24 s v).bind fun l =>
  some l
 else
  none
def nH (s : List Slot) (i : Int) (v : List Slot) : Option (List Slot) := ins s i v
def h326 : Hint := .z
def sp326 : Spec fam := ⟨[.v (.slice (.st 8)) [0], .v (.int .i64) [], .v (.slice (.st 8)) [0]], [.v (.slice (.st 8)) [0]], fun a => nH a.1 a.2.1 a.2.2.1⟩
def E_ : Spec fam := ⟨[.v (.slice (.st 8)) [0], .v (.int .i64) [], .v (.slice (.st 8)) [0]], [.v (.slice (.st 8)) [0]], fun a => tD a.1 a.2.1 a.2.2.1⟩
def d7 (t : Attempt) (k : Int) : Option (Int ⊕ Int) :=
 (
 bif decide (k < (t.s.Slots.length : Int)) then
  (inb k t.s.Slots.length).bind fun i =>
  (t.s.Slots[i]?).bind fun x1 =>
  some (decide (x1.Node < t.n.Id))
 else
  some false).bind fun q =>
 bif q then
 some (.inl (w64 (k + 1)))
 else
 some (.inr k)
def hS (t : Attempt) (id_ : Int) (prio : Int) : Option (Bool × Attempt) :=
 (lL t.s.Slots (fun a' => jo a'.1 id_ prio)).bind fun x =>
 bif x then
 some (false, t)
 else
 (loop (d7 t) 0).bind fun k1 =>
 (nH t.s.Slots k1 [(⟨t.n.Id, id_, prio⟩ : Slot)]).bind fun x2 =>
 some (true, (⟨⟨⟨t.s.Conf.Labels, t.s.Conf.Queues⟩, t.s.Nodes, t.s.Apps, t.s.Conts, x2, t.s.Plans, t.s.Now, t.s.Epoch, t.s.Seq⟩, ⟨t.n.Id, t.n.Label, t.n.Rack, ⟨t.n.Cap.Mem, t.n.Cap.Cores⟩, t.n.Seen, t.n.Beat, t.n.Up⟩, ⟨t.free.Mem, t.free.Cores⟩⟩ : Attempt))
def h267 : Hint := (.s .z (.s .z (.s .z (.s (.b (.l [(7, .v (.int .i64) [])] [7, 39] [(2, [(7, .v (.int .i64) [])])] (.s (.s (.j [] [(0, [(39, .v .bool [])])] .z) .z) .z))) .z))))
def sp267 : Spec fam := ⟨[.box (.st 19) [0, 1, 2, 3, 4, 5, 6], .v (.int .i64) [], .v (.int .i64) []], [.v .bool []], fun a => hS a.1 a.2.1 a.2.2.1⟩
def bm (first : Bool) (may : (TupT fam [.st 5, .st 4] → Option Bool)) (x2 : Int) (x5 : List Ask) (t3 : Attempt × Cont × App × Int) : Option ((Attempt × Cont × App × Int) ⊕ ((Attempt × Int × Cont) ⊕ (Attempt × Cont))) :=
 bif decide (t3.2.2.2 < (x5.length : Int)) then
 (
  (inb t3.2.2.2 x5.length).bind fun i1 =>
  (x5[i1]?).bind fun x6 =>
  (eA t3.1 t3.2.2.1 x6).bind fun due =>
  (
  (cV t3.1 x6).bind fun x7 =>
  bif ! x7 then
   some true
  else
   bif first then
   some (! due)
   else
   some false).bind fun q =>
  bif q then
  some (.inl (t3.1, t3.2.1, t3.2.2.1))
  else
  (may (x6, t3.1.n, ())).bind fun r =>
  bif ! r then
   bif first == due then
   (ic t3.1 t3.2.2.1 x6.Prio).bind fun x8 =>
   some (.inl (x8.2, t3.2.1, x8.1))
   else
   some (.inl (t3.1, t3.2.1, t3.2.2.1))
  else
   (dR t3.1 t3.2.2.1 x6).bind fun x9 =>
   bif ! x9 then
   some (.inl (t3.1, t3.2.1, t3.2.2.1))
   else
   (dV t3.1 x6).bind fun x10 =>
   bif x10 then
    (bJ t3.1 t3.2.2.1 x6).bind fun x11 =>
    some (.inr (x11.2, 1, x11.1))
   else
    (
    bif first then
     (hS t3.1 x2 x6.Prio).bind fun x12 =>
     some (x12.2, x12.1)
    else
     some (t3.1, false)).bind fun q1 =>
    bif q1.2 then
    some (.inr (q1.1, 2, (⟨0, 0, 0, ⟨0, 0⟩, 0, 0, false, 0⟩ : Cont)))
    else
    some (.inl (q1.1, t3.2.1, t3.2.2.1)) : Option ((Attempt × Cont × App) ⊕ (Attempt × Int × Cont))).bind fun q0 =>
 match q0 with
 | .inl q2 =>
  some (.inl (q2.1, q2.2.1, q2.2.2, w64 (t3.2.2.2 + 1)))
 | .inr q3 =>
  some (.inr (.inl (q3.1, q3.2.1, q3.2.2)))
 else
 some (.inr (.inr (t3.1, t3.2.1)))
def bO (first : Bool) (may : (TupT fam [.st 5, .st 4] → Option Bool)) (x1 : List Int) (t2 : Attempt × Cont × Int) : Option ((Attempt × Cont × Int) ⊕ ((Attempt × Int × Cont) ⊕ (Attempt × Cont) ⊕ (Attempt × Cont))) :=
 bif decide (t2.2.2 < (x1.length : Int)) then
 (
  (inb t2.2.2 x1.length).bind fun i =>
  (x1[i]?).bind fun x2 =>
  (np t2.1.s x2).bind fun x3 =>
  bif ! x3.2 then
  some (.inr (.inr (t2.1, t2.2.1)))
  else
  (dL t2.1 x3.1).bind fun x4 =>
  bif ! x4 then
   some (.inl (t2.1, t2.2.1))
  else
   (mZ x3.1.Asks).bind fun x5 =>
   (loop (bm first may x2 x5) (t2.1, t2.2.1, x3.1, 0)).bind fun q0 =>
   match q0 with
   | .inl q4 =>
   some (.inr (.inl (q4.1, q4.2.1, q4.2.2)))
   | .inr q5 =>
   some (.inl (q5.1, q5.2)) : Option ((Attempt × Cont) ⊕ (Attempt × Int × Cont) ⊕ (Attempt × Cont))).bind fun q0 =>
 match q0 with
 | .inl q6 =>
  some (.inl (q6.1, q6.2, w64 (t2.2.2 + 1)))
 | .inr (.inl q7) =>
  some (.inr (.inl (q7.1, q7.2.1, q7.2.2)))
 | .inr (.inr q8) =>
  some (.inr (.inr (.inl (q8.1, q8.2))))
 else
 some (.inr (.inr (.inr (t2.1, t2.2.1))))
def dw (leaves : List (List UInt8)) (first : Bool) (may : (TupT fam [.st 5, .st 4] → Option Bool)) (t1 : Attempt × Cont × Int) : Option ((Attempt × Cont × Int) ⊕ ((Attempt × Int × Cont) ⊕ (Attempt × Cont))) :=
 bif decide (t1.2.2 < (leaves.length : Int)) then
 (
  (idx leaves t1.2.2).bind fun x =>
  (nN t1.1.s x).bind fun x1 =>
  (loop (bO first may x1) (t1.1, t1.2.1, 0)).bind fun q0 =>
  match q0 with
  | .inl q9 =>
  some (.inr (q9.1, q9.2.1, q9.2.2))
  | .inr (.inl q10) =>
  some (.inl (q10.1, q10.2))
  | .inr (.inr q11) =>
  some (.inl (q11.1, q11.2)) : Option ((Attempt × Cont) ⊕ (Attempt × Int × Cont))).bind fun q0 =>
 match q0 with
 | .inl q12 =>
  some (.inl (q12.1, q12.2, w64 (t1.2.2 + 1)))
 | .inr q13 =>
  some (.inr (.inl (q13.1, q13.2.1, q13.2.2)))
 else
 some (.inr (.inr (t1.1, t1.2.1)))
def c9 (t : Attempt) (leaves : List (List UInt8)) (first : Bool) (may : (TupT fam [.st 5, .st 4] → Option Bool)) : Option (Int × Cont × Attempt) :=
 (loop (dw leaves first may) (t, (⟨0, 0, 0, ⟨0, 0⟩, 0, 0, false, 0⟩ : Cont), 0)).bind fun q0 =>
 match q0 with
 | .inl q14 =>
 some (q14.2.1, q14.2.2, q14.1)
 | .inr q15 =>
 some (0, (⟨0, 0, 0, ⟨0, 0⟩, 0, 0, false, 0⟩ : Cont), q15.1)
def h189 : Hint := (.s .z (.b (.s .z (.s .z (.s (.s .z (.b (.l [(0, .box (.st 19) [0, 1, 2, 3, 4, 5, 6]), (9, .box (.st 7) []), (24, .v (.int .i64) [])] [0, 8, 9, 12, 14, 15, 16, 18, 19, 24, 25, 26, 27, 28, 29, 30, 31, 32, 33, 34, 35, 36, 37, 38, 39, 40, 41, 42, 43, 44, 45, 46, 47, 48, 49, 50, 51, 52, 53, 54, 55, 56, 57, 58, 66, 109] [(1, [(0, .box (.st 19) [0, 1, 2, 3, 4, 5, 6]), (8, .v (.int .i64) []), (9, .box (.st 7) [])]), (2, [(0, .box (.st 19) [0, 1, 2, 3, 4, 5, 6]), (9, .box (.st 7) [])])] (.s .z (.s .z (.s (.j [0, 8, 9, 12, 14, 15, 16, 18, 19, 26, 27, 28, 29, 30, 31, 32, 33, 34, 35, 36, 37, 38, 39, 40, 41, 42, 43, 44, 45, 46, 47, 48, 49, 50, 51, 52, 53, 54, 55, 56, 57, 58, 66, 109] [(0, [(0, .box (.st 19) [0, 1, 2, 3, 4, 5, 6]), (9, .box (.st 7) [])]), (1, [(0, .box (.st 19) [0, 1, 2, 3, 4, 5, 6]), (8, .v (.int .i64) []), (9, .box (.st 7) [])])] (.b (.s .z (.s .z (.b (.l [(0, .box (.st 19) [0, 1, 2, 3, 4, 5, 6]), (9, .box (.st 7) []), (35, .v (.int .i64) [])] [0, 8, 9, 14, 15, 16, 18, 19, 31, 35, 36, 37, 38, 39, 40, 41, 42, 43, 44, 45, 46, 47, 48, 49, 50, 51, 52, 53, 54, 55, 56, 57, 58, 66, 109] [(1, [(0, .box (.st 19) [0, 1, 2, 3, 4, 5, 6]), (8, .v (.int .i64) []), (9, .box (.st 7) [])]), (3, [(0, .box (.st 19) [0, 1, 2, 3, 4, 5, 6]), (9, .box (.st 7) [])]), (4, [(0, .box (.st 19) [0, 1, 2, 3, 4, 5, 6]), (9, .box (.st 7) [])])] (.s .z (.s .z (.s (.j [0, 8, 9, 14, 15, 16, 18, 19, 37, 38, 39, 40, 41, 42, 43, 44, 45, 46, 47, 48, 49, 50, 51, 52, 53, 54, 55, 56, 57, 58, 66, 109] [(0, [(0, .box (.st 19) [0, 1, 2, 3, 4, 5, 6]), (9, .box (.st 7) [])]), (1, [(0, .box (.st 19) [0, 1, 2, 3, 4, 5, 6]), (8, .v (.int .i64) []), (9, .box (.st 7) [])]), (3, [(0, .box (.st 19) [0, 1, 2, 3, 4, 5, 6]), (9, .box (.st 7) [])])] (.b (.s .z (.s .z (.s .z (.s .z (.s .z (.b (.l [(0, .box (.st 19) [0, 1, 2, 3, 4, 5, 6]), (9, .box (.st 7) []), (15, .box (.st 6) [7, 10, 11, 12, 13]), (58, .v (.int .i64) [])] [0, 8, 9, 15, 18, 19, 43, 46, 51, 54, 55, 58, 66, 109] [(1, [(0, .box (.st 19) [0, 1, 2, 3, 4, 5, 6]), (8, .v (.int .i64) []), (9, .box (.st 7) [])]), (6, [(0, .box (.st 19) [0, 1, 2, 3, 4, 5, 6]), (9, .box (.st 7) [])])] (.s .z (.s .z (.s (.j [0, 8, 9, 15, 18, 19, 66, 109] [(0, [(0, .box (.st 19) [0, 1, 2, 3, 4, 5, 6]), (9, .box (.st 7) []), (15, .box (.st 6) [7, 10, 11, 12, 13])]), (1, [(0, .box (.st 19) [0, 1, 2, 3, 4, 5, 6]), (8, .v (.int .i64) []), (9, .box (.st 7) [])])] (.b (.s .z (.s .z (.b (.s (.j [] [(0, [(66, .v .bool [])])] .z) (.c .z (.s .z (.c .z (.s .z (.c .z (.s .z (.c .z (.s (.j [0] [(0, [(0, .box (.st 19) [0, 1, 2, 3, 4, 5, 6]), (109, .v .bool [])])] .z) .z)))))))))))))) .z)))))))))))) .z))))))))) .z)))))) .z)))))
def sp189 : Spec fam := ⟨[.box (.st 19) [0, 1, 2, 3, 4, 5, 6], .v (.slice (.str)) [], .v .bool [], .fn [.st 5, .st 4] .bool], [.v (.int .i64) [], .v (.st 7) []], fun a => c9 a.1 a.2.1 a.2.2.1 a.2.2.2.1⟩
def cA (t : Attempt) : Option (Int × Cont × Attempt) :=
 (mF t.s t.n.Label).bind fun leaves =>
 (c9 t leaves true (fun a' => iC a'.1 a'.2.1)).bind fun x =>
 bif x.1 != 0 then
 some (x.1, x.2.1, x.2.2)
 else
 (c9 x.2.2 leaves false (fun a' => iC a'.1 a'.2.1)).bind fun x1 =>
 some (x1.1, x1.2.1, x1.2.2)
def h106 : Hint := .z
def sp106 : Spec fam := ⟨[.box (.st 19) [0, 1, 2, 3, 4, 5, 6]], [.v (.int .i64) [], .v (.st 7) []], fun a => cA a.1⟩
def jK (s : State) (node : Int) : Option (State × Int × Cont) :=
 (jC s []).bind fun x =>
 (mC s node).bind fun x1 =>
 (
 bif ! x1.2 then
  some true
 else
  bif ! x1.1.Up then
  some true
  else
  bif decide ((s.Conts.length : Int) ≥ 200) then
   some true
  else
   some (decide (s.Seq ≥ 1048575))).bind fun q =>
 bif q then
 some (x, 0, (⟨0, 0, 0, ⟨0, 0⟩, 0, 0, false, 0⟩ : Cont))
 else
 (nP s node).bind fun x2 =>
 (bw (⟨⟨⟨x.Conf.Labels, x.Conf.Queues⟩, x.Nodes, x.Apps, x.Conts, x.Slots, x.Plans, x.Now, x.Epoch, x.Seq⟩, ⟨x1.1.Id, x1.1.Label, x1.1.Rack, ⟨x1.1.Cap.Mem, x1.1.Cap.Cores⟩, x1.1.Seen, x1.1.Beat, x1.1.Up⟩, ⟨x2.Mem, x2.Cores⟩⟩ : Attempt)).bind fun x3 =>
 (
  bif ! x3.2.2.1 then
  (cA x3.2.2.2).bind fun x4 =>
  some (x4.1, x4.2.1, x4.2.2)
  else
  some (x3.1, x3.2.1, x3.2.2.2)).bind fun q1 =>
 (jC q1.2.2.s []).bind fun x5 =>
 some (x5, q1.1, q1.2.1)
def h41 : Hint := (.s .z (.s .z (.s .z (.s (.s (.j [] [(0, [(37, .v .bool [])])] .z) .z) (.s .z (.s .z (.s (.j [5, 6, 10] [(0, [(5, .v (.int .i64) []), (6, .box (.st 7) []), (10, .box (.st 19) [0, 1, 2, 3, 4, 5, 6])])] .z) .z)))))))
def sp41 : Spec fam := ⟨[.v (.st 10) [], .v (.int .i64) []], [.v (.st 10) [0, 1, 2, 3, 4, 5, 6], .v (.int .i64) [], .v (.st 7) []], fun a => jK a.1 a.2.1⟩
def hU : Option Bool :=
 (jh).bind fun x =>
 (bg x (⟨1, 0, 0, ⟨4, 4⟩, 0, 0, false⟩ : Node)).bind fun x1 =>
 (bn x1.1 (⟨7, 0, ([114, 111, 111, 116] : List UInt8), 0, 0, ⟨2, 1⟩, [], 0, 0, [], [], [], []⟩ : App)).bind fun x2 =>
 (jK x2.1 1).bind fun x3 =>
 (aC x3.1 7).bind fun x4 =>
 bif x3.2.1 == 1 then
 bif x3.2.2.Id == 1 then
  bif x3.2.2.Master then
  bif x3.2.2.App == 7 then
   bif x4.1.State == 2 then
   some ((x3.1.Conts.length : Int) == 1)
   else
   some false
  else
   some false
  else
  some false
 else
  some false
 else
 some false
def h40 : Hint := .z
noncomputable def sp40 : Spec fam := ⟨[], [.v .bool []], fun _ => hU⟩
end
end Go.Fx.D
