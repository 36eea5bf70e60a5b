/-
  The functions of the program that this law reaches, as functions over plain data (printed by a program). Conditions: none.
-/
import Derived.Test.YteodpoelbdakgaaGreatFxD
import Derived.Test.YteodpoelbdakgaaGreatA
namespace Go.Fx.D
open Go Go.Fx Go.Proofs
set_option linter.unusedVariables false
noncomputable section
def bY (x : Script) : Option Bool :=
 bif decide ((x.Ns.length : Int) ≤ 30) then
 some (decide ((x.Acts.length : Int) ≤ 80))
 else
 some false
def h16 : Hint:=.z
def sp16 : Spec fam:=⟨[.v (.st 12) []],[.v .bool []],fun a => bY a.1⟩
def jA : Option State :=
 some (⟨⟨[([] : List UInt8)],[(⟨([114,111,111,116] : List UInt8),[(⟨10000,10000⟩ : Cap)],10000⟩ : Queue)]⟩,[],[],[],[],[],0,0,0⟩ : State)
def h37 : Hint:=.z
noncomputable def sp37 : Spec fam:=⟨[],[.v (.st 10) [0,1,2,3,4,5,6]],fun _ => jA⟩
def c6 (s : State) (id_ : Int) (t : Node × Int) : Option ((Node × Int) ⊕ ((Node × Bool) ⊕ Node)) :=
 bif decide (t.2 < (s.Nodes.length : Int)) then
 (idx s.Nodes t.2).bind fun x =>
 bif x.Id == id_ then
  (idx s.Nodes t.2).bind fun x1 =>
  some (.inr (.inl (x1,true)))
 else
  some (.inl (t.1,w64 (t.2 + 1)))
 else
 some (.inr (.inr (t.1)))
def aX (s : State) (id_ : Int) : Option (Node × Bool) :=
 (loop (c6 s id_) ((⟨0,0,0,⟨0,0⟩,0,0,false⟩ : Node),0)).bind fun q0 =>
 match q0 with
 | .inl q =>
 some (q.1,q.2)
 | .inr q1 =>
 some ((⟨0,0,0,⟨0,0⟩,0,0,false⟩ : Node),false)
def h95 : Hint:=(.s .z (.s (.s .z (.b (.l [(4,.box (.st 4) []),(6,.v (.int .i64) [])] [4,5,6] [(1,[(4,.box (.st 4) []),(5,.v .bool [])]),(2,[(4,.box (.st 4) [])])] .z))) .z))
def sp95 : Spec fam:=⟨[.v (.st 10) [],.v (.int .i64) []],[.v (.st 4) [],.v .bool []],fun a => aX a.1 a.2.1⟩
def go (n : Int) : Option Bool :=
 bif decide (n ≥ 0) then
 some (decide (n ≤ 1073741824))
 else
 some false
def h171 : Hint:=.z
def sp171 : Spec fam:=⟨[.v (.int .i64) []],[.v .bool []],fun a => go a.1⟩
def ek (s : State) (n : Node) (k : Int) : Option (Int ⊕ Int) :=
 (
 bif decide (k < (s.Nodes.length : Int)) then
  (idx s.Nodes k).bind fun x =>
  some (decide (x.Id < n.Id))
 else
  some false).bind fun q =>
 bif q then
 some (.inl (w64 (k + 1)))
 else
 some (.inr k)
def cx (s : State) (n : Node) : Option State :=
 (loop (ek s n) 0).bind fun k1 =>
 (slc s.Nodes 0 k1).bind fun l =>
 (app 64 [] l).bind fun l1 =>
 (app 64 l1 [n]).bind fun l2 =>
 (
 (
  bif decide (k1 < (s.Nodes.length : Int)) then
  (idx s.Nodes k1).bind fun x1 =>
  some (x1.Id == n.Id)
  else
  some false).bind fun q1 =>
 bif q1 then
  some (w64 (k1 + 1))
 else
  some k1).bind fun k2 =>
 (slc s.Nodes k2 (s.Nodes.length : Int)).bind fun l3 =>
 (app 64 l2 l3).bind fun l4 =>
 some (⟨⟨s.Conf.Labels,s.Conf.Queues⟩,l4,s.Apps,s.Conts,s.Slots,s.Plans,s.Now,s.Epoch,s.Seq⟩ : State)
def h172 : Hint:=(.s .z (.s .z (.s (.b (.l [(5,.v (.int .i64) [])] [5,22] [(2,[(5,.v (.int .i64) [])])] (.s (.s (.j [] [(0,[(22,.v .bool [])])] .z) .z) .z))) (.s .z (.s .z (.s (.j [5,50] [(0,[(5,.v (.int .i64) [])])] (.s (.j [] [(0,[(50,.v .bool [])])] .z) .z)) .z))))))
def sp172 : Spec fam:=⟨[.v (.st 10) [],.v (.st 4) []],[.v (.st 10) [2]],fun a => cx a.1 a.2.1⟩
def bm (s : State) (n : Node) : Option (State × Int) :=
 (
 bif decide (n.Id < 0) then
  some true
 else
  bif decide (n.Id > 999) then
  some true
  else
  bif decide (n.Label < 0) then
   some true
  else
   bif decide (n.Label ≥ (s.Conf.Labels.length : Int)) then
   some true
   else
   bif decide (n.Rack < 0) then
    some true
   else
    bif decide (n.Rack > 99) then
    some true
    else
    (go n.Cap.Mem).bind fun x =>
    bif ! x then
     some true
    else
     (go n.Cap.Cores).bind fun x1 =>
     some (! x1)).bind fun q =>
 bif q then
 some (s,1)
 else
 (aX s n.Id).bind fun x2 =>
 (
  bif x2.2 then
  some x2.1.Up
  else
  some false).bind fun q1 =>
 bif q1 then
  some (s,7)
 else
  (
  bif ! x2.2 then
   some (decide ((s.Nodes.length : Int) ≥ 12))
  else
   some false).bind fun q2 =>
  bif q2 then
  some (s,4)
  else
  (cx s (⟨n.Id,n.Label,n.Rack,⟨n.Cap.Mem,n.Cap.Cores⟩,s.Now,0,true⟩ : Node)).bind fun x3 =>
  some (x3,0)
def h101 : Hint:=(.s .z (.s (.s (.j [] [(0,[(53,.v .bool [])])] .z) .z) (.s .z (.s (.s (.j [] [(0,[(66,.v .bool [])])] .z) .z) (.s (.s (.j [] [(0,[(75,.v .bool [])])] .z) .z) .z)))))
def sp101 : Spec fam:=⟨[.v (.st 10) [],.v (.st 4) []],[.v (.st 10) [],.v (.int .i64) []],fun a => bm a.1 a.2.1⟩
def cQ (s : State) (id_ : Int) (t : App × Int) : Option ((App × Int) ⊕ ((App × Bool) ⊕ App)) :=
 bif decide (t.2 < (s.Apps.length : Int)) then
 (idx s.Apps t.2).bind fun x =>
 bif x.Id == id_ then
  (idx s.Apps t.2).bind fun x1 =>
  some (.inr (.inl (x1,true)))
 else
  some (.inl (t.1,w64 (t.2 + 1)))
 else
 some (.inr (.inr (t.1)))
def aC (s : State) (id_ : Int) : Option (App × Bool) :=
 (loop (cQ s id_) ((⟨0,0,[],0,0,⟨0,0⟩,[],0,0,[],[],[],[]⟩ : App),0)).bind fun q0 =>
 match q0 with
 | .inl q =>
 some (q.1,q.2)
 | .inr q1 =>
 some ((⟨0,0,[],0,0,⟨0,0⟩,[],0,0,[],[],[],[]⟩ : App),false)
def h20 : Hint:=(.s .z (.s (.s .z (.b (.l [(4,.box (.st 6) [7,10,11,12,13]),(6,.v (.int .i64) [])] [4,5,6] [(1,[(4,.box (.st 6) []),(5,.v .bool [])]),(2,[(4,.box (.st 6) [7,10,11,12,13])])] .z))) .z))
def sp20 : Spec fam:=⟨[.v (.st 10) [],.v (.int .i64) []],[.v (.st 6) [],.v .bool []],fun a => aC a.1 a.2.1⟩
def aF (a : App) : Option Bool :=
 bif a.State == 1 then
 some true
 else
 some (a.State == 2)
def h21 : Hint:=.z
def sp21 : Spec fam:=⟨[.v (.st 6) []],[.v .bool []],fun a => aF a.1⟩
def dt (c : Conf) (path : List UInt8) (t : Queue × Int) : Option ((Queue × Int) ⊕ ((Queue × Bool) ⊕ Queue)) :=
 bif decide (t.2 < (c.Queues.length : Int)) then
 (idx c.Queues t.2).bind fun x =>
 bif x.Path == path then
  (idx c.Queues t.2).bind fun x1 =>
  (app 16 [] x1.Caps).bind fun l =>
  some (.inr (.inl ((⟨x1.Path,l,x1.User⟩ : Queue),true)))
 else
  some (.inl (t.1,w64 (t.2 + 1)))
 else
 some (.inr (.inr (t.1)))
def bj (c : Conf) (path : List UInt8) : Option (Queue × Bool) :=
 (loop (dt c path) ((⟨[],[],0⟩ : Queue),0)).bind fun q0 =>
 match q0 with
 | .inl q =>
 some (q.1,q.2)
 | .inr q1 =>
 some ((⟨[],[],0⟩ : Queue),false)
def h111 : Hint:=(.s .z (.s (.s .z (.b (.l [(4,.box (.st 2) [1]),(6,.v (.int .i64) [])] [4,5,6,7] [(1,[(4,.box (.st 2) [1]),(5,.v .bool [])]),(2,[(4,.box (.st 2) [1])])] .z))) .z))
def sp111 : Spec fam:=⟨[.v (.st 3) [],.v .str []],[.v (.st 2) [1],.v .bool []],fun a => bj a.1 a.2.1⟩
def jR (path : List UInt8) (k1 : Int) : Option (Int ⊕ Int) :=
 (
 bif decide (k1 ≥ 0) then
  (idx path k1).bind fun ch =>
  some ((ch.toNat : Int) != 46)
 else
  some false).bind fun q =>
 bif q then
 some (.inl (w64 (k1 - 1)))
 else
 some (.inr k1)
def cT (path : List UInt8) : Option (List UInt8) :=
 let k:=w64 ((path.length : Int) - 1)
 (loop (jR path) k).bind fun k2 =>
 bif decide (k2 < 0) then
 some ([] : List UInt8)
 else
 (slc path 0 k2).bind fun s =>
 some s
def h113 : Hint:=(.s .z (.s .z (.s (.b (.l [(3,.v (.int .i64) [])] [3,14] [(2,[(3,.v (.int .i64) [])])] (.s (.s (.j [] [(0,[(14,.v .bool [])])] .z) .z) .z))) .z)))
def sp113 : Spec fam:=⟨[.v .str []],[.v .str []],fun a => cT a.1⟩
def gQ (c : Conf) (path : List UInt8) (t : List (List UInt8) × Int) : Option ((List (List UInt8) × Int) ⊕ List (List UInt8)) :=
 bif decide (t.2 < (c.Queues.length : Int)) then
 (
  (
  bif ! (path == ([] : List UInt8)) then
   (idx c.Queues t.2).bind fun x =>
   (cT x.Path).bind fun x1 =>
   some (x1 == path)
  else
   some false).bind fun q =>
  bif q then
  (idx c.Queues t.2).bind fun x2 =>
  (app 16 t.1 [x2.Path]).bind fun l =>
  some l
  else
  some t.1).bind fun l1 =>
 some (.inl (l1,w64 (t.2 + 1)))
 else
 some (.inr t.1)
def bC (c : Conf) (path : List UInt8) : Option (List (List UInt8)) :=
 (loop (gQ c path) ([],0)).bind fun l2 =>
 some l2
def h135 : Hint:=(.s .z (.s .z (.s (.s .z (.b (.l [(5,.v (.slice (.str)) [0]),(6,.v (.int .i64) [])] [5,6,26] [(2,[(5,.v (.slice (.str)) [0])])] (.s .z (.s (.j [5,26] [(0,[(5,.v (.slice (.str)) [0])])] (.b (.s (.j [] [(0,[(26,.v .bool [])])] .z) .z))) .z))))) .z)))
def sp135 : Spec fam:=⟨[.v (.st 3) [],.v .str []],[.v (.slice (.str)) [0]],fun a => bC a.1 a.2.1⟩
def aW (c : Conf) (path : List UInt8) : Option Bool :=
 (bj c path).bind fun x =>
 bif x.2 then
 (bC c path).bind fun x1 =>
 some ((x1.length : Int) == 0)
 else
 some false
def h64 : Hint:=.z
def sp64 : Spec fam:=⟨[.v (.st 3) [],.v .str []],[.v .bool []],fun a => aW a.1 a.2.1⟩
def gH (s : State) (a : App) (k : Int) : Option (Int ⊕ Int) :=
 (
 bif decide (k < (s.Apps.length : Int)) then
  (idx s.Apps k).bind fun x =>
  some (decide (x.Id < a.Id))
 else
  some false).bind fun q =>
 bif q then
 some (.inl (w64 (k + 1)))
 else
 some (.inr k)
def aO (s : State) (a : App) : Option State :=
 (loop (gH s a) 0).bind fun k1 =>
 (slc s.Apps 0 k1).bind fun l =>
 (app 200 [] l).bind fun l1 =>
 (app 200 l1 [a]).bind fun l2 =>
 (
 (
  bif decide (k1 < (s.Apps.length : Int)) then
  (idx s.Apps k1).bind fun x1 =>
  some (x1.Id == a.Id)
  else
  some false).bind fun q1 =>
 bif q1 then
  some (w64 (k1 + 1))
 else
  some k1).bind fun k2 =>
 (slc s.Apps k2 (s.Apps.length : Int)).bind fun l3 =>
 (app 200 l2 l3).bind fun l4 =>
 some (⟨⟨s.Conf.Labels,s.Conf.Queues⟩,s.Nodes,l4,s.Conts,s.Slots,s.Plans,s.Now,s.Epoch,s.Seq⟩ : State)
def h100 : Hint:=(.s .z (.s .z (.s (.b (.l [(5,.v (.int .i64) [])] [5,22] [(2,[(5,.v (.int .i64) [])])] (.s (.s (.j [] [(0,[(22,.v .bool [])])] .z) .z) .z))) (.s .z (.s .z (.s (.j [5,50] [(0,[(5,.v (.int .i64) [])])] (.s (.j [] [(0,[(50,.v .bool [])])] .z) .z)) .z))))))
def sp100 : Spec fam:=⟨[.v (.st 10) [],.v (.st 6) []],[.v (.st 10) [3]],fun a => aO a.1 a.2.1⟩
def eX (n : Int) : Option Bool :=
 bif decide (n ≥ 1) then
 some (decide (n ≤ 1073741824))
 else
 some false
def h173 : Hint:=.z
def sp173 : Spec fam:=⟨[.v (.int .i64) []],[.v .bool []],fun a => eX a.1⟩
def dR (s : State) (t : List App × Bool × Int) : Option ((List App × Bool × Int) ⊕ List App) :=
 bif decide (t.2.2 < (s.Apps.length : Int)) then
 (
  (
  bif ! t.2.1 then
   (idx s.Apps t.2.2).bind fun x =>
   (aF x).bind fun x1 =>
   some (! x1)
  else
   some false).bind fun q =>
  bif q then
  some (t.1,true)
  else
  (idx s.Apps t.2.2).bind fun x2 =>
  (app 200 t.1 [x2]).bind fun l =>
  some (l,t.2.1)).bind fun q1 =>
 some (.inl (q1.1,q1.2,w64 (t.2.2 + 1)))
 else
 some (.inr t.1)
def gO (s : State) : Option State :=
 (loop (dR s) ([],false,0)).bind fun l1 =>
 some (⟨⟨s.Conf.Labels,s.Conf.Queues⟩,s.Nodes,l1,s.Conts,s.Slots,s.Plans,s.Now,s.Epoch,s.Seq⟩ : State)
def h174 : Hint:=(.s .z (.s .z (.s .z (.s (.s .z (.b (.l [(3,.v (.slice (.st 6)) [0]),(4,.v .bool []),(5,.v (.int .i64) [])] [3,4,5,23] [(2,[(3,.v (.slice (.st 6)) [0])])] (.s .z (.s (.j [3,4,23] [(0,[(3,.v (.slice (.st 6)) [0]),(4,.v .bool [])])] (.b (.s (.s (.j [] [(0,[(23,.v .bool [])])] .z) .z) .z))) .z))))) .z))))
def sp174 : Spec fam:=⟨[.v (.st 10) []],[.v (.st 10) [3]],fun a => gO a.1⟩
def il (a : App) : Option (List Ask) :=
 some [(⟨0,0,⟨a.Master.Mem,a.Master.Cores⟩,1,(-1),(-1),0⟩ : Ask)]
def h175 : Hint:=.z
def sp175 : Spec fam:=⟨[.v (.st 6) []],[.v (.slice (.st 5)) [0]],fun a => il a.1⟩
def bX (s : State) (t : Int × Int) : Option ((Int × Int) ⊕ Int) :=
 bif decide (t.2 < (s.Apps.length : Int)) then
 (
  (idx s.Apps t.2).bind fun x3 =>
  (aF x3).bind fun x4 =>
  bif x4 then
  some (w64 (t.1 + 1))
  else
  some t.1).bind fun live =>
 some (.inl (live,w64 (t.2 + 1)))
 else
 some (.inr t.1)
def bw (s : State) (a : App) : Option (State × Int) :=
 (
 bif decide (a.Id < 0) then
  some true
 else
  bif decide (a.Id > 9999) then
  some true
  else
  bif decide (a.User < 0) then
   some true
  else
   bif decide (a.User > 99) then
   some true
   else
   bif decide (a.Prio < 0) then
    some true
   else
    bif decide (a.Prio > 9) then
    some true
    else
    (eX a.Master.Mem).bind fun x =>
    bif ! x then
     some true
    else
     (eX a.Master.Cores).bind fun x1 =>
     some (! x1)).bind fun q =>
 bif q then
 some (s,1)
 else
 (aC s a.Id).bind fun x2 =>
 bif x2.2 then
  some (s,7)
 else
  (loop (bX s) (0,0)).bind fun live1 =>
  bif decide (live1 ≥ 16) then
  some (s,4)
  else
  (aW s.Conf a.Queue).bind fun x5 =>
  bif ! x5 then
   some (s,19)
  else
   (
   bif decide ((s.Apps.length : Int) ≥ 16) then
    (gO s).bind fun x6 =>
    some x6
   else
    some s).bind fun s1 =>
   (il a).bind fun x7 =>
   (aO s1 (⟨a.Id,1,a.Queue,a.User,a.Prio,⟨a.Master.Mem,a.Master.Cores⟩,x7,s1.Now,0,[],[],[],[]⟩ : App)).bind fun x8 =>
   some (x8,0)
def h102 : Hint:=(.s .z (.s (.s (.j [] [(0,[(51,.v .bool [])])] .z) .z) (.s .z (.s .z (.s .z (.s (.s .z (.b (.l [(8,.v (.int .i64) []),(9,.v (.int .i64) [])] [8,9] [(2,[(8,.v (.int .i64) [])])] (.s .z (.s (.j [8] [(0,[(8,.v (.int .i64) [])])] .z) .z))))) (.s .z (.s .z (.s (.j [2] [(0,[(2,.box (.st 10) [])])] .z) .z)))))))))
def sp102 : Spec fam:=⟨[.v (.st 10) [],.v (.st 6) []],[.v (.st 10) [],.v (.int .i64) []],fun a => bw a.1 a.2.1⟩
def gI (s : List UInt8) (i : Int) : Option (Int ⊕ (Bool ⊕ Unit)) :=
 bif decide (i < (s.length : Int)) then
 (idx s i).bind fun ch =>
 (
  bif decide ((ch.toNat : Int) < 97) then
  bif decide ((ch.toNat : Int) < 48) then
   some ((ch.toNat : Int) != 45)
  else
   bif decide ((ch.toNat : Int) > 57) then
   some ((ch.toNat : Int) != 45)
   else
   some false
  else
  bif decide ((ch.toNat : Int) > 122) then
   bif decide ((ch.toNat : Int) < 48) then
   some ((ch.toNat : Int) != 45)
   else
   bif decide ((ch.toNat : Int) > 57) then
    some ((ch.toNat : Int) != 45)
   else
    some false
  else
   some false).bind fun q1 =>
 bif q1 then
  some (.inr (.inl false))
 else
  some (.inl (w64 (i + 1)))
 else
 some (.inr (.inr ()))
def b8 (s : List UInt8) : Option Bool :=
 (
 bif decide ((s.length : Int) < 1) then
  some true
 else
  some (decide ((s.length : Int) > 12))).bind fun q =>
 bif q then
 some false
 else
 (loop (gI s) 0).bind fun q0 =>
 match q0 with
 | .inl q2 =>
  some q2
 | .inr _ =>
  some true
def h252 : Hint:=(.s .z (.s (.s (.j [] [(0,[(12,.v .bool [])])] .z) .z) (.s (.s .z (.b (.l [(3,.v (.int .i64) [])] [2,3,39] [(1,[(2,.v .bool [])]),(2,[])] (.s .z (.s (.b (.s .z (.s (.j [] [(0,[(39,.v .bool [])])] .z) .z))) .z))))) .z)))
def sp252 : Spec fam:=⟨[.v .str []],[.v .bool []],fun a => b8 a.1⟩
def lH (c : Conf) (i1 : Int) (k : Int) : Option (Int ⊕ (Int ⊕ Unit)) :=
 bif decide (k < i1) then
 (idx c.Labels i1).bind fun x3 =>
 (idx c.Labels k).bind fun x4 =>
 bif x3 == x4 then
  some (.inr (.inl 7))
 else
  some (.inl (w64 (k + 1)))
 else
 some (.inr (.inr ()))
def jp (c : Conf) (i1 : Int) : Option (Int ⊕ (Int ⊕ Unit)) :=
 bif decide (i1 < (c.Labels.length : Int)) then
 (loop (lH c i1) 1).bind fun q0 =>
 match q0 with
 | .inl q2 =>
  some (.inr (.inl q2))
 | .inr _ =>
  some (.inl (w64 (i1 + 1)))
 else
 some (.inr (.inr ()))
def jm (c : Conf) (i : Int) : Option (Int ⊕ (Int ⊕ Unit)) :=
 bif decide (i < (c.Labels.length : Int)) then
 (idx c.Labels i).bind fun x1 =>
 (b8 x1).bind fun x2 =>
 bif ! x2 then
  some (.inr (.inl 12))
 else
  some (.inl (w64 (i + 1)))
 else
 some (.inr (.inr ()))
def bF (c : Conf) : Option Int :=
 (
 bif decide ((c.Labels.length : Int) < 1) then
  some true
 else
  bif decide ((c.Labels.length : Int) > 3) then
  some true
  else
  some (decide ((c.Queues.length : Int) > 16))).bind fun q =>
 bif q then
 some 4
 else
 (idx c.Labels 0).bind fun x =>
 bif ! (x == ([] : List UInt8)) then
  some 12
 else
  (loop (jm c) 1).bind fun q0 =>
  match q0 with
  | .inl q1 =>
  some q1
  | .inr _ =>
  (loop (jp c) 1).bind fun q0 =>
  match q0 with
  | .inl q3 =>
   some q3
  | .inr _ =>
   some 0
def h167 : Hint:=(.s .z (.s (.s (.j [] [(0,[(21,.v .bool [])])] .z) .z) (.s .z (.s (.s .z (.b (.l [(3,.v (.int .i64) [])] [2,3] [(1,[(2,.v (.int .i64) [])]),(2,[])] .z))) (.s (.s .z (.b (.l [(4,.v (.int .i64) [])] [2,4,5] [(1,[(2,.v (.int .i64) [])]),(4,[])] (.s .z (.s (.b (.s .z (.b (.l [(5,.v (.int .i64) [])] [2,5] [(1,[(2,.v (.int .i64) [])]),(6,[])] .z)))) .z))))) .z)))))
def sp167 : Spec fam:=⟨[.v (.st 3) []],[.v (.int .i64) []],fun a => bF a.1⟩
def bz (s : List UInt8) (t : Int × Int × Int) : Option ((Int × Int × Int) ⊕ (Bool ⊕ Int)) :=
 bif decide (t.2.2 ≤ (s.length : Int)) then
 (
  (
  bif decide (t.2.2 < (s.length : Int)) then
   (idx s t.2.2).bind fun ch =>
   some ((ch.toNat : Int) != 46)
  else
   some false).bind fun q =>
  bif q then
  some (.inl (t.1,t.2.1))
  else
  (
   (slc s t.1 t.2.2).bind fun s1 =>
   (b8 s1).bind fun x =>
   bif ! x then
   some true
   else
   bif t.2.1 == 0 then
    (slc s t.1 t.2.2).bind fun s2 =>
    some (! (s2 == ([114,111,111,116] : List UInt8)))
   else
    some false).bind fun q1 =>
  bif q1 then
   some (.inr false)
  else
   some (.inl (w64 (t.2.2 + 1),w64 (t.2.1 + 1))) : Option ((Int × Int) ⊕ Bool)).bind fun q0 =>
 match q0 with
 | .inl q2 =>
  some (.inl (q2.1,q2.2,w64 (t.2.2 + 1)))
 | .inr q3 =>
  some (.inr (.inl q3))
 else
 some (.inr (.inr (t.2.1)))
def cg (s : List UInt8) : Option Bool :=
 (loop (bz s) (0,0,0)).bind fun q0 =>
 match q0 with
 | .inl q4 =>
 some q4
 | .inr n =>
 some (decide (n ≤ 4))
def h253 : Hint:=(.s .z (.s .z (.s (.s .z (.b (.l [(3,.v (.int .i64) []),(4,.v (.int .i64) []),(5,.v (.int .i64) [])] [2,3,4,5,21,38] [(1,[(2,.v .bool [])]),(2,[(4,.v (.int .i64) [])])] (.s .z (.s (.j [2,3,4,21,38] [(0,[(3,.v (.int .i64) []),(4,.v (.int .i64) [])]),(1,[(2,.v .bool [])])] (.b (.s (.s (.j [] [(0,[(21,.v .bool [])])] .z) .z) (.s (.s (.j [] [(0,[(38,.v .bool [])])] .z) .z) .z)))) .z))))) .z)))
def sp253 : Spec fam:=⟨[.v .str []],[.v .bool []],fun a => cg a.1⟩
def jM (x : Queue) (k : Int) : Option (Int ⊕ (Int ⊕ Unit)) :=
 bif decide (k < (x.Caps.length : Int)) then
 (idx x.Caps k).bind fun x5 =>
 (
  bif decide (x5.Least < 0) then
  some true
  else
  bif decide (x5.Least > 10000) then
   some true
  else
   bif decide (x5.Most < 0) then
   some true
   else
   bif decide (x5.Most > 10000) then
    some true
   else
    some (decide (x5.Least > x5.Most))).bind fun q3 =>
 bif q3 then
  some (.inr (.inl 1))
 else
  some (.inl (w64 (k + 1)))
 else
 some (.inr (.inr ()))
def bO (c : Conf) (i : Int) : Option Int :=
 (idx c.Queues i).bind fun x =>
 (cg x.Path).bind fun x1 =>
 bif ! x1 then
 some 12
 else
 (
  bif decide (i > 0) then
  (idx c.Queues (w64 (i - 1))).bind fun x2 =>
  some (strLe x.Path x2.Path)
  else
  some false).bind fun q =>
 bif q then
  some 7
 else
  (cT x.Path).bind fun x3 =>
  (bj c x3).bind fun x4 =>
  (
  bif decide (i > 0) then
   some (! x4.2)
  else
   some false).bind fun q1 =>
  bif q1 then
  some 12
  else
  (
   bif decide (x.User < 1) then
   some true
   else
   bif decide (x.User > 1000000) then
    some true
   else
    some ((x.Caps.length : Int) != (c.Labels.length : Int))).bind fun q2 =>
  bif q2 then
   some 1
  else
   (loop (jM x) 0).bind fun q0 =>
   match q0 with
   | .inl q4 =>
   some q4
   | .inr _ =>
   some 0
def h168 : Hint:=(.s .z (.s .z (.s .z (.s (.s (.j [] [(0,[(32,.v .bool [])])] .z) .z) (.s .z (.s (.s (.j [] [(0,[(46,.v .bool [])])] .z) .z) (.s (.s (.j [] [(0,[(63,.v .bool [])])] .z) .z) (.s (.s .z (.b (.l [(8,.v (.int .i64) [])] [4,8,9,100] [(1,[(4,.v (.int .i64) [])]),(2,[])] (.s .z (.s (.b (.s .z (.s (.j [] [(0,[(100,.v .bool [])])] .z) .z))) .z))))) .z))))))))
def sp168 : Spec fam:=⟨[.v (.st 3) [],.v (.int .i64) []],[.v (.int .i64) []],fun a => bO a.1 a.2.1⟩
def gP (c : Conf) (kids : List (List UInt8)) (k : Int) (t : Int × Int) : Option ((Int × Int) ⊕ Int) :=
 bif decide (t.2 < (kids.length : Int)) then
 (inb t.2 kids.length).bind fun i1 =>
 (kids[i1]?).bind fun x1 =>
 (bj c x1).bind fun x2 =>
 (inb k x2.1.Caps.length).bind fun i2 =>
 (x2.1.Caps[i2]?).bind fun x3 =>
 let n:=w64 (t.1 + x3.Least)
 some (.inl (n,w64 (t.2 + 1)))
 else
 some (.inr t.1)
def mN (c : Conf) (kids : List (List UInt8)) (k : Int) : Option (Int ⊕ (Bool ⊕ Unit)) :=
 (
 bif decide (k < (c.Labels.length : Int)) then
  some (decide ((kids.length : Int) > 0))
 else
  some false).bind fun q =>
 bif q then
 (loop (gP c kids k) (0,0)).bind fun n1 =>
 bif n1 != 10000 then
  some (.inr (.inl false))
 else
  some (.inl (w64 (k + 1)))
 else
 some (.inr (.inr ()))
def dq (c : Conf) (i : Int) : Option (Int ⊕ (Bool ⊕ Unit)) :=
 bif decide (i < (c.Queues.length : Int)) then
 (idx c.Queues i).bind fun x =>
 (bC c x.Path).bind fun kids =>
 (loop (mN c kids) 0).bind fun q0 =>
 match q0 with
 | .inl q1 =>
  some (.inr (.inl q1))
 | .inr _ =>
  some (.inl (w64 (i + 1)))
 else
 some (.inr (.inr ()))
def dw (c : Conf) : Option Bool :=
 (loop (dq c) 0).bind fun q0 =>
 match q0 with
 | .inl q2 =>
 some q2
 | .inr _ =>
 some true
def h169 : Hint:=(.s .z (.s (.s .z (.b (.l [(3,.v (.int .i64) [])] [2,3,4,5,6,7,8,34] [(1,[(2,.v .bool [])]),(2,[])] (.s .z (.s (.b (.s .z (.s .z (.b (.l [(5,.v (.int .i64) [])] [2,5,6,7,8,34] [(1,[(2,.v .bool [])]),(4,[])] (.s (.s (.j [] [(0,[(34,.v .bool [])])] .z) .z) (.s (.b (.s .z (.s (.s .z (.b (.l [(6,.v (.int .i64) []),(7,.v (.int .i64) [])] [6,7,8] [(6,[(6,.v (.int .i64) [])])] .z))) .z))) .z))))))) .z))))) .z))
def sp169 : Spec fam:=⟨[.v (.st 3) []],[.v .bool []],fun a => dw a.1⟩
def cN (c : Conf) (k : Int) : Option (Int ⊕ (Int ⊕ Unit)) :=
 bif decide (k < (c.Labels.length : Int)) then
 (idx c.Queues 0).bind fun x5 =>
 (idx x5.Caps k).bind fun x6 =>
 bif ! ((x6.Least == 10000) && (x6.Most == 10000)) then
  some (.inr (.inl 13))
 else
  some (.inl (w64 (k + 1)))
 else
 some (.inr (.inr ()))
def cA (c : Conf) (i : Int) : Option (Int ⊕ (Int ⊕ Unit)) :=
 bif decide (i < (c.Queues.length : Int)) then
 (bO c i).bind fun x3 =>
 bif x3 != 0 then
  (bO c i).bind fun x4 =>
  some (.inr (.inl x4))
 else
  some (.inl (w64 (i + 1)))
 else
 some (.inr (.inr ()))
def aZ (c : Conf) : Option Int :=
 (bF c).bind fun x =>
 bif x != 0 then
 (bF c).bind fun x1 =>
 some x1
 else
 (
  bif (c.Queues.length : Int) == 0 then
  some true
  else
  (idx c.Queues 0).bind fun x2 =>
  some (! (x2.Path == ([114,111,111,116] : List UInt8)))).bind fun q =>
 bif q then
  some 12
 else
  (loop (cA c) 0).bind fun q0 =>
  match q0 with
  | .inl q1 =>
  some q1
  | .inr _ =>
  (loop (cN c) 0).bind fun q0 =>
  match q0 with
  | .inl q2 =>
   some q2
  | .inr _ =>
   (dw c).bind fun x7 =>
   bif ! x7 then
   some 13
   else
   some 0
def h91 : Hint:=(.s .z (.s .z (.s (.s (.j [] [(0,[(21,.v .bool [])])] .z) .z) (.s (.s .z (.b (.l [(3,.v (.int .i64) [])] [2,3] [(1,[(2,.v (.int .i64) [])]),(2,[])] .z))) (.s (.s .z (.b (.l [(4,.v (.int .i64) [])] [2,4] [(1,[(2,.v (.int .i64) [])]),(4,[])] .z))) .z)))))
def sp91 : Spec fam:=⟨[.v (.st 3) []],[.v (.int .i64) []],fun a => aZ a.1⟩
def aJ (s : State) (e : Int) : Option (State × Output) :=
 some (s,(⟨e,[],[],[],0⟩ : Output))
def h132 : Hint:=.z
def sp132 : Spec fam:=⟨[.v (.st 10) [],.v (.int .i64) []],[.v (.st 10) [],.v (.st 13) [1,2,3]],fun a => aJ a.1 a.2.1⟩
def kF (s : List UInt8) (c : Int) (t : List (List UInt8) × Int × Int) : Option ((List (List UInt8) × Int × Int) ⊕ ((List (List UInt8) × Int))) :=
 bif decide (t.2.2 < (s.length : Int)) then
 (
  (idx s t.2.2).bind fun ch =>
  bif (ch.toNat : Int) == c then
  (slc s t.2.1 t.2.2).bind fun s1 =>
  (app 16 t.1 [s1]).bind fun l =>
  some (l,w64 (t.2.2 + 1))
  else
  some (t.1,t.2.1)).bind fun q =>
 some (.inl (q.1,q.2,w64 (t.2.2 + 1)))
 else
 some (.inr (t.1,t.2.1))
def ia (s : List UInt8) (c : Int) : Option (List (List UInt8)) :=
 (loop (kF s c) ([],0,0)).bind fun q1 =>
 (
 bif decide (q1.2 < (s.length : Int)) then
  (slc s q1.2 (s.length : Int)).bind fun s2 =>
  (app 16 q1.1 [s2]).bind fun l1 =>
  some l1
 else
  some q1.1).bind fun l2 =>
 some l2
def h292 : Hint:=(.s .z (.s .z (.s .z (.s (.s .z (.b (.l [(5,.v (.slice (.str)) [0]),(6,.v (.int .i64) []),(7,.v (.int .i64) [])] [5,6,7] [(2,[(5,.v (.slice (.str)) [0]),(6,.v (.int .i64) [])])] (.s .z (.s (.j [5,6] [(0,[(5,.v (.slice (.str)) [0]),(6,.v (.int .i64) [])])] .z) .z))))) (.s (.j [5] [(0,[(5,.v (.slice (.str)) [0])])] .z) .z)))))
def sp292 : Spec fam:=⟨[.v .str [],.v (.int .u8) []],[.v (.slice (.str)) [0]],fun a => ia a.1 a.2.1⟩
def fR (l : List (List UInt8)) (t : List (List UInt8) × Int) : Option ((List (List UInt8) × Int) ⊕ List (List UInt8)) :=
 bif decide (t.2 < (l.length : Int)) then
 (
  (inb t.2 l.length).bind fun i =>
  (l[i]?).bind fun x =>
  bif ! (x == ([] : List UInt8)) then
  (inb t.2 l.length).bind fun i1 =>
  (l[i1]?).bind fun x1 =>
  (app 16 t.1 [x1]).bind fun l1 =>
  some l1
  else
  some t.1).bind fun out =>
 some (.inl (out,w64 (t.2 + 1)))
 else
 some (.inr t.1)
def iW (s : List UInt8) : Option (List (List UInt8)) :=
 (ia s 32).bind fun l =>
 (loop (fR l) ([],0)).bind fun out1 =>
 some out1
def h293 : Hint:=(.s .z (.s .z (.s .z (.s (.s .z (.b (.l [(3,.v (.slice (.str)) [0]),(5,.v (.int .i64) [])] [3,5] [(2,[(3,.v (.slice (.str)) [0])])] (.s .z (.s (.j [3] [(0,[(3,.v (.slice (.str)) [0])])] .z) .z))))) .z))))
def sp293 : Spec fam:=⟨[.v .str []],[.v (.slice (.str)) [0]],fun a => iW a.1⟩
def jq (s : List UInt8) (t : Int × Int) : Option ((Int × Int) ⊕ ((Int × Bool) ⊕ Int)) :=
 bif decide (t.2 < (s.length : Int)) then
 (
  (idx s t.2).bind fun ch1 =>
  bif decide ((ch1.toNat : Int) < 48) then
  some true
  else
  (idx s t.2).bind fun ch2 =>
  some (decide ((ch2.toNat : Int) > 57))).bind fun q1 =>
 bif q1 then
  some (.inr (.inl (0,false)))
 else
  (idx s t.2).bind fun ch3 =>
  let n:=w64 ((w64 (t.1 * 10)) + (w64 (IntKind.u8.wrap ((ch3.toNat : Int) - 48))))
  some (.inl (n,w64 (t.2 + 1)))
 else
 some (.inr (.inr (t.1)))
def ci (s : List UInt8) : Option (Int × Bool) :=
 (
 bif decide ((s.length : Int) < 1) then
  some true
 else
  bif decide ((s.length : Int) > 7) then
  some true
  else
  (idx s 0).bind fun ch =>
  bif (ch.toNat : Int) == 48 then
   some (decide ((s.length : Int) > 1))
  else
   some false).bind fun q =>
 bif q then
 some (0,false)
 else
 (loop (jq s) (0,0)).bind fun q0 =>
 match q0 with
 | .inl q2 =>
  some (q2.1,q2.2)
 | .inr n1 =>
  some (n1,true)
def h341 : Hint:=(.s .z (.s (.s (.j [] [(0,[(23,.v .bool [])])] .z) .z) (.s .z (.s (.s .z (.b (.l [(4,.v (.int .i64) []),(5,.v (.int .i64) [])] [2,3,4,5,39] [(1,[(2,.v (.int .i64) []),(3,.v .bool [])]),(2,[(4,.v (.int .i64) [])])] (.s .z (.s (.b (.s (.s (.j [] [(0,[(39,.v .bool [])])] .z) .z) .z)) .z))))) .z))))
def sp341 : Spec fam:=⟨[.v .str []],[.v (.int .i64) [],.v .bool []],fun a => ci a.1⟩
def mq (s : List UInt8) (k : Int) : Option (Int ⊕ Int) :=
 (
 bif decide (k < (s.length : Int)) then
  (idx s k).bind fun ch =>
  some ((ch.toNat : Int) != 47)
 else
  some false).bind fun q =>
 bif q then
 some (.inl (w64 (k + 1)))
 else
 some (.inr k)
def iQ (s : List UInt8) : Option (Cap × Bool) :=
 (loop (mq s) 0).bind fun k1 =>
 bif k1 == (s.length : Int) then
 some ((⟨0,0⟩ : Cap),false)
 else
 (slc s 0 k1).bind fun s1 =>
 (ci s1).bind fun x =>
 (slc s (w64 (k1 + 1)) (s.length : Int)).bind fun s2 =>
 (ci s2).bind fun x1 =>
 bif x.2 then
  some ((⟨x.1,x1.1⟩ : Cap),x1.2)
 else
  some ((⟨x.1,x1.1⟩ : Cap),false)
def h342 : Hint:=(.s .z (.s .z (.s (.b (.l [(4,.v (.int .i64) [])] [4,18] [(2,[(4,.v (.int .i64) [])])] (.s (.s (.j [] [(0,[(18,.v .bool [])])] .z) .z) .z))) .z)))
def sp342 : Spec fam:=⟨[.v .str []],[.v (.st 1) [],.v .bool []],fun a => iQ a.1⟩
def mh (w : List (List UInt8)) (t : Bool × Queue × Int) : Option ((Bool × Queue × Int) ⊕ ((Bool × Queue))) :=
 (
 bif decide (t.2.2 < (w.length : Int)) then
  some t.1
 else
  some false).bind fun q1 =>
 bif q1 then
 (idx w t.2.2).bind fun x4 =>
 (iQ x4).bind fun x5 =>
 (app 16 t.2.1.Caps [x5.1]).bind fun l =>
 some (.inl (x5.2,(⟨t.2.1.Path,l,t.2.1.User⟩ : Queue),w64 (t.2.2 + 1)))
 else
 some (.inr (t.1,t.2.1))
def iL (w : List (List UInt8)) (labels : Int) : Option (Queue × Bool) :=
 (
 bif (w.length : Int) != (w64 (3 + labels)) then
  some true
 else
  (idx w 0).bind fun x =>
  some (! (x == ([113,117,101,117,101] : List UInt8)))).bind fun q =>
 bif q then
 some ((⟨[],[],0⟩ : Queue),false)
 else
 (idx w 2).bind fun x1 =>
 (ci x1).bind fun x2 =>
 (idx w 1).bind fun x3 =>
 (loop (mh w) (x2.2,(⟨x3,[],x2.1⟩ : Queue),3)).bind fun q2 =>
 some (q2.2,q2.1)
def h294 : Hint:=(.s .z (.s (.s (.j [] [(0,[(21,.v .bool [])])] .z) .z) (.s .z (.s .z (.s (.s .z (.b (.l [(7,.v .bool []),(8,.box (.st 2) [1]),(9,.v (.int .i64) [])] [7,8,9,10,41] [(2,[(7,.v .bool []),(8,.box (.st 2) [1])])] (.s (.s (.j [] [(0,[(41,.v .bool [])])] .z) .z) .z)))) .z)))))
def sp294 : Spec fam:=⟨[.v (.slice (.str)) [],.v (.int .i64) []],[.v (.st 2) [1],.v .bool []],fun a => iL a.1 a.2.1⟩
def mo (t : Conf × Conf × Bool × Int) (x3 : Queue × Bool) (k : Int) : Option (Int ⊕ Int) :=
 (
 bif decide (k < (t.2.1.Queues.length : Int)) then
  (inb k t.2.1.Queues.length).bind fun i3 =>
  (t.2.1.Queues[i3]?).bind fun x4 =>
  some (Op.bytesLess x4.Path x3.1.Path)
 else
  some false).bind fun q1 =>
 bif q1 then
 some (.inl (w64 (k + 1)))
 else
 some (.inr k)
def fy (l : List (List UInt8)) (t : Conf × Conf × Bool × Int) : Option ((Conf × Conf × Bool × Int) ⊕ ((Conf × Int) ⊕ (Conf × Conf × Bool))) :=
 bif decide (t.2.2.2 < (l.length : Int)) then
 (
  (inb t.2.2.2 l.length).bind fun i =>
  (l[i]?).bind fun x =>
  (iW x).bind fun w =>
  bif (w.length : Int) == 0 then
  some (.inl (t.1,t.2.1,t.2.2.1))
  else
  bif (t.2.1.Labels.length : Int) == 0 then
   (inb 0 w.length).bind fun i1 =>
   (w[i1]?).bind fun x1 =>
   bif ! (x1 == ([108,97,98,101,108,115] : List UInt8)) then
   some (.inr ((⟨[],[]⟩ : Conf),6))
   else
   bif decide ((w.length : Int) > 3) then
    some (.inr ((⟨[],[]⟩ : Conf),4))
   else
    (inS 1 (w.length : Int) w.length).bind fun p =>
    (app 16 [([] : List UInt8)] (sub w p.1 p.2)).bind fun l1 =>
    some (.inl (t.1,(⟨l1,t.2.1.Queues⟩ : Conf),t.2.2.1))
  else
   (
   bif (t.2.1.Queues.length : Int) == 16 then
    (inb 0 w.length).bind fun i2 =>
    (w[i2]?).bind fun x2 =>
    some (x2 == ([113,117,101,117,101] : List UInt8))
   else
    some false).bind fun q =>
   bif q then
   some (.inr ((⟨[],[]⟩ : Conf),4))
   else
   (iL w (t.2.1.Labels.length : Int)).bind fun x3 =>
   bif ! x3.2 then
    some (.inr ((⟨[],[]⟩ : Conf),6))
   else
    (loop (mo t x3) 0).bind fun k1 =>
    (
    bif t.2.2.1 then
     some true
    else
     bif decide (k1 < (t.2.1.Queues.length : Int)) then
     (inb k1 t.2.1.Queues.length).bind fun i4 =>
     (t.2.1.Queues[i4]?).bind fun x5 =>
     let twice:=x5.Path == x3.1.Path
     some twice
     else
     some false).bind fun twice1 =>
    (inS 0 k1 t.2.1.Queues.length).bind fun p1 =>
    (app 48 [] (sub t.2.1.Queues p1.1 p1.2)).bind fun l2 =>
    (app 48 l2 [x3.1]).bind fun l3 =>
    (inS k1 (t.2.1.Queues.length : Int) t.2.1.Queues.length).bind fun p2 =>
    (app 48 l3 (sub t.2.1.Queues p2.1 p2.2)).bind fun l4 =>
    some (.inl (t.1,(⟨t.2.1.Labels,l4⟩ : Conf),twice1)) : Option ((Conf × Conf × Bool) ⊕ (Conf × Int))).bind fun q0 =>
 match q0 with
 | .inl q2 =>
  some (.inl (q2.1,q2.2.1,q2.2.2,w64 (t.2.2.2 + 1)))
 | .inr q3 =>
  some (.inr (.inl (q3.1,q3.2)))
 else
 some (.inr (.inr (t.1,t.2.1,t.2.2.1)))
def jf (s : List UInt8) : Option (Conf × Int) :=
 bif decide ((s.length : Int) > 2000) then
 some ((⟨[],[]⟩ : Conf),5)
 else
 (ia s 10).bind fun l =>
 (loop (fy l) ((⟨[],[]⟩ : Conf),(⟨[],[]⟩ : Conf),false,0)).bind fun q0 =>
 match q0 with
 | .inl q4 =>
  some (q4.1,q4.2)
 | .inr q5 =>
  bif (q5.2.1.Labels.length : Int) == 0 then
  some ((⟨[],[]⟩ : Conf),6)
  else
  bif q5.2.2 then
   some ((⟨[],[]⟩ : Conf),7)
  else
   some (q5.2.1,0)
def h207 : Hint:=(.s .z (.s .z (.s .z (.s .z (.s .z (.s (.s .z (.b (.l [(2,.box (.st 3) [0,1]),(4,.box (.st 3) [0,1]),(5,.v .bool []),(7,.v (.int .i64) [])] [2,3,4,5,7,8,9,10,11,61,89] [(1,[(2,.box (.st 3) [0,1]),(3,.v (.int .i64) [])]),(2,[(2,.box (.st 3) [0,1]),(4,.box (.st 3) [0,1]),(5,.v .bool [])])] (.s .z (.s (.j [2,3,4,5,8,9,10,11,61,89] [(0,[(2,.box (.st 3) [0,1]),(4,.box (.st 3) [0,1]),(5,.v .bool [])]),(1,[(2,.box (.st 3) [0,1]),(3,.v (.int .i64) [])])] (.b (.s .z (.s .z (.s .z (.s (.s (.j [] [(0,[(61,.v .bool [])])] .z) .z) (.s .z (.s .z (.s .z (.s (.b (.l [(11,.v (.int .i64) [])] [11,89] [(4,[(11,.v (.int .i64) [])])] (.s (.s (.j [] [(0,[(89,.v .bool [])])] .z) .z) .z))) (.s (.j [5] [(0,[(5,.v .bool [])])] .z) .z))))))))))) .z))))) .z))))))
def sp207 : Spec fam:=⟨[.v .str []],[.v (.st 3) [0,1],.v (.int .i64) []],fun a => jf a.1⟩
def dZ (s : State) (x : Conf × Int) (t1 : State × Output × Int) : Option ((State × Output × Int) ⊕ ((State × Output) ⊕ (State × Output))) :=
 bif decide (t1.2.2 < (s.Apps.length : Int)) then
 (
  (idx s.Apps t1.2.2).bind fun x6 =>
  (aF x6).bind fun x7 =>
  bif x7 then
  (idx s.Apps t1.2.2).bind fun x8 =>
  (aW x.1 x8.Queue).bind fun x9 =>
  some (! x9)
  else
  some false).bind fun q2 =>
 bif q2 then
  (aJ s 14).bind fun x10 =>
  some (.inr (.inl (x10.1,x10.2)))
 else
  some (.inl (t1.1,t1.2.1,w64 (t1.2.2 + 1)))
 else
 some (.inr (.inr (t1.1,t1.2.1)))
def dP (s : State) (x : Conf × Int) (t : State × Output × Int) : Option ((State × Output × Int) ⊕ ((State × Output) ⊕ (State × Output))) :=
 bif decide (t.2.2 < (s.Conf.Labels.length : Int)) then
 (inb t.2.2 x.1.Labels.length).bind fun i =>
 (x.1.Labels[i]?).bind fun x3 =>
 (idx s.Conf.Labels t.2.2).bind fun x4 =>
 bif ! (x3 == x4) then
  (aJ s 14).bind fun x5 =>
  some (.inr (.inl (x5.1,x5.2)))
 else
  some (.inl (t.1,t.2.1,w64 (t.2.2 + 1)))
 else
 some (.inr (.inr (t.1,t.2.1)))
def gJ (s : State) (text : List UInt8) : Option (State × Output) :=
 (jf text).bind fun x =>
 (
 bif x.2 == 0 then
  (aZ x.1).bind fun e =>
  some e
 else
  some x.2).bind fun e1 =>
 bif e1 != 0 then
 (aJ s e1).bind fun x1 =>
 some (x1.1,x1.2)
 else
 bif decide ((x.1.Labels.length : Int) < (s.Conf.Labels.length : Int)) then
  (aJ s 14).bind fun x2 =>
  some (x2.1,x2.2)
 else
  (loop (dP s x) ((⟨⟨[],[]⟩,[],[],[],[],[],0,0,0⟩ : State),(⟨0,[],[],[],0⟩ : Output),0)).bind fun q0 =>
  match q0 with
  | .inl q =>
  some (q.1,q.2)
  | .inr q1 =>
  (loop (dZ s x) (q1.1,q1.2,0)).bind fun q0 =>
  match q0 with
  | .inl q3 =>
   some (q3.1,q3.2)
  | .inr q4 =>
   some ((⟨⟨x.1.Labels,x.1.Queues⟩,s.Nodes,s.Apps,s.Conts,s.Slots,s.Plans,s.Now,s.Epoch,s.Seq⟩ : State),(⟨0,[],[],[],0⟩ : Output))
def h125 : Hint:=(.s .z (.s .z (.s (.j [7] [(0,[(7,.v (.int .i64) [])])] .z) (.s .z (.s .z (.s (.s .z (.b (.l [(4,.box (.st 10) [0,1,2,3,4,5,6]),(5,.box (.st 13) [1,2,3]),(8,.v (.int .i64) [])] [4,5,8] [(1,[(4,.box (.st 10) []),(5,.box (.st 13) [1,2,3])]),(2,[(4,.box (.st 10) [0,1,2,3,4,5,6]),(5,.box (.st 13) [1,2,3])])] .z))) (.s (.s .z (.b (.l [(4,.box (.st 10) [0,1,2,3,4,5,6]),(5,.box (.st 13) [1,2,3]),(9,.v (.int .i64) [])] [4,5,9,85] [(1,[(4,.box (.st 10) []),(5,.box (.st 13) [1,2,3])]),(4,[(4,.box (.st 10) [0,1,2,3,4,5,6]),(5,.box (.st 13) [1,2,3])])] (.s .z (.s (.b (.s (.j [] [(0,[(85,.v .bool [])])] .z) .z)) .z))))) .z)))))))
def sp125 : Spec fam:=⟨[.v (.st 10) [],.v .str []],[.v (.st 10) [],.v (.st 13) [1,2,3]],fun a => gJ a.1 a.2.1⟩
def cJ (s : State) (id_ : Int) (t : Cont × Int) : Option ((Cont × Int) ⊕ ((Cont × Bool) ⊕ Cont)) :=
 bif decide (t.2 < (s.Conts.length : Int)) then
 (idx s.Conts t.2).bind fun x =>
 bif x.Id == id_ then
  (idx s.Conts t.2).bind fun x1 =>
  some (.inr (.inl (x1,true)))
 else
  some (.inl (t.1,w64 (t.2 + 1)))
 else
 some (.inr (.inr (t.1)))
def aY (s : State) (id_ : Int) : Option (Cont × Bool) :=
 (loop (cJ s id_) ((⟨0,0,0,⟨0,0⟩,0,0,false,0⟩ : Cont),0)).bind fun q0 =>
 match q0 with
 | .inl q =>
 some (q.1,q.2)
 | .inr q1 =>
 some ((⟨0,0,0,⟨0,0⟩,0,0,false,0⟩ : Cont),false)
def h31 : Hint:=(.s .z (.s (.s .z (.b (.l [(4,.box (.st 7) []),(6,.v (.int .i64) [])] [4,5,6] [(1,[(4,.box (.st 7) []),(5,.v .bool [])]),(2,[(4,.box (.st 7) [])])] .z))) .z))
def sp31 : Spec fam:=⟨[.v (.st 10) [],.v (.int .i64) []],[.v (.st 7) [],.v .bool []],fun a => aY a.1 a.2.1⟩
def cy (s : State) (node : Int) (t : Slot × Int) : Option ((Slot × Int) ⊕ ((Slot × Bool) ⊕ Slot)) :=
 bif decide (t.2 < (s.Slots.length : Int)) then
 (idx s.Slots t.2).bind fun x =>
 bif x.Node == node then
  (idx s.Slots t.2).bind fun x1 =>
  some (.inr (.inl (x1,true)))
 else
  some (.inl (t.1,w64 (t.2 + 1)))
 else
 some (.inr (.inr (t.1)))
def jg (s : State) (node : Int) : Option (Slot × Bool) :=
 (loop (cy s node) ((⟨0,0,0⟩ : Slot),0)).bind fun q0 =>
 match q0 with
 | .inl q =>
 some (q.1,q.2)
 | .inr q1 =>
 some ((⟨0,0,0⟩ : Slot),false)
def h116 : Hint:=(.s .z (.s (.s .z (.b (.l [(4,.box (.st 8) []),(6,.v (.int .i64) [])] [4,5,6] [(1,[(4,.box (.st 8) []),(5,.v .bool [])]),(2,[(4,.box (.st 8) [])])] .z))) .z))
def sp116 : Spec fam:=⟨[.v (.st 10) [],.v (.int .i64) []],[.v (.st 8) [],.v .bool []],fun a => jg a.1 a.2.1⟩
def aM (a : Vec) (b : Vec) : Option Bool :=
 bif decide (a.Mem ≤ b.Mem) then
 some (decide (a.Cores ≤ b.Cores))
 else
 some false
def h42 : Hint:=.z
def sp42 : Spec fam:=⟨[.v (.st 0) [],.v (.st 0) []],[.v .bool []],fun a => aM a.1 a.2.1⟩
def gq (a : Vec) (b : Vec) : Option Vec :=
 some (⟨imax (w64 (a.Mem - b.Mem)) 0,imax (w64 (a.Cores - b.Cores)) 0⟩ : Vec)
def h107 : Hint:=.z
def sp107 : Spec fam:=⟨[.v (.st 0) [],.v (.st 0) []],[.v (.st 0) []],fun a => gq a.1 a.2.1⟩
def aw (a : Vec) (b : Vec) : Option Vec :=
 some (⟨w64 (a.Mem + b.Mem),w64 (a.Cores + b.Cores)⟩ : Vec)
def h109 : Hint:=.z
def sp109 : Spec fam:=⟨[.v (.st 0) [],.v (.st 0) []],[.v (.st 0) []],fun a => aw a.1 a.2.1⟩
def gU (s : State) (id_ : Int) (t : Vec × Int) : Option ((Vec × Int) ⊕ Vec) :=
 bif decide (t.2 < (s.Conts.length : Int)) then
 (
  (idx s.Conts t.2).bind fun x =>
  bif x.Node == id_ then
  (idx s.Conts t.2).bind fun x1 =>
  (aw t.1 x1.Size).bind fun x2 =>
  some x2
  else
  some t.1).bind fun v =>
 some (.inl (v,w64 (t.2 + 1)))
 else
 some (.inr t.1)
def gk (s : State) (id_ : Int) : Option Vec :=
 (loop (gU s id_) ((⟨0,0⟩ : Vec),0)).bind fun v1 =>
 some v1
def h108 : Hint:=(.s .z (.s .z (.s (.s .z (.b (.l [(5,.box (.st 0) []),(6,.v (.int .i64) [])] [5,6] [(2,[(5,.box (.st 0) [])])] (.s .z (.s (.j [5] [(0,[(5,.box (.st 0) [])])] .z) .z))))) .z)))
def sp108 : Spec fam:=⟨[.v (.st 10) [],.v (.int .i64) []],[.v (.st 0) []],fun a => gk a.1 a.2.1⟩
def dB (s : State) (id_ : Int) : Option Vec :=
 (aX s id_).bind fun x =>
 (
 bif ! x.2 then
  some true
 else
  some (! x.1.Up)).bind fun q =>
 bif q then
 some (⟨0,0⟩ : Vec)
 else
 (gk s id_).bind fun x1 =>
 (gq x.1.Cap x1).bind fun x2 =>
 some x2
def h43 : Hint:=(.s .z (.s .z (.s (.s (.j [] [(0,[(19,.v .bool [])])] .z) .z) .z)))
def sp43 : Spec fam:=⟨[.v (.st 10) [],.v (.int .i64) []],[.v (.st 0) []],fun a => dB a.1 a.2.1⟩
def fa (t : List UInt8 × List (List UInt8)) : Option ((List UInt8 × List (List UInt8)) ⊕ List (List UInt8)) :=
 bif ! (t.1 == ([] : List UInt8)) then
 (app 16 t.2 [t.1]).bind fun l =>
 (cT t.1).bind fun path1 =>
 some (.inl (path1,l))
 else
 some (.inr t.2)
def db (path : List UInt8) : Option (List (List UInt8)) :=
 (loop fa (path,[])).bind fun l1 =>
 some l1
def h47 : Hint:=(.s .z (.s .z (.s (.b (.l [(0,.v .str []),(3,.v (.slice (.str)) [0])] [0,3] [(2,[(3,.v (.slice (.str)) [0])])] .z)) .z)))
def sp47 : Spec fam:=⟨[.v .str []],[.v (.slice (.str)) [0]],fun a => db a.1⟩
def cq (path : List UInt8) (up : List (List UInt8)) (i : Int) : Option (Int ⊕ (Bool ⊕ Unit)) :=
 bif decide (i < (up.length : Int)) then
 (inb i up.length).bind fun i1 =>
 (up[i1]?).bind fun x =>
 bif x == path then
  some (.inr (.inl true))
 else
  some (.inl (w64 (i + 1)))
 else
 some (.inr (.inr ()))
def ej (leaf : List UInt8) (path : List UInt8) : Option Bool :=
 (db leaf).bind fun up =>
 (loop (cq path up) 0).bind fun q0 =>
 match q0 with
 | .inl q =>
 some q
 | .inr _ =>
 some false
def h114 : Hint:=(.s .z (.s .z (.s (.s .z (.b (.l [(6,.v (.int .i64) [])] [4,6] [(1,[(4,.v .bool [])]),(2,[])] .z))) .z)))
def sp114 : Spec fam:=⟨[.v .str [],.v .str []],[.v .bool []],fun a => ej a.1 a.2.1⟩
def fw (s : State) (path : List UInt8) (label : Int) (all : Bool) (user : Int) (t : Vec × Int) : Option ((Vec × Int) ⊕ Vec) :=
 bif decide (t.2 < (s.Conts.length : Int)) then
 (
  (idx s.Conts t.2).bind fun x =>
  (aC s x.App).bind fun x1 =>
  (
  bif x1.2 then
   (idx s.Conts t.2).bind fun x2 =>
   bif x2.Label == label then
   (ej x1.1.Queue path).bind fun x3 =>
   bif x3 then
    bif all then
    some true
    else
    some (x1.1.User == user)
   else
    some false
   else
   some false
  else
   some false).bind fun q =>
  bif q then
  (idx s.Conts t.2).bind fun x4 =>
  (aw t.1 x4.Size).bind fun x5 =>
  some x5
  else
  some t.1).bind fun v =>
 some (.inl (v,w64 (t.2 + 1)))
 else
 some (.inr t.1)
def eY (s : State) (path : List UInt8) (label : Int) (all : Bool) (user : Int) : Option Vec :=
 (loop (fw s path label all user) ((⟨0,0⟩ : Vec),0)).bind fun v1 =>
 some v1
def h97 : Hint:=(.s .z (.s .z (.s (.s .z (.b (.l [(11,.box (.st 0) []),(12,.v (.int .i64) [])] [11,12,13,59] [(2,[(11,.box (.st 0) [])])] (.s .z (.s (.j [11,13,59] [(0,[(11,.box (.st 0) [])])] (.b (.s .z (.s (.j [] [(0,[(59,.v .bool [])])] .z) .z)))) .z))))) .z)))
def sp97 : Spec fam:=⟨[.v (.st 10) [],.v .str [],.v (.int .i64) [],.v .bool [],.v (.int .i64) []],[.v (.st 0) []],fun a => eY a.1 a.2.1 a.2.2.1 a.2.2.2.1 a.2.2.2.2.1⟩
def aP (s : State) (path : List UInt8) (label : Int) : Option Vec :=
 (eY s path label true 0).bind fun x =>
 some x
def h32 : Hint:=.z
def sp32 : Spec fam:=⟨[.v (.st 10) [],.v .str [],.v (.int .i64) []],[.v (.st 0) []],fun a => aP a.1 a.2.1 a.2.2.1⟩
def fS (s : State) (label : Int) (t : Vec × Int) : Option ((Vec × Int) ⊕ Vec) :=
 bif decide (t.2 < (s.Nodes.length : Int)) then
 (
  (
  (idx s.Nodes t.2).bind fun x =>
  bif x.Up then
   (idx s.Nodes t.2).bind fun x1 =>
   some (x1.Label == label)
  else
   some false).bind fun q =>
  bif q then
  (idx s.Nodes t.2).bind fun x2 =>
  (aw t.1 x2.Cap).bind fun x3 =>
  some x3
  else
  some t.1).bind fun v =>
 some (.inl (v,w64 (t.2 + 1)))
 else
 some (.inr t.1)
def bu (s : State) (label : Int) : Option Vec :=
 (loop (fS s label) ((⟨0,0⟩ : Vec),0)).bind fun v1 =>
 some v1
def h75 : Hint:=(.s .z (.s .z (.s (.s .z (.b (.l [(5,.box (.st 0) []),(6,.v (.int .i64) [])] [5,6,30] [(2,[(5,.box (.st 0) [])])] (.s .z (.s (.j [5,30] [(0,[(5,.box (.st 0) [])])] (.b (.s (.j [] [(0,[(30,.v .bool [])])] .z) .z))) .z))))) .z)))
def sp75 : Spec fam:=⟨[.v (.st 10) [],.v (.int .i64) []],[.v (.st 0) []],fun a => bu a.1 a.2.1⟩
def gn (n : Int) : Option Bool :=
 bif decide (n ≥ 0) then
 some (decide (n ≤ 1125899906842624))
 else
 some false
def h268 : Hint:=.z
def sp268 : Spec fam:=⟨[.v (.int .i64) []],[.v .bool []],fun a => gn a.1⟩
def a6 (a : Vec) : Option Bool :=
 (gn a.Mem).bind fun x =>
 bif x then
 (gn a.Cores).bind fun x1 =>
 some x1
 else
 some false
def h190 : Hint:=.z
def sp190 : Spec fam:=⟨[.v (.st 0) []],[.v .bool []],fun a => a6 a.1⟩
def fp (n : Int) (bp : Int) : Option Int :=
 some (w64 ((w64 ((w64 (Int.tdiv n 10000)) * bp)) + (w64 (Int.tdiv (w64 ((Int.tmod n 10000) * bp)) 10000))))
def h191 : Hint:=.z
def sp191 : Spec fam:=⟨[.v (.int .i64) [],.v (.int .i64) []],[.v (.int .i64) []],fun a => fp a.1 a.2.1⟩
def eW (a : Vec) (bp : Int) : Option (Vec × Int) :=
 (
 (a6 a).bind fun x =>
 bif ! x then
  some true
 else
  bif decide (bp < 0) then
  some true
  else
  some (decide (bp > 1000000))).bind fun q =>
 bif q then
 some ((⟨0,0⟩ : Vec),1)
 else
 (fp a.Mem bp).bind fun x1 =>
 (fp a.Cores bp).bind fun x2 =>
 (a6 (⟨x1,x2⟩ : Vec)).bind fun x3 =>
 bif ! x3 then
  some ((⟨0,0⟩ : Vec),11)
 else
  some ((⟨x1,x2⟩ : Vec),0)
def h112 : Hint:=(.s .z (.s (.s (.j [] [(0,[(17,.v .bool [])])] .z) .z) .z))
def sp112 : Spec fam:=⟨[.v (.st 0) [],.v (.int .i64) []],[.v (.st 0) [],.v (.int .i64) []],fun a => eW a.1 a.2.1⟩
def gB (s : State) (label : Int) (least : Bool) (up : List (List UInt8)) (t : Vec × Int) : Option ((Vec × Int) ⊕ Vec) :=
 bif decide (t.2 ≥ 0) then
 (inb t.2 up.length).bind fun i1 =>
 (up[i1]?).bind fun x2 =>
 (bj s.Conf x2).bind fun x3 =>
 (inb label x3.1.Caps.length).bind fun i2 =>
 (x3.1.Caps[i2]?).bind fun x4 =>
 (
  bif least then
  (inb label x3.1.Caps.length).bind fun i3 =>
  (x3.1.Caps[i3]?).bind fun x5 =>
  some x5.Least
  else
  some x4.Most).bind fun bp =>
 (eW t.1 bp).bind fun x6 =>
 some (.inl (x6.1,w64 (t.2 - 1)))
 else
 some (.inr t.1)
def gj (s : State) (path : List UInt8) (label : Int) (least : Bool) : Option Vec :=
 (bj s.Conf path).bind fun x =>
 (
 bif ! x.2 then
  some true
 else
  bif decide (label < 0) then
  some true
  else
  some (decide (label ≥ (s.Conf.Labels.length : Int)))).bind fun q =>
 bif q then
 some (⟨0,0⟩ : Vec)
 else
 (bu s label).bind fun x1 =>
 (db path).bind fun up =>
 let i:=w64 ((up.length : Int) - 2)
 (loop (gB s label least up) (x1,i)).bind fun v =>
 some v
def h98 : Hint:=(.s .z (.s .z (.s (.s (.j [] [(0,[(37,.v .bool [])])] .z) .z) (.s .z (.s .z (.s (.s .z (.b (.l [(11,.box (.st 0) []),(13,.v (.int .i64) [])] [11,13,14,15,16] [(2,[(11,.box (.st 0) [])])] (.s .z (.s (.b (.s .z (.s .z (.s (.j [16] [(0,[(16,.v (.int .i64) [])])] .z) .z)))) .z))))) .z))))))
def sp98 : Spec fam:=⟨[.v (.st 10) [],.v .str [],.v (.int .i64) [],.v .bool []],[.v (.st 0) []],fun a => gj a.1 a.2.1 a.2.2.1 a.2.2.2.1⟩
def dA (s : State) (path : List UInt8) (label : Int) : Option Vec :=
 (gj s path label false).bind fun x =>
 some x
def h48 : Hint:=.z
def sp48 : Spec fam:=⟨[.v (.st 10) [],.v .str [],.v (.int .i64) []],[.v (.st 0) []],fun a => dA a.1 a.2.1 a.2.2.1⟩
def gY (s : State) (label : Int) (t : Vec × Int) : Option ((Vec × Int) ⊕ Vec) :=
 bif decide (t.2 < (s.Plans.length : Int)) then
 (
  (idx s.Plans t.2).bind fun x =>
  (
  bif x.Label == label then
   bif decide (x.From ≤ s.Now) then
   some (decide (s.Now < x.Until))
   else
   some false
  else
   some false).bind fun q =>
  bif q then
  (aw t.1 x.Need).bind fun x1 =>
  some x1
  else
  some t.1).bind fun v =>
 some (.inl (v,w64 (t.2 + 1)))
 else
 some (.inr t.1)
def jv (s : State) (label : Int) : Option Vec :=
 (loop (gY s label) ((⟨0,0⟩ : Vec),0)).bind fun v1 =>
 some v1
def h110 : Hint:=(.s .z (.s .z (.s (.s .z (.b (.l [(5,.box (.st 0) []),(6,.v (.int .i64) [])] [5,6,7,38] [(2,[(5,.box (.st 0) [])])] (.s .z (.s (.j [5,7,38] [(0,[(5,.box (.st 0) [])])] (.b (.s .z (.s (.j [] [(0,[(38,.v .bool [])])] .z) .z)))) .z))))) .z)))
def sp110 : Spec fam:=⟨[.v (.st 10) [],.v (.int .i64) []],[.v (.st 0) []],fun a => jv a.1 a.2.1⟩
def cK (s : State) (label : Int) (size : Vec) (up : List (List UInt8)) (i : Int) : Option (Int ⊕ (Bool ⊕ Unit)) :=
 bif decide (i < (up.length : Int)) then
 (inb i up.length).bind fun i1 =>
 (up[i1]?).bind fun x =>
 (aP s x label).bind fun x1 =>
 (aw x1 size).bind fun x2 =>
 (inb i up.length).bind fun i2 =>
 (up[i2]?).bind fun x3 =>
 (dA s x3 label).bind fun x4 =>
 (aM x2 x4).bind fun x5 =>
 bif ! x5 then
  some (.inr (.inl false))
 else
  (
  (inb i up.length).bind fun i3 =>
  (up[i3]?).bind fun x6 =>
  bif x6 == ([114,111,111,116] : List UInt8) then
   (bu s label).bind fun x7 =>
   (jv s label).bind fun x8 =>
   (gq x7 x8).bind fun x9 =>
   (aM x2 x9).bind fun x10 =>
   some (! x10)
  else
   some false).bind fun q =>
  bif q then
  some (.inr (.inl false))
  else
  some (.inl (w64 (i + 1)))
 else
 some (.inr (.inr ()))
def cS (s : State) (path : List UInt8) (label : Int) (size : Vec) : Option Bool :=
 (db path).bind fun up =>
 (loop (cK s label size up) 0).bind fun q0 =>
 match q0 with
 | .inl q1 =>
 some q1
 | .inr _ =>
 some true
def h44 : Hint:=(.s .z (.s .z (.s (.s .z (.b (.l [(10,.v (.int .i64) [])] [8,10,11,55] [(1,[(8,.v .bool [])]),(2,[])] (.s .z (.s (.b (.s .z (.s .z (.s (.j [] [(0,[(55,.v .bool [])])] .z) .z)))) .z))))) .z)))
def sp44 : Spec fam:=⟨[.v (.st 10) [],.v .str [],.v (.int .i64) [],.v (.st 0) []],[.v .bool []],fun a => cS a.1 a.2.1 a.2.2.1 a.2.2.2.1⟩
def eh (l : List Ask) (prio : Int) (t : Ask × Int) : Option ((Ask × Int) ⊕ ((Ask × Bool) ⊕ Ask)) :=
 bif decide (t.2 < (l.length : Int)) then
 (idx l t.2).bind fun x =>
 bif x.Prio == prio then
  (idx l t.2).bind fun x1 =>
  some (.inr (.inl (x1,true)))
 else
  some (.inl (t.1,w64 (t.2 + 1)))
 else
 some (.inr (.inr (t.1)))
def j7 (l : List Ask) (prio : Int) : Option (Ask × Bool) :=
 (loop (eh l prio) ((⟨0,0,⟨0,0⟩,0,0,0,0⟩ : Ask),0)).bind fun q0 =>
 match q0 with
 | .inl q =>
 some (q.1,q.2)
 | .inr q1 =>
 some ((⟨0,0,⟨0,0⟩,0,0,0,0⟩ : Ask),false)
def h192 : Hint:=(.s .z (.s (.s .z (.b (.l [(4,.box (.st 5) []),(6,.v (.int .i64) [])] [4,5,6] [(1,[(4,.box (.st 5) []),(5,.v .bool [])]),(2,[(4,.box (.st 5) [])])] .z))) .z))
def sp192 : Spec fam:=⟨[.v (.slice (.st 5)) [],.v (.int .i64) []],[.v (.st 5) [],.v .bool []],fun a => j7 a.1 a.2.1⟩
def aU (a : Ask) (n : Node) : Option Int :=
 (
 bif ! n.Up then
  some true
 else
  some (n.Label != a.Label)).bind fun q =>
 bif q then
 some 4
 else
 (
  bif a.Rack == (-1) then
  some true
  else
  bif a.Node == n.Id then
   some true
  else
   bif a.Node == (-1) then
   some (a.Rack == n.Rack)
   else
   some false).bind fun q1 =>
 bif q1 then
  some 1
 else
  bif a.Rack == n.Rack then
  some 2
  else
  some 3
def h269 : Hint:=(.s .z (.s (.b (.s (.j [] [(0,[(5,.v .bool [])])] .z) (.c .z (.s (.j [] [(0,[(16,.v .bool [])])] .z) .z)))) .z))
def sp269 : Spec fam:=⟨[.v (.st 5) [],.v (.st 4) []],[.v (.int .i64) []],fun a => aU a.1 a.2.1⟩
def ba (a : Ask) (n : Node) : Option Bool :=
 (aU a n).bind fun x =>
 bif x == 1 then
 some true
 else
 bif x == 2 then
  some (decide (a.Missed ≥ 2))
 else
  bif x == 3 then
  some (decide (a.Missed ≥ 4))
  else
  some false
def h193 : Hint:=.z
def sp193 : Spec fam:=⟨[.v (.st 5) [],.v (.st 4) []],[.v .bool []],fun a => ba a.1 a.2.1⟩
def be (s : State) (path : List UInt8) (label : Int) : Option Vec :=
 (gj s path label true).bind fun x =>
 some x
def h35 : Hint:=.z
def sp35 : Spec fam:=⟨[.v (.st 10) [],.v .str [],.v (.int .i64) []],[.v (.st 0) []],fun a => be a.1 a.2.1 a.2.2.1⟩
def gp (s : State) (leaf : List UInt8) (a : Ask) : Option Bool :=
 (aP s leaf a.Label).bind fun x =>
 (aw x a.Size).bind fun x1 =>
 (be s leaf a.Label).bind fun x2 =>
 (aM x1 x2).bind fun x3 =>
 some x3
def h194 : Hint:=.z
def sp194 : Spec fam:=⟨[.v (.st 10) [],.v .str [],.v (.st 5) []],[.v .bool []],fun a => gp a.1 a.2.1 a.2.2.1⟩
def cm (s : State) (path : List UInt8) (label : Int) (user : Int) : Option Vec :=
 (eY s path label false user).bind fun x =>
 some x
def h45 : Hint:=.z
def sp45 : Spec fam:=⟨[.v (.st 10) [],.v .str [],.v (.int .i64) [],.v (.int .i64) []],[.v (.st 0) []],fun a => cm a.1 a.2.1 a.2.2.1 a.2.2.2.1⟩
def gg (s : State) (path : List UInt8) (label : Int) : Option Vec :=
 (bj s.Conf path).bind fun x =>
 bif ! x.2 then
 some (⟨0,0⟩ : Vec)
 else
 (be s path label).bind fun x1 =>
 (eW x1 x.1.User).bind fun x2 =>
 some x2.1
def h46 : Hint:=.z
def sp46 : Spec fam:=⟨[.v (.st 10) [],.v .str [],.v (.int .i64) []],[.v (.st 0) []],fun a => gg a.1 a.2.1 a.2.2.1⟩
def cC (s : State) (leaf : List UInt8) (label : Int) (user : Int) : Option Bool :=
 (cm s leaf label user).bind fun x =>
 (gg s leaf label).bind fun x1 =>
 (aM x x1).bind fun x2 =>
 some x2
def h195 : Hint:=.z
def sp195 : Spec fam:=⟨[.v (.st 10) [],.v .str [],.v (.int .i64) [],.v (.int .i64) []],[.v .bool []],fun a => cC a.1 a.2.1 a.2.2.1 a.2.2.2.1⟩
def dO (s : State) (node : Int) (t : List Slot × Int) : Option ((List Slot × Int) ⊕ List Slot) :=
 bif decide (t.2 < (s.Slots.length : Int)) then
 (
  (idx s.Slots t.2).bind fun x =>
  bif x.Node != node then
  (idx s.Slots t.2).bind fun x1 =>
  (app 24 t.1 [x1]).bind fun l =>
  some l
  else
  some t.1).bind fun l1 =>
 some (.inl (l1,w64 (t.2 + 1)))
 else
 some (.inr t.1)
def bS (s : State) (node : Int) : Option State :=
 (loop (dO s node) ([],0)).bind fun l2 =>
 some (⟨⟨s.Conf.Labels,s.Conf.Queues⟩,s.Nodes,s.Apps,s.Conts,l2,s.Plans,s.Now,s.Epoch,s.Seq⟩ : State)
def h196 : Hint:=(.s .z (.s .z (.s (.s .z (.b (.l [(5,.v (.slice (.st 8)) [0]),(6,.v (.int .i64) [])] [5,6] [(2,[(5,.v (.slice (.st 8)) [0])])] (.s .z (.s (.j [5] [(0,[(5,.v (.slice (.st 8)) [0])])] .z) .z))))) .z)))
def sp196 : Spec fam:=⟨[.v (.st 10) [],.v (.int .i64) []],[.v (.st 10) [5]],fun a => bS a.1 a.2.1⟩
def gV (l : List Ask) (prio : Int) (t : List Ask × Bool × Int) : Option ((List Ask × Bool × Int) ⊕ ((List Ask × Bool))) :=
 bif decide (t.2.2 < (l.length : Int)) then
 (
  (idx l t.2.2).bind fun x =>
  (
  bif x.Prio == prio then
   bif decide ((w64 (x.Count - 1)) ≤ 0) then
   some (.inr true)
   else
   some (.inl (true,(⟨x.Prio,x.Label,⟨x.Size.Mem,x.Size.Cores⟩,w64 (x.Count - 1),x.Node,x.Rack,0⟩ : Ask)))
  else
   some (.inl (t.2.1,x)) : Option ((Bool × Ask) ⊕ Bool)).bind fun q0 =>
  match q0 with
  | .inl q =>
  (app 64 t.1 [q.2]).bind fun l1 =>
  some (l1,q.1)
  | .inr is =>
  some (t.1,is)).bind fun q1 =>
 some (.inl (q1.1,q1.2,w64 (t.2.2 + 1)))
 else
 some (.inr (t.1,t.2.1))
def js (l : List Ask) (prio : Int) : Option (List Ask × Bool) :=
 (loop (gV l prio) ([],false,0)).bind fun q2 =>
 some (q2.1,q2.2)
def h270 : Hint:=(.s .z (.s .z (.s .z (.s (.s .z (.b (.l [(6,.v (.slice (.st 5)) [0]),(7,.v .bool []),(8,.v (.int .i64) [])] [6,7,8,9] [(2,[(6,.v (.slice (.st 5)) [0]),(7,.v .bool [])])] (.s .z (.s (.j [6,7,9] [(0,[(6,.v (.slice (.st 5)) [0]),(7,.v .bool [])])] (.b (.s .z (.s (.j [7,9] [(0,[(7,.v .bool []),(9,.box (.st 5) [])]),(3,[(7,.v .bool [])])] .z) .z)))) .z))))) .z))))
def sp270 : Spec fam:=⟨[.v (.slice (.st 5)) [],.v (.int .i64) []],[.v (.slice (.st 5)) [0],.v .bool []],fun a => js a.1 a.2.1⟩
def eL (s : State) (k : Int) : Option (Int ⊕ Int) :=
 (
 bif decide (k < (s.Conts.length : Int)) then
  (idx s.Conts k).bind fun x2 =>
  some (decide (x2.Id < (w64 ((shlK .i64 s.Epoch 20) + (w64 (s.Seq + 1))))))
 else
  some false).bind fun q =>
 bif q then
 some (.inl (w64 (k + 1)))
 else
 some (.inr k)
def ef (s : State) (n : Node) (a : App) (x : Ask) : Option (State × Cont) :=
 (js a.Asks x.Prio).bind fun x1 =>
 (
 bif a.State == 1 then
  some (⟨a.Id,2,a.Queue,a.User,a.Prio,⟨a.Master.Mem,a.Master.Cores⟩,[],s.Now,0,a.Grants,a.Kills,a.Told,a.Lost⟩ : App)
 else
  (app 8 [] a.Grants).bind fun l =>
  (app 8 l [w64 ((shlK .i64 s.Epoch 20) + (w64 (s.Seq + 1)))]).bind fun l1 =>
  some (⟨a.Id,a.State,a.Queue,a.User,a.Prio,⟨a.Master.Mem,a.Master.Cores⟩,x1.1,a.Seen,a.Beat,l1,a.Kills,a.Told,a.Lost⟩ : App)).bind fun a1 =>
 (loop (eL s) 0).bind fun k1 =>
 (slc s.Conts 0 k1).bind fun l2 =>
 (app 72 [] l2).bind fun l3 =>
 (app 72 l3 [(⟨w64 ((shlK .i64 s.Epoch 20) + (w64 (s.Seq + 1))),a.Id,n.Id,⟨x.Size.Mem,x.Size.Cores⟩,x.Prio,n.Label,a.State == 1,0⟩ : Cont)]).bind fun l4 =>
 (slc s.Conts k1 (s.Conts.length : Int)).bind fun l5 =>
 (app 72 l4 l5).bind fun l6 =>
 (aO (⟨⟨s.Conf.Labels,s.Conf.Queues⟩,s.Nodes,s.Apps,l6,s.Slots,s.Plans,s.Now,s.Epoch,w64 (s.Seq + 1)⟩ : State) a1).bind fun x3 =>
 some (x3,(⟨w64 ((shlK .i64 s.Epoch 20) + (w64 (s.Seq + 1))),a.Id,n.Id,⟨x.Size.Mem,x.Size.Cores⟩,x.Prio,n.Label,a.State == 1,0⟩ : Cont))
def h197 : Hint:=(.s .z (.s .z (.s .z (.s .z (.s (.j [6] [(0,[(6,.box (.st 6) [7])])] .z) (.s .z (.s (.b (.l [(11,.v (.int .i64) [])] [11,78] [(2,[(11,.v (.int .i64) [])])] (.s (.s (.j [] [(0,[(78,.v .bool [])])] .z) .z) .z))) .z)))))))
def sp197 : Spec fam:=⟨[.v (.st 10) [],.v (.st 4) [],.v (.st 6) [],.v (.st 5) []],[.v (.st 10) [3],.v (.st 7) []],fun a => ef a.1 a.2.1 a.2.2.1 a.2.2.2.1⟩
def bo (s : State) (n : Node) (x : Slot) : Option (State × Int × Cont × Bool) :=
 (aC s x.App).bind fun x1 =>
 (j7 x1.1.Asks x.Prio).bind fun x2 =>
 (
 bif ! x1.2 then
  some true
 else
  (aF x1.1).bind fun x3 =>
  bif ! x3 then
  some true
  else
  bif ! x2.2 then
   some true
  else
   (ba x2.1 n).bind fun x4 =>
   bif ! x4 then
   some true
   else
   (aM x2.1.Size n.Cap).bind fun x5 =>
   bif ! x5 then
    some true
   else
    (gp s x1.1.Queue x2.1).bind fun x6 =>
    bif ! x6 then
    some true
    else
    (cC s x1.1.Queue n.Label x1.1.User).bind fun x7 =>
    some (! x7)).bind fun q =>
 bif q then
 (bS s n.Id).bind fun x8 =>
 some (x8,0,(⟨0,0,0,⟨0,0⟩,0,0,false,0⟩ : Cont),false)
 else
 (
  (dB s n.Id).bind fun x9 =>
  (aM x2.1.Size x9).bind fun x10 =>
  bif ! x10 then
  some true
  else
  (cS s x1.1.Queue n.Label x2.1.Size).bind fun x11 =>
  some (! x11)).bind fun q1 =>
 bif q1 then
  some (s,3,(⟨0,0,0,⟨0,0⟩,0,0,false,0⟩ : Cont),true)
 else
  (bS s n.Id).bind fun x12 =>
  (ef x12 n x1.1 x2.1).bind fun x13 =>
  some (x13.1,1,x13.2,true)
def h117 : Hint:=(.s .z (.s .z (.s .z (.s (.s (.j [] [(0,[(74,.v .bool [])])] .z) .z) (.s (.s (.j [] [(0,[(98,.v .bool [])])] .z) .z) .z)))))
def sp117 : Spec fam:=⟨[.v (.st 10) [],.v (.st 4) [],.v (.st 8) []],[.v (.st 10) [],.v (.int .i64) [],.v (.st 7) [],.v .bool []],fun a => bo a.1 a.2.1 a.2.2.1⟩
def gw (a : Int) (b : Int) : Option (Int × Int) :=
 let mid:=w64 ((w64 ((shrK .i64 a 25) * (andK .i64 b 33554431))) + (w64 ((andK .i64 a 33554431) * (shrK .i64 b 25))))
 let low:=w64 ((w64 ((andK .i64 a 33554431) * (andK .i64 b 33554431))) + (shlK .i64 (andK .i64 mid 33554431) 25))
 some (w64 ((w64 ((w64 ((shrK .i64 a 25) * (shrK .i64 b 25))) + (shrK .i64 mid 25))) + (shrK .i64 low 50)),andK .i64 low 1125899906842623)
def h384 : Hint:=.z
def sp384 : Spec fam:=⟨[.v (.int .i64) [],.v (.int .i64) []],[.v (.int .i64) [],.v (.int .i64) []],fun a => gw a.1 a.2.1⟩
def bn (x : Frac) (y : Frac) : Option Int :=
 (
 bif x.A == 0 then
  some (⟨x.A,1⟩ : Frac)
 else
  some x).bind fun x1 =>
 (
 bif y.A == 0 then
  some (⟨y.A,1⟩ : Frac)
 else
  some y).bind fun y1 =>
 (
 bif x1.P == 0 then
  some true
 else
  some (y1.P == 0)).bind fun q =>
 bif q then
 (
  bif x1.P == 0 then
  some (y1.P == 0)
  else
  some false).bind fun q1 =>
 bif q1 then
  some 0
 else
  bif x1.P == 0 then
  some 1
  else
  some (-1)
 else
 (gw x1.A y1.P).bind fun x2 =>
 (gw y1.A x1.P).bind fun x3 =>
 (
  bif decide (x2.1 < x3.1) then
  some true
  else
  bif x2.1 == x3.1 then
   some (decide (x2.2 < x3.2))
  else
   some false).bind fun q2 =>
 bif q2 then
  some (-1)
 else
  (
  bif x2.1 == x3.1 then
   some (x2.2 == x3.2)
  else
   some false).bind fun q3 =>
  bif q3 then
  some 0
  else
  some 1
def h379 : Hint:=(.s .z (.s (.j [2] [(0,[(2,.box (.st 14) [])])] .z) (.s (.j [3] [(0,[(3,.box (.st 14) [])])] .z) (.s (.s (.j [] [(0,[(24,.v .bool [])])] .z) (.c (.s (.b (.s (.j [] [(0,[(25,.v .bool [])])] .z) .z)) .z) .z)) (.s .z (.s .z (.s (.b (.s (.j [] [(0,[(54,.v .bool [])])] .z) (.c .z (.s (.j [] [(0,[(68,.v .bool [])])] .z) .z)))) .z)))))))
def sp379 : Spec fam:=⟨[.v (.st 14) [],.v (.st 14) []],[.v (.int .i64) []],fun a => bn a.1 a.2.1⟩
def b7 (a : Vec) (p : Vec) : Option Frac :=
 (bn (⟨a.Mem,p.Mem⟩ : Frac) (⟨a.Cores,p.Cores⟩ : Frac)).bind fun x =>
 bif decide (x < 0) then
 some (⟨a.Cores,p.Cores⟩ : Frac)
 else
 some (⟨a.Mem,p.Mem⟩ : Frac)
def h380 : Hint:=.z
def sp380 : Spec fam:=⟨[.v (.st 0) [],.v (.st 0) []],[.v (.st 14) []],fun a => b7 a.1 a.2.1⟩
def br (a : Vec) (p : Vec) (b : Vec) (q : Vec) : Option Int :=
 (
 (a6 a).bind fun x =>
 bif ! x then
  some true
 else
  (a6 p).bind fun x1 =>
  bif ! x1 then
  some true
  else
  (a6 b).bind fun x2 =>
  bif ! x2 then
   some true
  else
   (a6 q).bind fun x3 =>
   some (! x3)).bind fun q1 =>
 bif q1 then
 some 0
 else
 (b7 a p).bind fun x4 =>
 (b7 b q).bind fun x5 =>
 (bn x4 x5).bind fun x6 =>
 some x6
def h372 : Hint:=(.s .z (.s (.s (.j [] [(0,[(26,.v .bool [])])] .z) .z) .z))
def sp372 : Spec fam:=⟨[.v (.st 0) [],.v (.st 0) [],.v (.st 0) [],.v (.st 0) []],[.v (.int .i64) []],fun a => br a.1 a.2.1 a.2.2.1 a.2.2.2.1⟩
def iz (s : State) (a : List UInt8) (b : List UInt8) (label : Int) : Option Bool :=
 (aP s a label).bind fun x =>
 (be s a label).bind fun x1 =>
 (aP s b label).bind fun x2 =>
 (be s b label).bind fun x3 =>
 (br x x1 x2 x3).bind fun o =>
 bif decide (o < 0) then
 some true
 else
 bif o == 0 then
  some (Op.bytesLess a b)
 else
  some false
def h360 : Hint:=.z
def sp360 : Spec fam:=⟨[.v (.st 10) [],.v .str [],.v .str [],.v (.int .i64) []],[.v .bool []],fun a => iz a.1 a.2.1 a.2.2.1 a.2.2.2.1⟩
def fI (s : State) (label : Int) (l : List (List UInt8)) (t : List (List UInt8) × Int) (k : Int) : Option (Int ⊕ Int) :=
 (
 bif decide (k < (t.1.length : Int)) then
  (inb t.2 l.length).bind fun i =>
  (l[i]?).bind fun x =>
  (inb k t.1.length).bind fun i1 =>
  (t.1[i1]?).bind fun x1 =>
  (iz s x x1 label).bind fun x2 =>
  some (! x2)
 else
  some false).bind fun q =>
 bif q then
 some (.inl (w64 (k + 1)))
 else
 some (.inr k)
def fL (s : State) (label : Int) (l : List (List UInt8)) (t : List (List UInt8) × Int) : Option ((List (List UInt8) × Int) ⊕ List (List UInt8)) :=
 bif decide (t.2 < (l.length : Int)) then
 (loop (fI s label l t) 0).bind fun k1 =>
 (inS 0 k1 t.1.length).bind fun p =>
 (app 16 [] (sub t.1 p.1 p.2)).bind fun l1 =>
 (inb t.2 l.length).bind fun i2 =>
 (l[i2]?).bind fun x3 =>
 (app 16 l1 [x3]).bind fun l2 =>
 (inS k1 (t.1.length : Int) t.1.length).bind fun p1 =>
 (app 16 l2 (sub t.1 p1.1 p1.2)).bind fun l3 =>
 some (.inl (l3,w64 (t.2 + 1)))
 else
 some (.inr t.1)
def ji (s : State) (path : List UInt8) (label : Int) : Option (List (List UInt8)) :=
 (bC s.Conf path).bind fun l =>
 (loop (fL s label l) ([],0)).bind fun out =>
 some out
def h327 : Hint:=(.s .z (.s .z (.s .z (.s (.s .z (.b (.l [(8,.v (.slice (.str)) [0]),(9,.v (.int .i64) [])] [8,9,10,39] [(2,[(8,.v (.slice (.str)) [0])])] (.s .z (.s (.b (.s .z (.s (.b (.l [(10,.v (.int .i64) [])] [10,39] [(4,[(10,.v (.int .i64) [])])] (.s (.s (.j [] [(0,[(39,.v .bool [])])] .z) .z) .z))) .z))) .z))))) .z))))
def sp327 : Spec fam:=⟨[.v (.st 10) [],.v .str [],.v (.int .i64) []],[.v (.slice (.str)) [0]],fun a => ji a.1 a.2.1 a.2.2.1⟩
def cY (s : State) (label : Int) (self : State → (List UInt8) → Int → Option (List (List UInt8))) (l : List (List UInt8)) (t : List (List UInt8) × Int) : Option ((List (List UInt8) × Int) ⊕ List (List UInt8)) :=
 bif decide (t.2 < (l.length : Int)) then
 (inb t.2 l.length).bind fun i =>
 (l[i]?).bind fun x =>
 (self s x label).bind fun x1 =>
 (app 16 t.1 x1).bind fun l1 =>
 some (.inl (l1,w64 (t.2 + 1)))
 else
 some (.inr t.1)
def cu (self : State → (List UInt8) → Int → Option (List (List UInt8))) (s : State) (path : List UInt8) (label : Int) : Option (List (List UInt8)) :=
 (ji s path label).bind fun l =>
 bif (l.length : Int) == 0 then
 some [path]
 else
 (loop (cY s label self l) ([],0)).bind fun out =>
 some out
def bf : Nat → State → (List UInt8) → Int → Option (List (List UInt8))
 | 0 => fun _ _ _ => none
 | n + 1 => cu (bf n)
def j8 (a0 : State) (a1 : List UInt8) (a2 : Int) : Option (List (List UInt8)):=bf 64 a0 a1 a2
def h271 : Hint:=(.s .z (.s .z (.s .z (.s .z (.s (.s .z (.b (.l [(8,.v (.slice (.str)) [0]),(9,.v (.int .i64) [])] [8,9] [(2,[(8,.v (.slice (.str)) [0])])] .z))) .z)))))
def sp271 : Spec fam:=⟨[.v (.st 10) [],.v .str [],.v (.int .i64) []],[.v (.slice (.str)) [0]],fun a => j8 a.1 a.2.1 a.2.2.1⟩
def E2 (n : Nat) : Spec fam:=⟨[.v (.st 10) [],.v .str [],.v (.int .i64) []],[.v (.slice (.str)) [0]],fun a => bf n a.1 a.2.1 a.2.2.1⟩
def gR (s : State) (label : Int) : Option (List (List UInt8)) :=
 (j8 s ([114,111,111,116] : List UInt8) label).bind fun x =>
 some x
def h198 : Hint:=.z
def sp198 : Spec fam:=⟨[.v (.st 10) [],.v (.int .i64) []],[.v (.slice (.str)) [0]],fun a => gR a.1 a.2.1⟩
def cL (out1 : List App) (t1 : List Int × Int) : Option ((List Int × Int) ⊕ List Int) :=
 bif decide (t1.2 < (out1.length : Int)) then
 (inb t1.2 out1.length).bind fun i1 =>
 (out1[i1]?).bind fun x3 =>
 (app 8 t1.1 [x3.Id]).bind fun l3 =>
 some (.inl (l3,w64 (t1.2 + 1)))
 else
 some (.inr t1.1)
def fJ (t : List App × Int) (x : App) (k : Int) : Option (Int ⊕ Int) :=
 (
 bif decide (k < (t.1.length : Int)) then
  (inb k t.1.length).bind fun i =>
  (t.1[i]?).bind fun x2 =>
  some (decide (x2.Prio ≥ x.Prio))
 else
  some false).bind fun q1 =>
 bif q1 then
 some (.inl (w64 (k + 1)))
 else
 some (.inr k)
def fW (s : State) (queue : List UInt8) (t : List App × Int) : Option ((List App × Int) ⊕ List App) :=
 bif decide (t.2 < (s.Apps.length : Int)) then
 (
  (idx s.Apps t.2).bind fun x =>
  (
  (aF x).bind fun x1 =>
  bif ! x1 then
   some true
  else
   some (! (x.Queue == queue))).bind fun q =>
  bif q then
  some t.1
  else
  (loop (fJ t x) 0).bind fun k1 =>
  (inS 0 k1 t.1.length).bind fun p =>
  (app 200 [] (sub t.1 p.1 p.2)).bind fun l =>
  (app 200 l [x]).bind fun l1 =>
  (inS k1 (t.1.length : Int) t.1.length).bind fun p1 =>
  (app 200 l1 (sub t.1 p1.1 p1.2)).bind fun l2 =>
  some l2).bind fun out =>
 some (.inl (out,w64 (t.2 + 1)))
 else
 some (.inr t.1)
def eZ (s : State) (queue : List UInt8) : Option (List Int) :=
 (loop (fW s queue) ([],0)).bind fun out1 =>
 (loop (cL out1) ([],0)).bind fun l4 =>
 some l4
def h199 : Hint:=(.s .z (.s .z (.s (.s .z (.b (.l [(5,.v (.slice (.st 6)) [0]),(6,.v (.int .i64) [])] [5,6,7,8,9,32,46] [(2,[(5,.v (.slice (.st 6)) [0])])] (.s .z (.s (.j [5,7,8,9,32,46] [(0,[(5,.v (.slice (.st 6)) [0])])] (.b (.s .z (.s (.s (.j [] [(0,[(32,.v .bool [])])] .z) .z) (.s .z (.s (.b (.l [(8,.v (.int .i64) [])] [8,46] [(4,[(8,.v (.int .i64) [])])] (.s (.s (.j [] [(0,[(46,.v .bool [])])] .z) .z) .z))) .z)))))) .z))))) (.s .z (.s (.s .z (.b (.l [(10,.v (.slice (.int .i64)) [0]),(11,.v (.int .i64) [])] [10,11] [(6,[(10,.v (.slice (.int .i64)) [0])])] .z))) .z)))))
def sp199 : Spec fam:=⟨[.v (.st 10) [],.v .str []],[.v (.slice (.int .i64)) [0]],fun a => eZ a.1 a.2.1⟩
def gL (prio : Int) (t : List Ask × Int) : Option ((List Ask × Int) ⊕ List Ask) :=
 bif decide (t.2 < (t.1.length : Int)) then
 (
  (inb t.2 t.1.length).bind fun i =>
  (t.1[i]?).bind fun x =>
  bif x.Prio == prio then
  (inb t.2 t.1.length).bind fun i1 =>
  (t.1[i1]?).bind fun x1 =>
  (inb t.2 t.1.length).bind fun i2 =>
  (t.1[i2]?).bind fun x2 =>
  some (List.set t.1 i2 (⟨x2.Prio,x2.Label,⟨x2.Size.Mem,x2.Size.Cores⟩,x2.Count,x2.Node,x2.Rack,imin (w64 (x1.Missed + 1)) 100⟩ : Ask))
  else
  some t.1).bind fun out =>
 some (.inl (out,w64 (t.2 + 1)))
 else
 some (.inr t.1)
def jE (l : List Ask) (prio : Int) : Option (List Ask) :=
 (app 64 [] l).bind fun l1 =>
 (loop (gL prio) (l1,0)).bind fun out1 =>
 some out1
def h272 : Hint:=(.s .z (.s .z (.s (.s .z (.b (.l [(5,.row (.st 5) false),(6,.v (.int .i64) [])] [5,6] [(2,[(5,.row (.st 5) false)])] (.s .z (.s (.j [5] [(0,[(5,.row (.st 5) false)])] .z) .z))))) .z)))
def sp272 : Spec fam:=⟨[.v (.slice (.st 5)) [],.v (.int .i64) []],[.v (.slice (.st 5)) [0]],fun a => jE a.1 a.2.1⟩
def cp (s : State) (app_ : Int) (prio : Int) (i : Int) : Option (Int ⊕ (Bool ⊕ Unit)) :=
 bif decide (i < (s.Slots.length : Int)) then
 (
  (idx s.Slots i).bind fun x =>
  bif x.App == app_ then
  (idx s.Slots i).bind fun x1 =>
  some (x1.Prio == prio)
  else
  some false).bind fun q =>
 bif q then
  some (.inr (.inl true))
 else
  some (.inl (w64 (i + 1)))
 else
 some (.inr (.inr ()))
def iC (s : State) (app_ : Int) (prio : Int) : Option Bool :=
 (loop (cp s app_ prio) 0).bind fun q0 =>
 match q0 with
 | .inl q1 =>
 some q1
 | .inr _ =>
 some false
def h273 : Hint:=(.s .z (.s (.s .z (.b (.l [(7,.v (.int .i64) [])] [6,7,32] [(1,[(6,.v .bool [])]),(2,[])] (.s .z (.s (.b (.s (.j [] [(0,[(32,.v .bool [])])] .z) .z)) .z))))) .z))
def sp273 : Spec fam:=⟨[.v (.st 10) [],.v (.int .i64) [],.v (.int .i64) []],[.v .bool []],fun a => iC a.1 a.2.1 a.2.2.1⟩
def ft (s : State) (x : Slot) (k : Int) : Option (Int ⊕ Int) :=
 (
 bif decide (k < (s.Slots.length : Int)) then
  (idx s.Slots k).bind fun x1 =>
  some (decide (x1.Node < x.Node))
 else
  some false).bind fun q =>
 bif q then
 some (.inl (w64 (k + 1)))
 else
 some (.inr k)
def iM (s : State) (x : Slot) : Option State :=
 (loop (ft s x) 0).bind fun k1 =>
 (slc s.Slots 0 k1).bind fun l =>
 (app 24 [] l).bind fun l1 =>
 (app 24 l1 [x]).bind fun l2 =>
 (slc s.Slots k1 (s.Slots.length : Int)).bind fun l3 =>
 (app 24 l2 l3).bind fun l4 =>
 some (⟨⟨s.Conf.Labels,s.Conf.Queues⟩,s.Nodes,s.Apps,s.Conts,l4,s.Plans,s.Now,s.Epoch,s.Seq⟩ : State)
def h274 : Hint:=(.s .z (.s .z (.s (.b (.l [(5,.v (.int .i64) [])] [5,22] [(2,[(5,.v (.int .i64) [])])] (.s (.s (.j [] [(0,[(22,.v .bool [])])] .z) .z) .z))) .z)))
def sp274 : Spec fam:=⟨[.v (.st 10) [],.v (.st 8) []],[.v (.st 10) [5]],fun a => iM a.1 a.2.1⟩
def bE (s : State) (n : Node) (a : App) (x : Ask) (first : Bool) : Option (State × Int × Cont) :=
 (gp s a.Queue x).bind fun is =>
 (
 (aU x n).bind fun x1 =>
 bif x1 == 4 then
  some true
 else
  (aM x.Size n.Cap).bind fun x2 =>
  bif ! x2 then
  some true
  else
  bif first then
   some (! is)
  else
   some false).bind fun q =>
 bif q then
 some (s,0,(⟨0,0,0,⟨0,0⟩,0,0,false,0⟩ : Cont))
 else
 (ba x n).bind fun x3 =>
 bif ! x3 then
  (
  bif first == is then
   (jE a.Asks x.Prio).bind fun x4 =>
   (aO s (⟨a.Id,a.State,a.Queue,a.User,a.Prio,⟨a.Master.Mem,a.Master.Cores⟩,x4,a.Seen,a.Beat,a.Grants,a.Kills,a.Told,a.Lost⟩ : App)).bind fun x5 =>
   some x5
  else
   some s).bind fun s1 =>
  some (s1,0,(⟨0,0,0,⟨0,0⟩,0,0,false,0⟩ : Cont))
 else
  (cS s a.Queue n.Label x.Size).bind fun x6 =>
  bif ! x6 then
  some (s,0,(⟨0,0,0,⟨0,0⟩,0,0,false,0⟩ : Cont))
  else
  (dB s n.Id).bind fun x7 =>
  (aM x.Size x7).bind fun x8 =>
  bif x8 then
   (ef s n a x).bind fun x9 =>
   some (x9.1,1,x9.2)
  else
   (
   bif first then
    (iC s a.Id x.Prio).bind fun x10 =>
    some (! x10)
   else
    some false).bind fun q1 =>
   bif q1 then
   (iM s (⟨n.Id,a.Id,x.Prio⟩ : Slot)).bind fun x11 =>
   some (x11,2,(⟨0,0,0,⟨0,0⟩,0,0,false,0⟩ : Cont))
   else
   some (s,0,(⟨0,0,0,⟨0,0⟩,0,0,false,0⟩ : Cont))
def h200 : Hint:=(.s .z (.s .z (.s (.s (.j [] [(0,[(39,.v .bool [])])] .z) .z) (.s (.s .z (.c (.s (.j [5,7] [(0,[(5,.box (.st 10) [])])] .z) .z) .z)) (.s .z (.s .z (.s (.s (.j [] [(0,[(97,.v .bool [])])] .z) .z) .z)))))))
def sp200 : Spec fam:=⟨[.v (.st 10) [],.v (.st 4) [],.v (.st 6) [],.v (.st 5) [],.v .bool []],[.v (.st 10) [],.v (.int .i64) [],.v (.st 7) []],fun a => bE a.1 a.2.1 a.2.2.1 a.2.2.2.1 a.2.2.2.2.1⟩
def aA (n : Node) (first : Bool) (ids : List Int) (t1 : State × State × Cont × Int) (x2 : App × Bool) (t2 : State × State × Cont × Int) : Option ((State × State × Cont × Int) ⊕ ((State × Int × Cont) ⊕ (State × State × Cont))) :=
 bif decide (t2.2.2.2 < (x2.1.Asks.length : Int)) then
 (inb t1.2.2.2 ids.length).bind fun i3 =>
 (ids[i3]?).bind fun x5 =>
 (aC t2.1 x5).bind fun x6 =>
 (idx x2.1.Asks t2.2.2.2).bind fun x7 =>
 (bE t2.1 n x6.1 x7 first).bind fun x8 =>
 bif x8.2.1 != 0 then
  some (.inr (.inl (x8.1,x8.2.1,x8.2.2)))
 else
  some (.inl (x8.1,t2.2.1,t2.2.2.1,w64 (t2.2.2.2 + 1)))
 else
 some (.inr (.inr (t2.1,t2.2.1,t2.2.2.1)))
def aB (n : Node) (first : Bool) (leaves : List (List UInt8)) (t : State × State × Cont × Int) (ids : List Int) (t1 : State × State × Cont × Int) : Option ((State × State × Cont × Int) ⊕ ((State × Int × Cont) ⊕ (State × State × Cont))) :=
 bif decide (t1.2.2.2 < (ids.length : Int)) then
 (
  (inb t1.2.2.2 ids.length).bind fun i1 =>
  (ids[i1]?).bind fun x1 =>
  (aC t1.1 x1).bind fun x2 =>
  (inb t.2.2.2 leaves.length).bind fun i2 =>
  (leaves[i2]?).bind fun x3 =>
  (cC t1.1 x3 n.Label x2.1.User).bind fun x4 =>
  bif ! x4 then
  some (.inl (t1.1,t1.2.1,t1.2.2.1))
  else
  (loop (aA n first ids t1 x2) (t1.1,t1.2.1,t1.2.2.1,0)).bind fun q0 =>
  match q0 with
  | .inl q =>
   some (.inr (q.1,q.2.1,q.2.2))
  | .inr q1 =>
   some (.inl (q1.1,q1.2.1,q1.2.2)) : Option ((State × State × Cont) ⊕ (State × Int × Cont))).bind fun q0 =>
 match q0 with
 | .inl q2 =>
  some (.inl (q2.1,q2.2.1,q2.2.2,w64 (t1.2.2.2 + 1)))
 | .inr q3 =>
  some (.inr (.inl (q3.1,q3.2.1,q3.2.2)))
 else
 some (.inr (.inr (t1.1,t1.2.1,t1.2.2.1)))
def aI (n : Node) (first : Bool) (leaves : List (List UInt8)) (t : State × State × Cont × Int) : Option ((State × State × Cont × Int) ⊕ ((State × Int × Cont) ⊕ (State × State × Cont))) :=
 bif decide (t.2.2.2 < (leaves.length : Int)) then
 (inb t.2.2.2 leaves.length).bind fun i =>
 (leaves[i]?).bind fun x =>
 (eZ t.1 x).bind fun ids =>
 (loop (aB n first leaves t ids) (t.1,t.2.1,t.2.2.1,0)).bind fun q0 =>
 match q0 with
 | .inl q4 =>
  some (.inr (.inl (q4.1,q4.2.1,q4.2.2)))
 | .inr q5 =>
  some (.inl (q5.1,q5.2.1,q5.2.2,w64 (t.2.2.2 + 1)))
 else
 some (.inr (.inr (t.1,t.2.1,t.2.2.1)))
def aH (s : State) (n : Node) (first : Bool) : Option (State × Int × Cont) :=
 (gR s n.Label).bind fun leaves =>
 (loop (aI n first leaves) (s,(⟨⟨[],[]⟩,[],[],[],[],[],0,0,0⟩ : State),(⟨0,0,0,⟨0,0⟩,0,0,false,0⟩ : Cont),0)).bind fun q0 =>
 match q0 with
 | .inl q6 =>
 some (q6.1,q6.2.1,q6.2.2)
 | .inr q7 =>
 some (q7.1,0,(⟨0,0,0,⟨0,0⟩,0,0,false,0⟩ : Cont))
def h118 : Hint:=(.s .z (.s .z (.s (.s .z (.b (.l [(3,.box (.st 10) []),(6,.box (.st 10) [0,1,2,3,4,5,6]),(8,.box (.st 7) []),(10,.v (.int .i64) [])] [3,6,7,8,10,11,12,13,14,15,16,17,18,19,20] [(1,[(6,.box (.st 10) []),(7,.v (.int .i64) []),(8,.box (.st 7) [])]),(2,[(3,.box (.st 10) []),(6,.box (.st 10) [0,1,2,3,4,5,6]),(8,.box (.st 7) [])])] (.s .z (.s (.b (.s .z (.s .z (.b (.l [(3,.box (.st 10) []),(6,.box (.st 10) [0,1,2,3,4,5,6]),(8,.box (.st 7) []),(12,.v (.int .i64) [])] [3,6,7,8,12,13,14,15,16,17,18,19,20] [(1,[(6,.box (.st 10) []),(7,.v (.int .i64) []),(8,.box (.st 7) [])]),(4,[(3,.box (.st 10) []),(6,.box (.st 10) [0,1,2,3,4,5,6]),(8,.box (.st 7) [])])] (.s .z (.s (.j [3,6,7,8,13,14,15,16,17,18,19,20] [(0,[(3,.box (.st 10) []),(6,.box (.st 10) [0,1,2,3,4,5,6]),(8,.box (.st 7) [])]),(1,[(6,.box (.st 10) []),(7,.v (.int .i64) []),(8,.box (.st 7) [])])] (.b (.s .z (.s .z (.s .z (.b (.l [(3,.box (.st 10) []),(6,.box (.st 10) [0,1,2,3,4,5,6]),(8,.box (.st 7) []),(15,.v (.int .i64) [])] [3,6,7,8,15,16,17,18,19,20] [(1,[(6,.box (.st 10) []),(7,.v (.int .i64) []),(8,.box (.st 7) [])]),(6,[(3,.box (.st 10) []),(6,.box (.st 10) [0,1,2,3,4,5,6]),(8,.box (.st 7) [])])] .z))))))) .z))))))) .z))))) .z)))
def sp118 : Spec fam:=⟨[.v (.st 10) [],.v (.st 4) [],.v .bool []],[.v (.st 10) [],.v (.int .i64) [],.v (.st 7) []],fun a => aH a.1 a.2.1 a.2.2.1⟩
def a_ (s : State) (node : Int) : Option (State × Int × Cont) :=
 (aX s node).bind fun x =>
 (
 bif ! x.2 then
  some true
 else
  bif ! x.1.Up then
  some true
  else
  bif decide ((s.Conts.length : Int) ≥ 200) then
   some true
  else
   some (decide (s.Seq ≥ 1048575))).bind fun q =>
 bif q then
 some (s,0,(⟨0,0,0,⟨0,0⟩,0,0,false,0⟩ : Cont))
 else
 (jg s node).bind fun x1 =>
 (
  bif x1.2 then
  (bo s x.1 x1.1).bind fun x2 =>
  bif x2.2.2.2 then
   some (.inr (x2.1,x2.2.1,x2.2.2.1))
  else
   some (.inl (x2.1,(⟨⟨[],[]⟩,[],[],[],[],[],0,0,0⟩ : State),(⟨0,0,0,⟨0,0⟩,0,0,false,0⟩ : Cont)))
  else
  some (.inl (s,(⟨⟨[],[]⟩,[],[],[],[],[],0,0,0⟩ : State),(⟨0,0,0,⟨0,0⟩,0,0,false,0⟩ : Cont))) : Option ((State × State × Cont) ⊕ (State × Int × Cont))).bind fun q0 =>
 match q0 with
 | .inl q1 =>
  (aH q1.1 x.1 true).bind fun x3 =>
  bif x3.2.1 != 0 then
  some (x3.1,x3.2.1,x3.2.2)
  else
  (aH x3.1 x.1 false).bind fun x4 =>
  some (x4.1,x4.2.1,x4.2.2)
 | .inr q2 =>
  some (q2.1,q2.2.1,q2.2.2)
def h54 : Hint:=(.s .z (.s .z (.s (.s (.j [] [(0,[(40,.v .bool [])])] .z) .z) (.s .z (.s (.j [2,4,5,6,11,12,13,14] [(0,[(2,.box (.st 10) []),(4,.box (.st 10) [0,1,2,3,4,5,6]),(6,.box (.st 7) [])]),(1,[(4,.box (.st 10) []),(5,.v (.int .i64) []),(6,.box (.st 7) [])])] .z) .z)))))
def sp54 : Spec fam:=⟨[.v (.st 10) [],.v (.int .i64) []],[.v (.st 10) [],.v (.int .i64) [],.v (.st 7) []],fun a => a_ a.1 a.2.1⟩
def fC (node : Int) (t : State × List Cont × Int) : Option ((State × List Cont × Int) ⊕ ((State × List Cont))) :=
 bif decide (t.2.2 < 3) then
 (a_ t.1 node).bind fun x =>
 bif x.2.1 != 1 then
  some (.inr (x.1,t.2.1))
 else
  (app 72 t.2.1 [x.2.2]).bind fun l =>
  some (.inl (x.1,l,w64 (t.2.2 + 1)))
 else
 some (.inr (t.1,t.2.1))
def jd (s : State) (node : Int) : Option (State × List Cont) :=
 (loop (fC node) (s,[],0)).bind fun q =>
 some (q.1,q.2)
def h56 : Hint:=(.s .z (.s .z (.s (.s .z (.b (.l [(2,.box (.st 10) []),(6,.v (.slice (.st 7)) [0]),(7,.v (.int .i64) [])] [2,6,7,8,9,10] [(2,[(2,.box (.st 10) []),(6,.v (.slice (.st 7)) [0])])] .z))) .z)))
def sp56 : Spec fam:=⟨[.v (.st 10) [],.v (.int .i64) []],[.v (.st 10) [],.v (.slice (.st 7)) [0]],fun a => jd a.1 a.2.1⟩
def fD (s : State) (id_ : Int) (t : List Cont × Int) : Option ((List Cont × Int) ⊕ List Cont) :=
 bif decide (t.2 < (s.Conts.length : Int)) then
 (
  (idx s.Conts t.2).bind fun x =>
  bif x.Id != id_ then
  (idx s.Conts t.2).bind fun x1 =>
  (app 72 t.1 [x1]).bind fun l =>
  some l
  else
  some t.1).bind fun l1 =>
 some (.inl (l1,w64 (t.2 + 1)))
 else
 some (.inr t.1)
def cM (s : State) (id_ : Int) : Option State :=
 (loop (fD s id_) ([],0)).bind fun l2 =>
 some (⟨⟨s.Conf.Labels,s.Conf.Queues⟩,s.Nodes,s.Apps,l2,s.Slots,s.Plans,s.Now,s.Epoch,s.Seq⟩ : State)
def h53 : Hint:=(.s .z (.s .z (.s (.s .z (.b (.l [(5,.v (.slice (.st 7)) [0]),(6,.v (.int .i64) [])] [5,6] [(2,[(5,.v (.slice (.st 7)) [0])])] (.s .z (.s (.j [5] [(0,[(5,.v (.slice (.st 7)) [0])])] .z) .z))))) .z)))
def sp53 : Spec fam:=⟨[.v (.st 10) [],.v (.int .i64) []],[.v (.st 10) [4]],fun a => cM a.1 a.2.1⟩
def fq (s : State) (id_ : Int) (t1 : List Slot × Int) : Option ((List Slot × Int) ⊕ List Slot) :=
 bif decide (t1.2 < (s.Slots.length : Int)) then
 (
  (idx s.Slots t1.2).bind fun x3 =>
  bif x3.App != id_ then
  (idx s.Slots t1.2).bind fun x4 =>
  (app 24 t1.1 [x4]).bind fun l2 =>
  some l2
  else
  some t1.1).bind fun slots =>
 some (.inl (slots,w64 (t1.2 + 1)))
 else
 some (.inr t1.1)
def fZ (s : State) (id_ : Int) (t : List Cont × List Int × Int) : Option ((List Cont × List Int × Int) ⊕ ((List Cont × List Int))) :=
 bif decide (t.2.2 < (s.Conts.length : Int)) then
 (
  (idx s.Conts t.2.2).bind fun x =>
  bif x.App == id_ then
  (idx s.Conts t.2.2).bind fun x1 =>
  (app 8 t.2.1 [x1.Id]).bind fun l =>
  some (t.1,l)
  else
  (idx s.Conts t.2.2).bind fun x2 =>
  (app 72 t.1 [x2]).bind fun l1 =>
  some (l1,t.2.1)).bind fun q =>
 some (.inl (q.1,q.2,w64 (t.2.2 + 1)))
 else
 some (.inr (t.1,t.2.1))
def cE (s : State) (id_ : Int) : Option (State × List Int) :=
 (loop (fZ s id_) ([],[],0)).bind fun q1 =>
 (loop (fq s id_) ([],0)).bind fun slots1 =>
 some ((⟨⟨s.Conf.Labels,s.Conf.Queues⟩,s.Nodes,s.Apps,q1.1,slots1,s.Plans,s.Now,s.Epoch,s.Seq⟩ : State),q1.2)
def h99 : Hint:=(.s .z (.s .z (.s .z (.s .z (.s (.s .z (.b (.l [(6,.v (.slice (.st 7)) [0]),(8,.v (.slice (.int .i64)) [0]),(9,.v (.int .i64) [])] [6,8,9] [(2,[(6,.v (.slice (.st 7)) [0]),(8,.v (.slice (.int .i64)) [0])])] (.s .z (.s (.j [6,8] [(0,[(6,.v (.slice (.st 7)) [0]),(8,.v (.slice (.int .i64)) [0])])] .z) .z))))) (.s (.s .z (.b (.l [(7,.v (.slice (.st 8)) [0]),(10,.v (.int .i64) [])] [7,10] [(4,[(7,.v (.slice (.st 8)) [0])])] (.s .z (.s (.j [7] [(0,[(7,.v (.slice (.st 8)) [0])])] .z) .z))))) .z))))))
def sp99 : Spec fam:=⟨[.v (.st 10) [],.v (.int .i64) []],[.v (.st 10) [4,5],.v (.slice (.int .i64)) [0]],fun a => cE a.1 a.2.1⟩
def du (l : List Int) (n : Int) (t : List Int × Int) : Option ((List Int × Int) ⊕ List Int) :=
 bif decide (t.2 < (l.length : Int)) then
 (
  (idx l t.2).bind fun x =>
  bif x != n then
  (idx l t.2).bind fun x1 =>
  (app 8 t.1 [x1]).bind fun l1 =>
  some l1
  else
  some t.1).bind fun out =>
 some (.inl (out,w64 (t.2 + 1)))
 else
 some (.inr t.1)
def bJ (l : List Int) (n : Int) : Option (List Int × Bool) :=
 (loop (du l n) ([],0)).bind fun out1 =>
 some (out1,decide ((out1.length : Int) < (l.length : Int)))
def h213 : Hint:=(.s .z (.s .z (.s (.s .z (.b (.l [(6,.v (.slice (.int .i64)) [0]),(7,.v (.int .i64) [])] [6,7] [(2,[(6,.v (.slice (.int .i64)) [0])])] (.s .z (.s (.j [6] [(0,[(6,.v (.slice (.int .i64)) [0])])] .z) .z))))) .z)))
def sp213 : Spec fam:=⟨[.v (.slice (.int .i64)) [],.v (.int .i64) []],[.v (.slice (.int .i64)) [0],.v .bool []],fun a => bJ a.1 a.2.1⟩
def fU (ids : List Int) (t : State × Int) : Option ((State × Int) ⊕ State) :=
 bif decide (t.2 < (ids.length : Int)) then
 (
  (idx ids t.2).bind fun x =>
  (aY t.1 x).bind fun x1 =>
  bif ! x1.2 then
  some t.1
  else
  (aC t.1 x1.1.App).bind fun x2 =>
  bif x1.1.Master then
   (il x2.1).bind fun x3 =>
   (aO t.1 (⟨x2.1.Id,1,x2.1.Queue,x2.1.User,x2.1.Prio,⟨x2.1.Master.Mem,x2.1.Master.Cores⟩,x3,t.1.Now,0,[],[],[],[]⟩ : App)).bind fun x4 =>
   (cE x4 x1.1.App).bind fun x5 =>
   some x5.1
  else
   (cM t.1 x1.1.Id).bind fun x6 =>
   (bJ x2.1.Grants x1.1.Id).bind fun x7 =>
   (
   bif ! x7.2 then
    (app 8 [] x2.1.Kills).bind fun l =>
    (app 8 l [x1.1.Id]).bind fun l1 =>
    some (⟨x2.1.Id,x2.1.State,x2.1.Queue,x2.1.User,x2.1.Prio,⟨x2.1.Master.Mem,x2.1.Master.Cores⟩,x2.1.Asks,x2.1.Seen,x2.1.Beat,x7.1,l1,x2.1.Told,x2.1.Lost⟩ : App)
   else
    some (⟨x2.1.Id,x2.1.State,x2.1.Queue,x2.1.User,x2.1.Prio,⟨x2.1.Master.Mem,x2.1.Master.Cores⟩,x2.1.Asks,x2.1.Seen,x2.1.Beat,x7.1,x2.1.Kills,x2.1.Told,x2.1.Lost⟩ : App)).bind fun a =>
   (aO x6 a).bind fun x8 =>
   some x8).bind fun s1 =>
 some (.inl (s1,w64 (t.2 + 1)))
 else
 some (.inr t.1)
def bq (s : State) (ids : List Int) : Option State :=
 (loop (fU ids) (s,0)).bind fun s2 =>
 some s2
def h165 : Hint:=(.s .z (.s (.s .z (.b (.l [(2,.box (.st 10) []),(5,.v (.int .i64) [])] [2,5,6,7,8] [(2,[(2,.box (.st 10) [])])] (.s .z (.s (.j [2,6,7,8] [(0,[(2,.box (.st 10) [])])] (.b (.s .z (.s .z (.s .z (.s .z (.s .z (.s .z (.s .z (.s (.j [8] [(0,[(8,.box (.st 6) [10])])] .z) .z)))))))))) .z))))) .z))
def sp165 : Spec fam:=⟨[.v (.st 10) [],.v (.slice (.int .i64)) []],[.v (.st 10) []],fun a => bq a.1 a.2.1⟩
def iA (s : State) (node : Int) (t : List Int × Int) : Option ((List Int × Int) ⊕ List Int) :=
 bif decide (t.2 < (s.Conts.length : Int)) then
 (
  (idx s.Conts t.2).bind fun x =>
  bif x.Node == node then
  (idx s.Conts t.2).bind fun x1 =>
  (app 8 t.1 [x1.Id]).bind fun l =>
  some l
  else
  some t.1).bind fun l1 =>
 some (.inl (l1,w64 (t.2 + 1)))
 else
 some (.inr t.1)
def eD (s : State) (node : Int) : Option (List Int) :=
 (loop (iA s node) ([],0)).bind fun l2 =>
 some l2
def h208 : Hint:=(.s .z (.s .z (.s (.s .z (.b (.l [(5,.v (.slice (.int .i64)) [0]),(6,.v (.int .i64) [])] [5,6] [(2,[(5,.v (.slice (.int .i64)) [0])])] (.s .z (.s (.j [5] [(0,[(5,.v (.slice (.int .i64)) [0])])] .z) .z))))) .z)))
def sp208 : Spec fam:=⟨[.v (.st 10) [],.v (.int .i64) []],[.v (.slice (.int .i64)) [0]],fun a => eD a.1 a.2.1⟩
def jB (s : State) (id_ : Int) (beat : Int) : Option (State × Int) :=
 (aX s id_).bind fun x =>
 bif ! x.2 then
 some (s,2)
 else
 bif ! x.1.Up then
  some (s,18)
 else
  bif decide (beat < 0) then
  some (s,15)
  else
  bif decide (beat < x.1.Beat) then
   some (s,15)
  else
   bif decide ((w64 (beat - x.1.Beat)) > 1) then
   some (s,1)
   else
   (cx s (⟨x.1.Id,x.1.Label,x.1.Rack,⟨x.1.Cap.Mem,x.1.Cap.Cores⟩,s.Now,beat,x.1.Up⟩ : Node)).bind fun x1 =>
   some (x1,0)
def h209 : Hint:=.z
def sp209 : Spec fam:=⟨[.v (.st 10) [],.v (.int .i64) [],.v (.int .i64) []],[.v (.st 10) [],.v (.int .i64) []],fun a => jB a.1 a.2.1 a.2.2.1⟩
def fN (x : Input) (x3 : State × Int) (t : List Int × Int) : Option ((List Int × Int) ⊕ List Int) :=
 bif decide (t.2 < (x.Ids.length : Int)) then
 (
  (idx x.Ids t.2).bind fun x5 =>
  (aY x3.1 x5).bind fun x6 =>
  (
  bif x6.2 then
   some (x6.1.Node == x.Id)
  else
   some false).bind fun q1 =>
  bif q1 then
  (app 8 t.1 [x6.1.Id]).bind fun l =>
  some l
  else
  some t.1).bind fun ids =>
 some (.inl (ids,w64 (t.2 + 1)))
 else
 some (.inr t.1)
def ja (s : State) (x : Input) : Option (State × Output) :=
 (aX s x.Id).bind fun x1 =>
 (
 bif x1.2 then
  bif x1.1.Up then
  some (x1.1.Beat == x.Beat)
  else
  some false
 else
  some false).bind fun q =>
 bif q then
 (eD s x.Id).bind fun x2 =>
 some (s,(⟨0,[],x2,[],0⟩ : Output))
 else
 (jB s x.Id x.Beat).bind fun x3 =>
 bif x3.2 != 0 then
  (aJ s x3.2).bind fun x4 =>
  some (x4.1,x4.2)
 else
  (loop (fN x x3) ([],0)).bind fun ids1 =>
  (bq x3.1 ids1).bind fun x7 =>
  (jd x7 x.Id).bind fun x8 =>
  (eD x8.1 x.Id).bind fun x9 =>
  some (x8.1,(⟨0,[],x9,[],0⟩ : Output))
def h126 : Hint:=(.s .z (.s .z (.s (.s (.j [] [(0,[(32,.v .bool [])])] .z) .z) (.s .z (.s .z (.s .z (.s (.s .z (.b (.l [(10,.v (.slice (.int .i64)) [0]),(11,.v (.int .i64) [])] [10,11,12,79] [(2,[(10,.v (.slice (.int .i64)) [0])])] (.s .z (.s (.j [10,12,79] [(0,[(10,.v (.slice (.int .i64)) [0])])] (.b (.s .z (.s (.j [] [(0,[(79,.v .bool [])])] .z) .z)))) .z))))) .z)))))))
def sp126 : Spec fam:=⟨[.v (.st 10) [],.v (.st 15) []],[.v (.st 10) [],.v (.st 13) [1,2,3]],fun a => ja a.1 a.2.1⟩
def eQ (s : State) (ids : List Int) (t : List Cont × Int) : Option ((List Cont × Int) ⊕ List Cont) :=
 bif decide (t.2 < (ids.length : Int)) then
 (
  (idx ids t.2).bind fun x =>
  (aY s x).bind fun x1 =>
  bif x1.2 then
  (app 72 t.1 [x1.1]).bind fun l =>
  some l
  else
  some t.1).bind fun l1 =>
 some (.inl (l1,w64 (t.2 + 1)))
 else
 some (.inr t.1)
def ee (s : State) (ids : List Int) : Option (List Cont) :=
 (loop (eQ s ids) ([],0)).bind fun l2 =>
 some l2
def h210 : Hint:=(.s .z (.s .z (.s (.s .z (.b (.l [(5,.v (.slice (.st 7)) [0]),(6,.v (.int .i64) [])] [5,6,7] [(2,[(5,.v (.slice (.st 7)) [0])])] (.s .z (.s (.j [5,7] [(0,[(5,.v (.slice (.st 7)) [0])])] .z) .z))))) .z)))
def sp210 : Spec fam:=⟨[.v (.st 10) [],.v (.slice (.int .i64)) []],[.v (.slice (.st 7)) [0]],fun a => ee a.1 a.2.1⟩
def c_ (s : State) (app_ : Int) (t : List Int × Int) : Option ((List Int × Int) ⊕ List Int) :=
 bif decide (t.2 < (s.Conts.length : Int)) then
 (
  (
  (idx s.Conts t.2).bind fun x =>
  bif x.App == app_ then
   (idx s.Conts t.2).bind fun x1 =>
   some (x1.Notice != 0)
  else
   some false).bind fun q =>
  bif q then
  (idx s.Conts t.2).bind fun x2 =>
  (app 8 t.1 [x2.Id]).bind fun l =>
  some l
  else
  some t.1).bind fun l1 =>
 some (.inl (l1,w64 (t.2 + 1)))
 else
 some (.inr t.1)
def cH (s : State) (app_ : Int) : Option (List Int) :=
 (loop (c_ s app_) ([],0)).bind fun l2 =>
 some l2
def h211 : Hint:=(.s .z (.s .z (.s (.s .z (.b (.l [(5,.v (.slice (.int .i64)) [0]),(6,.v (.int .i64) [])] [5,6,30] [(2,[(5,.v (.slice (.int .i64)) [0])])] (.s .z (.s (.j [5,30] [(0,[(5,.v (.slice (.int .i64)) [0])])] (.b (.s (.j [] [(0,[(30,.v .bool [])])] .z) .z))) .z))))) .z)))
def sp211 : Spec fam:=⟨[.v (.st 10) [],.v (.int .i64) []],[.v (.slice (.int .i64)) [0]],fun a => cH a.1 a.2.1⟩
def jt (n : Int) : Option Bool :=
 bif decide (n ≥ 1) then
 some (decide (n ≤ 1073741824))
 else
 some false
def h343 : Hint:=.z
def sp343 : Spec fam:=⟨[.v (.int .i64) []],[.v .bool []],fun a => jt a.1⟩
def jc (a : Ask) (labels : Int) : Option Int :=
 (
 bif decide (a.Prio < 0) then
  some true
 else
  bif decide (a.Prio > 9) then
  some true
  else
  bif decide (a.Label < 0) then
   some true
  else
   bif decide (a.Label ≥ labels) then
   some true
   else
   (jt a.Size.Mem).bind fun x =>
   bif ! x then
    some true
   else
    (jt a.Size.Cores).bind fun x1 =>
    bif ! x1 then
    some true
    else
    bif decide (a.Node < (-1)) then
     some true
    else
     bif decide (a.Node > 999) then
     some true
     else
     bif decide (a.Rack < (-1)) then
      some true
     else
      bif decide (a.Rack > 99) then
      some true
      else
      bif decide (a.Node ≥ 0) then
       some (decide (a.Rack < 0))
      else
       some false).bind fun q =>
 bif q then
 some 1
 else
 (
  bif decide (a.Count < 0) then
  some true
  else
  some (decide (a.Count > 50))).bind fun q1 =>
 bif q1 then
  some 4
 else
  some 0
def h295 : Hint:=(.s .z (.s (.s (.j [] [(0,[(67,.v .bool [])])] .z) .z) (.s (.s (.j [] [(0,[(75,.v .bool [])])] .z) .z) .z)))
def sp295 : Spec fam:=⟨[.v (.st 5) [],.v (.int .i64) []],[.v (.int .i64) []],fun a => jc a.1 a.2.1⟩
def iH (l : List Ask) (a : Ask) (t : List Ask × Bool × Int) : Option ((List Ask × Bool × Int) ⊕ ((List Ask × Bool))) :=
 bif decide (t.2.2 < (l.length : Int)) then
 (
  (
  (
   bif ! t.2.1 then
   (idx l t.2.2).bind fun x =>
   some (decide (x.Prio > a.Prio))
   else
   some false).bind fun q =>
  bif q then
   (app 64 t.1 [(⟨a.Prio,a.Label,⟨a.Size.Mem,a.Size.Cores⟩,a.Count,a.Node,a.Rack,0⟩ : Ask)]).bind fun l1 =>
   some (l1,true)
  else
   some (t.1,t.2.1)).bind fun q1 =>
  (idx l t.2.2).bind fun x1 =>
  bif x1.Prio != a.Prio then
  (idx l t.2.2).bind fun x2 =>
  (app 64 q1.1 [x2]).bind fun l2 =>
  some (l2,q1.2)
  else
  some (q1.1,q1.2)).bind fun q2 =>
 some (.inl (q2.1,q2.2,w64 (t.2.2 + 1)))
 else
 some (.inr (t.1,t.2.1))
def j1 (l : List Ask) (a : Ask) : Option (List Ask × Int) :=
 (loop (iH l a) ([],a.Count == 0,0)).bind fun q3 =>
 (
 bif ! q3.2 then
  (app 64 q3.1 [(⟨a.Prio,a.Label,⟨a.Size.Mem,a.Size.Cores⟩,a.Count,a.Node,a.Rack,0⟩ : Ask)]).bind fun l3 =>
  some l3
 else
  some q3.1).bind fun out =>
 bif decide ((out.length : Int) > 8) then
 some ([],4)
 else
 some (out,0)
def h296 : Hint:=(.s .z (.s .z (.s .z (.s .z (.s (.s .z (.b (.l [(6,.v (.slice (.st 5)) [0]),(7,.v .bool []),(8,.v (.int .i64) [])] [6,7,8,30] [(2,[(6,.v (.slice (.st 5)) [0]),(7,.v .bool [])])] (.s .z (.s (.j [6,7,30] [(0,[(6,.v (.slice (.st 5)) [0]),(7,.v .bool [])])] (.b (.s (.j [6,7,30] [(0,[(6,.v (.slice (.st 5)) [0]),(7,.v .bool [])])] (.s (.j [] [(0,[(30,.v .bool [])])] .z) .z)) .z))) .z))))) (.s (.j [6] [(0,[(6,.v (.slice (.st 5)) [0])])] .z) .z))))))
def sp296 : Spec fam:=⟨[.v (.slice (.st 5)) [],.v (.st 5) []],[.v (.slice (.st 5)) [0],.v (.int .i64) []],fun a => j1 a.1 a.2.1⟩
def eH (s : State) (more : List Ask) (t : List Ask × Int) : Option ((List Ask × Int) ⊕ ((List Ask × Int) ⊕ List Ask)) :=
 bif decide (t.2 < (more.length : Int)) then
 (idx more t.2).bind fun x =>
 (jc x (s.Conf.Labels.length : Int)).bind fun e =>
 bif e != 0 then
  some (.inr (.inl ([],e)))
 else
  (idx more t.2).bind fun x1 =>
  (j1 t.1 x1).bind fun x2 =>
  bif x2.2 != 0 then
  some (.inr (.inl ([],x2.2)))
  else
  some (.inl (x2.1,w64 (t.2 + 1)))
 else
 some (.inr (.inr (t.1)))
def ir (s : State) (l : List Ask) (more : List Ask) : Option (List Ask × Int) :=
 (loop (eH s more) (l,0)).bind fun q0 =>
 match q0 with
 | .inl q =>
 some (q.1,q.2)
 | .inr l1 =>
 some (l1,0)
def h212 : Hint:=(.s .z (.s (.s .z (.b (.l [(1,.v (.slice (.st 5)) []),(8,.v (.int .i64) [])] [1,6,7,8,9] [(1,[(6,.v (.slice (.st 5)) [0]),(7,.v (.int .i64) [])]),(2,[(1,.v (.slice (.st 5)) [])])] .z))) .z))
def sp212 : Spec fam:=⟨[.v (.st 10) [],.v (.slice (.st 5)) [],.v (.slice (.st 5)) []],[.v (.slice (.st 5)) [],.v (.int .i64) []],fun a => ir a.1 a.2.1 a.2.2.1⟩
def dL (x : Input) (t : State × App × Int) : Option ((State × App × Int) ⊕ ((State × App))) :=
 bif decide (t.2.2 < (x.Ids.length : Int)) then
 (
  (idx x.Ids t.2.2).bind fun x10 =>
  (aY t.1 x10).bind fun x11 =>
  (
  bif x11.2 then
   bif x11.1.App == t.2.1.Id then
   some (! x11.1.Master)
   else
   some false
  else
   some false).bind fun q =>
  bif q then
  (cM t.1 x11.1.Id).bind fun x12 =>
  (bJ t.2.1.Grants x11.1.Id).bind fun x13 =>
  some (x12,(⟨t.2.1.Id,t.2.1.State,t.2.1.Queue,t.2.1.User,t.2.1.Prio,⟨t.2.1.Master.Mem,t.2.1.Master.Cores⟩,t.2.1.Asks,t.2.1.Seen,t.2.1.Beat,x13.1,t.2.1.Kills,t.2.1.Told,t.2.1.Lost⟩ : App))
  else
  some (t.1,t.2.1)).bind fun q1 =>
 some (.inl (q1.1,q1.2,w64 (t.2.2 + 1)))
 else
 some (.inr (t.1,t.2.1))
def gZ (s : State) (x : Input) : Option (State × Output) :=
 (aC s x.Id).bind fun x1 =>
 bif ! x1.2 then
 (aJ s 2).bind fun x2 =>
 some (x2.1,x2.2)
 else
 bif x1.1.State != 2 then
  (aJ s 14).bind fun x3 =>
  some (x3.1,x3.2)
 else
  bif decide (x.Beat < x1.1.Beat) then
  (aJ s 15).bind fun x4 =>
  some (x4.1,x4.2)
  else
  bif x.Beat == x1.1.Beat then
   (ee s x1.1.Told).bind fun x5 =>
   (cH s x1.1.Id).bind fun x6 =>
   (app 8 [] x1.1.Lost).bind fun l =>
   some (s,(⟨0,x5,x6,l,0⟩ : Output))
  else
   bif decide ((w64 (x.Beat - 1)) > x1.1.Beat) then
   (aJ s 1).bind fun x7 =>
   some (x7.1,x7.2)
   else
   (ir s x1.1.Asks x.Asks).bind fun x8 =>
   bif x8.2 != 0 then
    (aJ s x8.2).bind fun x9 =>
    some (x9.1,x9.2)
   else
    (loop (dL x) (s,x1.1,0)).bind fun q2 =>
    (ee q2.1 q2.2.Grants).bind fun x14 =>
    (cH q2.1 q2.2.Id).bind fun x15 =>
    (app 8 [] q2.2.Kills).bind fun l1 =>
    (aO q2.1 (⟨q2.2.Id,q2.2.State,q2.2.Queue,q2.2.User,q2.2.Prio,⟨q2.2.Master.Mem,q2.2.Master.Cores⟩,x8.1,q2.1.Now,x.Beat,[],[],q2.2.Grants,q2.2.Kills⟩ : App)).bind fun x16 =>
    some (x16,(⟨0,x14,x15,l1,0⟩ : Output))
def h127 : Hint:=(.s .z (.s .z (.s .z (.s .z (.s .z (.s (.s .z (.b (.l [(2,.box (.st 10) []),(6,.box (.st 6) []),(10,.v (.int .i64) [])] [2,6,10,11,12,122] [(3,[(2,.box (.st 10) []),(6,.box (.st 6) [])])] (.s .z (.s (.j [2,6,11,12,122] [(0,[(2,.box (.st 10) []),(6,.box (.st 6) [])])] (.b (.s .z (.s (.j [] [(0,[(122,.v .bool [])])] .z) .z)))) .z))))) .z))))))
def sp127 : Spec fam:=⟨[.v (.st 10) [],.v (.st 15) []],[.v (.st 10) [],.v (.st 13) [1,2,3]],fun a => gZ a.1 a.2.1⟩
def jC (s : State) (id_ : Int) (state : Int) : Option (State × List Int) :=
 (aC s id_).bind fun x =>
 (
 bif ! x.2 then
  some true
 else
  (aF x.1).bind fun x1 =>
  some (! x1)).bind fun q =>
 bif q then
 some (s,[])
 else
 (aO s (⟨x.1.Id,state,x.1.Queue,x.1.User,x.1.Prio,⟨x.1.Master.Mem,x.1.Master.Cores⟩,[],x.1.Seen,x.1.Beat,[],[],[],[]⟩ : App)).bind fun x2 =>
 (cE x2 id_).bind fun x3 =>
 some (x3.1,x3.2)
def h38 : Hint:=(.s .z (.s .z (.s (.s (.j [] [(0,[(22,.v .bool [])])] .z) .z) .z)))
def sp38 : Spec fam:=⟨[.v (.st 10) [],.v (.int .i64) [],.v (.int .i64) []],[.v (.st 10) [],.v (.slice (.int .i64)) [0]],fun a => jC a.1 a.2.1 a.2.2.1⟩
def gu (s : State) (id_ : Int) (state : Int) : Option (State × Output) :=
 (aC s id_).bind fun x =>
 bif ! x.2 then
 (aJ s 2).bind fun x1 =>
 some (x1.1,x1.2)
 else
 (aF x.1).bind fun x2 =>
 bif ! x2 then
  (aJ s 14).bind fun x3 =>
  some (x3.1,x3.2)
 else
  (jC s id_ state).bind fun x4 =>
  some (x4.1,(⟨0,[],[],x4.2,0⟩ : Output))
def h128 : Hint:=.z
def sp128 : Spec fam:=⟨[.v (.st 10) [],.v (.int .i64) [],.v (.int .i64) []],[.v (.st 10) [],.v (.st 13) [1,2,3]],fun a => gu a.1 a.2.1 a.2.2.1⟩
def d9 (l : List Ask) (label : Int) (t : Vec × Int) : Option ((Vec × Int) ⊕ Vec) :=
 bif decide (t.2 < (l.length : Int)) then
 (
  (idx l t.2).bind fun x =>
  bif x.Label == label then
  (idx l t.2).bind fun x1 =>
  (idx l t.2).bind fun x2 =>
  (idx l t.2).bind fun x3 =>
  (idx l t.2).bind fun x4 =>
  (aw t.1 (⟨w64 (x1.Size.Mem * x2.Count),w64 (x3.Size.Cores * x4.Count)⟩ : Vec)).bind fun x5 =>
  some x5
  else
  some t.1).bind fun v =>
 some (.inl (v,w64 (t.2 + 1)))
 else
 some (.inr t.1)
def gD (l : List Ask) (label : Int) : Option Vec :=
 (loop (d9 l label) ((⟨0,0⟩ : Vec),0)).bind fun v1 =>
 some v1
def h115 : Hint:=(.s .z (.s .z (.s (.s .z (.b (.l [(5,.box (.st 0) []),(6,.v (.int .i64) [])] [5,6] [(2,[(5,.box (.st 0) [])])] (.s .z (.s (.j [5] [(0,[(5,.box (.st 0) [])])] .z) .z))))) .z)))
def sp115 : Spec fam:=⟨[.v (.slice (.st 5)) [],.v (.int .i64) []],[.v (.st 0) []],fun a => gD a.1 a.2.1⟩
def c8 (s : State) (path : List UInt8) (label : Int) (t : Vec × Int) : Option ((Vec × Int) ⊕ Vec) :=
 bif decide (t.2 < (s.Apps.length : Int)) then
 (
  (
  (idx s.Apps t.2).bind fun x =>
  (aF x).bind fun x1 =>
  bif x1 then
   (idx s.Apps t.2).bind fun x2 =>
   (ej x2.Queue path).bind fun x3 =>
   some x3
  else
   some false).bind fun q =>
  bif q then
  (idx s.Apps t.2).bind fun x4 =>
  (gD x4.Asks label).bind fun x5 =>
  (aw t.1 x5).bind fun x6 =>
  some x6
  else
  some t.1).bind fun v =>
 some (.inl (v,w64 (t.2 + 1)))
 else
 some (.inr t.1)
def cR (s : State) (path : List UInt8) (label : Int) : Option Vec :=
 (loop (c8 s path label) ((⟨0,0⟩ : Vec),0)).bind fun v1 =>
 some v1
def h51 : Hint:=(.s .z (.s .z (.s (.s .z (.b (.l [(7,.box (.st 0) []),(8,.v (.int .i64) [])] [7,8,32] [(2,[(7,.box (.st 0) [])])] (.s .z (.s (.j [7,32] [(0,[(7,.box (.st 0) [])])] (.b (.s (.j [] [(0,[(32,.v .bool [])])] .z) .z))) .z))))) .z)))
def sp51 : Spec fam:=⟨[.v (.st 10) [],.v .str [],.v (.int .i64) []],[.v (.st 0) []],fun a => cR a.1 a.2.1 a.2.2.1⟩
def bd (n : Int) : Option Int :=
 (
 bif decide (n < 0) then
  some true
 else
  some (decide (n > 1125899906842624))).bind fun q =>
 bif q then
 some 0
 else
 some n
def h304 : Hint:=(.s .z (.s (.s (.j [] [(0,[(8,.v .bool [])])] .z) .z) .z))
def sp304 : Spec fam:=⟨[.v (.int .i64) []],[.v (.int .i64) []],fun a => bd a.1⟩
def eG (want : List Int) (most : List Int) (n : Int) (t1 : Int × List Int × Int) : Option ((Int × List Int × Int) ⊕ List Int) :=
 bif decide (t1.2.2 < n) then
 (idx want t1.2.2).bind fun x7 =>
 (bd x7).bind fun x8 =>
 (idx most t1.2.2).bind fun x9 =>
 (bd x9).bind fun x10 =>
 (inb t1.2.2 t1.2.1.length).bind fun i =>
 (t1.2.1[i]?).bind fun x11 =>
 let x12:=imin (imax (w64 ((imin x8 x10) - x11)) 0) t1.1
 (inb t1.2.2 t1.2.1.length).bind fun i1 =>
 (t1.2.1[i1]?).bind fun x13 =>
 (inb t1.2.2 t1.2.1.length).bind fun i2 =>
 (t1.2.1[i2]?).bind fun x14 =>
 some (.inl (w64 (t1.1 - x12),List.set t1.2.1 i2 (w64 (x13 + x12)),w64 (t1.2.2 + 1)))
 else
 some (.inr t1.2.1)
def eP (least : List Int) (want : List Int) (most : List Int) (n : Int) (t : Int × List Int × Int) : Option ((Int × List Int × Int) ⊕ ((Int × List Int))) :=
 bif decide (t.2.2 < n) then
 (idx least t.2.2).bind fun x =>
 (bd x).bind fun x1 =>
 (idx want t.2.2).bind fun x2 =>
 (bd x2).bind fun x3 =>
 (idx most t.2.2).bind fun x4 =>
 (bd x4).bind fun x5 =>
 let x6:=imin (imin (imin x1 x3) x5) t.1
 (app 8 t.2.1 [x6]).bind fun l =>
 some (.inl (w64 (t.1 - x6),l,w64 (t.2.2 + 1)))
 else
 some (.inr (t.1,t.2.1))
def iy (total : Int) (least : List Int) (want : List Int) (most : List Int) : Option (List Int) :=
 let n:=imin (imin (least.length : Int) (want.length : Int)) (most.length : Int)
 (bd total).bind fun left =>
 (loop (eP least want most n) (left,[],0)).bind fun q =>
 (loop (eG want most n) (q.1,q.2,0)).bind fun out =>
 some out
def h226 : Hint:=(.s .z (.s .z (.s .z (.s .z (.s (.s .z (.b (.l [(10,.v (.int .i64) []),(11,.v (.slice (.int .i64)) [0]),(12,.v (.int .i64) [])] [10,11,12,13] [(2,[(10,.v (.int .i64) []),(11,.v (.slice (.int .i64)) [0])])] .z))) (.s (.s .z (.b (.l [(10,.v (.int .i64) []),(11,.row (.int .i64) false),(14,.v (.int .i64) [])] [10,11,14,15] [(4,[(11,.row (.int .i64) false)])] .z))) .z))))))
def sp226 : Spec fam:=⟨[.v (.int .i64) [],.v (.slice (.int .i64)) [],.v (.slice (.int .i64)) [],.v (.slice (.int .i64)) []],[.v (.slice (.int .i64)) [0]],fun a => iy a.1 a.2.1 a.2.2.1 a.2.2.2.1⟩
def d8 (s : State) (label : Int) (self : State → (List UInt8) → Int → Int → Option (List Share)) (kids : List (List UInt8)) (x8 : List Int) (t1 : List Share × Int) : Option ((List Share × Int) ⊕ List Share) :=
 bif decide (t1.2 < (kids.length : Int)) then
 (inb t1.2 kids.length).bind fun i4 =>
 (kids[i4]?).bind fun x9 =>
 (inb t1.2 x8.length).bind fun i5 =>
 (x8[i5]?).bind fun x10 =>
 (self s x9 label x10).bind fun x11 =>
 (app 24 t1.1 x11).bind fun l3 =>
 some (.inl (l3,w64 (t1.2 + 1)))
 else
 some (.inr t1.1)
def dS (s : State) (label : Int) (kids : List (List UInt8)) (t : List Int × List Int × List Int × Int) : Option ((List Int × List Int × List Int × Int) ⊕ ((List Int × List Int × List Int))) :=
 bif decide (t.2.2.2 < (kids.length : Int)) then
 (inb t.2.2.2 kids.length).bind fun i =>
 (kids[i]?).bind fun x =>
 (be s x label).bind fun x1 =>
 (app 8 t.1 [x1.Mem]).bind fun l =>
 (inb t.2.2.2 kids.length).bind fun i1 =>
 (kids[i1]?).bind fun x2 =>
 (dA s x2 label).bind fun x3 =>
 (app 8 t.2.2.1 [x3.Mem]).bind fun l1 =>
 (inb t.2.2.2 kids.length).bind fun i2 =>
 (kids[i2]?).bind fun x4 =>
 (aP s x4 label).bind fun x5 =>
 (inb t.2.2.2 kids.length).bind fun i3 =>
 (kids[i3]?).bind fun x6 =>
 (cR s x6 label).bind fun x7 =>
 (app 8 t.2.1 [w64 (x5.Mem + x7.Mem)]).bind fun l2 =>
 some (.inl (l,l2,l1,w64 (t.2.2.2 + 1)))
 else
 some (.inr (t.1,t.2.1,t.2.2.1))
def de (self : State → (List UInt8) → Int → Int → Option (List Share)) (s : State) (path : List UInt8) (label : Int) (mem : Int) : Option (List Share) :=
 (bC s.Conf path).bind fun kids =>
 bif (kids.length : Int) == 0 then
 some [(⟨path,mem⟩ : Share)]
 else
 (loop (dS s label kids) ([],[],[],0)).bind fun q =>
 (iy mem q.1 q.2.1 q.2.2).bind fun x8 =>
 (loop (d8 s label self kids x8) ([],0)).bind fun out =>
 some out
def bU : Nat → State → (List UInt8) → Int → Int → Option (List Share)
 | 0 => fun _ _ _ _ => none
 | n + 1 => de (bU n)
def kQ (a0 : State) (a1 : List UInt8) (a2 : Int) (a3 : Int) : Option (List Share):=bU 64 a0 a1 a2 a3
def h147 : Hint:=(.s .z (.s .z (.s .z (.s .z (.s (.s .z (.b (.l [(10,.v (.slice (.int .i64)) [0]),(11,.v (.slice (.int .i64)) [0]),(12,.v (.slice (.int .i64)) [0]),(13,.v (.int .i64) [])] [10,11,12,13] [(2,[(10,.v (.slice (.int .i64)) [0]),(11,.v (.slice (.int .i64)) [0]),(12,.v (.slice (.int .i64)) [0])])] .z))) (.s .z (.s .z (.s (.s .z (.b (.l [(15,.v (.slice (.st 16)) [0]),(16,.v (.int .i64) [])] [15,16] [(4,[(15,.v (.slice (.st 16)) [0])])] .z))) .z))))))))
def sp147 : Spec fam:=⟨[.v (.st 10) [],.v .str [],.v (.int .i64) [],.v (.int .i64) []],[.v (.slice (.st 16)) [0]],fun a => kQ a.1 a.2.1 a.2.2.1 a.2.2.2.1⟩
def FG (n : Nat) : Spec fam:=⟨[.v (.st 10) [],.v .str [],.v (.int .i64) [],.v (.int .i64) []],[.v (.slice (.st 16)) [0]],fun a => bU n a.1 a.2.1 a.2.2.1 a.2.2.2.1⟩
def d7 (l : List Share) (t : List Share × Int) (k : Int) : Option (Int ⊕ Int) :=
 (
 bif decide (k < (t.1.length : Int)) then
  (inb k t.1.length).bind fun i =>
  (t.1[i]?).bind fun x1 =>
  (inb t.2 l.length).bind fun i1 =>
  (l[i1]?).bind fun x2 =>
  some (Op.bytesLess x1.Path x2.Path)
 else
  some false).bind fun q =>
 bif q then
 some (.inl (w64 (k + 1)))
 else
 some (.inr k)
def dQ (l : List Share) (t : List Share × Int) : Option ((List Share × Int) ⊕ List Share) :=
 bif decide (t.2 < (l.length : Int)) then
 (loop (d7 l t) 0).bind fun k1 =>
 (inS 0 k1 t.1.length).bind fun p =>
 (app 24 [] (sub t.1 p.1 p.2)).bind fun l1 =>
 (inb t.2 l.length).bind fun i2 =>
 (l[i2]?).bind fun x3 =>
 (app 24 l1 [x3]).bind fun l2 =>
 (inS k1 (t.1.length : Int) t.1.length).bind fun p1 =>
 (app 24 l2 (sub t.1 p1.1 p1.2)).bind fun l3 =>
 some (.inl (l3,w64 (t.2 + 1)))
 else
 some (.inr t.1)
def dv (s : State) (label : Int) : Option (List Share) :=
 (bu s label).bind fun x =>
 (kQ s ([114,111,111,116] : List UInt8) label x.Mem).bind fun l =>
 (loop (dQ l) ([],0)).bind fun out =>
 some out
def h74 : Hint:=(.s .z (.s .z (.s .z (.s (.s .z (.b (.l [(5,.v (.slice (.st 16)) [0]),(7,.v (.int .i64) [])] [5,7,8,39] [(2,[(5,.v (.slice (.st 16)) [0])])] (.s .z (.s (.b (.s .z (.s (.b (.l [(8,.v (.int .i64) [])] [8,39] [(4,[(8,.v (.int .i64) [])])] (.s (.s (.j [] [(0,[(39,.v .bool [])])] .z) .z) .z))) .z))) .z))))) .z))))
def sp74 : Spec fam:=⟨[.v (.st 10) [],.v (.int .i64) []],[.v (.slice (.st 16)) [0]],fun a => dv a.1 a.2.1⟩
def eO (s : State) (path : List UInt8) (label : Int) (x : Vec) (x1 : Vec) (x2 : App) (k : Int) : Option (Int ⊕ (Int ⊕ Unit)) :=
 (
 bif decide (k < (x2.Asks.length : Int)) then
  (aF x2).bind fun x3 =>
  bif x3 then
  some (x2.Queue == path)
  else
  some false
 else
  some false).bind fun q =>
 bif q then
 (
  (idx x2.Asks k).bind fun x4 =>
  bif x4.Label == label then
  (idx x2.Asks k).bind fun x5 =>
  some (decide ((w64 (x5.Size.Mem + x.Mem)) ≤ x1.Mem))
  else
  some false).bind fun q1 =>
 bif q1 then
  (cR s path label).bind fun x6 =>
  some (.inr (.inl (imin x6.Mem (w64 (x1.Mem - x.Mem)))))
 else
  some (.inl (w64 (k + 1)))
 else
 some (.inr (.inr ()))
def eU (s : State) (path : List UInt8) (label : Int) (x : Vec) (x1 : Vec) (i : Int) : Option (Int ⊕ (Int ⊕ Unit)) :=
 bif decide (i < (s.Apps.length : Int)) then
 (idx s.Apps i).bind fun x2 =>
 (loop (eO s path label x x1 x2) 0).bind fun q0 =>
 match q0 with
 | .inl q2 =>
  some (.inr (.inl q2))
 | .inr _ =>
  some (.inl (w64 (i + 1)))
 else
 some (.inr (.inr ()))
def iF (s : State) (path : List UInt8) (label : Int) : Option Int :=
 (aP s path label).bind fun x =>
 (be s path label).bind fun x1 =>
 (loop (eU s path label x x1) 0).bind fun q0 =>
 match q0 with
 | .inl q3 =>
 some q3
 | .inr _ =>
 some 0
def h76 : Hint:=(.s .z (.s .z (.s (.s .z (.b (.l [(9,.v (.int .i64) [])] [6,9,10,11,48,71] [(1,[(6,.v (.int .i64) [])]),(2,[])] (.s .z (.s (.b (.s .z (.s .z (.b (.l [(11,.v (.int .i64) [])] [6,11,48,71] [(1,[(6,.v (.int .i64) [])]),(4,[])] (.s (.s (.j [] [(0,[(48,.v .bool [])])] .z) .z) (.s (.b (.s (.j [] [(0,[(71,.v .bool [])])] .z) .z)) .z))))))) .z))))) .z)))
def sp76 : Spec fam:=⟨[.v (.st 10) [],.v .str [],.v (.int .i64) []],[.v (.int .i64) []],fun a => iF a.1 a.2.1 a.2.2.1⟩
def bK (s : State) (c : Cont) : Option (List UInt8) :=
 (aC s c.App).bind fun x =>
 some x.1.Queue
def h148 : Hint:=.z
def sp148 : Spec fam:=⟨[.v (.st 10) [],.v (.st 7) []],[.v .str []],fun a => bK a.1 a.2.1⟩
def ez (l : List Int) (n : Int) (i : Int) : Option (Int ⊕ (Bool ⊕ Unit)) :=
 bif decide (i < (l.length : Int)) then
 (idx l i).bind fun x =>
 bif x == n then
  some (.inr (.inl true))
 else
  some (.inl (w64 (i + 1)))
 else
 some (.inr (.inr ()))
def eE (l : List Int) (n : Int) : Option Bool :=
 (loop (ez l n) 0).bind fun q0 =>
 match q0 with
 | .inl q =>
 some q
 | .inr _ =>
 some false
def h149 : Hint:=(.s .z (.s (.s .z (.b (.l [(5,.v (.int .i64) [])] [4,5] [(1,[(4,.v .bool [])]),(2,[])] .z))) .z))
def sp149 : Spec fam:=⟨[.v (.slice (.int .i64)) [],.v (.int .i64) []],[.v .bool []],fun a => eE a.1 a.2.1⟩
def dW (s : State) (path : List UInt8) (label : Int) (l : List Int) (t : Int × Int) : Option ((Int × Int) ⊕ Int) :=
 bif decide (t.2 < (s.Conts.length : Int)) then
 (
  (idx s.Conts t.2).bind fun x =>
  (
  bif x.Label == label then
   bif path == ([] : List UInt8) then
   bif x.Notice != 0 then
    some true
   else
    (eE l x.Id).bind fun x1 =>
    some x1
   else
   (bK s x).bind fun x2 =>
   bif x2 == path then
    bif x.Notice != 0 then
    some true
    else
    (eE l x.Id).bind fun x3 =>
    some x3
   else
    some false
  else
   some false).bind fun q =>
  bif q then
  let n:=w64 (t.1 + x.Size.Mem)
  some n
  else
  some t.1).bind fun n1 =>
 some (.inl (n1,w64 (t.2 + 1)))
 else
 some (.inr t.1)
def c7 (s : State) (path : List UInt8) (label : Int) (l : List Int) : Option Int :=
 (loop (dW s path label l) (0,0)).bind fun n2 =>
 some n2
def h77 : Hint:=(.s .z (.s .z (.s (.s .z (.b (.l [(9,.v (.int .i64) []),(10,.v (.int .i64) [])] [9,10,11,49] [(2,[(9,.v (.int .i64) [])])] (.s .z (.s (.j [9,11,49] [(0,[(9,.v (.int .i64) [])])] (.b (.s .z (.s (.j [] [(0,[(49,.v .bool [])])] .z) .z)))) .z))))) .z)))
def sp77 : Spec fam:=⟨[.v (.st 10) [],.v .str [],.v (.int .i64) [],.v (.slice (.int .i64)) []],[.v (.int .i64) []],fun a => c7 a.1 a.2.1 a.2.2.1 a.2.2.2.1⟩
def dX (s : State) (path : List UInt8) (label : Int) (l : List Int) (t : Cont × Bool × Int) : Option ((Cont × Bool × Int) ⊕ ((Cont × Bool))) :=
 bif decide (t.2.2 < (s.Conts.length : Int)) then
 (
  (idx s.Conts t.2.2).bind fun x =>
  (
  bif x.Label != label then
   some true
  else
   (bK s x).bind fun x1 =>
   bif ! (x1 == path) then
   some true
   else
   bif x.Notice != 0 then
    some true
   else
    (eE l x.Id).bind fun x2 =>
    some x2).bind fun q =>
  bif q then
  some (t.1,t.2.1)
  else
  (
   bif ! t.2.1 then
   some true
   else
   bif t.1.Master then
    bif ! x.Master then
    some true
    else
    bif t.1.Master == x.Master then
     some (decide (x.Id > t.1.Id))
    else
     some false
   else
    bif t.1.Master == x.Master then
    some (decide (x.Id > t.1.Id))
    else
    some false).bind fun q1 =>
  bif q1 then
   some (x,true)
  else
   some (t.1,t.2.1)).bind fun q2 =>
 some (.inl (q2.1,q2.2,w64 (t.2.2 + 1)))
 else
 some (.inr (t.1,t.2.1))
def gK (s : State) (path : List UInt8) (label : Int) (l : List Int) : Option (Cont × Bool) :=
 (loop (dX s path label l) ((⟨0,0,0,⟨0,0⟩,0,0,false,0⟩ : Cont),false,0)).bind fun q3 =>
 some (q3.1,q3.2)
def h78 : Hint:=(.s .z (.s .z (.s (.s .z (.b (.l [(10,.box (.st 7) []),(11,.v .bool []),(12,.v (.int .i64) [])] [10,11,12,13,48,73] [(2,[(10,.box (.st 7) []),(11,.v .bool [])])] (.s .z (.s (.j [10,11,13,48,73] [(0,[(10,.box (.st 7) []),(11,.v .bool [])])] (.b (.s .z (.s (.s (.j [] [(0,[(48,.v .bool [])])] .z) .z) (.s (.j [] [(0,[(73,.v .bool [])])] .z) .z))))) .z))))) .z)))
def sp78 : Spec fam:=⟨[.v (.st 10) [],.v .str [],.v (.int .i64) [],.v (.slice (.int .i64)) []],[.v (.st 7) [],.v .bool []],fun a => gK a.1 a.2.1 a.2.2.1 a.2.2.2.1⟩
def fH (s : State) (label : Int) (shares : List Share) (l : List Int) (t1 : Int × Cont × Int) : Option ((Int × Cont × Int) ⊕ ((Int × Cont))) :=
 bif decide (t1.2.2 < (shares.length : Int)) then
 (
  (inb t1.2.2 shares.length).bind fun i1 =>
  (shares[i1]?).bind fun x5 =>
  (aP s x5.Path label).bind fun x6 =>
  (inb t1.2.2 shares.length).bind fun i2 =>
  (shares[i2]?).bind fun x7 =>
  (c7 s x5.Path label l).bind fun x8 =>
  let over:=w64 ((w64 (x6.Mem - x7.Mem)) - x8)
  (gK s x5.Path label l).bind fun x9 =>
  (
  bif x9.2 then
   some (decide (over > t1.1))
  else
   some false).bind fun q =>
  bif q then
  some (over,x9.1)
  else
  some (t1.1,t1.2.1)).bind fun q1 =>
 some (.inl (q1.1,q1.2,w64 (t1.2.2 + 1)))
 else
 some (.inr (t1.1,t1.2.1))
def mn (s : State) (label : Int) (shares : List Share) (need1 : Int) (l : List Int) : Option (List Int ⊕ (List Int ⊕ List Int)) :=
 (c7 s ([] : List UInt8) label l).bind fun x4 =>
 bif decide (x4 < need1) then
 (loop (fH s label shares l) (0,(⟨0,0,0,⟨0,0⟩,0,0,false,0⟩ : Cont),0)).bind fun q2 =>
 bif q2.1 == 0 then
  some (.inr (.inl l))
 else
  (app 8 l [q2.2.Id]).bind fun l1 =>
  some (.inl l1)
 else
 some (.inr (.inr l))
def fT (s : State) (label : Int) (shares : List Share) (t : Int × Int) : Option ((Int × Int) ⊕ Int) :=
 bif decide (t.2 < (shares.length : Int)) then
 (inb t.2 shares.length).bind fun i =>
 (shares[i]?).bind fun x2 =>
 (iF s x2.Path label).bind fun x3 =>
 some (.inl (w64 (t.1 + x3),w64 (t.2 + 1)))
 else
 some (.inr t.1)
def jl (s : State) (label : Int) : Option (List Int) :=
 (dv s label).bind fun shares =>
 (bu s label).bind fun x =>
 (aP s ([114,111,111,116] : List UInt8) label).bind fun x1 =>
 let need:=w64 (0 - (imax (w64 (x.Mem - x1.Mem)) 0))
 (loop (fT s label shares) (need,0)).bind fun need1 =>
 (loop (mn s label shares need1) []).bind fun q0 =>
 match q0 with
 | .inl q3 =>
 some q3
 | .inr l2 =>
 some l2
def h26 : Hint:=(.s .z (.s .z (.s .z (.s (.s .z (.b (.l [(6,.v (.int .i64) []),(7,.v (.int .i64) [])] [6,7] [(2,[(6,.v (.int .i64) [])])] .z))) (.s .z (.s (.b (.l [(8,.v (.slice (.int .i64)) [0])] [4,8,9,10,11,12,13,14,94] [(1,[(4,.v (.slice (.int .i64)) [0])]),(4,[(8,.v (.slice (.int .i64)) [0])])] (.s .z (.b (.s .z (.s (.s .z (.b (.l [(9,.v (.int .i64) []),(10,.box (.st 7) []),(11,.v (.int .i64) [])] [9,10,11,12,13,14,94] [(6,[(9,.v (.int .i64) []),(10,.box (.st 7) [])])] (.s .z (.s (.j [9,10,12,13,14,94] [(0,[(9,.v (.int .i64) []),(10,.box (.st 7) [])])] (.b (.s .z (.s .z (.s .z (.s (.j [] [(0,[(94,.v .bool [])])] .z) .z)))))) .z))))) .z)))))) .z))))))
def sp26 : Spec fam:=⟨[.v (.st 10) [],.v (.int .i64) []],[.v (.slice (.int .i64)) [0]],fun a => jl a.1 a.2.1⟩
def gN (path : List UInt8) (l : List Share) (i : Int) : Option (Int ⊕ (Int ⊕ Unit)) :=
 bif decide (i < (l.length : Int)) then
 (inb i l.length).bind fun i1 =>
 (l[i1]?).bind fun x =>
 bif x.Path == path then
  (inb i l.length).bind fun i2 =>
  (l[i2]?).bind fun x1 =>
  some (.inr (.inl (x1.Mem)))
 else
  some (.inl (w64 (i + 1)))
 else
 some (.inr (.inr ()))
def jF (s : State) (label : Int) (path : List UInt8) : Option Int :=
 (dv s label).bind fun l =>
 (loop (gN path l) 0).bind fun q0 =>
 match q0 with
 | .inl q =>
 some q
 | .inr _ =>
 some 0
def h33 : Hint:=(.s .z (.s .z (.s (.s .z (.b (.l [(8,.v (.int .i64) [])] [6,8] [(1,[(6,.v (.int .i64) [])]),(2,[])] .z))) .z)))
def sp33 : Spec fam:=⟨[.v (.st 10) [],.v (.int .i64) [],.v .str []],[.v (.int .i64) []],fun a => jF a.1 a.2.1 a.2.2.1⟩
def fG (id_ : Int) (t : Int) (t1 : List Cont × Int) : Option ((List Cont × Int) ⊕ List Cont) :=
 bif decide (t1.2 < (t1.1.length : Int)) then
 (
  (inb t1.2 t1.1.length).bind fun i =>
  (t1.1[i]?).bind fun x =>
  bif x.Id == id_ then
  (inb t1.2 t1.1.length).bind fun i1 =>
  (t1.1[i1]?).bind fun x1 =>
  some (List.set t1.1 i1 (⟨x1.Id,x1.App,x1.Node,⟨x1.Size.Mem,x1.Size.Cores⟩,x1.Prio,x1.Label,x1.Master,t⟩ : Cont))
  else
  some t1.1).bind fun l1 =>
 some (.inl (l1,w64 (t1.2 + 1)))
 else
 some (.inr t1.1)
def fk (s : State) (id_ : Int) (t : Int) : Option State :=
 (app 72 [] s.Conts).bind fun l =>
 (loop (fG id_ t) (l,0)).bind fun l2 =>
 some (⟨⟨s.Conf.Labels,s.Conf.Queues⟩,s.Nodes,s.Apps,l2,s.Slots,s.Plans,s.Now,s.Epoch,s.Seq⟩ : State)
def h87 : Hint:=(.s .z (.s .z (.s (.s .z (.b (.l [(7,.row (.st 7) false),(8,.v (.int .i64) [])] [7,8] [(2,[(7,.row (.st 7) false)])] (.s .z (.s (.j [7] [(0,[(7,.row (.st 7) false)])] .z) .z))))) .z)))
def sp87 : Spec fam:=⟨[.v (.st 10) [],.v (.int .i64) [],.v (.int .i64) []],[.v (.st 10) [4]],fun a => fk a.1 a.2.1 a.2.2.1⟩
def d4 (s : State) (c : Cont) (t : Int × Int) : Option ((Int × Int) ⊕ Int) :=
 (
 bif decide (t.2 < (s.Conts.length : Int)) then
  some c.Master
 else
  some false).bind fun q =>
 bif q then
 (
  (
  (idx s.Conts t.2).bind fun x =>
  bif x.App == c.App then
   (idx s.Conts t.2).bind fun x1 =>
   bif x1.Id != c.Id then
   (idx s.Conts t.2).bind fun x2 =>
   some (x2.Label == c.Label)
   else
   some false
  else
   some false).bind fun q1 =>
  bif q1 then
  (idx s.Conts t.2).bind fun x3 =>
  let n:=w64 (t.1 + x3.Size.Mem)
  some n
  else
  some t.1).bind fun n1 =>
 some (.inl (n1,w64 (t.2 + 1)))
 else
 some (.inr t.1)
def gF (s : State) (c : Cont) : Option Int :=
 (loop (d4 s c) (0,0)).bind fun n2 =>
 some n2
def h164 : Hint:=(.s .z (.s .z (.s (.s .z (.b (.l [(5,.v (.int .i64) []),(6,.v (.int .i64) [])] [5,6,15,48] [(2,[(5,.v (.int .i64) [])])] (.s (.s (.j [] [(0,[(15,.v .bool [])])] .z) .z) (.s (.j [5,48] [(0,[(5,.v (.int .i64) [])])] (.b (.s (.j [] [(0,[(48,.v .bool [])])] .z) .z))) .z))))) .z)))
def sp164 : Spec fam:=⟨[.v (.st 10) [],.v (.st 7) []],[.v (.int .i64) []],fun a => gF a.1 a.2.1⟩
def fA (label : Int) (l2 : List Cont) (t1 : State × Int) : Option ((State × Int) ⊕ State) :=
 bif decide (t1.2 < (l2.length : Int)) then
 (
  (inb t1.2 l2.length).bind fun i1 =>
  (l2[i1]?).bind fun x1 =>
  (aY t1.1 x1.Id).bind fun x2 =>
  bif ! x2.2 then
  some t1.1
  else
  (bK t1.1 x2.1).bind fun x3 =>
  (aP t1.1 x3 label).bind fun x4 =>
  (gF t1.1 x2.1).bind fun x5 =>
  (bK t1.1 x2.1).bind fun x6 =>
  (jF t1.1 label x6).bind fun x7 =>
  bif decide ((w64 (x4.Mem - x5)) > x7) then
   (bq t1.1 [x2.1.Id]).bind fun x8 =>
   some x8
  else
   (fk t1.1 x2.1.Id 0).bind fun x9 =>
   some x9).bind fun s1 =>
 some (.inl (s1,w64 (t1.2 + 1)))
 else
 some (.inr t1.1)
def mg (s : State) (label : Int) (t : List Cont × Int) : Option ((List Cont × Int) ⊕ List Cont) :=
 bif decide (t.2 ≥ 0) then
 (
  (idx s.Conts t.2).bind fun x =>
  (
  bif x.Label == label then
   bif x.Notice != 0 then
   some (decide ((w64 (x.Notice + 3)) ≤ s.Now))
   else
   some false
  else
   some false).bind fun q =>
  bif q then
  (app 72 t.1 [x]).bind fun l =>
  some l
  else
  some t.1).bind fun l1 =>
 some (.inl (l1,w64 (t.2 - 1)))
 else
 some (.inr t.1)
def iR (s : State) (label : Int) : Option State :=
 let i:=w64 ((s.Conts.length : Int) - 1)
 (loop (mg s label) ([],i)).bind fun l2 =>
 (loop (fA label l2) (s,0)).bind fun s2 =>
 some s2
def h86 : Hint:=(.s .z (.s .z (.s (.s .z (.b (.l [(5,.v (.slice (.st 7)) [0]),(6,.v (.int .i64) [])] [5,6,7,40] [(2,[(5,.v (.slice (.st 7)) [0])])] (.s .z (.s (.j [5,7,40] [(0,[(5,.v (.slice (.st 7)) [0])])] (.b (.s .z (.s (.j [] [(0,[(40,.v .bool [])])] .z) .z)))) .z))))) (.s (.s .z (.b (.l [(2,.box (.st 10) []),(8,.v (.int .i64) [])] [2,8,9] [(4,[(2,.box (.st 10) [])])] (.s .z (.s (.j [2,9] [(0,[(2,.box (.st 10) [])])] .z) .z))))) .z))))
def sp86 : Spec fam:=⟨[.v (.st 10) [],.v (.int .i64) []],[.v (.st 10) []],fun a => iR a.1 a.2.1⟩
def fu (was : State) (now : State) (t : List Int × Int) : Option ((List Int × Int) ⊕ List Int) :=
 bif decide (t.2 < (was.Conts.length : Int)) then
 (
  (idx was.Conts t.2).bind fun x =>
  (aY now x.Id).bind fun x1 =>
  bif ! x1.2 then
  (idx was.Conts t.2).bind fun x2 =>
  (app 8 t.1 [x2.Id]).bind fun l =>
  some l
  else
  some t.1).bind fun l1 =>
 some (.inl (l1,w64 (t.2 + 1)))
 else
 some (.inr t.1)
def fj (was : State) (now : State) : Option (List Int) :=
 (loop (fu was now) ([],0)).bind fun l2 =>
 some l2
def h88 : Hint:=(.s .z (.s .z (.s (.s .z (.b (.l [(5,.v (.slice (.int .i64)) [0]),(6,.v (.int .i64) [])] [5,6] [(2,[(5,.v (.slice (.int .i64)) [0])])] (.s .z (.s (.j [5] [(0,[(5,.v (.slice (.int .i64)) [0])])] .z) .z))))) .z)))
def sp88 : Spec fam:=⟨[.v (.st 10) [],.v (.st 10) []],[.v (.slice (.int .i64)) [0]],fun a => fj a.1 a.2.1⟩
def eT (l : List Int) (t1 : State × Int) : Option ((State × Int) ⊕ State) :=
 bif decide (t1.2 < (l.length : Int)) then
 (inb t1.2 l.length).bind fun i =>
 (l[i]?).bind fun x1 =>
 (fk t1.1 x1 (imax t1.1.Now 1)).bind fun x2 =>
 some (.inl (x2,w64 (t1.2 + 1)))
 else
 some (.inr t1.1)
def lQ (t : State × Int) : Option ((State × Int) ⊕ State) :=
 bif decide (t.2 < (t.1.Conf.Labels.length : Int)) then
 (iR t.1 t.2).bind fun x =>
 (jl x t.2).bind fun l =>
 (loop (eT l) (x,0)).bind fun s1 =>
 some (.inl (s1,w64 (t.2 + 1)))
 else
 some (.inr t.1)
def iD (s : State) : Option (State × List Int) :=
 (loop lQ (s,0)).bind fun s2 =>
 (fj s s2).bind fun x3 =>
 some (s2,x3)
def h28 : Hint:=(.s .z (.s .z (.s (.s .z (.b (.l [(1,.box (.st 10) []),(5,.v (.int .i64) [])] [1,5,6,7] [(2,[(1,.box (.st 10) [])])] (.s .z (.s (.b (.s .z (.s .z (.s .z (.b (.l [(1,.box (.st 10) []),(7,.v (.int .i64) [])] [1,7] [(4,[(1,.box (.st 10) [])])] .z)))))) .z))))) .z)))
def sp28 : Spec fam:=⟨[.v (.st 10) []],[.v (.st 10) [],.v (.slice (.int .i64)) [0]],fun a => iD a.1⟩
def eJ (s : State) (t : List Int × Int) : Option ((List Int × Int) ⊕ List Int) :=
 bif decide (t.2 < (s.Nodes.length : Int)) then
 (
  (
  (idx s.Nodes t.2).bind fun x =>
  bif x.Up then
   (idx s.Nodes t.2).bind fun x1 =>
   some (decide ((w64 (s.Now - x1.Seen)) ≥ 10))
  else
   some false).bind fun q =>
  bif q then
  (idx s.Nodes t.2).bind fun x2 =>
  (app 8 t.1 [x2.Id]).bind fun l =>
  some l
  else
  some t.1).bind fun l1 =>
 some (.inl (l1,w64 (t.2 + 1)))
 else
 some (.inr t.1)
def ii (s : State) : Option (List Int) :=
 (loop (eJ s) ([],0)).bind fun l2 =>
 some l2
def h214 : Hint:=(.s .z (.s .z (.s (.s .z (.b (.l [(3,.v (.slice (.int .i64)) [0]),(4,.v (.int .i64) [])] [3,4,29] [(2,[(3,.v (.slice (.int .i64)) [0])])] (.s .z (.s (.j [3,29] [(0,[(3,.v (.slice (.int .i64)) [0])])] (.b (.s (.j [] [(0,[(29,.v .bool [])])] .z) .z))) .z))))) .z)))
def sp214 : Spec fam:=⟨[.v (.st 10) []],[.v (.slice (.int .i64)) [0]],fun a => ii a.1⟩
def jy (s : State) (id_ : Int) : Option State :=
 (aX s id_).bind fun x =>
 bif ! x.2 then
 some s
 else
 (cx s (⟨x.1.Id,x.1.Label,x.1.Rack,⟨x.1.Cap.Mem,x.1.Cap.Cores⟩,x.1.Seen,x.1.Beat,false⟩ : Node)).bind fun x1 =>
 some x1
def h215 : Hint:=.z
def sp215 : Spec fam:=⟨[.v (.st 10) [],.v (.int .i64) []],[.v (.st 10) []],fun a => jy a.1 a.2.1⟩
def dU (s : State) (t : List Int × Int) : Option ((List Int × Int) ⊕ List Int) :=
 bif decide (t.2 < (s.Apps.length : Int)) then
 (
  (
  (idx s.Apps t.2).bind fun x =>
  bif x.State == 2 then
   (idx s.Apps t.2).bind fun x1 =>
   some (decide ((w64 (s.Now - x1.Seen)) ≥ 15))
  else
   some false).bind fun q =>
  bif q then
  (idx s.Apps t.2).bind fun x2 =>
  (app 8 t.1 [x2.Id]).bind fun l =>
  some l
  else
  some t.1).bind fun l1 =>
 some (.inl (l1,w64 (t.2 + 1)))
 else
 some (.inr t.1)
def gG (s : State) : Option (List Int) :=
 (loop (dU s) ([],0)).bind fun l2 =>
 some l2
def h216 : Hint:=(.s .z (.s .z (.s (.s .z (.b (.l [(3,.v (.slice (.int .i64)) [0]),(4,.v (.int .i64) [])] [3,4,30] [(2,[(3,.v (.slice (.int .i64)) [0])])] (.s .z (.s (.j [3,30] [(0,[(3,.v (.slice (.int .i64)) [0])])] (.b (.s (.j [] [(0,[(30,.v .bool [])])] .z) .z))) .z))))) .z)))
def sp216 : Spec fam:=⟨[.v (.st 10) []],[.v (.slice (.int .i64)) [0]],fun a => gG a.1⟩
def fB (s : State) (app_ : Int) (i : Int) : Option (Int ⊕ (Int ⊕ Unit)) :=
 bif decide (i < (s.Conts.length : Int)) then
 (
  (idx s.Conts i).bind fun x =>
  bif x.App == app_ then
  (idx s.Conts i).bind fun x1 =>
  some x1.Master
  else
  some false).bind fun q =>
 bif q then
  (idx s.Conts i).bind fun x2 =>
  some (.inr (.inl (x2.Id)))
 else
  some (.inl (w64 (i + 1)))
 else
 some (.inr (.inr ()))
def jh (s : State) (app_ : Int) : Option Int :=
 (loop (fB s app_) 0).bind fun q0 =>
 match q0 with
 | .inl q1 =>
 some q1
 | .inr _ =>
 some (-1)
def h217 : Hint:=(.s .z (.s (.s .z (.b (.l [(5,.v (.int .i64) [])] [4,5,28] [(1,[(4,.v (.int .i64) [])]),(2,[])] (.s .z (.s (.b (.s (.j [] [(0,[(28,.v .bool [])])] .z) .z)) .z))))) .z))
def sp217 : Spec fam:=⟨[.v (.st 10) [],.v (.int .i64) []],[.v (.int .i64) []],fun a => jh a.1 a.2.1⟩
def fV (s2 : State) (t2 : List Plan × Int) : Option ((List Plan × Int) ⊕ List Plan) :=
 bif decide (t2.2 < (s2.Plans.length : Int)) then
 (
  (idx s2.Plans t2.2).bind fun x12 =>
  bif decide (x12.Until > s2.Now) then
  (idx s2.Plans t2.2).bind fun x13 =>
  (app 48 t2.1 [x13]).bind fun l2 =>
  some l2
  else
  some t2.1).bind fun ps =>
 some (.inl (ps,w64 (t2.2 + 1)))
 else
 some (.inr t2.1)
def fP (l1 : List Int) (t1 : State × Int) : Option ((State × Int) ⊕ State) :=
 bif decide (t1.2 < (l1.length : Int)) then
 (inb t1.2 l1.length).bind fun i3 =>
 (l1[i3]?).bind fun x9 =>
 (jh t1.1 x9).bind fun x10 =>
 (bq t1.1 [x10]).bind fun x11 =>
 some (.inl (x11,w64 (t1.2 + 1)))
 else
 some (.inr t1.1)
def ga (l : List Int) (t : State × Int) : Option ((State × Int) ⊕ State) :=
 bif decide (t.2 < (l.length : Int)) then
 (inb t.2 l.length).bind fun i =>
 (l[i]?).bind fun x2 =>
 (jy t.1 x2).bind fun x3 =>
 (inb t.2 l.length).bind fun i1 =>
 (l[i1]?).bind fun x4 =>
 (bS x3 x4).bind fun x5 =>
 (inb t.2 l.length).bind fun i2 =>
 (l[i2]?).bind fun x6 =>
 (eD x5 x6).bind fun x7 =>
 (bq x5 x7).bind fun x8 =>
 some (.inl (x8,w64 (t.2 + 1)))
 else
 some (.inr t.1)
def iS (s : State) (n : Int) : Option (State × Output) :=
 (
 bif decide (n < 1) then
  some true
 else
  some (decide (n > 100))).bind fun q =>
 bif q then
 (aJ s 1).bind fun x =>
 some (x.1,x.2)
 else
 bif decide ((w64 (s.Now + n)) > 1000000000) then
  (aJ s 11).bind fun x1 =>
  some (x1.1,x1.2)
 else
  (ii (⟨⟨s.Conf.Labels,s.Conf.Queues⟩,s.Nodes,s.Apps,s.Conts,s.Slots,s.Plans,w64 (s.Now + n),s.Epoch,s.Seq⟩ : State)).bind fun l =>
  (loop (ga l) ((⟨⟨s.Conf.Labels,s.Conf.Queues⟩,s.Nodes,s.Apps,s.Conts,s.Slots,s.Plans,w64 (s.Now + n),s.Epoch,s.Seq⟩ : State),0)).bind fun s1 =>
  (gG s1).bind fun l1 =>
  (loop (fP l1) (s1,0)).bind fun s2 =>
  (loop (fV s2) ([],0)).bind fun ps1 =>
  (iD (⟨⟨s2.Conf.Labels,s2.Conf.Queues⟩,s2.Nodes,s2.Apps,s2.Conts,s2.Slots,ps1,s2.Now,s2.Epoch,s2.Seq⟩ : State)).bind fun x14 =>
  (fj s x14.1).bind fun x15 =>
  some (x14.1,(⟨0,[],[],x15,0⟩ : Output))
def h129 : Hint:=(.s .z (.s (.s (.j [] [(0,[(17,.v .bool [])])] .z) .z) (.s .z (.s .z (.s .z (.s .z (.s (.s .z (.b (.l [(2,.box (.st 10) []),(8,.v (.int .i64) [])] [2,8] [(2,[(2,.box (.st 10) [])])] .z))) (.s .z (.s (.s .z (.b (.l [(2,.box (.st 10) []),(9,.v (.int .i64) [])] [2,9] [(4,[(2,.box (.st 10) [])])] .z))) (.s .z (.s (.s .z (.b (.l [(10,.v (.slice (.st 9)) [0]),(11,.v (.int .i64) [])] [10,11] [(6,[(10,.v (.slice (.st 9)) [0])])] (.s .z (.s (.j [10] [(0,[(10,.v (.slice (.st 9)) [0])])] .z) .z))))) .z)))))))))))
def sp129 : Spec fam:=⟨[.v (.st 10) [],.v (.int .i64) []],[.v (.st 10) [],.v (.st 13) [1,2,3]],fun a => iS a.1 a.2.1⟩
def iY (n : Int) : Option Bool :=
 bif decide (n ≥ 0) then
 some (decide (n ≤ 1073741824))
 else
 some false
def h297 : Hint:=.z
def sp297 : Spec fam:=⟨[.v (.int .i64) []],[.v .bool []],fun a => iY a.1⟩
def iq (l : List Plan) (label : Int) (t : Int) (t1 : Vec × Int) : Option ((Vec × Int) ⊕ Vec) :=
 bif decide (t1.2 < (l.length : Int)) then
 (
  (
  (idx l t1.2).bind fun x =>
  bif x.Label == label then
   (idx l t1.2).bind fun x1 =>
   bif decide (x1.From ≤ t) then
   (idx l t1.2).bind fun x2 =>
   some (decide (t < x2.Until))
   else
   some false
  else
   some false).bind fun q =>
  bif q then
  (idx l t1.2).bind fun x3 =>
  (aw t1.1 x3.Need).bind fun x4 =>
  some x4
  else
  some t1.1).bind fun v =>
 some (.inl (v,w64 (t1.2 + 1)))
 else
 some (.inr t1.1)
def h_ (l : List Plan) (label : Int) (t : Int) : Option Vec :=
 (loop (iq l label t) ((⟨0,0⟩ : Vec),0)).bind fun v1 =>
 some v1
def h344 : Hint:=(.s .z (.s .z (.s (.s .z (.b (.l [(7,.box (.st 0) []),(8,.v (.int .i64) [])] [7,8,40] [(2,[(7,.box (.st 0) [])])] (.s .z (.s (.j [7,40] [(0,[(7,.box (.st 0) [])])] (.b (.s (.j [] [(0,[(40,.v .bool [])])] .z) .z))) .z))))) .z)))
def sp344 : Spec fam:=⟨[.v (.slice (.st 9)) [],.v (.int .i64) [],.v (.int .i64) []],[.v (.st 0) []],fun a => h_ a.1 a.2.1 a.2.2.1⟩
def fM (l : List Plan) (total : Vec) (p : Plan) (t : Int) (long : Int) (i : Int) : Option (Int ⊕ (Bool ⊕ Unit)) :=
 bif decide (i < (l.length : Int)) then
 (idx l i).bind fun x3 =>
 (
  bif decide (x3.From > t) then
  bif decide ((w64 (x3.From - t)) < long) then
   (h_ l p.Label x3.From).bind fun x4 =>
   (aw x4 p.Need).bind fun x5 =>
   (aM x5 total).bind fun x6 =>
   some (! x6)
  else
   some false
  else
  some false).bind fun q =>
 bif q then
  some (.inr (.inl false))
 else
  some (.inl (w64 (i + 1)))
 else
 some (.inr (.inr ()))
def fe (l : List Plan) (total : Vec) (p : Plan) (t : Int) (long : Int) : Option Bool :=
 (h_ l p.Label t).bind fun x =>
 (aw x p.Need).bind fun x1 =>
 (aM x1 total).bind fun x2 =>
 bif ! x2 then
 some false
 else
 (loop (fM l total p t long) 0).bind fun q0 =>
 match q0 with
 | .inl q1 =>
  some q1
 | .inr _ =>
  some true
def h298 : Hint:=(.s .z (.s .z (.s (.s .z (.b (.l [(11,.v (.int .i64) [])] [10,11,57] [(1,[(10,.v .bool [])]),(2,[])] (.s .z (.s (.b (.s .z (.s (.j [] [(0,[(57,.v .bool [])])] .z) .z))) .z))))) .z)))
def sp298 : Spec fam:=⟨[.v (.slice (.st 9)) [],.v (.st 0) [],.v (.st 9) [],.v (.int .i64) [],.v (.int .i64) []],[.v .bool []],fun a => fe a.1 a.2.1 a.2.2.1 a.2.2.2.1 a.2.2.2.2.1⟩
def lM (l : List Plan) (total : Vec) (p : Plan) (long : Int) (t : Int × Int) : Option ((Int × Int) ⊕ Int) :=
 bif decide (t.2 < (l.length : Int)) then
 (
  (
  bif decide (t.2 ≥ 0) then
   (idx l t.2).bind fun x2 =>
   some x2.Until
  else
   some p.From).bind fun t1 =>
  (
  bif decide (t1 ≥ p.From) then
   bif decide (t1 ≤ 1000000) then
   bif decide ((w64 (t1 + long)) ≤ p.Until) then
    bif decide (t.1 < 0) then
    (fe l total p t1 long).bind fun x3 =>
    some x3
    else
    bif decide (t1 < t.1) then
     (fe l total p t1 long).bind fun x4 =>
     some x4
    else
     some false
   else
    some false
   else
   some false
  else
   some false).bind fun q1 =>
  bif q1 then
  some t1
  else
  some t.1).bind fun best =>
 some (.inl (best,w64 (t.2 + 1)))
 else
 some (.inr t.1)
def iv (l : List Plan) (total : Vec) (p : Plan) (long : Int) : Option (Int × Int) :=
 (
 bif decide (long < 1) then
  some true
 else
  bif decide (long > 1000) then
  some true
  else
  bif decide (p.From < 0) then
   some true
  else
   bif decide (p.From > 1000000) then
   some true
   else
   bif decide (p.Until < 0) then
    some true
   else
    bif decide (p.Until > 1000000) then
    some true
    else
    (iY p.Need.Mem).bind fun x =>
    bif ! x then
     some true
    else
     (iY p.Need.Cores).bind fun x1 =>
     some (! x1)).bind fun q =>
 bif q then
 some (0,1)
 else
 (loop (lM l total p long) ((-1),(-1))).bind fun best1 =>
 bif decide (best1 < 0) then
  some (0,16)
 else
  some (best1,0)
def h218 : Hint:=(.s .z (.s (.s (.j [] [(0,[(52,.v .bool [])])] .z) .z) (.s .z (.s (.s .z (.b (.l [(10,.v (.int .i64) []),(11,.v (.int .i64) [])] [10,11,12,100] [(2,[(10,.v (.int .i64) [])])] (.s .z (.s (.j [10,12,100] [(0,[(10,.v (.int .i64) [])])] (.b (.s .z (.s (.j [12] [(0,[(12,.v (.int .i64) [])])] .z) (.s (.j [] [(0,[(100,.v .bool [])])] .z) .z))))) .z))))) .z))))
def sp218 : Spec fam:=⟨[.v (.slice (.st 9)) [],.v (.st 0) [],.v (.st 9) [],.v (.int .i64) []],[.v (.int .i64) [],.v (.int .i64) []],fun a => iv a.1 a.2.1 a.2.2.1 a.2.2.2.1⟩
def gC (s : State) (p : Plan) (t : State × Int × Int) : Option ((State × Int × Int) ⊕ ((State × Int × Int) ⊕ (State × Int))) :=
 bif decide (t.2.2 < (s.Plans.length : Int)) then
 (
  (idx s.Plans t.2.2).bind fun x =>
  bif x.Id == p.Id then
  some (.inr (s,0,7))
  else
  (idx s.Plans t.2.2).bind fun x1 =>
  bif decide (x1.Id < p.Id) then
   some (.inl (t.1,w64 (t.2.2 + 1)))
  else
   some (.inl (t.1,t.2.1)) : Option ((State × Int) ⊕ (State × Int × Int))).bind fun q0 =>
 match q0 with
 | .inl q1 =>
  some (.inl (q1.1,q1.2,w64 (t.2.2 + 1)))
 | .inr q2 =>
  some (.inr (.inl (q2.1,q2.2.1,q2.2.2)))
 else
 some (.inr (.inr (t.1,t.2.1)))
def ju (s : State) (p : Plan) (long : Int) : Option (State × Int × Int) :=
 (
 bif decide (p.Id < 0) then
  some true
 else
  bif decide (p.Id > 999) then
  some true
  else
  bif decide (p.Label < 0) then
   some true
  else
   bif decide (p.Label ≥ (s.Conf.Labels.length : Int)) then
   some true
   else
   some ((p.Need.Mem == 0) && (p.Need.Cores == 0))).bind fun q =>
 bif q then
 some (s,0,1)
 else
 (loop (gC s p) ((⟨⟨[],[]⟩,[],[],[],[],[],0,0,0⟩ : State),0,0)).bind fun q0 =>
 match q0 with
 | .inl q3 =>
  some (q3.1,q3.2.1,q3.2.2)
 | .inr q4 =>
  bif decide ((s.Plans.length : Int) ≥ 12) then
  some (s,0,4)
  else
  bif decide (p.From < s.Now) then
   some (s,0,15)
  else
   (bu s p.Label).bind fun x2 =>
   (iv s.Plans x2 p long).bind fun x3 =>
   bif x3.2 != 0 then
   some (s,0,x3.2)
   else
   (slc s.Plans 0 q4.2).bind fun l =>
   (app 48 [] l).bind fun l1 =>
   (app 48 l1 [(⟨p.Id,p.Label,x3.1,w64 (x3.1 + long),⟨p.Need.Mem,p.Need.Cores⟩⟩ : Plan)]).bind fun l2 =>
   (slc s.Plans q4.2 (s.Plans.length : Int)).bind fun l3 =>
   (app 48 l2 l3).bind fun l4 =>
   some ((⟨⟨s.Conf.Labels,s.Conf.Queues⟩,s.Nodes,s.Apps,s.Conts,s.Slots,l4,s.Now,s.Epoch,s.Seq⟩ : State),x3.1,0)
def h130 : Hint:=(.s .z (.s (.s (.j [] [(0,[(41,.v .bool [])])] .z) .z) (.s .z (.s (.s .z (.b (.l [(6,.box (.st 10) [0,1,2,3,4,5,6]),(9,.v (.int .i64) []),(10,.v (.int .i64) [])] [6,7,8,9,10] [(1,[(6,.box (.st 10) []),(7,.v (.int .i64) []),(8,.v (.int .i64) [])]),(2,[(6,.box (.st 10) [0,1,2,3,4,5,6]),(9,.v (.int .i64) [])])] (.s .z (.s (.j [6,7,8,9] [(0,[(6,.box (.st 10) [0,1,2,3,4,5,6]),(9,.v (.int .i64) [])]),(1,[(6,.box (.st 10) []),(7,.v (.int .i64) []),(8,.v (.int .i64) [])])] .z) .z))))) .z))))
def sp130 : Spec fam:=⟨[.v (.st 10) [],.v (.st 9) [],.v (.int .i64) []],[.v (.st 10) [],.v (.int .i64) [],.v (.int .i64) []],fun a => ju a.1 a.2.1 a.2.2.1⟩
end
end Go.Fx.D
