/-
  The functions of the program that this law reaches, as functions over plain data (printed by a program). Conditions: none.
-/
import Derived.Test.YtmpaebhomokjmaaGreatD0
namespace Go.Fx.D
open Go Go.Fx Go.Proofs
set_option linter.unusedVariables false
noncomputable section
def ii (s : State) (a : App) (k : Int) : Option (Int ⊕ Int) :=
 (
 bif decide (k < (s.Apps.length : Int)) then
  (idx s.Apps k).bind fun x =>
  some (decide (x.Id < a.Id))
 else
  some false).bind fun q =>
 bif q then
 some (.inl (w64 (k + 1)))
 else
 some (.inr k)
def aS (s : State) (a : App) : Option State :=
 (loop (ii s a) 0).bind fun k1 =>
 (slc s.Apps 0 k1).bind fun l =>
 (app 200 [] l).bind fun l1 =>
 (app 200 l1 [a]).bind fun l2 =>
 (
 (
  bif decide (k1 < (s.Apps.length : Int)) then
  (idx s.Apps k1).bind fun x1 =>
  some (x1.Id == a.Id)
  else
  some false).bind fun q1 =>
 bif q1 then
  some (w64 (k1 + 1))
 else
  some k1).bind fun k2 =>
 (slc s.Apps k2 (s.Apps.length : Int)).bind fun l3 =>
 (app 200 l2 l3).bind fun l4 =>
 some (⟨⟨s.Conf.Labels,s.Conf.Queues⟩,s.Nodes,l4,s.Conts,s.Slots,s.Plans,s.Now,s.Epoch,s.Seq⟩ : State)
def h67 : Hint:=(.s .z (.s .z (.s (.b (.l [(5,.v (.int .i64) [])] [5,22] [(2,[(5,.v (.int .i64) [])])] (.s (.s (.j [] [(0,[(22,.v .bool [])])] .z) .z) .z))) (.s .z (.s .z (.s (.j [5,50] [(0,[(5,.v (.int .i64) [])])] (.s (.j [] [(0,[(50,.v .bool [])])] .z) .z)) .z))))))
def sp67 : Spec fam:=⟨[.v (.st 10) [],.v (.st 6) []],[.v (.st 10) [3]],fun a => aS a.1 a.2.1⟩
def jf (a : App) : Option (List Ask) :=
 some [(⟨0,0,⟨a.Master.Mem,a.Master.Cores⟩,1,(-1),(-1),0⟩ : Ask)]
def h133 : Hint:=.z
def sp133 : Spec fam:=⟨[.v (.st 6) []],[.v (.slice (.st 5)) [0]],fun a => jf a.1⟩
def gw (s : State) (id_ : Int) (t : List Cont × Int) : Option ((List Cont × Int) ⊕ List Cont) :=
 bif decide (t.2 < (s.Conts.length : Int)) then
 (
  (idx s.Conts t.2).bind fun x =>
  bif x.Id != id_ then
  (idx s.Conts t.2).bind fun x1 =>
  (app 72 t.1 [x1]).bind fun l =>
  some l
  else
  some t.1).bind fun l1 =>
 some (.inl (l1,w64 (t.2 + 1)))
 else
 some (.inr t.1)
def dh (s : State) (id_ : Int) : Option State :=
 (loop (gw s id_) ([],0)).bind fun l2 =>
 some (⟨⟨s.Conf.Labels,s.Conf.Queues⟩,s.Nodes,s.Apps,l2,s.Slots,s.Plans,s.Now,s.Epoch,s.Seq⟩ : State)
def h137 : Hint:=(.s .z (.s .z (.s (.s .z (.b (.l [(5,.v (.slice (.st 7)) [0]),(6,.v (.int .i64) [])] [5,6] [(2,[(5,.v (.slice (.st 7)) [0])])] (.s .z (.s (.j [5] [(0,[(5,.v (.slice (.st 7)) [0])])] .z) .z))))) .z)))
def sp137 : Spec fam:=⟨[.v (.st 10) [],.v (.int .i64) []],[.v (.st 10) [4]],fun a => dh a.1 a.2.1⟩
def dJ (l : List Int) (n : Int) (t : List Int × Int) : Option ((List Int × Int) ⊕ List Int) :=
 bif decide (t.2 < (l.length : Int)) then
 (
  (idx l t.2).bind fun x =>
  bif x != n then
  (idx l t.2).bind fun x1 =>
  (app 8 t.1 [x1]).bind fun l1 =>
  some l1
  else
  some t.1).bind fun out =>
 some (.inl (out,w64 (t.2 + 1)))
 else
 some (.inr t.1)
def b9 (l : List Int) (n : Int) : Option (List Int × Bool) :=
 (loop (dJ l n) ([],0)).bind fun out1 =>
 some (out1,decide ((out1.length : Int) < (l.length : Int)))
def h138 : Hint:=(.s .z (.s .z (.s (.s .z (.b (.l [(6,.v (.slice (.int .i64)) [0]),(7,.v (.int .i64) [])] [6,7] [(2,[(6,.v (.slice (.int .i64)) [0])])] (.s .z (.s (.j [6] [(0,[(6,.v (.slice (.int .i64)) [0])])] .z) .z))))) .z)))
def sp138 : Spec fam:=⟨[.v (.slice (.int .i64)) [],.v (.int .i64) []],[.v (.slice (.int .i64)) [0],.v .bool []],fun a => b9 a.1 a.2.1⟩
def gh (ids : List Int) (t : State × Int) : Option ((State × Int) ⊕ State) :=
 bif decide (t.2 < (ids.length : Int)) then
 (
  (idx ids t.2).bind fun x =>
  (a7 t.1 x).bind fun x1 =>
  bif ! x1.2 then
  some t.1
  else
  (aO t.1 x1.1.App).bind fun x2 =>
  bif x1.1.Master then
   (jf x2.1).bind fun x3 =>
   (aS t.1 (⟨x2.1.Id,1,x2.1.Queue,x2.1.User,x2.1.Prio,⟨x2.1.Master.Mem,x2.1.Master.Cores⟩,x3,t.1.Now,0,[],[],[],[]⟩ : App)).bind fun x4 =>
   (dm x4 x1.1.App).bind fun x5 =>
   some x5.1
  else
   (dh t.1 x1.1.Id).bind fun x6 =>
   (b9 x2.1.Grants x1.1.Id).bind fun x7 =>
   (
   bif ! x7.2 then
    (app 8 [] x2.1.Kills).bind fun l =>
    (app 8 l [x1.1.Id]).bind fun l1 =>
    some (⟨x2.1.Id,x2.1.State,x2.1.Queue,x2.1.User,x2.1.Prio,⟨x2.1.Master.Mem,x2.1.Master.Cores⟩,x2.1.Asks,x2.1.Seen,x2.1.Beat,x7.1,l1,x2.1.Told,x2.1.Lost⟩ : App)
   else
    some (⟨x2.1.Id,x2.1.State,x2.1.Queue,x2.1.User,x2.1.Prio,⟨x2.1.Master.Mem,x2.1.Master.Cores⟩,x2.1.Asks,x2.1.Seen,x2.1.Beat,x7.1,x2.1.Kills,x2.1.Told,x2.1.Lost⟩ : App)).bind fun a =>
   (aS x6 a).bind fun x8 =>
   some x8).bind fun s1 =>
 some (.inl (s1,w64 (t.2 + 1)))
 else
 some (.inr t.1)
def ce (s : State) (ids : List Int) : Option State :=
 (loop (gh ids) (s,0)).bind fun s2 =>
 some s2
def h114 : Hint:=(.s .z (.s (.s .z (.b (.l [(2,.box (.st 10) []),(5,.v (.int .i64) [])] [2,5,6,7,8] [(2,[(2,.box (.st 10) [])])] (.s .z (.s (.j [2,6,7,8] [(0,[(2,.box (.st 10) [])])] (.b (.s .z (.s .z (.s .z (.s .z (.s .z (.s .z (.s .z (.s (.j [8] [(0,[(8,.box (.st 6) [10])])] .z) .z)))))))))) .z))))) .z))
def sp114 : Spec fam:=⟨[.v (.st 10) [],.v (.slice (.int .i64)) []],[.v (.st 10) []],fun a => ce a.1 a.2.1⟩
def je (s : State) (node : Int) (t : List Int × Int) : Option ((List Int × Int) ⊕ List Int) :=
 bif decide (t.2 < (s.Conts.length : Int)) then
 (
  (idx s.Conts t.2).bind fun x =>
  bif x.Node == node then
  (idx s.Conts t.2).bind fun x1 =>
  (app 8 t.1 [x1.Id]).bind fun l =>
  some l
  else
  some t.1).bind fun l1 =>
 some (.inl (l1,w64 (t.2 + 1)))
 else
 some (.inr t.1)
def eW (s : State) (node : Int) : Option (List Int) :=
 (loop (je s node) ([],0)).bind fun l2 =>
 some l2
def h128 : Hint:=(.s .z (.s .z (.s (.s .z (.b (.l [(5,.v (.slice (.int .i64)) [0]),(6,.v (.int .i64) [])] [5,6] [(2,[(5,.v (.slice (.int .i64)) [0])])] (.s .z (.s (.j [5] [(0,[(5,.v (.slice (.int .i64)) [0])])] .z) .z))))) .z)))
def sp128 : Spec fam:=⟨[.v (.st 10) [],.v (.int .i64) []],[.v (.slice (.int .i64)) [0]],fun a => eW a.1 a.2.1⟩
def kq (s : State) (id_ : Int) (beat : Int) : Option (State × Int) :=
 (bC s id_).bind fun x =>
 bif ! x.2 then
 some (s,2)
 else
 bif ! x.1.Up then
  some (s,18)
 else
  bif decide (beat < 0) then
  some (s,15)
  else
  bif decide (beat < x.1.Beat) then
   some (s,15)
  else
   bif decide ((w64 (beat - x.1.Beat)) > 1) then
   some (s,1)
   else
   (eO s (⟨x.1.Id,x.1.Label,x.1.Rack,⟨x.1.Cap.Mem,x.1.Cap.Cores⟩,s.Now,beat,x.1.Up⟩ : Node)).bind fun x1 =>
   some (x1,0)
def h129 : Hint:=.z
def sp129 : Spec fam:=⟨[.v (.st 10) [],.v (.int .i64) [],.v (.int .i64) []],[.v (.st 10) [],.v (.int .i64) []],fun a => kq a.1 a.2.1 a.2.2.1⟩
def di (s : State) (node : Int) (t : Slot × Int) : Option ((Slot × Int) ⊕ ((Slot × Bool) ⊕ Slot)) :=
 bif decide (t.2 < (s.Slots.length : Int)) then
 (idx s.Slots t.2).bind fun x =>
 bif x.Node == node then
  (idx s.Slots t.2).bind fun x1 =>
  some (.inr (.inl (x1,true)))
 else
  some (.inl (t.1,w64 (t.2 + 1)))
 else
 some (.inr (.inr (t.1)))
def jy (s : State) (node : Int) : Option (Slot × Bool) :=
 (loop (di s node) ((⟨0,0,0⟩ : Slot),0)).bind fun q0 =>
 match q0 with
 | .inl q =>
 some (q.1,q.2)
 | .inr q1 =>
 some ((⟨0,0,0⟩ : Slot),false)
def h220 : Hint:=(.s .z (.s (.s .z (.b (.l [(4,.box (.st 8) []),(6,.v (.int .i64) [])] [4,5,6] [(1,[(4,.box (.st 8) []),(5,.v .bool [])]),(2,[(4,.box (.st 8) [])])] .z))) .z))
def sp220 : Spec fam:=⟨[.v (.st 10) [],.v (.int .i64) []],[.v (.st 8) [],.v .bool []],fun a => jy a.1 a.2.1⟩
def d_ (s : State) (node : Int) (t : List Slot × Int) : Option ((List Slot × Int) ⊕ List Slot) :=
 bif decide (t.2 < (s.Slots.length : Int)) then
 (
  (idx s.Slots t.2).bind fun x =>
  bif x.Node != node then
  (idx s.Slots t.2).bind fun x1 =>
  (app 24 t.1 [x1]).bind fun l =>
  some l
  else
  some t.1).bind fun l1 =>
 some (.inl (l1,w64 (t.2 + 1)))
 else
 some (.inr t.1)
def ci (s : State) (node : Int) : Option State :=
 (loop (d_ s node) ([],0)).bind fun l2 =>
 some (⟨⟨s.Conf.Labels,s.Conf.Queues⟩,s.Nodes,s.Apps,s.Conts,l2,s.Plans,s.Now,s.Epoch,s.Seq⟩ : State)
def h140 : Hint:=(.s .z (.s .z (.s (.s .z (.b (.l [(5,.v (.slice (.st 8)) [0]),(6,.v (.int .i64) [])] [5,6] [(2,[(5,.v (.slice (.st 8)) [0])])] (.s .z (.s (.j [5] [(0,[(5,.v (.slice (.st 8)) [0])])] .z) .z))))) .z)))
def sp140 : Spec fam:=⟨[.v (.st 10) [],.v (.int .i64) []],[.v (.st 10) [5]],fun a => ci a.1 a.2.1⟩
def aW (a : Vec) (b : Vec) : Option Bool :=
 bif decide (a.Mem ≤ b.Mem) then
 some (decide (a.Cores ≤ b.Cores))
 else
 some false
def h224 : Hint:=.z
def sp224 : Spec fam:=⟨[.v (.st 0) [],.v (.st 0) []],[.v .bool []],fun a => aW a.1 a.2.1⟩
def eA (l : List Ask) (prio : Int) (t : Ask × Int) : Option ((Ask × Int) ⊕ ((Ask × Bool) ⊕ Ask)) :=
 bif decide (t.2 < (l.length : Int)) then
 (idx l t.2).bind fun x =>
 bif x.Prio == prio then
  (idx l t.2).bind fun x1 =>
  some (.inr (.inl (x1,true)))
 else
  some (.inl (t.1,w64 (t.2 + 1)))
 else
 some (.inr (.inr (t.1)))
def lu (l : List Ask) (prio : Int) : Option (Ask × Bool) :=
 (loop (eA l prio) ((⟨0,0,⟨0,0⟩,0,0,0,0⟩ : Ask),0)).bind fun q0 =>
 match q0 with
 | .inl q =>
 some (q.1,q.2)
 | .inr q1 =>
 some ((⟨0,0,⟨0,0⟩,0,0,0,0⟩ : Ask),false)
def h243 : Hint:=(.s .z (.s (.s .z (.b (.l [(4,.box (.st 5) []),(6,.v (.int .i64) [])] [4,5,6] [(1,[(4,.box (.st 5) []),(5,.v .bool [])]),(2,[(4,.box (.st 5) [])])] .z))) .z))
def sp243 : Spec fam:=⟨[.v (.slice (.st 5)) [],.v (.int .i64) []],[.v (.st 5) [],.v .bool []],fun a => lu a.1 a.2.1⟩
def bY (a : Ask) (n : Node) : Option Int :=
 (
 bif ! n.Up then
  some true
 else
  some (n.Label != a.Label)).bind fun q =>
 bif q then
 some 4
 else
 (
  bif a.Rack == (-1) then
  some true
  else
  bif a.Node == n.Id then
   some true
  else
   bif a.Node == (-1) then
   some (a.Rack == n.Rack)
   else
   some false).bind fun q1 =>
 bif q1 then
  some 1
 else
  bif a.Rack == n.Rack then
  some 2
  else
  some 3
def h262 : Hint:=(.s .z (.s (.b (.s (.j [] [(0,[(5,.v .bool [])])] .z) (.c .z (.s (.j [] [(0,[(16,.v .bool [])])] .z) .z)))) .z))
def sp262 : Spec fam:=⟨[.v (.st 5) [],.v (.st 4) []],[.v (.int .i64) []],fun a => bY a.1 a.2.1⟩
def cz (a : Ask) (n : Node) : Option Bool :=
 (bY a n).bind fun x =>
 bif x == 1 then
 some true
 else
 bif x == 2 then
  some (decide (a.Missed ≥ 2))
 else
  bif x == 3 then
  some (decide (a.Missed ≥ 4))
  else
  some false
def h244 : Hint:=.z
def sp244 : Spec fam:=⟨[.v (.st 5) [],.v (.st 4) []],[.v .bool []],fun a => cz a.1 a.2.1⟩
def aJ (a : Vec) (b : Vec) : Option Vec :=
 some (⟨w64 (a.Mem + b.Mem),w64 (a.Cores + b.Cores)⟩ : Vec)
def h95 : Hint:=.z
def sp95 : Spec fam:=⟨[.v (.st 0) [],.v (.st 0) []],[.v (.st 0) []],fun a => aJ a.1 a.2.1⟩
def fJ (t : List UInt8 × List (List UInt8)) : Option ((List UInt8 × List (List UInt8)) ⊕ List (List UInt8)) :=
 bif ! (t.1 == ([] : List UInt8)) then
 (app 16 t.2 [t.1]).bind fun l =>
 (dd t.1).bind fun path1 =>
 some (.inl (path1,l))
 else
 some (.inr t.2)
def gy (path : List UInt8) : Option (List (List UInt8)) :=
 (loop fJ (path,[])).bind fun l1 =>
 some l1
def h123 : Hint:=(.s .z (.s .z (.s (.b (.l [(0,.v .str []),(3,.v (.slice (.str)) [0])] [0,3] [(2,[(3,.v (.slice (.str)) [0])])] .z)) .z)))
def sp123 : Spec fam:=⟨[.v .str []],[.v (.slice (.str)) [0]],fun a => gy a.1⟩
def cT (path : List UInt8) (up : List (List UInt8)) (i : Int) : Option (Int ⊕ (Bool ⊕ Unit)) :=
 bif decide (i < (up.length : Int)) then
 (inb i up.length).bind fun i1 =>
 (up[i1]?).bind fun x =>
 bif x == path then
  some (.inr (.inl true))
 else
  some (.inl (w64 (i + 1)))
 else
 some (.inr (.inr ()))
def eD (leaf : List UInt8) (path : List UInt8) : Option Bool :=
 (gy leaf).bind fun up =>
 (loop (cT path up) 0).bind fun q0 =>
 match q0 with
 | .inl q =>
 some q
 | .inr _ =>
 some false
def h122 : Hint:=(.s .z (.s .z (.s (.s .z (.b (.l [(6,.v (.int .i64) [])] [4,6] [(1,[(4,.v .bool [])]),(2,[])] .z))) .z)))
def sp122 : Spec fam:=⟨[.v .str [],.v .str []],[.v .bool []],fun a => eD a.1 a.2.1⟩
def fV (s : State) (path : List UInt8) (label : Int) (all : Bool) (user : Int) (t : Vec × Int) : Option ((Vec × Int) ⊕ Vec) :=
 bif decide (t.2 < (s.Conts.length : Int)) then
 (
  (idx s.Conts t.2).bind fun x =>
  (aO s x.App).bind fun x1 =>
  (
  bif x1.2 then
   (idx s.Conts t.2).bind fun x2 =>
   bif x2.Label == label then
   (eD x1.1.Queue path).bind fun x3 =>
   bif x3 then
    bif all then
    some true
    else
    some (x1.1.User == user)
   else
    some false
   else
   some false
  else
   some false).bind fun q =>
  bif q then
  (idx s.Conts t.2).bind fun x4 =>
  (aJ t.1 x4.Size).bind fun x5 =>
  some x5
  else
  some t.1).bind fun v =>
 some (.inl (v,w64 (t.2 + 1)))
 else
 some (.inr t.1)
def fG (s : State) (path : List UInt8) (label : Int) (all : Bool) (user : Int) : Option Vec :=
 (loop (fV s path label all user) ((⟨0,0⟩ : Vec),0)).bind fun v1 =>
 some v1
def h64 : Hint:=(.s .z (.s .z (.s (.s .z (.b (.l [(11,.box (.st 0) []),(12,.v (.int .i64) [])] [11,12,13,59] [(2,[(11,.box (.st 0) [])])] (.s .z (.s (.j [11,13,59] [(0,[(11,.box (.st 0) [])])] (.b (.s .z (.s (.j [] [(0,[(59,.v .bool [])])] .z) .z)))) .z))))) .z)))
def sp64 : Spec fam:=⟨[.v (.st 10) [],.v .str [],.v (.int .i64) [],.v .bool [],.v (.int .i64) []],[.v (.st 0) []],fun a => fG a.1 a.2.1 a.2.2.1 a.2.2.2.1 a.2.2.2.2.1⟩
def aR (s : State) (path : List UInt8) (label : Int) : Option Vec :=
 (fG s path label true 0).bind fun x =>
 some x
def h23 : Hint:=.z
def sp23 : Spec fam:=⟨[.v (.st 10) [],.v .str [],.v (.int .i64) []],[.v (.st 0) []],fun a => aR a.1 a.2.1 a.2.2.1⟩
def fS (s : State) (label : Int) (t : Vec × Int) : Option ((Vec × Int) ⊕ Vec) :=
 bif decide (t.2 < (s.Nodes.length : Int)) then
 (
  (
  (idx s.Nodes t.2).bind fun x =>
  bif x.Up then
   (idx s.Nodes t.2).bind fun x1 =>
   some (x1.Label == label)
  else
   some false).bind fun q =>
  bif q then
  (idx s.Nodes t.2).bind fun x2 =>
  (aJ t.1 x2.Cap).bind fun x3 =>
  some x3
  else
  some t.1).bind fun v =>
 some (.inl (v,w64 (t.2 + 1)))
 else
 some (.inr t.1)
def bL (s : State) (label : Int) : Option Vec :=
 (loop (fS s label) ((⟨0,0⟩ : Vec),0)).bind fun v1 =>
 some v1
def h41 : Hint:=(.s .z (.s .z (.s (.s .z (.b (.l [(5,.box (.st 0) []),(6,.v (.int .i64) [])] [5,6,30] [(2,[(5,.box (.st 0) [])])] (.s .z (.s (.j [5,30] [(0,[(5,.box (.st 0) [])])] (.b (.s (.j [] [(0,[(30,.v .bool [])])] .z) .z))) .z))))) .z)))
def sp41 : Spec fam:=⟨[.v (.st 10) [],.v (.int .i64) []],[.v (.st 0) []],fun a => bL a.1 a.2.1⟩
def kF (n : Int) : Option Bool :=
 bif decide (n ≥ 0) then
 some (decide (n ≤ 1125899906842624))
 else
 some false
def h217 : Hint:=.z
def sp217 : Spec fam:=⟨[.v (.int .i64) []],[.v .bool []],fun a => kF a.1⟩
def bN (a : Vec) : Option Bool :=
 (kF a.Mem).bind fun x =>
 bif x then
 (kF a.Cores).bind fun x1 =>
 some x1
 else
 some false
def h185 : Hint:=.z
def sp185 : Spec fam:=⟨[.v (.st 0) []],[.v .bool []],fun a => bN a.1⟩
def fH (n : Int) (bp : Int) : Option Int :=
 some (w64 ((w64 ((w64 (Int.tdiv n 10000)) * bp)) + (w64 (Int.tdiv (w64 ((Int.tmod n 10000) * bp)) 10000))))
def h186 : Hint:=.z
def sp186 : Spec fam:=⟨[.v (.int .i64) [],.v (.int .i64) []],[.v (.int .i64) []],fun a => fH a.1 a.2.1⟩
def fr (a : Vec) (bp : Int) : Option (Vec × Int) :=
 (
 (bN a).bind fun x =>
 bif ! x then
  some true
 else
  bif decide (bp < 0) then
  some true
  else
  some (decide (bp > 1000000))).bind fun q =>
 bif q then
 some ((⟨0,0⟩ : Vec),1)
 else
 (fH a.Mem bp).bind fun x1 =>
 (fH a.Cores bp).bind fun x2 =>
 (bN (⟨x1,x2⟩ : Vec)).bind fun x3 =>
 bif ! x3 then
  some ((⟨0,0⟩ : Vec),11)
 else
  some ((⟨x1,x2⟩ : Vec),0)
def h124 : Hint:=(.s .z (.s (.s (.j [] [(0,[(17,.v .bool [])])] .z) .z) .z))
def sp124 : Spec fam:=⟨[.v (.st 0) [],.v (.int .i64) []],[.v (.st 0) [],.v (.int .i64) []],fun a => fr a.1 a.2.1⟩
def iB (s : State) (label : Int) (least : Bool) (up : List (List UInt8)) (t : Vec × Int) : Option ((Vec × Int) ⊕ Vec) :=
 bif decide (t.2 ≥ 0) then
 (inb t.2 up.length).bind fun i1 =>
 (up[i1]?).bind fun x2 =>
 (bB s.Conf x2).bind fun x3 =>
 (inb label x3.1.Caps.length).bind fun i2 =>
 (x3.1.Caps[i2]?).bind fun x4 =>
 (
  bif least then
  (inb label x3.1.Caps.length).bind fun i3 =>
  (x3.1.Caps[i3]?).bind fun x5 =>
  some x5.Least
  else
  some x4.Most).bind fun bp =>
 (fr t.1 bp).bind fun x6 =>
 some (.inl (x6.1,w64 (t.2 - 1)))
 else
 some (.inr t.1)
def gS (s : State) (path : List UInt8) (label : Int) (least : Bool) : Option Vec :=
 (bB s.Conf path).bind fun x =>
 (
 bif ! x.2 then
  some true
 else
  bif decide (label < 0) then
  some true
  else
  some (decide (label ≥ (s.Conf.Labels.length : Int)))).bind fun q =>
 bif q then
 some (⟨0,0⟩ : Vec)
 else
 (bL s label).bind fun x1 =>
 (gy path).bind fun up =>
 let i:=w64 ((up.length : Int) - 2)
 (loop (iB s label least up) (x1,i)).bind fun v =>
 some v
def h65 : Hint:=(.s .z (.s .z (.s (.s (.j [] [(0,[(37,.v .bool [])])] .z) .z) (.s .z (.s .z (.s (.s .z (.b (.l [(11,.box (.st 0) []),(13,.v (.int .i64) [])] [11,13,14,15,16] [(2,[(11,.box (.st 0) [])])] (.s .z (.s (.b (.s .z (.s .z (.s (.j [16] [(0,[(16,.v (.int .i64) [])])] .z) .z)))) .z))))) .z))))))
def sp65 : Spec fam:=⟨[.v (.st 10) [],.v .str [],.v (.int .i64) [],.v .bool []],[.v (.st 0) []],fun a => gS a.1 a.2.1 a.2.2.1 a.2.2.2.1⟩
def bg (s : State) (path : List UInt8) (label : Int) : Option Vec :=
 (gS s path label true).bind fun x =>
 some x
def h27 : Hint:=.z
def sp27 : Spec fam:=⟨[.v (.st 10) [],.v .str [],.v (.int .i64) []],[.v (.st 0) []],fun a => bg a.1 a.2.1 a.2.2.1⟩
def gR (s : State) (leaf : List UInt8) (a : Ask) : Option Bool :=
 (aR s leaf a.Label).bind fun x =>
 (aJ x a.Size).bind fun x1 =>
 (bg s leaf a.Label).bind fun x2 =>
 (aW x1 x2).bind fun x3 =>
 some x3
def h245 : Hint:=.z
def sp245 : Spec fam:=⟨[.v (.st 10) [],.v .str [],.v (.st 5) []],[.v .bool []],fun a => gR a.1 a.2.1 a.2.2.1⟩
def fm (s : State) (path : List UInt8) (label : Int) (user : Int) : Option Vec :=
 (fG s path label false user).bind fun x =>
 some x
def h263 : Hint:=.z
def sp263 : Spec fam:=⟨[.v (.st 10) [],.v .str [],.v (.int .i64) [],.v (.int .i64) []],[.v (.st 0) []],fun a => fm a.1 a.2.1 a.2.2.1 a.2.2.2.1⟩
def kx (s : State) (path : List UInt8) (label : Int) : Option Vec :=
 (bB s.Conf path).bind fun x =>
 bif ! x.2 then
 some (⟨0,0⟩ : Vec)
 else
 (bg s path label).bind fun x1 =>
 (fr x1 x.1.User).bind fun x2 =>
 some x2.1
def h264 : Hint:=.z
def sp264 : Spec fam:=⟨[.v (.st 10) [],.v .str [],.v (.int .i64) []],[.v (.st 0) []],fun a => kx a.1 a.2.1 a.2.2.1⟩
def fL (s : State) (leaf : List UInt8) (label : Int) (user : Int) : Option Bool :=
 (fm s leaf label user).bind fun x =>
 (kx s leaf label).bind fun x1 =>
 (aW x x1).bind fun x2 =>
 some x2
def h246 : Hint:=.z
def sp246 : Spec fam:=⟨[.v (.st 10) [],.v .str [],.v (.int .i64) [],.v (.int .i64) []],[.v .bool []],fun a => fL a.1 a.2.1 a.2.2.1 a.2.2.2.1⟩
def ir (s : State) (id_ : Int) (t : Vec × Int) : Option ((Vec × Int) ⊕ Vec) :=
 bif decide (t.2 < (s.Conts.length : Int)) then
 (
  (idx s.Conts t.2).bind fun x =>
  bif x.Node == id_ then
  (idx s.Conts t.2).bind fun x1 =>
  (aJ t.1 x1.Size).bind fun x2 =>
  some x2
  else
  some t.1).bind fun v =>
 some (.inl (v,w64 (t.2 + 1)))
 else
 some (.inr t.1)
def ko (s : State) (id_ : Int) : Option Vec :=
 (loop (ir s id_) ((⟨0,0⟩ : Vec),0)).bind fun v1 =>
 some v1
def h120 : Hint:=(.s .z (.s .z (.s (.s .z (.b (.l [(5,.box (.st 0) []),(6,.v (.int .i64) [])] [5,6] [(2,[(5,.box (.st 0) [])])] (.s .z (.s (.j [5] [(0,[(5,.box (.st 0) [])])] .z) .z))))) .z)))
def sp120 : Spec fam:=⟨[.v (.st 10) [],.v (.int .i64) []],[.v (.st 0) []],fun a => ko a.1 a.2.1⟩
def gT (a : Vec) (b : Vec) : Option Vec :=
 some (⟨imax (w64 (a.Mem - b.Mem)) 0,imax (w64 (a.Cores - b.Cores)) 0⟩ : Vec)
def h265 : Hint:=.z
def sp265 : Spec fam:=⟨[.v (.st 0) [],.v (.st 0) []],[.v (.st 0) []],fun a => gT a.1 a.2.1⟩
def gX (s : State) (id_ : Int) : Option Vec :=
 (bC s id_).bind fun x =>
 (
 bif ! x.2 then
  some true
 else
  some (! x.1.Up)).bind fun q =>
 bif q then
 some (⟨0,0⟩ : Vec)
 else
 (ko s id_).bind fun x1 =>
 (gT x.1.Cap x1).bind fun x2 =>
 some x2
def h247 : Hint:=(.s .z (.s .z (.s (.s (.j [] [(0,[(19,.v .bool [])])] .z) .z) .z)))
def sp247 : Spec fam:=⟨[.v (.st 10) [],.v (.int .i64) []],[.v (.st 0) []],fun a => gX a.1 a.2.1⟩
def gN (s : State) (path : List UInt8) (label : Int) : Option Vec :=
 (gS s path label false).bind fun x =>
 some x
def h155 : Hint:=.z
def sp155 : Spec fam:=⟨[.v (.st 10) [],.v .str [],.v (.int .i64) []],[.v (.st 0) []],fun a => gN a.1 a.2.1 a.2.2.1⟩
def iz (s : State) (label : Int) (t : Vec × Int) : Option ((Vec × Int) ⊕ Vec) :=
 bif decide (t.2 < (s.Plans.length : Int)) then
 (
  (idx s.Plans t.2).bind fun x =>
  (
  bif x.Label == label then
   bif decide (x.From ≤ s.Now) then
   some (decide (s.Now < x.Until))
   else
   some false
  else
   some false).bind fun q =>
  bif q then
  (aJ t.1 x.Need).bind fun x1 =>
  some x1
  else
  some t.1).bind fun v =>
 some (.inl (v,w64 (t.2 + 1)))
 else
 some (.inr t.1)
def kC (s : State) (label : Int) : Option Vec :=
 (loop (iz s label) ((⟨0,0⟩ : Vec),0)).bind fun v1 =>
 some v1
def h266 : Hint:=(.s .z (.s .z (.s (.s .z (.b (.l [(5,.box (.st 0) []),(6,.v (.int .i64) [])] [5,6,7,38] [(2,[(5,.box (.st 0) [])])] (.s .z (.s (.j [5,7,38] [(0,[(5,.box (.st 0) [])])] (.b (.s .z (.s (.j [] [(0,[(38,.v .bool [])])] .z) .z)))) .z))))) .z)))
def sp266 : Spec fam:=⟨[.v (.st 10) [],.v (.int .i64) []],[.v (.st 0) []],fun a => kC a.1 a.2.1⟩
def dn (s : State) (label : Int) (size : Vec) (up : List (List UInt8)) (i : Int) : Option (Int ⊕ (Bool ⊕ Unit)) :=
 bif decide (i < (up.length : Int)) then
 (inb i up.length).bind fun i1 =>
 (up[i1]?).bind fun x =>
 (aR s x label).bind fun x1 =>
 (aJ x1 size).bind fun x2 =>
 (inb i up.length).bind fun i2 =>
 (up[i2]?).bind fun x3 =>
 (gN s x3 label).bind fun x4 =>
 (aW x2 x4).bind fun x5 =>
 bif ! x5 then
  some (.inr (.inl false))
 else
  (
  (inb i up.length).bind fun i3 =>
  (up[i3]?).bind fun x6 =>
  bif x6 == ([114,111,111,116] : List UInt8) then
   (bL s label).bind fun x7 =>
   (kC s label).bind fun x8 =>
   (gT x7 x8).bind fun x9 =>
   (aW x2 x9).bind fun x10 =>
   some (! x10)
  else
   some false).bind fun q =>
  bif q then
  some (.inr (.inl false))
  else
  some (.inl (w64 (i + 1)))
 else
 some (.inr (.inr ()))
def fN (s : State) (path : List UInt8) (label : Int) (size : Vec) : Option Bool :=
 (gy path).bind fun up =>
 (loop (dn s label size up) 0).bind fun q0 =>
 match q0 with
 | .inl q1 =>
 some q1
 | .inr _ =>
 some true
def h248 : Hint:=(.s .z (.s .z (.s (.s .z (.b (.l [(10,.v (.int .i64) [])] [8,10,11,55] [(1,[(8,.v .bool [])]),(2,[])] (.s .z (.s (.b (.s .z (.s .z (.s (.j [] [(0,[(55,.v .bool [])])] .z) .z)))) .z))))) .z)))
def sp248 : Spec fam:=⟨[.v (.st 10) [],.v .str [],.v (.int .i64) [],.v (.st 0) []],[.v .bool []],fun a => fN a.1 a.2.1 a.2.2.1 a.2.2.2.1⟩
def g9 (l : List Ask) (prio : Int) (t : List Ask × Bool × Int) : Option ((List Ask × Bool × Int) ⊕ ((List Ask × Bool))) :=
 bif decide (t.2.2 < (l.length : Int)) then
 (
  (idx l t.2.2).bind fun x =>
  (
  bif x.Prio == prio then
   bif decide ((w64 (x.Count - 1)) ≤ 0) then
   some (.inr true)
   else
   some (.inl (true,(⟨x.Prio,x.Label,⟨x.Size.Mem,x.Size.Cores⟩,w64 (x.Count - 1),x.Node,x.Rack,0⟩ : Ask)))
  else
   some (.inl (t.2.1,x)) : Option ((Bool × Ask) ⊕ Bool)).bind fun q0 =>
  match q0 with
  | .inl q =>
  (app 64 t.1 [q.2]).bind fun l1 =>
  some (l1,q.1)
  | .inr is =>
  some (t.1,is)).bind fun q1 =>
 some (.inl (q1.1,q1.2,w64 (t.2.2 + 1)))
 else
 some (.inr (t.1,t.2.1))
def kt (l : List Ask) (prio : Int) : Option (List Ask × Bool) :=
 (loop (g9 l prio) ([],false,0)).bind fun q2 =>
 some (q2.1,q2.2)
def h267 : Hint:=(.s .z (.s .z (.s .z (.s (.s .z (.b (.l [(6,.v (.slice (.st 5)) [0]),(7,.v .bool []),(8,.v (.int .i64) [])] [6,7,8,9] [(2,[(6,.v (.slice (.st 5)) [0]),(7,.v .bool [])])] (.s .z (.s (.j [6,7,9] [(0,[(6,.v (.slice (.st 5)) [0]),(7,.v .bool [])])] (.b (.s .z (.s (.j [7,9] [(0,[(7,.v .bool []),(9,.box (.st 5) [])]),(3,[(7,.v .bool [])])] .z) .z)))) .z))))) .z))))
def sp267 : Spec fam:=⟨[.v (.slice (.st 5)) [],.v (.int .i64) []],[.v (.slice (.st 5)) [0],.v .bool []],fun a => kt a.1 a.2.1⟩
def fg (s : State) (k : Int) : Option (Int ⊕ Int) :=
 (
 bif decide (k < (s.Conts.length : Int)) then
  (idx s.Conts k).bind fun x2 =>
  some (decide (x2.Id < (w64 ((shlK .i64 s.Epoch 20) + (w64 (s.Seq + 1))))))
 else
  some false).bind fun q =>
 bif q then
 some (.inl (w64 (k + 1)))
 else
 some (.inr k)
def eE (s : State) (n : Node) (a : App) (x : Ask) : Option (State × Cont) :=
 (kt a.Asks x.Prio).bind fun x1 =>
 (
 bif a.State == 1 then
  some (⟨a.Id,2,a.Queue,a.User,a.Prio,⟨a.Master.Mem,a.Master.Cores⟩,[],s.Now,0,a.Grants,a.Kills,a.Told,a.Lost⟩ : App)
 else
  (app 8 [] a.Grants).bind fun l =>
  (app 8 l [w64 ((shlK .i64 s.Epoch 20) + (w64 (s.Seq + 1)))]).bind fun l1 =>
  some (⟨a.Id,a.State,a.Queue,a.User,a.Prio,⟨a.Master.Mem,a.Master.Cores⟩,x1.1,a.Seen,a.Beat,l1,a.Kills,a.Told,a.Lost⟩ : App)).bind fun a1 =>
 (loop (fg s) 0).bind fun k1 =>
 (slc s.Conts 0 k1).bind fun l2 =>
 (app 72 [] l2).bind fun l3 =>
 (app 72 l3 [(⟨w64 ((shlK .i64 s.Epoch 20) + (w64 (s.Seq + 1))),a.Id,n.Id,⟨x.Size.Mem,x.Size.Cores⟩,x.Prio,n.Label,a.State == 1,0⟩ : Cont)]).bind fun l4 =>
 (slc s.Conts k1 (s.Conts.length : Int)).bind fun l5 =>
 (app 72 l4 l5).bind fun l6 =>
 (aS (⟨⟨s.Conf.Labels,s.Conf.Queues⟩,s.Nodes,s.Apps,l6,s.Slots,s.Plans,s.Now,s.Epoch,w64 (s.Seq + 1)⟩ : State) a1).bind fun x3 =>
 some (x3,(⟨w64 ((shlK .i64 s.Epoch 20) + (w64 (s.Seq + 1))),a.Id,n.Id,⟨x.Size.Mem,x.Size.Cores⟩,x.Prio,n.Label,a.State == 1,0⟩ : Cont))
def h249 : Hint:=(.s .z (.s .z (.s .z (.s .z (.s (.j [6] [(0,[(6,.box (.st 6) [7])])] .z) (.s .z (.s (.b (.l [(11,.v (.int .i64) [])] [11,78] [(2,[(11,.v (.int .i64) [])])] (.s (.s (.j [] [(0,[(78,.v .bool [])])] .z) .z) .z))) .z)))))))
def sp249 : Spec fam:=⟨[.v (.st 10) [],.v (.st 4) [],.v (.st 6) [],.v (.st 5) []],[.v (.st 10) [3],.v (.st 7) []],fun a => eE a.1 a.2.1 a.2.2.1 a.2.2.2.1⟩
def jB (s : State) (n : Node) (x : Slot) : Option (State × Int × Cont × Bool) :=
 (aO s x.App).bind fun x1 =>
 (lu x1.1.Asks x.Prio).bind fun x2 =>
 (
 bif ! x1.2 then
  some true
 else
  (aT x1.1).bind fun x3 =>
  bif ! x3 then
  some true
  else
  bif ! x2.2 then
   some true
  else
   (cz x2.1 n).bind fun x4 =>
   bif ! x4 then
   some true
   else
   (aW x2.1.Size n.Cap).bind fun x5 =>
   bif ! x5 then
    some true
   else
    (gR s x1.1.Queue x2.1).bind fun x6 =>
    bif ! x6 then
    some true
    else
    (fL s x1.1.Queue n.Label x1.1.User).bind fun x7 =>
    some (! x7)).bind fun q =>
 bif q then
 (ci s n.Id).bind fun x8 =>
 some (x8,0,(⟨0,0,0,⟨0,0⟩,0,0,false,0⟩ : Cont),false)
 else
 (
  (gX s n.Id).bind fun x9 =>
  (aW x2.1.Size x9).bind fun x10 =>
  bif ! x10 then
  some true
  else
  (fN s x1.1.Queue n.Label x2.1.Size).bind fun x11 =>
  some (! x11)).bind fun q1 =>
 bif q1 then
  some (s,3,(⟨0,0,0,⟨0,0⟩,0,0,false,0⟩ : Cont),true)
 else
  (ci s n.Id).bind fun x12 =>
  (eE x12 n x1.1 x2.1).bind fun x13 =>
  some (x13.1,1,x13.2,true)
def h221 : Hint:=(.s .z (.s .z (.s .z (.s (.s (.j [] [(0,[(74,.v .bool [])])] .z) .z) (.s (.s (.j [] [(0,[(98,.v .bool [])])] .z) .z) .z)))))
def sp221 : Spec fam:=⟨[.v (.st 10) [],.v (.st 4) [],.v (.st 8) []],[.v (.st 10) [],.v (.int .i64) [],.v (.st 7) [],.v .bool []],fun a => jB a.1 a.2.1 a.2.2.1⟩
def ng (a : Int) (b : Int) : Option (Int × Int) :=
 let mid:=w64 ((w64 ((shrK .i64 a 25) * (andK .i64 b 33554431))) + (w64 ((andK .i64 a 33554431) * (shrK .i64 b 25))))
 let low:=w64 ((w64 ((andK .i64 a 33554431) * (andK .i64 b 33554431))) + (shlK .i64 (andK .i64 mid 33554431) 25))
 some (w64 ((w64 ((w64 ((shrK .i64 a 25) * (shrK .i64 b 25))) + (shrK .i64 mid 25))) + (shrK .i64 low 50)),andK .i64 low 1125899906842623)
def h288 : Hint:=.z
def sp288 : Spec fam:=⟨[.v (.int .i64) [],.v (.int .i64) []],[.v (.int .i64) [],.v (.int .i64) []],fun a => ng a.1 a.2.1⟩
def fx (x : Frac) (y : Frac) : Option Int :=
 (
 bif x.A == 0 then
  some (⟨x.A,1⟩ : Frac)
 else
  some x).bind fun x1 =>
 (
 bif y.A == 0 then
  some (⟨y.A,1⟩ : Frac)
 else
  some y).bind fun y1 =>
 (
 bif x1.P == 0 then
  some true
 else
  some (y1.P == 0)).bind fun q =>
 bif q then
 (
  bif x1.P == 0 then
  some (y1.P == 0)
  else
  some false).bind fun q1 =>
 bif q1 then
  some 0
 else
  bif x1.P == 0 then
  some 1
  else
  some (-1)
 else
 (ng x1.A y1.P).bind fun x2 =>
 (ng y1.A x1.P).bind fun x3 =>
 (
  bif decide (x2.1 < x3.1) then
  some true
  else
  bif x2.1 == x3.1 then
   some (decide (x2.2 < x3.2))
  else
   some false).bind fun q2 =>
 bif q2 then
  some (-1)
 else
  (
  bif x2.1 == x3.1 then
   some (x2.2 == x3.2)
  else
   some false).bind fun q3 =>
  bif q3 then
  some 0
  else
  some 1
def h286 : Hint:=(.s .z (.s (.j [2] [(0,[(2,.box (.st 14) [])])] .z) (.s (.j [3] [(0,[(3,.box (.st 14) [])])] .z) (.s (.s (.j [] [(0,[(24,.v .bool [])])] .z) (.c (.s (.b (.s (.j [] [(0,[(25,.v .bool [])])] .z) .z)) .z) .z)) (.s .z (.s .z (.s (.b (.s (.j [] [(0,[(54,.v .bool [])])] .z) (.c .z (.s (.j [] [(0,[(68,.v .bool [])])] .z) .z)))) .z)))))))
def sp286 : Spec fam:=⟨[.v (.st 14) [],.v (.st 14) []],[.v (.int .i64) []],fun a => fx a.1 a.2.1⟩
def gU (a : Vec) (p : Vec) : Option Frac :=
 (fx (⟨a.Mem,p.Mem⟩ : Frac) (⟨a.Cores,p.Cores⟩ : Frac)).bind fun x =>
 bif decide (x < 0) then
 some (⟨a.Cores,p.Cores⟩ : Frac)
 else
 some (⟨a.Mem,p.Mem⟩ : Frac)
def h287 : Hint:=.z
def sp287 : Spec fam:=⟨[.v (.st 0) [],.v (.st 0) []],[.v (.st 14) []],fun a => gU a.1 a.2.1⟩
def de (a : Vec) (p : Vec) (b : Vec) (q : Vec) : Option Int :=
 (
 (bN a).bind fun x =>
 bif ! x then
  some true
 else
  (bN p).bind fun x1 =>
  bif ! x1 then
  some true
  else
  (bN b).bind fun x2 =>
  bif ! x2 then
   some true
  else
   (bN q).bind fun x3 =>
   some (! x3)).bind fun q1 =>
 bif q1 then
 some 0
 else
 (gU a p).bind fun x4 =>
 (gU b q).bind fun x5 =>
 (fx x4 x5).bind fun x6 =>
 some x6
def h285 : Hint:=(.s .z (.s (.s (.j [] [(0,[(26,.v .bool [])])] .z) .z) .z))
def sp285 : Spec fam:=⟨[.v (.st 0) [],.v (.st 0) [],.v (.st 0) [],.v (.st 0) []],[.v (.int .i64) []],fun a => de a.1 a.2.1 a.2.2.1 a.2.2.2.1⟩
def ji (s : State) (a : List UInt8) (b : List UInt8) (label : Int) : Option Bool :=
 (aR s a label).bind fun x =>
 (bg s a label).bind fun x1 =>
 (aR s b label).bind fun x2 =>
 (bg s b label).bind fun x3 =>
 (de x x1 x2 x3).bind fun o =>
 bif decide (o < 0) then
 some true
 else
 bif o == 0 then
  some (Op.bytesLess a b)
 else
  some false
def h284 : Hint:=.z
def sp284 : Spec fam:=⟨[.v (.st 10) [],.v .str [],.v .str [],.v (.int .i64) []],[.v .bool []],fun a => ji a.1 a.2.1 a.2.2.1 a.2.2.2.1⟩
def gg (s : State) (label : Int) (l : List (List UInt8)) (t : List (List UInt8) × Int) (k : Int) : Option (Int ⊕ Int) :=
 (
 bif decide (k < (t.1.length : Int)) then
  (inb t.2 l.length).bind fun i =>
  (l[i]?).bind fun x =>
  (inb k t.1.length).bind fun i1 =>
  (t.1[i1]?).bind fun x1 =>
  (ji s x x1 label).bind fun x2 =>
  some (! x2)
 else
  some false).bind fun q =>
 bif q then
 some (.inl (w64 (k + 1)))
 else
 some (.inr k)
def gz (s : State) (label : Int) (l : List (List UInt8)) (t : List (List UInt8) × Int) : Option ((List (List UInt8) × Int) ⊕ List (List UInt8)) :=
 bif decide (t.2 < (l.length : Int)) then
 (loop (gg s label l t) 0).bind fun k1 =>
 (inS 0 k1 t.1.length).bind fun p =>
 (app 16 [] (sub t.1 p.1 p.2)).bind fun l1 =>
 (inb t.2 l.length).bind fun i2 =>
 (l[i2]?).bind fun x3 =>
 (app 16 l1 [x3]).bind fun l2 =>
 (inS k1 (t.1.length : Int) t.1.length).bind fun p1 =>
 (app 16 l2 (sub t.1 p1.1 p1.2)).bind fun l3 =>
 some (.inl (l3,w64 (t.2 + 1)))
 else
 some (.inr t.1)
def jT (s : State) (path : List UInt8) (label : Int) : Option (List (List UInt8)) :=
 (bW s.Conf path).bind fun l =>
 (loop (gz s label l) ([],0)).bind fun out =>
 some out
def h279 : Hint:=(.s .z (.s .z (.s .z (.s (.s .z (.b (.l [(8,.v (.slice (.str)) [0]),(9,.v (.int .i64) [])] [8,9,10,39] [(2,[(8,.v (.slice (.str)) [0])])] (.s .z (.s (.b (.s .z (.s (.b (.l [(10,.v (.int .i64) [])] [10,39] [(4,[(10,.v (.int .i64) [])])] (.s (.s (.j [] [(0,[(39,.v .bool [])])] .z) .z) .z))) .z))) .z))))) .z))))
def sp279 : Spec fam:=⟨[.v (.st 10) [],.v .str [],.v (.int .i64) []],[.v (.slice (.str)) [0]],fun a => jT a.1 a.2.1 a.2.2.1⟩
def dw (s : State) (label : Int) (self : State → (List UInt8) → Int → Option (List (List UInt8))) (l : List (List UInt8)) (t : List (List UInt8) × Int) : Option ((List (List UInt8) × Int) ⊕ List (List UInt8)) :=
 bif decide (t.2 < (l.length : Int)) then
 (inb t.2 l.length).bind fun i =>
 (l[i]?).bind fun x =>
 (self s x label).bind fun x1 =>
 (app 16 t.1 x1).bind fun l1 =>
 some (.inl (l1,w64 (t.2 + 1)))
 else
 some (.inr t.1)
def cS (self : State → (List UInt8) → Int → Option (List (List UInt8))) (s : State) (path : List UInt8) (label : Int) : Option (List (List UInt8)) :=
 (jT s path label).bind fun l =>
 bif (l.length : Int) == 0 then
 some [path]
 else
 (loop (dw s label self l) ([],0)).bind fun out =>
 some out
def br : Nat → State → (List UInt8) → Int → Option (List (List UInt8))
 | 0 => fun _ _ _ => none
 | n + 1 => cS (br n)
def lr (a0 : State) (a1 : List UInt8) (a2 : Int) : Option (List (List UInt8)):=br 64 a0 a1 a2
def h268 : Hint:=(.s .z (.s .z (.s .z (.s .z (.s (.s .z (.b (.l [(8,.v (.slice (.str)) [0]),(9,.v (.int .i64) [])] [8,9] [(2,[(8,.v (.slice (.str)) [0])])] .z))) .z)))))
def sp268 : Spec fam:=⟨[.v (.st 10) [],.v .str [],.v (.int .i64) []],[.v (.slice (.str)) [0]],fun a => lr a.1 a.2.1 a.2.2.1⟩
def HH (n : Nat) : Spec fam:=⟨[.v (.st 10) [],.v .str [],.v (.int .i64) []],[.v (.slice (.str)) [0]],fun a => br n a.1 a.2.1 a.2.2.1⟩
def hU (s : State) (label : Int) : Option (List (List UInt8)) :=
 (lr s ([114,111,111,116] : List UInt8) label).bind fun x =>
 some x
def h250 : Hint:=.z
def sp250 : Spec fam:=⟨[.v (.st 10) [],.v (.int .i64) []],[.v (.slice (.str)) [0]],fun a => hU a.1 a.2.1⟩
def da (out1 : List App) (t1 : List Int × Int) : Option ((List Int × Int) ⊕ List Int) :=
 bif decide (t1.2 < (out1.length : Int)) then
 (inb t1.2 out1.length).bind fun i1 =>
 (out1[i1]?).bind fun x3 =>
 (app 8 t1.1 [x3.Id]).bind fun l3 =>
 some (.inl (l3,w64 (t1.2 + 1)))
 else
 some (.inr t1.1)
def fY (t : List App × Int) (x : App) (k : Int) : Option (Int ⊕ Int) :=
 (
 bif decide (k < (t.1.length : Int)) then
  (inb k t.1.length).bind fun i =>
  (t.1[i]?).bind fun x2 =>
  some (decide (x2.Prio ≥ x.Prio))
 else
  some false).bind fun q1 =>
 bif q1 then
 some (.inl (w64 (k + 1)))
 else
 some (.inr k)
def gB (s : State) (queue : List UInt8) (t : List App × Int) : Option ((List App × Int) ⊕ List App) :=
 bif decide (t.2 < (s.Apps.length : Int)) then
 (
  (idx s.Apps t.2).bind fun x =>
  (
  (aT x).bind fun x1 =>
  bif ! x1 then
   some true
  else
   some (! (x.Queue == queue))).bind fun q =>
  bif q then
  some t.1
  else
  (loop (fY t x) 0).bind fun k1 =>
  (inS 0 k1 t.1.length).bind fun p =>
  (app 200 [] (sub t.1 p.1 p.2)).bind fun l =>
  (app 200 l [x]).bind fun l1 =>
  (inS k1 (t.1.length : Int) t.1.length).bind fun p1 =>
  (app 200 l1 (sub t.1 p1.1 p1.2)).bind fun l2 =>
  some l2).bind fun out =>
 some (.inl (out,w64 (t.2 + 1)))
 else
 some (.inr t.1)
def jZ (s : State) (queue : List UInt8) : Option (List Int) :=
 (loop (gB s queue) ([],0)).bind fun out1 =>
 (loop (da out1) ([],0)).bind fun l4 =>
 some l4
def h251 : Hint:=(.s .z (.s .z (.s (.s .z (.b (.l [(5,.v (.slice (.st 6)) [0]),(6,.v (.int .i64) [])] [5,6,7,8,9,32,46] [(2,[(5,.v (.slice (.st 6)) [0])])] (.s .z (.s (.j [5,7,8,9,32,46] [(0,[(5,.v (.slice (.st 6)) [0])])] (.b (.s .z (.s (.s (.j [] [(0,[(32,.v .bool [])])] .z) .z) (.s .z (.s (.b (.l [(8,.v (.int .i64) [])] [8,46] [(4,[(8,.v (.int .i64) [])])] (.s (.s (.j [] [(0,[(46,.v .bool [])])] .z) .z) .z))) .z)))))) .z))))) (.s .z (.s (.s .z (.b (.l [(10,.v (.slice (.int .i64)) [0]),(11,.v (.int .i64) [])] [10,11] [(6,[(10,.v (.slice (.int .i64)) [0])])] .z))) .z)))))
def sp251 : Spec fam:=⟨[.v (.st 10) [],.v .str []],[.v (.slice (.int .i64)) [0]],fun a => jZ a.1 a.2.1⟩
def ic (prio : Int) (t : List Ask × Int) : Option ((List Ask × Int) ⊕ List Ask) :=
 bif decide (t.2 < (t.1.length : Int)) then
 (
  (inb t.2 t.1.length).bind fun i =>
  (t.1[i]?).bind fun x =>
  bif x.Prio == prio then
  (inb t.2 t.1.length).bind fun i1 =>
  (t.1[i1]?).bind fun x1 =>
  (inb t.2 t.1.length).bind fun i2 =>
  (t.1[i2]?).bind fun x2 =>
  some (List.set t.1 i2 (⟨x2.Prio,x2.Label,⟨x2.Size.Mem,x2.Size.Cores⟩,x2.Count,x2.Node,x2.Rack,imin (w64 (x1.Missed + 1)) 100⟩ : Ask))
  else
  some t.1).bind fun out =>
 some (.inl (out,w64 (t.2 + 1)))
 else
 some (.inr t.1)
def kD (l : List Ask) (prio : Int) : Option (List Ask) :=
 (app 64 [] l).bind fun l1 =>
 (loop (ic prio) (l1,0)).bind fun out1 =>
 some out1
def h269 : Hint:=(.s .z (.s .z (.s (.s .z (.b (.l [(5,.row (.st 5) false),(6,.v (.int .i64) [])] [5,6] [(2,[(5,.row (.st 5) false)])] (.s .z (.s (.j [5] [(0,[(5,.row (.st 5) false)])] .z) .z))))) .z)))
def sp269 : Spec fam:=⟨[.v (.slice (.st 5)) [],.v (.int .i64) []],[.v (.slice (.st 5)) [0]],fun a => kD a.1 a.2.1⟩
def cU (s : State) (app_ : Int) (prio : Int) (i : Int) : Option (Int ⊕ (Bool ⊕ Unit)) :=
 bif decide (i < (s.Slots.length : Int)) then
 (
  (idx s.Slots i).bind fun x =>
  bif x.App == app_ then
  (idx s.Slots i).bind fun x1 =>
  some (x1.Prio == prio)
  else
  some false).bind fun q =>
 bif q then
  some (.inr (.inl true))
 else
  some (.inl (w64 (i + 1)))
 else
 some (.inr (.inr ()))
def jb (s : State) (app_ : Int) (prio : Int) : Option Bool :=
 (loop (cU s app_ prio) 0).bind fun q0 =>
 match q0 with
 | .inl q1 =>
 some q1
 | .inr _ =>
 some false
def h270 : Hint:=(.s .z (.s (.s .z (.b (.l [(7,.v (.int .i64) [])] [6,7,32] [(1,[(6,.v .bool [])]),(2,[])] (.s .z (.s (.b (.s (.j [] [(0,[(32,.v .bool [])])] .z) .z)) .z))))) .z))
def sp270 : Spec fam:=⟨[.v (.st 10) [],.v (.int .i64) [],.v (.int .i64) []],[.v .bool []],fun a => jb a.1 a.2.1 a.2.2.1⟩
def ga (s : State) (x : Slot) (k : Int) : Option (Int ⊕ Int) :=
 (
 bif decide (k < (s.Slots.length : Int)) then
  (idx s.Slots k).bind fun x1 =>
  some (decide (x1.Node < x.Node))
 else
  some false).bind fun q =>
 bif q then
 some (.inl (w64 (k + 1)))
 else
 some (.inr k)
def jA (s : State) (x : Slot) : Option State :=
 (loop (ga s x) 0).bind fun k1 =>
 (slc s.Slots 0 k1).bind fun l =>
 (app 24 [] l).bind fun l1 =>
 (app 24 l1 [x]).bind fun l2 =>
 (slc s.Slots k1 (s.Slots.length : Int)).bind fun l3 =>
 (app 24 l2 l3).bind fun l4 =>
 some (⟨⟨s.Conf.Labels,s.Conf.Queues⟩,s.Nodes,s.Apps,s.Conts,l4,s.Plans,s.Now,s.Epoch,s.Seq⟩ : State)
def h271 : Hint:=(.s .z (.s .z (.s (.b (.l [(5,.v (.int .i64) [])] [5,22] [(2,[(5,.v (.int .i64) [])])] (.s (.s (.j [] [(0,[(22,.v .bool [])])] .z) .z) .z))) .z)))
def sp271 : Spec fam:=⟨[.v (.st 10) [],.v (.st 8) []],[.v (.st 10) [5]],fun a => jA a.1 a.2.1⟩
def kn (s : State) (n : Node) (a : App) (x : Ask) (first : Bool) : Option (State × Int × Cont) :=
 (gR s a.Queue x).bind fun is =>
 (
 (bY x n).bind fun x1 =>
 bif x1 == 4 then
  some true
 else
  (aW x.Size n.Cap).bind fun x2 =>
  bif ! x2 then
  some true
  else
  bif first then
   some (! is)
  else
   some false).bind fun q =>
 bif q then
 some (s,0,(⟨0,0,0,⟨0,0⟩,0,0,false,0⟩ : Cont))
 else
 (cz x n).bind fun x3 =>
 bif ! x3 then
  (
  bif first == is then
   (kD a.Asks x.Prio).bind fun x4 =>
   (aS s (⟨a.Id,a.State,a.Queue,a.User,a.Prio,⟨a.Master.Mem,a.Master.Cores⟩,x4,a.Seen,a.Beat,a.Grants,a.Kills,a.Told,a.Lost⟩ : App)).bind fun x5 =>
   some x5
  else
   some s).bind fun s1 =>
  some (s1,0,(⟨0,0,0,⟨0,0⟩,0,0,false,0⟩ : Cont))
 else
  (fN s a.Queue n.Label x.Size).bind fun x6 =>
  bif ! x6 then
  some (s,0,(⟨0,0,0,⟨0,0⟩,0,0,false,0⟩ : Cont))
  else
  (gX s n.Id).bind fun x7 =>
  (aW x.Size x7).bind fun x8 =>
  bif x8 then
   (eE s n a x).bind fun x9 =>
   some (x9.1,1,x9.2)
  else
   (
   bif first then
    (jb s a.Id x.Prio).bind fun x10 =>
    some (! x10)
   else
    some false).bind fun q1 =>
   bif q1 then
   (jA s (⟨n.Id,a.Id,x.Prio⟩ : Slot)).bind fun x11 =>
   some (x11,2,(⟨0,0,0,⟨0,0⟩,0,0,false,0⟩ : Cont))
   else
   some (s,0,(⟨0,0,0,⟨0,0⟩,0,0,false,0⟩ : Cont))
def h252 : Hint:=(.s .z (.s .z (.s (.s (.j [] [(0,[(39,.v .bool [])])] .z) .z) (.s (.s .z (.c (.s (.j [5,7] [(0,[(5,.box (.st 10) [])])] .z) .z) .z)) (.s .z (.s .z (.s (.s (.j [] [(0,[(97,.v .bool [])])] .z) .z) .z)))))))
def sp252 : Spec fam:=⟨[.v (.st 10) [],.v (.st 4) [],.v (.st 6) [],.v (.st 5) [],.v .bool []],[.v (.st 10) [],.v (.int .i64) [],.v (.st 7) []],fun a => kn a.1 a.2.1 a.2.2.1 a.2.2.2.1 a.2.2.2.2.1⟩
def cO (n : Node) (first : Bool) (ids : List Int) (t1 : State × State × Cont × Int) (x2 : App × Bool) (t2 : State × State × Cont × Int) : Option ((State × State × Cont × Int) ⊕ ((State × Int × Cont) ⊕ (State × State × Cont))) :=
 bif decide (t2.2.2.2 < (x2.1.Asks.length : Int)) then
 (inb t1.2.2.2 ids.length).bind fun i3 =>
 (ids[i3]?).bind fun x5 =>
 (aO t2.1 x5).bind fun x6 =>
 (idx x2.1.Asks t2.2.2.2).bind fun x7 =>
 (kn t2.1 n x6.1 x7 first).bind fun x8 =>
 bif x8.2.1 != 0 then
  some (.inr (.inl (x8.1,x8.2.1,x8.2.2)))
 else
  some (.inl (x8.1,t2.2.1,t2.2.2.1,w64 (t2.2.2.2 + 1)))
 else
 some (.inr (.inr (t2.1,t2.2.1,t2.2.2.1)))
def cP (n : Node) (first : Bool) (leaves : List (List UInt8)) (t : State × State × Cont × Int) (ids : List Int) (t1 : State × State × Cont × Int) : Option ((State × State × Cont × Int) ⊕ ((State × Int × Cont) ⊕ (State × State × Cont))) :=
 bif decide (t1.2.2.2 < (ids.length : Int)) then
 (
  (inb t1.2.2.2 ids.length).bind fun i1 =>
  (ids[i1]?).bind fun x1 =>
  (aO t1.1 x1).bind fun x2 =>
  (inb t.2.2.2 leaves.length).bind fun i2 =>
  (leaves[i2]?).bind fun x3 =>
  (fL t1.1 x3 n.Label x2.1.User).bind fun x4 =>
  bif ! x4 then
  some (.inl (t1.1,t1.2.1,t1.2.2.1))
  else
  (loop (cO n first ids t1 x2) (t1.1,t1.2.1,t1.2.2.1,0)).bind fun q0 =>
  match q0 with
  | .inl q =>
   some (.inr (q.1,q.2.1,q.2.2))
  | .inr q1 =>
   some (.inl (q1.1,q1.2.1,q1.2.2)) : Option ((State × State × Cont) ⊕ (State × Int × Cont))).bind fun q0 =>
 match q0 with
 | .inl q2 =>
  some (.inl (q2.1,q2.2.1,q2.2.2,w64 (t1.2.2.2 + 1)))
 | .inr q3 =>
  some (.inr (.inl (q3.1,q3.2.1,q3.2.2)))
 else
 some (.inr (.inr (t1.1,t1.2.1,t1.2.2.1)))
def fd (n : Node) (first : Bool) (leaves : List (List UInt8)) (t : State × State × Cont × Int) : Option ((State × State × Cont × Int) ⊕ ((State × Int × Cont) ⊕ (State × State × Cont))) :=
 bif decide (t.2.2.2 < (leaves.length : Int)) then
 (inb t.2.2.2 leaves.length).bind fun i =>
 (leaves[i]?).bind fun x =>
 (jZ t.1 x).bind fun ids =>
 (loop (cP n first leaves t ids) (t.1,t.2.1,t.2.2.1,0)).bind fun q0 =>
 match q0 with
 | .inl q4 =>
  some (.inr (.inl (q4.1,q4.2.1,q4.2.2)))
 | .inr q5 =>
  some (.inl (q5.1,q5.2.1,q5.2.2,w64 (t.2.2.2 + 1)))
 else
 some (.inr (.inr (t.1,t.2.1,t.2.2.1)))
def eB (s : State) (n : Node) (first : Bool) : Option (State × Int × Cont) :=
 (hU s n.Label).bind fun leaves =>
 (loop (fd n first leaves) (s,(⟨⟨[],[]⟩,[],[],[],[],[],0,0,0⟩ : State),(⟨0,0,0,⟨0,0⟩,0,0,false,0⟩ : Cont),0)).bind fun q0 =>
 match q0 with
 | .inl q6 =>
 some (q6.1,q6.2.1,q6.2.2)
 | .inr q7 =>
 some (q7.1,0,(⟨0,0,0,⟨0,0⟩,0,0,false,0⟩ : Cont))
def h222 : Hint:=(.s .z (.s .z (.s (.s .z (.b (.l [(3,.box (.st 10) []),(6,.box (.st 10) [0,1,2,3,4,5,6]),(8,.box (.st 7) []),(10,.v (.int .i64) [])] [3,6,7,8,10,11,12,13,14,15,16,17,18,19,20] [(1,[(6,.box (.st 10) []),(7,.v (.int .i64) []),(8,.box (.st 7) [])]),(2,[(3,.box (.st 10) []),(6,.box (.st 10) [0,1,2,3,4,5,6]),(8,.box (.st 7) [])])] (.s .z (.s (.b (.s .z (.s .z (.b (.l [(3,.box (.st 10) []),(6,.box (.st 10) [0,1,2,3,4,5,6]),(8,.box (.st 7) []),(12,.v (.int .i64) [])] [3,6,7,8,12,13,14,15,16,17,18,19,20] [(1,[(6,.box (.st 10) []),(7,.v (.int .i64) []),(8,.box (.st 7) [])]),(4,[(3,.box (.st 10) []),(6,.box (.st 10) [0,1,2,3,4,5,6]),(8,.box (.st 7) [])])] (.s .z (.s (.j [3,6,7,8,13,14,15,16,17,18,19,20] [(0,[(3,.box (.st 10) []),(6,.box (.st 10) [0,1,2,3,4,5,6]),(8,.box (.st 7) [])]),(1,[(6,.box (.st 10) []),(7,.v (.int .i64) []),(8,.box (.st 7) [])])] (.b (.s .z (.s .z (.s .z (.b (.l [(3,.box (.st 10) []),(6,.box (.st 10) [0,1,2,3,4,5,6]),(8,.box (.st 7) []),(15,.v (.int .i64) [])] [3,6,7,8,15,16,17,18,19,20] [(1,[(6,.box (.st 10) []),(7,.v (.int .i64) []),(8,.box (.st 7) [])]),(6,[(3,.box (.st 10) []),(6,.box (.st 10) [0,1,2,3,4,5,6]),(8,.box (.st 7) [])])] .z))))))) .z))))))) .z))))) .z)))
def sp222 : Spec fam:=⟨[.v (.st 10) [],.v (.st 4) [],.v .bool []],[.v (.st 10) [],.v (.int .i64) [],.v (.st 7) []],fun a => eB a.1 a.2.1 a.2.2.1⟩
def kG (s : State) (node : Int) : Option (State × Int × Cont) :=
 (bC s node).bind fun x =>
 (
 bif ! x.2 then
  some true
 else
  bif ! x.1.Up then
  some true
  else
  bif decide ((s.Conts.length : Int) ≥ 200) then
   some true
  else
   some (decide (s.Seq ≥ 1048575))).bind fun q =>
 bif q then
 some (s,0,(⟨0,0,0,⟨0,0⟩,0,0,false,0⟩ : Cont))
 else
 (jy s node).bind fun x1 =>
 (
  bif x1.2 then
  (jB s x.1 x1.1).bind fun x2 =>
  bif x2.2.2.2 then
   some (.inr (x2.1,x2.2.1,x2.2.2.1))
  else
   some (.inl (x2.1,(⟨⟨[],[]⟩,[],[],[],[],[],0,0,0⟩ : State),(⟨0,0,0,⟨0,0⟩,0,0,false,0⟩ : Cont)))
  else
  some (.inl (s,(⟨⟨[],[]⟩,[],[],[],[],[],0,0,0⟩ : State),(⟨0,0,0,⟨0,0⟩,0,0,false,0⟩ : Cont))) : Option ((State × State × Cont) ⊕ (State × Int × Cont))).bind fun q0 =>
 match q0 with
 | .inl q1 =>
  (eB q1.1 x.1 true).bind fun x3 =>
  bif x3.2.1 != 0 then
  some (x3.1,x3.2.1,x3.2.2)
  else
  (eB x3.1 x.1 false).bind fun x4 =>
  some (x4.1,x4.2.1,x4.2.2)
 | .inr q2 =>
  some (q2.1,q2.2.1,q2.2.2)
def h190 : Hint:=(.s .z (.s .z (.s (.s (.j [] [(0,[(40,.v .bool [])])] .z) .z) (.s .z (.s (.j [2,4,5,6,11,12,13,14] [(0,[(2,.box (.st 10) []),(4,.box (.st 10) [0,1,2,3,4,5,6]),(6,.box (.st 7) [])]),(1,[(4,.box (.st 10) []),(5,.v (.int .i64) []),(6,.box (.st 7) [])])] .z) .z)))))
def sp190 : Spec fam:=⟨[.v (.st 10) [],.v (.int .i64) []],[.v (.st 10) [],.v (.int .i64) [],.v (.st 7) []],fun a => kG a.1 a.2.1⟩
def gc (node : Int) (t : State × List Cont × Int) : Option ((State × List Cont × Int) ⊕ ((State × List Cont))) :=
 bif decide (t.2.2 < 3) then
 (kG t.1 node).bind fun x =>
 bif x.2.1 != 1 then
  some (.inr (x.1,t.2.1))
 else
  (app 72 t.2.1 [x.2.2]).bind fun l =>
  some (.inl (x.1,l,w64 (t.2.2 + 1)))
 else
 some (.inr (t.1,t.2.1))
def jD (s : State) (node : Int) : Option (State × List Cont) :=
 (loop (gc node) (s,[],0)).bind fun q =>
 some (q.1,q.2)
def h130 : Hint:=(.s .z (.s .z (.s (.s .z (.b (.l [(2,.box (.st 10) []),(6,.v (.slice (.st 7)) [0]),(7,.v (.int .i64) [])] [2,6,7,8,9,10] [(2,[(2,.box (.st 10) []),(6,.v (.slice (.st 7)) [0])])] .z))) .z)))
def sp130 : Spec fam:=⟨[.v (.st 10) [],.v (.int .i64) []],[.v (.st 10) [],.v (.slice (.st 7)) [0]],fun a => jD a.1 a.2.1⟩
def go (x : Input) (x3 : State × Int) (t : List Int × Int) : Option ((List Int × Int) ⊕ List Int) :=
 bif decide (t.2 < (x.Ids.length : Int)) then
 (
  (idx x.Ids t.2).bind fun x5 =>
  (a7 x3.1 x5).bind fun x6 =>
  (
  bif x6.2 then
   some (x6.1.Node == x.Id)
  else
   some false).bind fun q1 =>
  bif q1 then
  (app 8 t.1 [x6.1.Id]).bind fun l =>
  some l
  else
  some t.1).bind fun ids =>
 some (.inl (ids,w64 (t.2 + 1)))
 else
 some (.inr t.1)
def jR (s : State) (x : Input) : Option (State × Output) :=
 (bC s x.Id).bind fun x1 =>
 (
 bif x1.2 then
  bif x1.1.Up then
  some (x1.1.Beat == x.Beat)
  else
  some false
 else
  some false).bind fun q =>
 bif q then
 (eW s x.Id).bind fun x2 =>
 some (s,(⟨0,[],x2,[],0⟩ : Output))
 else
 (kq s x.Id x.Beat).bind fun x3 =>
 bif x3.2 != 0 then
  (aN s x3.2).bind fun x4 =>
  some (x4.1,x4.2)
 else
  (loop (go x x3) ([],0)).bind fun ids1 =>
  (ce x3.1 ids1).bind fun x7 =>
  (jD x7 x.Id).bind fun x8 =>
  (eW x8.1 x.Id).bind fun x9 =>
  some (x8.1,(⟨0,[],x9,[],0⟩ : Output))
def h70 : Hint:=(.s .z (.s .z (.s (.s (.j [] [(0,[(32,.v .bool [])])] .z) .z) (.s .z (.s .z (.s .z (.s (.s .z (.b (.l [(10,.v (.slice (.int .i64)) [0]),(11,.v (.int .i64) [])] [10,11,12,79] [(2,[(10,.v (.slice (.int .i64)) [0])])] (.s .z (.s (.j [10,12,79] [(0,[(10,.v (.slice (.int .i64)) [0])])] (.b (.s .z (.s (.j [] [(0,[(79,.v .bool [])])] .z) .z)))) .z))))) .z)))))))
def sp70 : Spec fam:=⟨[.v (.st 10) [],.v (.st 15) []],[.v (.st 10) [],.v (.st 13) [1,2,3]],fun a => jR a.1 a.2.1⟩
def fq (n : Int) : Option Bool :=
 bif decide (n ≥ 1) then
 some (decide (n ≤ 1073741824))
 else
 some false
def h131 : Hint:=.z
def sp131 : Spec fam:=⟨[.v (.int .i64) []],[.v .bool []],fun a => fq a.1⟩
def ez (s : State) (t : List App × Bool × Int) : Option ((List App × Bool × Int) ⊕ List App) :=
 bif decide (t.2.2 < (s.Apps.length : Int)) then
 (
  (
  bif ! t.2.1 then
   (idx s.Apps t.2.2).bind fun x =>
   (aT x).bind fun x1 =>
   some (! x1)
  else
   some false).bind fun q =>
  bif q then
  some (t.1,true)
  else
  (idx s.Apps t.2.2).bind fun x2 =>
  (app 200 t.1 [x2]).bind fun l =>
  some (l,t.2.1)).bind fun q1 =>
 some (.inl (q1.1,q1.2,w64 (t.2.2 + 1)))
 else
 some (.inr t.1)
def iA (s : State) : Option State :=
 (loop (ez s) ([],false,0)).bind fun l1 =>
 some (⟨⟨s.Conf.Labels,s.Conf.Queues⟩,s.Nodes,l1,s.Conts,s.Slots,s.Plans,s.Now,s.Epoch,s.Seq⟩ : State)
def h132 : Hint:=(.s .z (.s .z (.s .z (.s (.s .z (.b (.l [(3,.v (.slice (.st 6)) [0]),(4,.v .bool []),(5,.v (.int .i64) [])] [3,4,5,23] [(2,[(3,.v (.slice (.st 6)) [0])])] (.s .z (.s (.j [3,4,23] [(0,[(3,.v (.slice (.st 6)) [0]),(4,.v .bool [])])] (.b (.s (.s (.j [] [(0,[(23,.v .bool [])])] .z) .z) .z))) .z))))) .z))))
def sp132 : Spec fam:=⟨[.v (.st 10) []],[.v (.st 10) [3]],fun a => iA a.1⟩
def cu (s : State) (t : Int × Int) : Option ((Int × Int) ⊕ Int) :=
 bif decide (t.2 < (s.Apps.length : Int)) then
 (
  (idx s.Apps t.2).bind fun x3 =>
  (aT x3).bind fun x4 =>
  bif x4 then
  some (w64 (t.1 + 1))
  else
  some t.1).bind fun live =>
 some (.inl (live,w64 (t.2 + 1)))
 else
 some (.inr t.1)
def iq (s : State) (a : App) : Option (State × Int) :=
 (
 bif decide (a.Id < 0) then
  some true
 else
  bif decide (a.Id > 9999) then
  some true
  else
  bif decide (a.User < 0) then
   some true
  else
   bif decide (a.User > 99) then
   some true
   else
   bif decide (a.Prio < 0) then
    some true
   else
    bif decide (a.Prio > 9) then
    some true
    else
    (fq a.Master.Mem).bind fun x =>
    bif ! x then
     some true
    else
     (fq a.Master.Cores).bind fun x1 =>
     some (! x1)).bind fun q =>
 bif q then
 some (s,1)
 else
 (aO s a.Id).bind fun x2 =>
 bif x2.2 then
  some (s,7)
 else
  (loop (cu s) (0,0)).bind fun live1 =>
  bif decide (live1 ≥ 16) then
  some (s,4)
  else
  (dZ s.Conf a.Queue).bind fun x5 =>
  bif ! x5 then
   some (s,19)
  else
   (
   bif decide ((s.Apps.length : Int) ≥ 16) then
    (iA s).bind fun x6 =>
    some x6
   else
    some s).bind fun s1 =>
   (jf a).bind fun x7 =>
   (aS s1 (⟨a.Id,1,a.Queue,a.User,a.Prio,⟨a.Master.Mem,a.Master.Cores⟩,x7,s1.Now,0,[],[],[],[]⟩ : App)).bind fun x8 =>
   some (x8,0)
def h71 : Hint:=(.s .z (.s (.s (.j [] [(0,[(51,.v .bool [])])] .z) .z) (.s .z (.s .z (.s .z (.s (.s .z (.b (.l [(8,.v (.int .i64) []),(9,.v (.int .i64) [])] [8,9] [(2,[(8,.v (.int .i64) [])])] (.s .z (.s (.j [8] [(0,[(8,.v (.int .i64) [])])] .z) .z))))) (.s .z (.s .z (.s (.j [2] [(0,[(2,.box (.st 10) [])])] .z) .z)))))))))
def sp71 : Spec fam:=⟨[.v (.st 10) [],.v (.st 6) []],[.v (.st 10) [],.v (.int .i64) []],fun a => iq a.1 a.2.1⟩
def eY (s : State) (ids : List Int) (t : List Cont × Int) : Option ((List Cont × Int) ⊕ List Cont) :=
 bif decide (t.2 < (ids.length : Int)) then
 (
  (idx ids t.2).bind fun x =>
  (a7 s x).bind fun x1 =>
  bif x1.2 then
  (app 72 t.1 [x1.1]).bind fun l =>
  some l
  else
  some t.1).bind fun l1 =>
 some (.inl (l1,w64 (t.2 + 1)))
 else
 some (.inr t.1)
def eF (s : State) (ids : List Int) : Option (List Cont) :=
 (loop (eY s ids) ([],0)).bind fun l2 =>
 some l2
def h134 : Hint:=(.s .z (.s .z (.s (.s .z (.b (.l [(5,.v (.slice (.st 7)) [0]),(6,.v (.int .i64) [])] [5,6,7] [(2,[(5,.v (.slice (.st 7)) [0])])] (.s .z (.s (.j [5,7] [(0,[(5,.v (.slice (.st 7)) [0])])] .z) .z))))) .z)))
def sp134 : Spec fam:=⟨[.v (.st 10) [],.v (.slice (.int .i64)) []],[.v (.slice (.st 7)) [0]],fun a => eF a.1 a.2.1⟩
def dQ (s : State) (app_ : Int) (t : List Int × Int) : Option ((List Int × Int) ⊕ List Int) :=
 bif decide (t.2 < (s.Conts.length : Int)) then
 (
  (
  (idx s.Conts t.2).bind fun x =>
  bif x.App == app_ then
   (idx s.Conts t.2).bind fun x1 =>
   some (x1.Notice != 0)
  else
   some false).bind fun q =>
  bif q then
  (idx s.Conts t.2).bind fun x2 =>
  (app 8 t.1 [x2.Id]).bind fun l =>
  some l
  else
  some t.1).bind fun l1 =>
 some (.inl (l1,w64 (t.2 + 1)))
 else
 some (.inr t.1)
def dg (s : State) (app_ : Int) : Option (List Int) :=
 (loop (dQ s app_) ([],0)).bind fun l2 =>
 some l2
def h135 : Hint:=(.s .z (.s .z (.s (.s .z (.b (.l [(5,.v (.slice (.int .i64)) [0]),(6,.v (.int .i64) [])] [5,6,30] [(2,[(5,.v (.slice (.int .i64)) [0])])] (.s .z (.s (.j [5,30] [(0,[(5,.v (.slice (.int .i64)) [0])])] (.b (.s (.j [] [(0,[(30,.v .bool [])])] .z) .z))) .z))))) .z)))
def sp135 : Spec fam:=⟨[.v (.st 10) [],.v (.int .i64) []],[.v (.slice (.int .i64)) [0]],fun a => dg a.1 a.2.1⟩
def kH (n : Int) : Option Bool :=
 bif decide (n ≥ 1) then
 some (decide (n ≤ 1073741824))
 else
 some false
def h223 : Hint:=.z
def sp223 : Spec fam:=⟨[.v (.int .i64) []],[.v .bool []],fun a => kH a.1⟩
def jE (a : Ask) (labels : Int) : Option Int :=
 (
 bif decide (a.Prio < 0) then
  some true
 else
  bif decide (a.Prio > 9) then
  some true
  else
  bif decide (a.Label < 0) then
   some true
  else
   bif decide (a.Label ≥ labels) then
   some true
   else
   (kH a.Size.Mem).bind fun x =>
   bif ! x then
    some true
   else
    (kH a.Size.Cores).bind fun x1 =>
    bif ! x1 then
    some true
    else
    bif decide (a.Node < (-1)) then
     some true
    else
     bif decide (a.Node > 999) then
     some true
     else
     bif decide (a.Rack < (-1)) then
      some true
     else
      bif decide (a.Rack > 99) then
      some true
      else
      bif decide (a.Node ≥ 0) then
       some (decide (a.Rack < 0))
      else
       some false).bind fun q =>
 bif q then
 some 1
 else
 (
  bif decide (a.Count < 0) then
  some true
  else
  some (decide (a.Count > 50))).bind fun q1 =>
 bif q1 then
  some 4
 else
  some 0
def h191 : Hint:=(.s .z (.s (.s (.j [] [(0,[(67,.v .bool [])])] .z) .z) (.s (.s (.j [] [(0,[(75,.v .bool [])])] .z) .z) .z)))
def sp191 : Spec fam:=⟨[.v (.st 5) [],.v (.int .i64) []],[.v (.int .i64) []],fun a => jE a.1 a.2.1⟩
def jd (l : List Ask) (a : Ask) (t : List Ask × Bool × Int) : Option ((List Ask × Bool × Int) ⊕ ((List Ask × Bool))) :=
 bif decide (t.2.2 < (l.length : Int)) then
 (
  (
  (
   bif ! t.2.1 then
   (idx l t.2.2).bind fun x =>
   some (decide (x.Prio > a.Prio))
   else
   some false).bind fun q =>
  bif q then
   (app 64 t.1 [(⟨a.Prio,a.Label,⟨a.Size.Mem,a.Size.Cores⟩,a.Count,a.Node,a.Rack,0⟩ : Ask)]).bind fun l1 =>
   some (l1,true)
  else
   some (t.1,t.2.1)).bind fun q1 =>
  (idx l t.2.2).bind fun x1 =>
  bif x1.Prio != a.Prio then
  (idx l t.2.2).bind fun x2 =>
  (app 64 q1.1 [x2]).bind fun l2 =>
  some (l2,q1.2)
  else
  some (q1.1,q1.2)).bind fun q2 =>
 some (.inl (q2.1,q2.2,w64 (t.2.2 + 1)))
 else
 some (.inr (t.1,t.2.1))
def lp (l : List Ask) (a : Ask) : Option (List Ask × Int) :=
 (loop (jd l a) ([],a.Count == 0,0)).bind fun q3 =>
 (
 bif ! q3.2 then
  (app 64 q3.1 [(⟨a.Prio,a.Label,⟨a.Size.Mem,a.Size.Cores⟩,a.Count,a.Node,a.Rack,0⟩ : Ask)]).bind fun l3 =>
  some l3
 else
  some q3.1).bind fun out =>
 bif decide ((out.length : Int) > 8) then
 some ([],4)
 else
 some (out,0)
def h192 : Hint:=(.s .z (.s .z (.s .z (.s .z (.s (.s .z (.b (.l [(6,.v (.slice (.st 5)) [0]),(7,.v .bool []),(8,.v (.int .i64) [])] [6,7,8,30] [(2,[(6,.v (.slice (.st 5)) [0]),(7,.v .bool [])])] (.s .z (.s (.j [6,7,30] [(0,[(6,.v (.slice (.st 5)) [0]),(7,.v .bool [])])] (.b (.s (.j [6,7,30] [(0,[(6,.v (.slice (.st 5)) [0]),(7,.v .bool [])])] (.s (.j [] [(0,[(30,.v .bool [])])] .z) .z)) .z))) .z))))) (.s (.j [6] [(0,[(6,.v (.slice (.st 5)) [0])])] .z) .z))))))
def sp192 : Spec fam:=⟨[.v (.slice (.st 5)) [],.v (.st 5) []],[.v (.slice (.st 5)) [0],.v (.int .i64) []],fun a => lp a.1 a.2.1⟩
def fj (s : State) (more : List Ask) (t : List Ask × Int) : Option ((List Ask × Int) ⊕ ((List Ask × Int) ⊕ List Ask)) :=
 bif decide (t.2 < (more.length : Int)) then
 (idx more t.2).bind fun x =>
 (jE x (s.Conf.Labels.length : Int)).bind fun e =>
 bif e != 0 then
  some (.inr (.inl ([],e)))
 else
  (idx more t.2).bind fun x1 =>
  (lp t.1 x1).bind fun x2 =>
  bif x2.2 != 0 then
  some (.inr (.inl ([],x2.2)))
  else
  some (.inl (x2.1,w64 (t.2 + 1)))
 else
 some (.inr (.inr (t.1)))
def jh (s : State) (l : List Ask) (more : List Ask) : Option (List Ask × Int) :=
 (loop (fj s more) (l,0)).bind fun q0 =>
 match q0 with
 | .inl q =>
 some (q.1,q.2)
 | .inr l1 =>
 some (l1,0)
def h136 : Hint:=(.s .z (.s (.s .z (.b (.l [(1,.v (.slice (.st 5)) []),(8,.v (.int .i64) [])] [1,6,7,8,9] [(1,[(6,.v (.slice (.st 5)) [0]),(7,.v (.int .i64) [])]),(2,[(1,.v (.slice (.st 5)) [])])] .z))) .z))
def sp136 : Spec fam:=⟨[.v (.st 10) [],.v (.slice (.st 5)) [],.v (.slice (.st 5)) []],[.v (.slice (.st 5)) [],.v (.int .i64) []],fun a => jh a.1 a.2.1 a.2.2.1⟩
def et (x : Input) (t : State × App × Int) : Option ((State × App × Int) ⊕ ((State × App))) :=
 bif decide (t.2.2 < (x.Ids.length : Int)) then
 (
  (idx x.Ids t.2.2).bind fun x10 =>
  (a7 t.1 x10).bind fun x11 =>
  (
  bif x11.2 then
   bif x11.1.App == t.2.1.Id then
   some (! x11.1.Master)
   else
   some false
  else
   some false).bind fun q =>
  bif q then
  (dh t.1 x11.1.Id).bind fun x12 =>
  (b9 t.2.1.Grants x11.1.Id).bind fun x13 =>
  some (x12,(⟨t.2.1.Id,t.2.1.State,t.2.1.Queue,t.2.1.User,t.2.1.Prio,⟨t.2.1.Master.Mem,t.2.1.Master.Cores⟩,t.2.1.Asks,t.2.1.Seen,t.2.1.Beat,x13.1,t.2.1.Kills,t.2.1.Told,t.2.1.Lost⟩ : App))
  else
  some (t.1,t.2.1)).bind fun q1 =>
 some (.inl (q1.1,q1.2,w64 (t.2.2 + 1)))
 else
 some (.inr (t.1,t.2.1))
def iv (s : State) (x : Input) : Option (State × Output) :=
 (aO s x.Id).bind fun x1 =>
 bif ! x1.2 then
 (aN s 2).bind fun x2 =>
 some (x2.1,x2.2)
 else
 bif x1.1.State != 2 then
  (aN s 14).bind fun x3 =>
  some (x3.1,x3.2)
 else
  bif decide (x.Beat < x1.1.Beat) then
  (aN s 15).bind fun x4 =>
  some (x4.1,x4.2)
  else
  bif x.Beat == x1.1.Beat then
   (eF s x1.1.Told).bind fun x5 =>
   (dg s x1.1.Id).bind fun x6 =>
   (app 8 [] x1.1.Lost).bind fun l =>
   some (s,(⟨0,x5,x6,l,0⟩ : Output))
  else
   bif decide ((w64 (x.Beat - 1)) > x1.1.Beat) then
   (aN s 1).bind fun x7 =>
   some (x7.1,x7.2)
   else
   (jh s x1.1.Asks x.Asks).bind fun x8 =>
   bif x8.2 != 0 then
    (aN s x8.2).bind fun x9 =>
    some (x9.1,x9.2)
   else
    (loop (et x) (s,x1.1,0)).bind fun q2 =>
    (eF q2.1 q2.2.Grants).bind fun x14 =>
    (dg q2.1 q2.2.Id).bind fun x15 =>
    (app 8 [] q2.2.Kills).bind fun l1 =>
    (aS q2.1 (⟨q2.2.Id,q2.2.State,q2.2.Queue,q2.2.User,q2.2.Prio,⟨q2.2.Master.Mem,q2.2.Master.Cores⟩,x8.1,q2.1.Now,x.Beat,[],[],q2.2.Grants,q2.2.Kills⟩ : App)).bind fun x16 =>
    some (x16,(⟨0,x14,x15,l1,0⟩ : Output))
def h72 : Hint:=(.s .z (.s .z (.s .z (.s .z (.s .z (.s (.s .z (.b (.l [(2,.box (.st 10) []),(6,.box (.st 6) []),(10,.v (.int .i64) [])] [2,6,10,11,12,122] [(3,[(2,.box (.st 10) []),(6,.box (.st 6) [])])] (.s .z (.s (.j [2,6,11,12,122] [(0,[(2,.box (.st 10) []),(6,.box (.st 6) [])])] (.b (.s .z (.s (.j [] [(0,[(122,.v .bool [])])] .z) .z)))) .z))))) .z))))))
def sp72 : Spec fam:=⟨[.v (.st 10) [],.v (.st 15) []],[.v (.st 10) [],.v (.st 13) [1,2,3]],fun a => iv a.1 a.2.1⟩
def km (s : State) (id_ : Int) (state : Int) : Option (State × List Int) :=
 (aO s id_).bind fun x =>
 (
 bif ! x.2 then
  some true
 else
  (aT x.1).bind fun x1 =>
  some (! x1)).bind fun q =>
 bif q then
 some (s,[])
 else
 (aS s (⟨x.1.Id,state,x.1.Queue,x.1.User,x.1.Prio,⟨x.1.Master.Mem,x.1.Master.Cores⟩,[],x.1.Seen,x.1.Beat,[],[],[],[]⟩ : App)).bind fun x2 =>
 (dm x2 id_).bind fun x3 =>
 some (x3.1,x3.2)
def h30 : Hint:=(.s .z (.s .z (.s (.s (.j [] [(0,[(22,.v .bool [])])] .z) .z) .z)))
def sp30 : Spec fam:=⟨[.v (.st 10) [],.v (.int .i64) [],.v (.int .i64) []],[.v (.st 10) [],.v (.slice (.int .i64)) [0]],fun a => km a.1 a.2.1 a.2.2.1⟩
def gP (s : State) (id_ : Int) (state : Int) : Option (State × Output) :=
 (aO s id_).bind fun x =>
 bif ! x.2 then
 (aN s 2).bind fun x1 =>
 some (x1.1,x1.2)
 else
 (aT x.1).bind fun x2 =>
 bif ! x2 then
  (aN s 14).bind fun x3 =>
  some (x3.1,x3.2)
 else
  (km s id_ state).bind fun x4 =>
  some (x4.1,(⟨0,[],[],x4.2,0⟩ : Output))
def h73 : Hint:=.z
def sp73 : Spec fam:=⟨[.v (.st 10) [],.v (.int .i64) [],.v (.int .i64) []],[.v (.st 10) [],.v (.st 13) [1,2,3]],fun a => gP a.1 a.2.1 a.2.2.1⟩
def eo (l : List Ask) (label : Int) (t : Vec × Int) : Option ((Vec × Int) ⊕ Vec) :=
 bif decide (t.2 < (l.length : Int)) then
 (
  (idx l t.2).bind fun x =>
  bif x.Label == label then
  (idx l t.2).bind fun x1 =>
  (idx l t.2).bind fun x2 =>
  (idx l t.2).bind fun x3 =>
  (idx l t.2).bind fun x4 =>
  (aJ t.1 (⟨w64 (x1.Size.Mem * x2.Count),w64 (x3.Size.Cores * x4.Count)⟩ : Vec)).bind fun x5 =>
  some x5
  else
  some t.1).bind fun v =>
 some (.inl (v,w64 (t.2 + 1)))
 else
 some (.inr t.1)
def hF (l : List Ask) (label : Int) : Option Vec :=
 (loop (eo l label) ((⟨0,0⟩ : Vec),0)).bind fun v1 =>
 some v1
def h157 : Hint:=(.s .z (.s .z (.s (.s .z (.b (.l [(5,.box (.st 0) []),(6,.v (.int .i64) [])] [5,6] [(2,[(5,.box (.st 0) [])])] (.s .z (.s (.j [5] [(0,[(5,.box (.st 0) [])])] .z) .z))))) .z)))
def sp157 : Spec fam:=⟨[.v (.slice (.st 5)) [],.v (.int .i64) []],[.v (.st 0) []],fun a => hF a.1 a.2.1⟩
def dN (s : State) (path : List UInt8) (label : Int) (t : Vec × Int) : Option ((Vec × Int) ⊕ Vec) :=
 bif decide (t.2 < (s.Apps.length : Int)) then
 (
  (
  (idx s.Apps t.2).bind fun x =>
  (aT x).bind fun x1 =>
  bif x1 then
   (idx s.Apps t.2).bind fun x2 =>
   (eD x2.Queue path).bind fun x3 =>
   some x3
  else
   some false).bind fun q =>
  bif q then
  (idx s.Apps t.2).bind fun x4 =>
  (hF x4.Asks label).bind fun x5 =>
  (aJ t.1 x5).bind fun x6 =>
  some x6
  else
  some t.1).bind fun v =>
 some (.inl (v,w64 (t.2 + 1)))
 else
 some (.inr t.1)
def dc (s : State) (path : List UInt8) (label : Int) : Option Vec :=
 (loop (dN s path label) ((⟨0,0⟩ : Vec),0)).bind fun v1 =>
 some v1
def h96 : Hint:=(.s .z (.s .z (.s (.s .z (.b (.l [(7,.box (.st 0) []),(8,.v (.int .i64) [])] [7,8,32] [(2,[(7,.box (.st 0) [])])] (.s .z (.s (.j [7,32] [(0,[(7,.box (.st 0) [])])] (.b (.s (.j [] [(0,[(32,.v .bool [])])] .z) .z))) .z))))) .z)))
def sp96 : Spec fam:=⟨[.v (.st 10) [],.v .str [],.v (.int .i64) []],[.v (.st 0) []],fun a => dc a.1 a.2.1 a.2.2.1⟩
def bq (n : Int) : Option Int :=
 (
 bif decide (n < 0) then
  some true
 else
  some (decide (n > 1125899906842624))).bind fun q =>
 bif q then
 some 0
 else
 some n
def h206 : Hint:=(.s .z (.s (.s (.j [] [(0,[(8,.v .bool [])])] .z) .z) .z))
def sp206 : Spec fam:=⟨[.v (.int .i64) []],[.v (.int .i64) []],fun a => bq a.1⟩
def bw (want : List Int) (most : List Int) (n : Int) (t1 : Int × List Int × Int) : Option ((Int × List Int × Int) ⊕ List Int) :=
 bif decide (t1.2.2 < n) then
 (idx want t1.2.2).bind fun x7 =>
 (bq x7).bind fun x8 =>
 (idx most t1.2.2).bind fun x9 =>
 (bq x9).bind fun x10 =>
 (inb t1.2.2 t1.2.1.length).bind fun i =>
 (t1.2.1[i]?).bind fun x11 =>
 let x12:=imin (imax (w64 ((imin x8 x10) - x11)) 0) t1.1
 (inb t1.2.2 t1.2.1.length).bind fun i1 =>
 (t1.2.1[i1]?).bind fun x13 =>
 (inb t1.2.2 t1.2.1.length).bind fun i2 =>
 (t1.2.1[i2]?).bind fun x14 =>
 some (.inl (w64 (t1.1 - x12),List.set t1.2.1 i2 (w64 (x13 + x12)),w64 (t1.2.2 + 1)))
 else
 some (.inr t1.2.1)
def bu (least : List Int) (want : List Int) (most : List Int) (n : Int) (t : Int × List Int × Int) : Option ((Int × List Int × Int) ⊕ ((Int × List Int))) :=
 bif decide (t.2.2 < n) then
 (idx least t.2.2).bind fun x =>
 (bq x).bind fun x1 =>
 (idx want t.2.2).bind fun x2 =>
 (bq x2).bind fun x3 =>
 (idx most t.2.2).bind fun x4 =>
 (bq x4).bind fun x5 =>
 let x6:=imin (imin (imin x1 x3) x5) t.1
 (app 8 t.2.1 [x6]).bind fun l =>
 some (.inl (w64 (t.1 - x6),l,w64 (t.2.2 + 1)))
 else
 some (.inr (t.1,t.2.1))
def cJ (total : Int) (least : List Int) (want : List Int) (most : List Int) : Option (List Int) :=
 let n:=imin (imin (least.length : Int) (want.length : Int)) (most.length : Int)
 (bq total).bind fun left =>
 (loop (bu least want most n) (left,[],0)).bind fun q =>
 (loop (bw want most n) (q.1,q.2,0)).bind fun out =>
 some out
def h156 : Hint:=(.s .z (.s .z (.s .z (.s .z (.s (.s .z (.b (.l [(10,.v (.int .i64) []),(11,.v (.slice (.int .i64)) [0]),(12,.v (.int .i64) [])] [10,11,12,13] [(2,[(10,.v (.int .i64) []),(11,.v (.slice (.int .i64)) [0])])] .z))) (.s (.s .z (.b (.l [(10,.v (.int .i64) []),(11,.row (.int .i64) false),(14,.v (.int .i64) [])] [10,11,14,15] [(4,[(11,.row (.int .i64) false)])] .z))) .z))))))
def sp156 : Spec fam:=⟨[.v (.int .i64) [],.v (.slice (.int .i64)) [],.v (.slice (.int .i64)) [],.v (.slice (.int .i64)) []],[.v (.slice (.int .i64)) [0]],fun a => cJ a.1 a.2.1 a.2.2.1 a.2.2.2.1⟩
def a_ (s : State) (label : Int) (self : State → (List UInt8) → Int → Int → Option (List Share)) (kids : List (List UInt8)) (x8 : List Int) (t1 : List Share × Int) : Option ((List Share × Int) ⊕ List Share) :=
 bif decide (t1.2 < (kids.length : Int)) then
 (inb t1.2 kids.length).bind fun i4 =>
 (kids[i4]?).bind fun x9 =>
 (inb t1.2 x8.length).bind fun i5 =>
 (x8[i5]?).bind fun x10 =>
 (self s x9 label x10).bind fun x11 =>
 (app 24 t1.1 x11).bind fun l3 =>
 some (.inl (l3,w64 (t1.2 + 1)))
 else
 some (.inr t1.1)
def bh (s : State) (label : Int) (kids : List (List UInt8)) (t : List Int × List Int × List Int × Int) : Option ((List Int × List Int × List Int × Int) ⊕ ((List Int × List Int × List Int))) :=
 bif decide (t.2.2.2 < (kids.length : Int)) then
 (inb t.2.2.2 kids.length).bind fun i =>
 (kids[i]?).bind fun x =>
 (bg s x label).bind fun x1 =>
 (app 8 t.1 [x1.Mem]).bind fun l =>
 (inb t.2.2.2 kids.length).bind fun i1 =>
 (kids[i1]?).bind fun x2 =>
 (gN s x2 label).bind fun x3 =>
 (app 8 t.2.2.1 [x3.Mem]).bind fun l1 =>
 (inb t.2.2.2 kids.length).bind fun i2 =>
 (kids[i2]?).bind fun x4 =>
 (aR s x4 label).bind fun x5 =>
 (inb t.2.2.2 kids.length).bind fun i3 =>
 (kids[i3]?).bind fun x6 =>
 (dc s x6 label).bind fun x7 =>
 (app 8 t.2.1 [w64 (x5.Mem + x7.Mem)]).bind fun l2 =>
 some (.inl (l,l2,l1,w64 (t.2.2.2 + 1)))
 else
 some (.inr (t.1,t.2.1,t.2.2.1))
def be (self : State → (List UInt8) → Int → Int → Option (List Share)) (s : State) (path : List UInt8) (label : Int) (mem : Int) : Option (List Share) :=
 (bW s.Conf path).bind fun kids =>
 bif (kids.length : Int) == 0 then
 some [(⟨path,mem⟩ : Share)]
 else
 (loop (bh s label kids) ([],[],[],0)).bind fun q =>
 (cJ mem q.1 q.2.1 q.2.2).bind fun x8 =>
 (loop (a_ s label self kids x8) ([],0)).bind fun out =>
 some out
def aU : Nat → State → (List UInt8) → Int → Int → Option (List Share)
 | 0 => fun _ _ _ _ => none
 | n + 1 => be (aU n)
def jM (a0 : State) (a1 : List UInt8) (a2 : Int) (a3 : Int) : Option (List Share):=aU 64 a0 a1 a2 a3
def h94 : Hint:=(.s .z (.s .z (.s .z (.s .z (.s (.s .z (.b (.l [(10,.v (.slice (.int .i64)) [0]),(11,.v (.slice (.int .i64)) [0]),(12,.v (.slice (.int .i64)) [0]),(13,.v (.int .i64) [])] [10,11,12,13] [(2,[(10,.v (.slice (.int .i64)) [0]),(11,.v (.slice (.int .i64)) [0]),(12,.v (.slice (.int .i64)) [0])])] .z))) (.s .z (.s .z (.s (.s .z (.b (.l [(15,.v (.slice (.st 16)) [0]),(16,.v (.int .i64) [])] [15,16] [(4,[(15,.v (.slice (.st 16)) [0])])] .z))) .z))))))))
def sp94 : Spec fam:=⟨[.v (.st 10) [],.v .str [],.v (.int .i64) [],.v (.int .i64) []],[.v (.slice (.st 16)) [0]],fun a => jM a.1 a.2.1 a.2.2.1 a.2.2.2.1⟩
def Ju (n : Nat) : Spec fam:=⟨[.v (.st 10) [],.v .str [],.v (.int .i64) [],.v (.int .i64) []],[.v (.slice (.st 16)) [0]],fun a => aU n a.1 a.2.1 a.2.2.1 a.2.2.2.1⟩
def bi (l : List Share) (t : List Share × Int) (k : Int) : Option (Int ⊕ Int) :=
 (
 bif decide (k < (t.1.length : Int)) then
  (inb k t.1.length).bind fun i =>
  (t.1[i]?).bind fun x1 =>
  (inb t.2 l.length).bind fun i1 =>
  (l[i1]?).bind fun x2 =>
  some (Op.bytesLess x1.Path x2.Path)
 else
  some false).bind fun q =>
 bif q then
 some (.inl (w64 (k + 1)))
 else
 some (.inr k)
def bc (l : List Share) (t : List Share × Int) : Option ((List Share × Int) ⊕ List Share) :=
 bif decide (t.2 < (l.length : Int)) then
 (loop (bi l t) 0).bind fun k1 =>
 (inS 0 k1 t.1.length).bind fun p =>
 (app 24 [] (sub t.1 p.1 p.2)).bind fun l1 =>
 (inb t.2 l.length).bind fun i2 =>
 (l[i2]?).bind fun x3 =>
 (app 24 l1 [x3]).bind fun l2 =>
 (inS k1 (t.1.length : Int) t.1.length).bind fun p1 =>
 (app 24 l2 (sub t.1 p1.1 p1.2)).bind fun l3 =>
 some (.inl (l3,w64 (t.2 + 1)))
 else
 some (.inr t.1)
def bM (s : State) (label : Int) : Option (List Share) :=
 (bL s label).bind fun x =>
 (jM s ([114,111,111,116] : List UInt8) label x.Mem).bind fun l =>
 (loop (bc l) ([],0)).bind fun out =>
 some out
def h40 : Hint:=(.s .z (.s .z (.s .z (.s (.s .z (.b (.l [(5,.v (.slice (.st 16)) [0]),(7,.v (.int .i64) [])] [5,7,8,39] [(2,[(5,.v (.slice (.st 16)) [0])])] (.s .z (.s (.b (.s .z (.s (.b (.l [(8,.v (.int .i64) [])] [8,39] [(4,[(8,.v (.int .i64) [])])] (.s (.s (.j [] [(0,[(39,.v .bool [])])] .z) .z) .z))) .z))) .z))))) .z))))
def sp40 : Spec fam:=⟨[.v (.st 10) [],.v (.int .i64) []],[.v (.slice (.st 16)) [0]],fun a => bM a.1 a.2.1⟩
def fb (s : State) (path : List UInt8) (label : Int) (x : Vec) (x1 : Vec) (x2 : App) (k : Int) : Option (Int ⊕ (Int ⊕ Unit)) :=
 (
 bif decide (k < (x2.Asks.length : Int)) then
  (aT x2).bind fun x3 =>
  bif x3 then
  some (x2.Queue == path)
  else
  some false
 else
  some false).bind fun q =>
 bif q then
 (
  (idx x2.Asks k).bind fun x4 =>
  bif x4.Label == label then
  (idx x2.Asks k).bind fun x5 =>
  some (decide ((w64 (x5.Size.Mem + x.Mem)) ≤ x1.Mem))
  else
  some false).bind fun q1 =>
 bif q1 then
  (dc s path label).bind fun x6 =>
  some (.inr (.inl (imin x6.Mem (w64 (x1.Mem - x.Mem)))))
 else
  some (.inl (w64 (k + 1)))
 else
 some (.inr (.inr ()))
def e_ (s : State) (path : List UInt8) (label : Int) (x : Vec) (x1 : Vec) (i : Int) : Option (Int ⊕ (Int ⊕ Unit)) :=
 bif decide (i < (s.Apps.length : Int)) then
 (idx s.Apps i).bind fun x2 =>
 (loop (fb s path label x x1 x2) 0).bind fun q0 =>
 match q0 with
 | .inl q2 =>
  some (.inr (.inl q2))
 | .inr _ =>
  some (.inl (w64 (i + 1)))
 else
 some (.inr (.inr ()))
def iZ (s : State) (path : List UInt8) (label : Int) : Option Int :=
 (aR s path label).bind fun x =>
 (bg s path label).bind fun x1 =>
 (loop (e_ s path label x x1) 0).bind fun q0 =>
 match q0 with
 | .inl q3 =>
 some q3
 | .inr _ =>
 some 0
def h42 : Hint:=(.s .z (.s .z (.s (.s .z (.b (.l [(9,.v (.int .i64) [])] [6,9,10,11,48,71] [(1,[(6,.v (.int .i64) [])]),(2,[])] (.s .z (.s (.b (.s .z (.s .z (.b (.l [(11,.v (.int .i64) [])] [6,11,48,71] [(1,[(6,.v (.int .i64) [])]),(4,[])] (.s (.s (.j [] [(0,[(48,.v .bool [])])] .z) .z) (.s (.b (.s (.j [] [(0,[(71,.v .bool [])])] .z) .z)) .z))))))) .z))))) .z)))
def sp42 : Spec fam:=⟨[.v (.st 10) [],.v .str [],.v (.int .i64) []],[.v (.int .i64) []],fun a => iZ a.1 a.2.1 a.2.2.1⟩
def cb (s : State) (c : Cont) : Option (List UInt8) :=
 (aO s c.App).bind fun x =>
 some x.1.Queue
def h97 : Hint:=.z
def sp97 : Spec fam:=⟨[.v (.st 10) [],.v (.st 7) []],[.v .str []],fun a => cb a.1 a.2.1⟩
def eJ (l : List Int) (n : Int) (i : Int) : Option (Int ⊕ (Bool ⊕ Unit)) :=
 bif decide (i < (l.length : Int)) then
 (idx l i).bind fun x =>
 bif x == n then
  some (.inr (.inl true))
 else
  some (.inl (w64 (i + 1)))
 else
 some (.inr (.inr ()))
def eV (l : List Int) (n : Int) : Option Bool :=
 (loop (eJ l n) 0).bind fun q0 =>
 match q0 with
 | .inl q =>
 some q
 | .inr _ =>
 some false
def h98 : Hint:=(.s .z (.s (.s .z (.b (.l [(5,.v (.int .i64) [])] [4,5] [(1,[(4,.v .bool [])]),(2,[])] .z))) .z))
def sp98 : Spec fam:=⟨[.v (.slice (.int .i64)) [],.v (.int .i64) []],[.v .bool []],fun a => eV a.1 a.2.1⟩
def ei (s : State) (path : List UInt8) (label : Int) (l : List Int) (t : Int × Int) : Option ((Int × Int) ⊕ Int) :=
 bif decide (t.2 < (s.Conts.length : Int)) then
 (
  (idx s.Conts t.2).bind fun x =>
  (
  bif x.Label == label then
   bif path == ([] : List UInt8) then
   bif x.Notice != 0 then
    some true
   else
    (eV l x.Id).bind fun x1 =>
    some x1
   else
   (cb s x).bind fun x2 =>
   bif x2 == path then
    bif x.Notice != 0 then
    some true
    else
    (eV l x.Id).bind fun x3 =>
    some x3
   else
    some false
  else
   some false).bind fun q =>
  bif q then
  let n:=w64 (t.1 + x.Size.Mem)
  some n
  else
  some t.1).bind fun n1 =>
 some (.inl (n1,w64 (t.2 + 1)))
 else
 some (.inr t.1)
def dU (s : State) (path : List UInt8) (label : Int) (l : List Int) : Option Int :=
 (loop (ei s path label l) (0,0)).bind fun n2 =>
 some n2
def h43 : Hint:=(.s .z (.s .z (.s (.s .z (.b (.l [(9,.v (.int .i64) []),(10,.v (.int .i64) [])] [9,10,11,49] [(2,[(9,.v (.int .i64) [])])] (.s .z (.s (.j [9,11,49] [(0,[(9,.v (.int .i64) [])])] (.b (.s .z (.s (.j [] [(0,[(49,.v .bool [])])] .z) .z)))) .z))))) .z)))
def sp43 : Spec fam:=⟨[.v (.st 10) [],.v .str [],.v (.int .i64) [],.v (.slice (.int .i64)) []],[.v (.int .i64) []],fun a => dU a.1 a.2.1 a.2.2.1 a.2.2.2.1⟩
def eh (s : State) (path : List UInt8) (label : Int) (l : List Int) (t : Cont × Bool × Int) : Option ((Cont × Bool × Int) ⊕ ((Cont × Bool))) :=
 bif decide (t.2.2 < (s.Conts.length : Int)) then
 (
  (idx s.Conts t.2.2).bind fun x =>
  (
  bif x.Label != label then
   some true
  else
   (cb s x).bind fun x1 =>
   bif ! (x1 == path) then
   some true
   else
   bif x.Notice != 0 then
    some true
   else
    (eV l x.Id).bind fun x2 =>
    some x2).bind fun q =>
  bif q then
  some (t.1,t.2.1)
  else
  (
   bif ! t.2.1 then
   some true
   else
   bif t.1.Master then
    bif ! x.Master then
    some true
    else
    bif t.1.Master == x.Master then
     some (decide (x.Id > t.1.Id))
    else
     some false
   else
    bif t.1.Master == x.Master then
    some (decide (x.Id > t.1.Id))
    else
    some false).bind fun q1 =>
  bif q1 then
   some (x,true)
  else
   some (t.1,t.2.1)).bind fun q2 =>
 some (.inl (q2.1,q2.2,w64 (t.2.2 + 1)))
 else
 some (.inr (t.1,t.2.1))
def ip (s : State) (path : List UInt8) (label : Int) (l : List Int) : Option (Cont × Bool) :=
 (loop (eh s path label l) ((⟨0,0,0,⟨0,0⟩,0,0,false,0⟩ : Cont),false,0)).bind fun q3 =>
 some (q3.1,q3.2)
def h44 : Hint:=(.s .z (.s .z (.s (.s .z (.b (.l [(10,.box (.st 7) []),(11,.v .bool []),(12,.v (.int .i64) [])] [10,11,12,13,48,73] [(2,[(10,.box (.st 7) []),(11,.v .bool [])])] (.s .z (.s (.j [10,11,13,48,73] [(0,[(10,.box (.st 7) []),(11,.v .bool [])])] (.b (.s .z (.s (.s (.j [] [(0,[(48,.v .bool [])])] .z) .z) (.s (.j [] [(0,[(73,.v .bool [])])] .z) .z))))) .z))))) .z)))
def sp44 : Spec fam:=⟨[.v (.st 10) [],.v .str [],.v (.int .i64) [],.v (.slice (.int .i64)) []],[.v (.st 7) [],.v .bool []],fun a => ip a.1 a.2.1 a.2.2.1 a.2.2.2.1⟩
def gk (s : State) (label : Int) (shares : List Share) (l : List Int) (t1 : Int × Cont × Int) : Option ((Int × Cont × Int) ⊕ ((Int × Cont))) :=
 bif decide (t1.2.2 < (shares.length : Int)) then
 (
  (inb t1.2.2 shares.length).bind fun i1 =>
  (shares[i1]?).bind fun x5 =>
  (aR s x5.Path label).bind fun x6 =>
  (inb t1.2.2 shares.length).bind fun i2 =>
  (shares[i2]?).bind fun x7 =>
  (dU s x5.Path label l).bind fun x8 =>
  let over:=w64 ((w64 (x6.Mem - x7.Mem)) - x8)
  (ip s x5.Path label l).bind fun x9 =>
  (
  bif x9.2 then
   some (decide (over > t1.1))
  else
   some false).bind fun q =>
  bif q then
  some (over,x9.1)
  else
  some (t1.1,t1.2.1)).bind fun q1 =>
 some (.inl (q1.1,q1.2,w64 (t1.2.2 + 1)))
 else
 some (.inr (t1.1,t1.2.1))
def om (s : State) (label : Int) (shares : List Share) (need1 : Int) (l : List Int) : Option (List Int ⊕ (List Int ⊕ List Int)) :=
 (dU s ([] : List UInt8) label l).bind fun x4 =>
 bif decide (x4 < need1) then
 (loop (gk s label shares l) (0,(⟨0,0,0,⟨0,0⟩,0,0,false,0⟩ : Cont),0)).bind fun q2 =>
 bif q2.1 == 0 then
  some (.inr (.inl l))
 else
  (app 8 l [q2.2.Id]).bind fun l1 =>
  some (.inl l1)
 else
 some (.inr (.inr l))
def gE (s : State) (label : Int) (shares : List Share) (t : Int × Int) : Option ((Int × Int) ⊕ Int) :=
 bif decide (t.2 < (shares.length : Int)) then
 (inb t.2 shares.length).bind fun i =>
 (shares[i]?).bind fun x2 =>
 (iZ s x2.Path label).bind fun x3 =>
 some (.inl (w64 (t.1 + x3),w64 (t.2 + 1)))
 else
 some (.inr t.1)
def jO (s : State) (label : Int) : Option (List Int) :=
 (bM s label).bind fun shares =>
 (bL s label).bind fun x =>
 (aR s ([114,111,111,116] : List UInt8) label).bind fun x1 =>
 let need:=w64 (0 - (imax (w64 (x.Mem - x1.Mem)) 0))
 (loop (gE s label shares) (need,0)).bind fun need1 =>
 (loop (om s label shares need1) []).bind fun q0 =>
 match q0 with
 | .inl q3 =>
 some q3
 | .inr l2 =>
 some l2
def h16 : Hint:=(.s .z (.s .z (.s .z (.s (.s .z (.b (.l [(6,.v (.int .i64) []),(7,.v (.int .i64) [])] [6,7] [(2,[(6,.v (.int .i64) [])])] .z))) (.s .z (.s (.b (.l [(8,.v (.slice (.int .i64)) [0])] [4,8,9,10,11,12,13,14,94] [(1,[(4,.v (.slice (.int .i64)) [0])]),(4,[(8,.v (.slice (.int .i64)) [0])])] (.s .z (.b (.s .z (.s (.s .z (.b (.l [(9,.v (.int .i64) []),(10,.box (.st 7) []),(11,.v (.int .i64) [])] [9,10,11,12,13,14,94] [(6,[(9,.v (.int .i64) []),(10,.box (.st 7) [])])] (.s .z (.s (.j [9,10,12,13,14,94] [(0,[(9,.v (.int .i64) []),(10,.box (.st 7) [])])] (.b (.s .z (.s .z (.s .z (.s (.j [] [(0,[(94,.v .bool [])])] .z) .z)))))) .z))))) .z)))))) .z))))))
def sp16 : Spec fam:=⟨[.v (.st 10) [],.v (.int .i64) []],[.v (.slice (.int .i64)) [0]],fun a => jO a.1 a.2.1⟩
def bj (path : List UInt8) (l : List Share) (i : Int) : Option (Int ⊕ (Int ⊕ Unit)) :=
 bif decide (i < (l.length : Int)) then
 (inb i l.length).bind fun i1 =>
 (l[i1]?).bind fun x =>
 bif x.Path == path then
  (inb i l.length).bind fun i2 =>
  (l[i2]?).bind fun x1 =>
  some (.inr (.inl (x1.Mem)))
 else
  some (.inl (w64 (i + 1)))
 else
 some (.inr (.inr ()))
def cC (s : State) (label : Int) (path : List UInt8) : Option Int :=
 (bM s label).bind fun l =>
 (loop (bj path l) 0).bind fun q0 =>
 match q0 with
 | .inl q =>
 some q
 | .inr _ =>
 some 0
def h24 : Hint:=(.s .z (.s .z (.s (.s .z (.b (.l [(8,.v (.int .i64) [])] [6,8] [(1,[(6,.v (.int .i64) [])]),(2,[])] .z))) .z)))
def sp24 : Spec fam:=⟨[.v (.st 10) [],.v (.int .i64) [],.v .str []],[.v (.int .i64) []],fun a => cC a.1 a.2.1 a.2.2.1⟩
def gD (id_ : Int) (t : Int) (t1 : List Cont × Int) : Option ((List Cont × Int) ⊕ List Cont) :=
 bif decide (t1.2 < (t1.1.length : Int)) then
 (
  (inb t1.2 t1.1.length).bind fun i =>
  (t1.1[i]?).bind fun x =>
  bif x.Id == id_ then
  (inb t1.2 t1.1.length).bind fun i1 =>
  (t1.1[i1]?).bind fun x1 =>
  some (List.set t1.1 i1 (⟨x1.Id,x1.App,x1.Node,⟨x1.Size.Mem,x1.Size.Cores⟩,x1.Prio,x1.Label,x1.Master,t⟩ : Cont))
  else
  some t1.1).bind fun l1 =>
 some (.inl (l1,w64 (t1.2 + 1)))
 else
 some (.inr t1.1)
def fw (s : State) (id_ : Int) (t : Int) : Option State :=
 (app 72 [] s.Conts).bind fun l =>
 (loop (gD id_ t) (l,0)).bind fun l2 =>
 some (⟨⟨s.Conf.Labels,s.Conf.Queues⟩,s.Nodes,s.Apps,l2,s.Slots,s.Plans,s.Now,s.Epoch,s.Seq⟩ : State)
def h53 : Hint:=(.s .z (.s .z (.s (.s .z (.b (.l [(7,.row (.st 7) false),(8,.v (.int .i64) [])] [7,8] [(2,[(7,.row (.st 7) false)])] (.s .z (.s (.j [7] [(0,[(7,.row (.st 7) false)])] .z) .z))))) .z)))
def sp53 : Spec fam:=⟨[.v (.st 10) [],.v (.int .i64) [],.v (.int .i64) []],[.v (.st 10) [4]],fun a => fw a.1 a.2.1 a.2.2.1⟩
def eu (s : State) (c : Cont) (t : Int × Int) : Option ((Int × Int) ⊕ Int) :=
 (
 bif decide (t.2 < (s.Conts.length : Int)) then
  some c.Master
 else
  some false).bind fun q =>
 bif q then
 (
  (
  (idx s.Conts t.2).bind fun x =>
  bif x.App == c.App then
   (idx s.Conts t.2).bind fun x1 =>
   bif x1.Id != c.Id then
   (idx s.Conts t.2).bind fun x2 =>
   some (x2.Label == c.Label)
   else
   some false
  else
   some false).bind fun q1 =>
  bif q1 then
  (idx s.Conts t.2).bind fun x3 =>
  let n:=w64 (t.1 + x3.Size.Mem)
  some n
  else
  some t.1).bind fun n1 =>
 some (.inl (n1,w64 (t.2 + 1)))
 else
 some (.inr t.1)
def ij (s : State) (c : Cont) : Option Int :=
 (loop (eu s c) (0,0)).bind fun n2 =>
 some n2
def h113 : Hint:=(.s .z (.s .z (.s (.s .z (.b (.l [(5,.v (.int .i64) []),(6,.v (.int .i64) [])] [5,6,15,48] [(2,[(5,.v (.int .i64) [])])] (.s (.s (.j [] [(0,[(15,.v .bool [])])] .z) .z) (.s (.j [5,48] [(0,[(5,.v (.int .i64) [])])] (.b (.s (.j [] [(0,[(48,.v .bool [])])] .z) .z))) .z))))) .z)))
def sp113 : Spec fam:=⟨[.v (.st 10) [],.v (.st 7) []],[.v (.int .i64) []],fun a => ij a.1 a.2.1⟩
def gp (label : Int) (l2 : List Cont) (t1 : State × Int) : Option ((State × Int) ⊕ State) :=
 bif decide (t1.2 < (l2.length : Int)) then
 (
  (inb t1.2 l2.length).bind fun i1 =>
  (l2[i1]?).bind fun x1 =>
  (a7 t1.1 x1.Id).bind fun x2 =>
  bif ! x2.2 then
  some t1.1
  else
  (cb t1.1 x2.1).bind fun x3 =>
  (aR t1.1 x3 label).bind fun x4 =>
  (ij t1.1 x2.1).bind fun x5 =>
  (cb t1.1 x2.1).bind fun x6 =>
  (cC t1.1 label x6).bind fun x7 =>
  bif decide ((w64 (x4.Mem - x5)) > x7) then
   (ce t1.1 [x2.1.Id]).bind fun x8 =>
   some x8
  else
   (fw t1.1 x2.1.Id 0).bind fun x9 =>
   some x9).bind fun s1 =>
 some (.inl (s1,w64 (t1.2 + 1)))
 else
 some (.inr t1.1)
def ou (s : State) (label : Int) (t : List Cont × Int) : Option ((List Cont × Int) ⊕ List Cont) :=
 bif decide (t.2 ≥ 0) then
 (
  (idx s.Conts t.2).bind fun x =>
  (
  bif x.Label == label then
   bif x.Notice != 0 then
   some (decide ((w64 (x.Notice + 3)) ≤ s.Now))
   else
   some false
  else
   some false).bind fun q =>
  bif q then
  (app 72 t.1 [x]).bind fun l =>
  some l
  else
  some t.1).bind fun l1 =>
 some (.inl (l1,w64 (t.2 - 1)))
 else
 some (.inr t.1)
def j7 (s : State) (label : Int) : Option State :=
 let i:=w64 ((s.Conts.length : Int) - 1)
 (loop (ou s label) ([],i)).bind fun l2 =>
 (loop (gp label l2) (s,0)).bind fun s2 =>
 some s2
def h52 : Hint:=(.s .z (.s .z (.s (.s .z (.b (.l [(5,.v (.slice (.st 7)) [0]),(6,.v (.int .i64) [])] [5,6,7,40] [(2,[(5,.v (.slice (.st 7)) [0])])] (.s .z (.s (.j [5,7,40] [(0,[(5,.v (.slice (.st 7)) [0])])] (.b (.s .z (.s (.j [] [(0,[(40,.v .bool [])])] .z) .z)))) .z))))) (.s (.s .z (.b (.l [(2,.box (.st 10) []),(8,.v (.int .i64) [])] [2,8,9] [(4,[(2,.box (.st 10) [])])] (.s .z (.s (.j [2,9] [(0,[(2,.box (.st 10) [])])] .z) .z))))) .z))))
def sp52 : Spec fam:=⟨[.v (.st 10) [],.v (.int .i64) []],[.v (.st 10) []],fun a => j7 a.1 a.2.1⟩
def gn (was : State) (now : State) (t : List Int × Int) : Option ((List Int × Int) ⊕ List Int) :=
 bif decide (t.2 < (was.Conts.length : Int)) then
 (
  (idx was.Conts t.2).bind fun x =>
  (a7 now x.Id).bind fun x1 =>
  bif ! x1.2 then
  (idx was.Conts t.2).bind fun x2 =>
  (app 8 t.1 [x2.Id]).bind fun l =>
  some l
  else
  some t.1).bind fun l1 =>
 some (.inl (l1,w64 (t.2 + 1)))
 else
 some (.inr t.1)
def fy (was : State) (now : State) : Option (List Int) :=
 (loop (gn was now) ([],0)).bind fun l2 =>
 some l2
def h54 : Hint:=(.s .z (.s .z (.s (.s .z (.b (.l [(5,.v (.slice (.int .i64)) [0]),(6,.v (.int .i64) [])] [5,6] [(2,[(5,.v (.slice (.int .i64)) [0])])] (.s .z (.s (.j [5] [(0,[(5,.v (.slice (.int .i64)) [0])])] .z) .z))))) .z)))
def sp54 : Spec fam:=⟨[.v (.st 10) [],.v (.st 10) []],[.v (.slice (.int .i64)) [0]],fun a => fy a.1 a.2.1⟩
def eZ (l : List Int) (t1 : State × Int) : Option ((State × Int) ⊕ State) :=
 bif decide (t1.2 < (l.length : Int)) then
 (inb t1.2 l.length).bind fun i =>
 (l[i]?).bind fun x1 =>
 (fw t1.1 x1 (imax t1.1.Now 1)).bind fun x2 =>
 some (.inl (x2,w64 (t1.2 + 1)))
 else
 some (.inr t1.1)
def nx (t : State × Int) : Option ((State × Int) ⊕ State) :=
 bif decide (t.2 < (t.1.Conf.Labels.length : Int)) then
 (j7 t.1 t.2).bind fun x =>
 (jO x t.2).bind fun l =>
 (loop (eZ l) (x,0)).bind fun s1 =>
 some (.inl (s1,w64 (t.2 + 1)))
 else
 some (.inr t.1)
def jn (s : State) : Option (State × List Int) :=
 (loop nx (s,0)).bind fun s2 =>
 (fy s s2).bind fun x3 =>
 some (s2,x3)
def h18 : Hint:=(.s .z (.s .z (.s (.s .z (.b (.l [(1,.box (.st 10) []),(5,.v (.int .i64) [])] [1,5,6,7] [(2,[(1,.box (.st 10) [])])] (.s .z (.s (.b (.s .z (.s .z (.s .z (.b (.l [(1,.box (.st 10) []),(7,.v (.int .i64) [])] [1,7] [(4,[(1,.box (.st 10) [])])] .z)))))) .z))))) .z)))
def sp18 : Spec fam:=⟨[.v (.st 10) []],[.v (.st 10) [],.v (.slice (.int .i64)) [0]],fun a => jn a.1⟩
def ff (s : State) (t : List Int × Int) : Option ((List Int × Int) ⊕ List Int) :=
 bif decide (t.2 < (s.Nodes.length : Int)) then
 (
  (
  (idx s.Nodes t.2).bind fun x =>
  bif x.Up then
   (idx s.Nodes t.2).bind fun x1 =>
   some (decide ((w64 (s.Now - x1.Seen)) ≥ 10))
  else
   some false).bind fun q =>
  bif q then
  (idx s.Nodes t.2).bind fun x2 =>
  (app 8 t.1 [x2.Id]).bind fun l =>
  some l
  else
  some t.1).bind fun l1 =>
 some (.inl (l1,w64 (t.2 + 1)))
 else
 some (.inr t.1)
def jl (s : State) : Option (List Int) :=
 (loop (ff s) ([],0)).bind fun l2 =>
 some l2
def h139 : Hint:=(.s .z (.s .z (.s (.s .z (.b (.l [(3,.v (.slice (.int .i64)) [0]),(4,.v (.int .i64) [])] [3,4,29] [(2,[(3,.v (.slice (.int .i64)) [0])])] (.s .z (.s (.j [3,29] [(0,[(3,.v (.slice (.int .i64)) [0])])] (.b (.s (.j [] [(0,[(29,.v .bool [])])] .z) .z))) .z))))) .z)))
def sp139 : Spec fam:=⟨[.v (.st 10) []],[.v (.slice (.int .i64)) [0]],fun a => jl a.1⟩
def kw (s : State) (id_ : Int) : Option State :=
 (bC s id_).bind fun x =>
 bif ! x.2 then
 some s
 else
 (eO s (⟨x.1.Id,x.1.Label,x.1.Rack,⟨x.1.Cap.Mem,x.1.Cap.Cores⟩,x.1.Seen,x.1.Beat,false⟩ : Node)).bind fun x1 =>
 some x1
def h141 : Hint:=.z
def sp141 : Spec fam:=⟨[.v (.st 10) [],.v (.int .i64) []],[.v (.st 10) []],fun a => kw a.1 a.2.1⟩
def ef (s : State) (t : List Int × Int) : Option ((List Int × Int) ⊕ List Int) :=
 bif decide (t.2 < (s.Apps.length : Int)) then
 (
  (
  (idx s.Apps t.2).bind fun x =>
  bif x.State == 2 then
   (idx s.Apps t.2).bind fun x1 =>
   some (decide ((w64 (s.Now - x1.Seen)) ≥ 15))
  else
   some false).bind fun q =>
  bif q then
  (idx s.Apps t.2).bind fun x2 =>
  (app 8 t.1 [x2.Id]).bind fun l =>
  some l
  else
  some t.1).bind fun l1 =>
 some (.inl (l1,w64 (t.2 + 1)))
 else
 some (.inr t.1)
def iw (s : State) : Option (List Int) :=
 (loop (ef s) ([],0)).bind fun l2 =>
 some l2
def h142 : Hint:=(.s .z (.s .z (.s (.s .z (.b (.l [(3,.v (.slice (.int .i64)) [0]),(4,.v (.int .i64) [])] [3,4,30] [(2,[(3,.v (.slice (.int .i64)) [0])])] (.s .z (.s (.j [3,30] [(0,[(3,.v (.slice (.int .i64)) [0])])] (.b (.s (.j [] [(0,[(30,.v .bool [])])] .z) .z))) .z))))) .z)))
def sp142 : Spec fam:=⟨[.v (.st 10) []],[.v (.slice (.int .i64)) [0]],fun a => iw a.1⟩
def fT (s : State) (app_ : Int) (i : Int) : Option (Int ⊕ (Int ⊕ Unit)) :=
 bif decide (i < (s.Conts.length : Int)) then
 (
  (idx s.Conts i).bind fun x =>
  bif x.App == app_ then
  (idx s.Conts i).bind fun x1 =>
  some x1.Master
  else
  some false).bind fun q =>
 bif q then
  (idx s.Conts i).bind fun x2 =>
  some (.inr (.inl (x2.Id)))
 else
  some (.inl (w64 (i + 1)))
 else
 some (.inr (.inr ()))
def jF (s : State) (app_ : Int) : Option Int :=
 (loop (fT s app_) 0).bind fun q0 =>
 match q0 with
 | .inl q1 =>
 some q1
 | .inr _ =>
 some (-1)
def h143 : Hint:=(.s .z (.s (.s .z (.b (.l [(5,.v (.int .i64) [])] [4,5,28] [(1,[(4,.v (.int .i64) [])]),(2,[])] (.s .z (.s (.b (.s (.j [] [(0,[(28,.v .bool [])])] .z) .z)) .z))))) .z))
def sp143 : Spec fam:=⟨[.v (.st 10) [],.v (.int .i64) []],[.v (.int .i64) []],fun a => jF a.1 a.2.1⟩
def gd (s2 : State) (t2 : List Plan × Int) : Option ((List Plan × Int) ⊕ List Plan) :=
 bif decide (t2.2 < (s2.Plans.length : Int)) then
 (
  (idx s2.Plans t2.2).bind fun x12 =>
  bif decide (x12.Until > s2.Now) then
  (idx s2.Plans t2.2).bind fun x13 =>
  (app 48 t2.1 [x13]).bind fun l2 =>
  some l2
  else
  some t2.1).bind fun ps =>
 some (.inl (ps,w64 (t2.2 + 1)))
 else
 some (.inr t2.1)
def gC (l1 : List Int) (t1 : State × Int) : Option ((State × Int) ⊕ State) :=
 bif decide (t1.2 < (l1.length : Int)) then
 (inb t1.2 l1.length).bind fun i3 =>
 (l1[i3]?).bind fun x9 =>
 (jF t1.1 x9).bind fun x10 =>
 (ce t1.1 [x10]).bind fun x11 =>
 some (.inl (x11,w64 (t1.2 + 1)))
 else
 some (.inr t1.1)
def gu (l : List Int) (t : State × Int) : Option ((State × Int) ⊕ State) :=
 bif decide (t.2 < (l.length : Int)) then
 (inb t.2 l.length).bind fun i =>
 (l[i]?).bind fun x2 =>
 (kw t.1 x2).bind fun x3 =>
 (inb t.2 l.length).bind fun i1 =>
 (l[i1]?).bind fun x4 =>
 (ci x3 x4).bind fun x5 =>
 (inb t.2 l.length).bind fun i2 =>
 (l[i2]?).bind fun x6 =>
 (eW x5 x6).bind fun x7 =>
 (ce x5 x7).bind fun x8 =>
 some (.inl (x8,w64 (t.2 + 1)))
 else
 some (.inr t.1)
def jH (s : State) (n : Int) : Option (State × Output) :=
 (
 bif decide (n < 1) then
  some true
 else
  some (decide (n > 100))).bind fun q =>
 bif q then
 (aN s 1).bind fun x =>
 some (x.1,x.2)
 else
 bif decide ((w64 (s.Now + n)) > 1000000000) then
  (aN s 11).bind fun x1 =>
  some (x1.1,x1.2)
 else
  (jl (⟨⟨s.Conf.Labels,s.Conf.Queues⟩,s.Nodes,s.Apps,s.Conts,s.Slots,s.Plans,w64 (s.Now + n),s.Epoch,s.Seq⟩ : State)).bind fun l =>
  (loop (gu l) ((⟨⟨s.Conf.Labels,s.Conf.Queues⟩,s.Nodes,s.Apps,s.Conts,s.Slots,s.Plans,w64 (s.Now + n),s.Epoch,s.Seq⟩ : State),0)).bind fun s1 =>
  (iw s1).bind fun l1 =>
  (loop (gC l1) (s1,0)).bind fun s2 =>
  (loop (gd s2) ([],0)).bind fun ps1 =>
  (jn (⟨⟨s2.Conf.Labels,s2.Conf.Queues⟩,s2.Nodes,s2.Apps,s2.Conts,s2.Slots,ps1,s2.Now,s2.Epoch,s2.Seq⟩ : State)).bind fun x14 =>
  (fy s x14.1).bind fun x15 =>
  some (x14.1,(⟨0,[],[],x15,0⟩ : Output))
def h74 : Hint:=(.s .z (.s (.s (.j [] [(0,[(17,.v .bool [])])] .z) .z) (.s .z (.s .z (.s .z (.s .z (.s (.s .z (.b (.l [(2,.box (.st 10) []),(8,.v (.int .i64) [])] [2,8] [(2,[(2,.box (.st 10) [])])] .z))) (.s .z (.s (.s .z (.b (.l [(2,.box (.st 10) []),(9,.v (.int .i64) [])] [2,9] [(4,[(2,.box (.st 10) [])])] .z))) (.s .z (.s (.s .z (.b (.l [(10,.v (.slice (.st 9)) [0]),(11,.v (.int .i64) [])] [10,11] [(6,[(10,.v (.slice (.st 9)) [0])])] (.s .z (.s (.j [10] [(0,[(10,.v (.slice (.st 9)) [0])])] .z) .z))))) .z)))))))))))
def sp74 : Spec fam:=⟨[.v (.st 10) [],.v (.int .i64) []],[.v (.st 10) [],.v (.st 13) [1,2,3]],fun a => jH a.1 a.2.1⟩
def j6 (n : Int) : Option Bool :=
 bif decide (n ≥ 0) then
 some (decide (n ≤ 1073741824))
 else
 some false
def h193 : Hint:=.z
def sp193 : Spec fam:=⟨[.v (.int .i64) []],[.v .bool []],fun a => j6 a.1⟩
def ja (l : List Plan) (label : Int) (t : Int) (t1 : Vec × Int) : Option ((Vec × Int) ⊕ Vec) :=
 bif decide (t1.2 < (l.length : Int)) then
 (
  (
  (idx l t1.2).bind fun x =>
  bif x.Label == label then
   (idx l t1.2).bind fun x1 =>
   bif decide (x1.From ≤ t) then
   (idx l t1.2).bind fun x2 =>
   some (decide (t < x2.Until))
   else
   some false
  else
   some false).bind fun q =>
  bif q then
  (idx l t1.2).bind fun x3 =>
  (aJ t1.1 x3.Need).bind fun x4 =>
  some x4
  else
  some t1.1).bind fun v =>
 some (.inl (v,w64 (t1.2 + 1)))
 else
 some (.inr t1.1)
def iR (l : List Plan) (label : Int) (t : Int) : Option Vec :=
 (loop (ja l label t) ((⟨0,0⟩ : Vec),0)).bind fun v1 =>
 some v1
def h225 : Hint:=(.s .z (.s .z (.s (.s .z (.b (.l [(7,.box (.st 0) []),(8,.v (.int .i64) [])] [7,8,40] [(2,[(7,.box (.st 0) [])])] (.s .z (.s (.j [7,40] [(0,[(7,.box (.st 0) [])])] (.b (.s (.j [] [(0,[(40,.v .bool [])])] .z) .z))) .z))))) .z)))
def sp225 : Spec fam:=⟨[.v (.slice (.st 9)) [],.v (.int .i64) [],.v (.int .i64) []],[.v (.st 0) []],fun a => iR a.1 a.2.1 a.2.2.1⟩
def fZ (l : List Plan) (total : Vec) (p : Plan) (t : Int) (long : Int) (i : Int) : Option (Int ⊕ (Bool ⊕ Unit)) :=
 bif decide (i < (l.length : Int)) then
 (idx l i).bind fun x3 =>
 (
  bif decide (x3.From > t) then
  bif decide ((w64 (x3.From - t)) < long) then
   (iR l p.Label x3.From).bind fun x4 =>
   (aJ x4 p.Need).bind fun x5 =>
   (aW x5 total).bind fun x6 =>
   some (! x6)
  else
   some false
  else
  some false).bind fun q =>
 bif q then
  some (.inr (.inl false))
 else
  some (.inl (w64 (i + 1)))
 else
 some (.inr (.inr ()))
def fP (l : List Plan) (total : Vec) (p : Plan) (t : Int) (long : Int) : Option Bool :=
 (iR l p.Label t).bind fun x =>
 (aJ x p.Need).bind fun x1 =>
 (aW x1 total).bind fun x2 =>
 bif ! x2 then
 some false
 else
 (loop (fZ l total p t long) 0).bind fun q0 =>
 match q0 with
 | .inl q1 =>
  some q1
 | .inr _ =>
  some true
def h194 : Hint:=(.s .z (.s .z (.s (.s .z (.b (.l [(11,.v (.int .i64) [])] [10,11,57] [(1,[(10,.v .bool [])]),(2,[])] (.s .z (.s (.b (.s .z (.s (.j [] [(0,[(57,.v .bool [])])] .z) .z))) .z))))) .z)))
def sp194 : Spec fam:=⟨[.v (.slice (.st 9)) [],.v (.st 0) [],.v (.st 9) [],.v (.int .i64) [],.v (.int .i64) []],[.v .bool []],fun a => fP a.1 a.2.1 a.2.2.1 a.2.2.2.1 a.2.2.2.2.1⟩
def nr (l : List Plan) (total : Vec) (p : Plan) (long : Int) (t : Int × Int) : Option ((Int × Int) ⊕ Int) :=
 bif decide (t.2 < (l.length : Int)) then
 (
  (
  bif decide (t.2 ≥ 0) then
   (idx l t.2).bind fun x2 =>
   some x2.Until
  else
   some p.From).bind fun t1 =>
  (
  bif decide (t1 ≥ p.From) then
   bif decide (t1 ≤ 1000000) then
   bif decide ((w64 (t1 + long)) ≤ p.Until) then
    bif decide (t.1 < 0) then
    (fP l total p t1 long).bind fun x3 =>
    some x3
    else
    bif decide (t1 < t.1) then
     (fP l total p t1 long).bind fun x4 =>
     some x4
    else
     some false
   else
    some false
   else
   some false
  else
   some false).bind fun q1 =>
  bif q1 then
  some t1
  else
  some t.1).bind fun best =>
 some (.inl (best,w64 (t.2 + 1)))
 else
 some (.inr t.1)
def jg (l : List Plan) (total : Vec) (p : Plan) (long : Int) : Option (Int × Int) :=
 (
 bif decide (long < 1) then
  some true
 else
  bif decide (long > 1000) then
  some true
  else
  bif decide (p.From < 0) then
   some true
  else
   bif decide (p.From > 1000000) then
   some true
   else
   bif decide (p.Until < 0) then
    some true
   else
    bif decide (p.Until > 1000000) then
    some true
    else
    (j6 p.Need.Mem).bind fun x =>
    bif ! x then
     some true
    else
     (j6 p.Need.Cores).bind fun x1 =>
     some (! x1)).bind fun q =>
 bif q then
 some (0,1)
 else
 (loop (nr l total p long) ((-1),(-1))).bind fun best1 =>
 bif decide (best1 < 0) then
  some (0,16)
 else
  some (best1,0)
def h144 : Hint:=(.s .z (.s (.s (.j [] [(0,[(52,.v .bool [])])] .z) .z) (.s .z (.s (.s .z (.b (.l [(10,.v (.int .i64) []),(11,.v (.int .i64) [])] [10,11,12,100] [(2,[(10,.v (.int .i64) [])])] (.s .z (.s (.j [10,12,100] [(0,[(10,.v (.int .i64) [])])] (.b (.s .z (.s (.j [12] [(0,[(12,.v (.int .i64) [])])] .z) (.s (.j [] [(0,[(100,.v .bool [])])] .z) .z))))) .z))))) .z))))
def sp144 : Spec fam:=⟨[.v (.slice (.st 9)) [],.v (.st 0) [],.v (.st 9) [],.v (.int .i64) []],[.v (.int .i64) [],.v (.int .i64) []],fun a => jg a.1 a.2.1 a.2.2.1 a.2.2.2.1⟩
def hJ (s : State) (p : Plan) (t : State × Int × Int) : Option ((State × Int × Int) ⊕ ((State × Int × Int) ⊕ (State × Int))) :=
 bif decide (t.2.2 < (s.Plans.length : Int)) then
 (
  (idx s.Plans t.2.2).bind fun x =>
  bif x.Id == p.Id then
  some (.inr (s,0,7))
  else
  (idx s.Plans t.2.2).bind fun x1 =>
  bif decide (x1.Id < p.Id) then
   some (.inl (t.1,w64 (t.2.2 + 1)))
  else
   some (.inl (t.1,t.2.1)) : Option ((State × Int) ⊕ (State × Int × Int))).bind fun q0 =>
 match q0 with
 | .inl q1 =>
  some (.inl (q1.1,q1.2,w64 (t.2.2 + 1)))
 | .inr q2 =>
  some (.inr (.inl (q2.1,q2.2.1,q2.2.2)))
 else
 some (.inr (.inr (t.1,t.2.1)))
def ku (s : State) (p : Plan) (long : Int) : Option (State × Int × Int) :=
 (
 bif decide (p.Id < 0) then
  some true
 else
  bif decide (p.Id > 999) then
  some true
  else
  bif decide (p.Label < 0) then
   some true
  else
   bif decide (p.Label ≥ (s.Conf.Labels.length : Int)) then
   some true
   else
   some ((p.Need.Mem == 0) && (p.Need.Cores == 0))).bind fun q =>
 bif q then
 some (s,0,1)
 else
 (loop (hJ s p) ((⟨⟨[],[]⟩,[],[],[],[],[],0,0,0⟩ : State),0,0)).bind fun q0 =>
 match q0 with
 | .inl q3 =>
  some (q3.1,q3.2.1,q3.2.2)
 | .inr q4 =>
  bif decide ((s.Plans.length : Int) ≥ 12) then
  some (s,0,4)
  else
  bif decide (p.From < s.Now) then
   some (s,0,15)
  else
   (bL s p.Label).bind fun x2 =>
   (jg s.Plans x2 p long).bind fun x3 =>
   bif x3.2 != 0 then
   some (s,0,x3.2)
   else
   (slc s.Plans 0 q4.2).bind fun l =>
   (app 48 [] l).bind fun l1 =>
   (app 48 l1 [(⟨p.Id,p.Label,x3.1,w64 (x3.1 + long),⟨p.Need.Mem,p.Need.Cores⟩⟩ : Plan)]).bind fun l2 =>
   (slc s.Plans q4.2 (s.Plans.length : Int)).bind fun l3 =>
   (app 48 l2 l3).bind fun l4 =>
   some ((⟨⟨s.Conf.Labels,s.Conf.Queues⟩,s.Nodes,s.Apps,s.Conts,s.Slots,l4,s.Now,s.Epoch,s.Seq⟩ : State),x3.1,0)
def h75 : Hint:=(.s .z (.s (.s (.j [] [(0,[(41,.v .bool [])])] .z) .z) (.s .z (.s (.s .z (.b (.l [(6,.box (.st 10) [0,1,2,3,4,5,6]),(9,.v (.int .i64) []),(10,.v (.int .i64) [])] [6,7,8,9,10] [(1,[(6,.box (.st 10) []),(7,.v (.int .i64) []),(8,.v (.int .i64) [])]),(2,[(6,.box (.st 10) [0,1,2,3,4,5,6]),(9,.v (.int .i64) [])])] (.s .z (.s (.j [6,7,8,9] [(0,[(6,.box (.st 10) [0,1,2,3,4,5,6]),(9,.v (.int .i64) [])]),(1,[(6,.box (.st 10) []),(7,.v (.int .i64) []),(8,.v (.int .i64) [])])] .z) .z))))) .z))))
def sp75 : Spec fam:=⟨[.v (.st 10) [],.v (.st 9) [],.v (.int .i64) []],[.v (.st 10) [],.v (.int .i64) [],.v (.int .i64) []],fun a => ku a.1 a.2.1 a.2.2.1⟩
def fX (s : State) (id_ : Int) (t : List Plan × Int) : Option ((List Plan × Int) ⊕ List Plan) :=
 bif decide (t.2 < (s.Plans.length : Int)) then
 (
  (idx s.Plans t.2).bind fun x =>
  bif x.Id != id_ then
  (idx s.Plans t.2).bind fun x1 =>
  (app 48 t.1 [x1]).bind fun l =>
  some l
  else
  some t.1).bind fun l1 =>
 some (.inl (l1,w64 (t.2 + 1)))
 else
 some (.inr t.1)
def jY (s : State) (id_ : Int) : Option (State × Int) :=
 (loop (fX s id_) ([],0)).bind fun l2 =>
 bif (l2.length : Int) == (s.Plans.length : Int) then
 some (s,2)
 else
 some ((⟨⟨s.Conf.Labels,s.Conf.Queues⟩,s.Nodes,s.Apps,s.Conts,s.Slots,l2,s.Now,s.Epoch,s.Seq⟩ : State),0)
def h76 : Hint:=(.s .z (.s .z (.s (.s .z (.b (.l [(6,.v (.slice (.st 9)) [0]),(7,.v (.int .i64) [])] [6,7] [(2,[(6,.v (.slice (.st 9)) [0])])] (.s .z (.s (.j [6] [(0,[(6,.v (.slice (.st 9)) [0])])] .z) .z))))) .z)))
def sp76 : Spec fam:=⟨[.v (.st 10) [],.v (.int .i64) []],[.v (.st 10) [],.v (.int .i64) []],fun a => jY a.1 a.2.1⟩
def fu (s : State) (x : Input) : Option (State × Output) :=
 bif x.Kind == 1 then
 (ia s x.Text).bind fun x1 =>
 some (x1.1,x1.2)
 else
 bif x.Kind == 2 then
  (gF s x.Node).bind fun x2 =>
  some (x2.1,(⟨x2.2,[],[],[],0⟩ : Output))
 else
  bif x.Kind == 3 then
  (jR s x).bind fun x3 =>
  some (x3.1,x3.2)
  else
  bif x.Kind == 4 then
   (iq s x.App).bind fun x4 =>
   some (x4.1,(⟨x4.2,[],[],[],0⟩ : Output))
  else
   bif x.Kind == 5 then
   (iv s x).bind fun x5 =>
   some (x5.1,x5.2)
   else
   bif x.Kind == 6 then
    (gP s x.Id 3).bind fun x6 =>
    some (x6.1,x6.2)
   else
    bif x.Kind == 7 then
    (gP s x.Id 4).bind fun x7 =>
    some (x7.1,x7.2)
    else
    bif x.Kind == 8 then
     (jH s x.N).bind fun x8 =>
     some (x8.1,x8.2)
    else
     bif x.Kind == 9 then
     (ku s x.Plan x.N).bind fun x9 =>
     some (x9.1,(⟨x9.2.2,[],[],[],x9.2.1⟩ : Output))
     else
     bif x.Kind == 10 then
      (jY s x.Id).bind fun x10 =>
      some (x10.1,(⟨x10.2,[],[],[],0⟩ : Output))
     else
      bif x.Kind == 11 then
      bif decide (s.Epoch ≥ 1048576) then
       (aN s 11).bind fun x11 =>
       some (x11.1,x11.2)
      else
       some ((⟨⟨s.Conf.Labels,s.Conf.Queues⟩,s.Nodes,s.Apps,s.Conts,s.Slots,s.Plans,s.Now,w64 (s.Epoch + 1),0⟩ : State),(⟨0,[],[],[],0⟩ : Output))
      else
      (aN s 3).bind fun x12 =>
      some (x12.1,x12.2)
def h32 : Hint:=.z
def sp32 : Spec fam:=⟨[.v (.st 10) [],.v (.st 15) []],[.v (.st 10) [],.v (.st 13) [1,2,3]],fun a => fu a.1 a.2.1⟩
def cN (self : Int → Option (List UInt8)) (n : Int) : Option (List UInt8) :=
 bif decide (n < 0) then
 bif n == (-9223372036854775808) then
  some ([45,57,50,50,51,51,55,50,48,51,54,56,53,52,55,55,53,56,48,56] : List UInt8)
 else
  (self (w64 (0 - n))).bind fun x =>
  (cat ([45] : List UInt8) x).bind fun s =>
  some s
 else
 bif decide (n ≥ 10) then
  (self (w64 (Int.tdiv n 10))).bind fun x1 =>
  (self (Int.tmod n 10)).bind fun x2 =>
  (cat x1 x2).bind fun s1 =>
  some s1
 else
  some (List.map toB [IntKind.u8.wrap (w64 (48 + n))])
def bU : Nat → Int → Option (List UInt8)
 | 0 => fun _ => none
 | n + 1 => cN (bU n)
def cj (a0 : Int) : Option (List UInt8):=bU 64 a0
def h78 : Hint:=.z
def sp78 : Spec fam:=⟨[.v (.int .i64) []],[.v .str []],fun a => cj a.1⟩
def IY (n : Nat) : Spec fam:=⟨[.v (.int .i64) []],[.v .str []],fun a => bU n a.1⟩
def ie (x1 : Queue) (t2 : List UInt8 × Int) : Option ((List UInt8 × Int) ⊕ List UInt8) :=
 bif decide (t2.2 < (x1.Caps.length : Int)) then
 (cat t2.1 ([32] : List UInt8)).bind fun s7 =>
 (idx x1.Caps t2.2).bind fun x3 =>
 (cj x3.Least).bind fun x4 =>
 (cat s7 x4).bind fun s8 =>
 (cat s8 ([47] : List UInt8)).bind fun s9 =>
 (idx x1.Caps t2.2).bind fun x5 =>
 (cj x5.Most).bind fun x6 =>
 (cat s9 x6).bind fun s10 =>
 some (.inl (s10,w64 (t2.2 + 1)))
 else
 some (.inr t2.1)
def iu (c : Conf) (t1 : List UInt8 × Int) : Option ((List UInt8 × Int) ⊕ List UInt8) :=
 bif decide (t1.2 < (c.Queues.length : Int)) then
 (idx c.Queues t1.2).bind fun x1 =>
 (cat t1.1 ([113,117,101,117,101,32] : List UInt8)).bind fun s3 =>
 (cat s3 x1.Path).bind fun s4 =>
 (cat s4 ([32] : List UInt8)).bind fun s5 =>
 (cj x1.User).bind fun x2 =>
 (cat s5 x2).bind fun s6 =>
 (loop (ie x1) (s6,0)).bind fun out1 =>
 (cat out1 ([10] : List UInt8)).bind fun s11 =>
 some (.inl (s11,w64 (t1.2 + 1)))
 else
 some (.inr t1.1)
def o6 (c : Conf) (t : List UInt8 × Int) : Option ((List UInt8 × Int) ⊕ List UInt8) :=
 bif decide (t.2 < (c.Labels.length : Int)) then
 (cat t.1 ([32] : List UInt8)).bind fun s =>
 (idx c.Labels t.2).bind fun x =>
 (cat s x).bind fun s1 =>
 some (.inl (s1,w64 (t.2 + 1)))
 else
 some (.inr t.1)
def gY (c : Conf) : Option (List UInt8) :=
 (loop (o6 c) (([108,97,98,101,108,115] : List UInt8),1)).bind fun out =>
 (cat out ([10] : List UInt8)).bind fun s2 =>
 (loop (iu c) (s2,0)).bind fun out2 =>
 some out2
def h33 : Hint:=(.s .z (.s .z (.s (.s .z (.b (.l [(3,.v .str []),(4,.v (.int .i64) [])] [3,4] [(2,[(3,.v .str [])])] .z))) (.s .z (.s (.s .z (.b (.l [(3,.v .str []),(5,.v (.int .i64) [])] [3,5,6,7] [(4,[(3,.v .str [])])] (.s .z (.s (.b (.s .z (.s .z (.s (.s .z (.b (.l [(3,.v .str []),(7,.v (.int .i64) [])] [3,7] [(6,[(3,.v .str [])])] .z))) .z)))) .z))))) .z)))))
def sp33 : Spec fam:=⟨[.v (.st 3) []],[.v .str []],fun a => gY a.1⟩
def a9 (at_ : Int) (n : Int) : Option Int :=
 (nz n).bind fun _ =>
 (
 bif decide ((Int.tmod at_ n) < 0) then
  let k:=w64 ((Int.tmod at_ n) + n)
  some k
 else
  some (Int.tmod at_ n)).bind fun k1 =>
 some k1
def h79 : Hint:=(.s .z (.s .z (.s (.j [5] [(0,[(5,.v (.int .i64) [])])] .z) .z)))
def sp79 : Spec fam:=⟨[.v (.int .i64) [],.v (.int .i64) []],[.v (.int .i64) []],fun a => a9 a.1 a.2.1⟩
def cB (ns : List Int) (i : Int) : Option Int :=
 bif (ns.length : Int) == 0 then
 some i
 else
 (nz (ns.length : Int)).bind fun _ =>
 (idx ns (Int.tmod i (ns.length : Int))).bind fun x =>
 some x
def h81 : Hint:=.z
def sp81 : Spec fam:=⟨[.v (.slice (.int .i64)) [],.v (.int .i64) []],[.v (.int .i64) []],fun a => cB a.1 a.2.1⟩
def dI (kids : List (List UInt8)) (t3 : Conf × Int) (t4 : Conf × Int × Int) (n : Int) (x17 : Int) (t5 : Conf × Int) : Option ((Conf × Int) ⊕ Conf) :=
 bif decide (t5.2 < (t5.1.Queues.length : Int)) then
 (
  (inb t5.2 t5.1.Queues.length).bind fun i3 =>
  (t5.1.Queues[i3]?).bind fun x18 =>
  (inb t4.2.2 kids.length).bind fun i4 =>
  (kids[i4]?).bind fun x19 =>
  bif x18.Path == x19 then
  (inb t5.2 t5.1.Queues.length).bind fun i5 =>
  (t5.1.Queues[i5]?).bind fun x20 =>
  (t5.1.Queues[i5]?).bind fun x21 =>
  (inb t3.2 x21.Caps.length).bind fun i6 =>
  (t5.1.Queues[i5]?).bind fun x22 =>
  (x22.Caps[i6]?).bind fun y =>
  some (⟨t5.1.Labels,List.set t5.1.Queues i5 (⟨x22.Path,List.set x22.Caps i6 (⟨n,x17⟩ : Cap),x22.User⟩ : Queue)⟩ : Conf)
  else
  some t5.1).bind fun c1 =>
 some (.inl (c1,w64 (t5.2 + 1)))
 else
 some (.inr t5.1)
def dP (ns : List Int) (t2 : Conf × Int) (kids : List (List UInt8)) (t3 : Conf × Int) (t4 : Conf × Int × Int) : Option ((Conf × Int × Int) ⊕ Conf) :=
 bif decide (t4.2.2 < (kids.length : Int)) then
 (
  bif decide (t4.2.2 < (w64 ((kids.length : Int) - 1))) then
  (cB ns (w64 ((w64 (t2.2 + t4.2.2)) + t3.2))).bind fun x8 =>
  (a9 x8 (w64 (t4.2.1 + 1))).bind fun x9 =>
  (cB ns (w64 ((w64 (t2.2 * t4.2.2)) + t3.2))).bind fun x10 =>
  (a9 x10 4).bind fun x11 =>
  (inb x11 [0,w64 (Int.tdiv t4.2.1 2),t4.2.1,x9].length).bind fun i1 =>
  ([0,w64 (Int.tdiv t4.2.1 2),t4.2.1,x9][i1]?).bind fun x12 =>
  some x12
  else
  some t4.2.1).bind fun n =>
 (cB ns (w64 (t4.2.2 + t3.2))).bind fun x13 =>
 (a9 x13 (w64 ((w64 (10000 - n)) + 1))).bind fun x14 =>
 (cB ns (w64 (t2.2 + (w64 (2 * t4.2.2))))).bind fun x15 =>
 (a9 x15 3).bind fun x16 =>
 (inb x16 [10000,n,w64 (n + x14)].length).bind fun i2 =>
 ([10000,n,w64 (n + x14)][i2]?).bind fun x17 =>
 (loop (dI kids t3 t4 n x17) (t4.1,0)).bind fun c2 =>
 some (.inl (c2,w64 (t4.2.1 - n),w64 (t4.2.2 + 1)))
 else
 some (.inr t4.1)
def h_ (ns : List Int) (t2 : Conf × Int) (kids : List (List UInt8)) (t3 : Conf × Int) : Option ((Conf × Int) ⊕ Conf) :=
 bif decide (t3.2 < (t3.1.Labels.length : Int)) then
 (loop (dP ns t2 kids t3) (t3.1,10000,0)).bind fun c3 =>
 some (.inl (c3,w64 (t3.2 + 1)))
 else
 some (.inr t3.1)
def dG (ns : List Int) (x2 : List (List UInt8)) (t2 : Conf × Int) : Option ((Conf × Int) ⊕ Conf) :=
 bif decide (t2.2 < (x2.length : Int)) then
 (idx x2 t2.2).bind fun x7 =>
 (bW t2.1 x7).bind fun kids =>
 (loop (h_ ns t2 kids) (t2.1,0)).bind fun c4 =>
 some (.inl (c4,w64 (t2.2 + 1)))
 else
 some (.inr t2.1)
def hS (t : Conf × Int) (t1 : Queue × Int) : Option ((Queue × Int) ⊕ Queue) :=
 bif decide (t1.2 < (t.1.Labels.length : Int)) then
 (app 16 t1.1.Caps [(⟨10000,10000⟩ : Cap)]).bind fun l =>
 some (.inl ((⟨t1.1.Path,l,t1.1.User⟩ : Queue),w64 (t1.2 + 1)))
 else
 some (.inr t1.1)
def dW (ns : List Int) (x2 : List (List UInt8)) (t : Conf × Int) : Option ((Conf × Int) ⊕ Conf) :=
 bif decide (t.2 < (x2.length : Int)) then
 (idx x2 t.2).bind fun x3 =>
 (
  (
  bif decide (t.2 < (ns.length : Int)) then
   (idx ns t.2).bind fun x4 =>
   some ((Int.tmod x4 3) == 0)
  else
   some false).bind fun q =>
  bif q then
  (idx ns t.2).bind fun x5 =>
  (a9 x5 20000).bind fun x6 =>
  some (⟨x3,[],w64 (1 + x6)⟩ : Queue)
  else
  some (⟨x3,[],1000000⟩ : Queue)).bind fun q1 =>
 (loop (hS t) (q1,0)).bind fun q2 =>
 (app 48 t.1.Queues [q2]).bind fun l1 =>
 some (.inl ((⟨t.1.Labels,l1⟩ : Conf),w64 (t.2 + 1)))
 else
 some (.inr t.1)
def gL (shape : Int) (ns : List Int) : Option Conf :=
 (a9 (w64 (Int.tdiv shape 5)) 2).bind fun x =>
 (inS 0 (w64 (1 + x)) [([] : List UInt8),([103,112,117] : List UInt8)].length).bind fun p =>
 (a9 shape 5).bind fun x1 =>
 (inb x1 [[([114,111,111,116] : List UInt8)],[([114,111,111,116] : List UInt8),([114,111,111,116,46,97] : List UInt8),([114,111,111,116,46,98] : List UInt8)],[([114,111,111,116] : List UInt8),([114,111,111,116,46,97] : List UInt8),([114,111,111,116,46,97,46,120] : List UInt8),([114,111,111,116,46,97,46,121] : List UInt8),([114,111,111,116,46,98] : List UInt8)],[([114,111,111,116] : List UInt8),([114,111,111,116,46,97] : List UInt8),([114,111,111,116,46,98] : List UInt8),([114,111,111,116,46,98,46,120] : List UInt8),([114,111,111,116,46,98,46,120,46,112] : List UInt8),([114,111,111,116,46,98,46,120,46,113] : List UInt8),([114,111,111,116,46,99] : List UInt8)],[([114,111,111,116] : List UInt8),([114,111,111,116,46,97] : List UInt8)]].length).bind fun i =>
 ([[([114,111,111,116] : List UInt8)],[([114,111,111,116] : List UInt8),([114,111,111,116,46,97] : List UInt8),([114,111,111,116,46,98] : List UInt8)],[([114,111,111,116] : List UInt8),([114,111,111,116,46,97] : List UInt8),([114,111,111,116,46,97,46,120] : List UInt8),([114,111,111,116,46,97,46,121] : List UInt8),([114,111,111,116,46,98] : List UInt8)],[([114,111,111,116] : List UInt8),([114,111,111,116,46,97] : List UInt8),([114,111,111,116,46,98] : List UInt8),([114,111,111,116,46,98,46,120] : List UInt8),([114,111,111,116,46,98,46,120,46,112] : List UInt8),([114,111,111,116,46,98,46,120,46,113] : List UInt8),([114,111,111,116,46,99] : List UInt8)],[([114,111,111,116] : List UInt8),([114,111,111,116,46,97] : List UInt8)]][i]?).bind fun x2 =>
 (loop (dW ns x2) ((⟨sub [([] : List UInt8),([103,112,117] : List UInt8)] p.1 p.2,[]⟩ : Conf),0)).bind fun c =>
 (loop (dG ns x2) (c,0)).bind fun c5 =>
 some c5
def h34 : Hint:=(.s .z (.s .z (.s .z (.s .z (.s (.s .z (.b (.l [(6,.box (.st 3) [1001]),(8,.v (.int .i64) [])] [6,8,9,10,59] [(2,[(6,.box (.st 3) [1001])])] (.s .z (.s (.b (.s .z (.s (.j [9,59] [(0,[(9,.box (.st 2) [1])])] (.s (.j [] [(0,[(59,.v .bool [])])] .z) .z)) (.s (.s .z (.b (.l [(9,.box (.st 2) [1]),(10,.v (.int .i64) [])] [9,10] [(4,[(9,.box (.st 2) [1])])] .z))) .z)))) .z))))) (.s (.s .z (.b (.l [(6,.box (.st 3) [1001]),(11,.v (.int .i64) [])] [6,11,12,13,14,15,16,17,18] [(6,[(6,.box (.st 3) [1001])])] (.s .z (.s (.b (.s .z (.s .z (.b (.l [(6,.box (.st 3) [1001]),(13,.v (.int .i64) [])] [6,13,14,15,16,17,18] [(8,[(6,.box (.st 3) [1001])])] (.s .z (.s (.b (.s .z (.s .z (.b (.l [(6,.box (.st 3) [1001]),(14,.v (.int .i64) []),(15,.v (.int .i64) [])] [6,14,15,16,17,18] [(10,[(6,.box (.st 3) [1001])])] (.s .z (.s (.b (.s .z (.s (.j [16] [(0,[(16,.v (.int .i64) [])])] .z) (.s .z (.s .z (.s .z (.b (.l [(6,.box (.st 3) [1001]),(18,.v (.int .i64) [])] [6,18] [(12,[(6,.box (.st 3) [1001])])] (.s .z (.s (.j [6] [(0,[(6,.box (.st 3) [1001])])] .z) .z)))))))))) .z))))))) .z))))))) .z))))) .z))))))
def sp34 : Spec fam:=⟨[.v (.int .i64) [],.v (.slice (.int .i64)) []],[.v (.st 3) [1001]],fun a => gL a.1 a.2.1⟩
def au (at_ : Int) (n : Int) : Option Int :=
 (nz n).bind fun _ =>
 (
 bif decide ((Int.tmod at_ n) < 0) then
  let k:=w64 ((Int.tmod at_ n) + n)
  some k
 else
  some (Int.tmod at_ n)).bind fun k1 =>
 some k1
def h82 : Hint:=(.s .z (.s .z (.s (.j [5] [(0,[(5,.v (.int .i64) [])])] .z) .z)))
def sp82 : Spec fam:=⟨[.v (.int .i64) [],.v (.int .i64) []],[.v (.int .i64) []],fun a => au a.1 a.2.1⟩
def fk (c : Conf) (t : List (List UInt8) × Int) : Option ((List (List UInt8) × Int) ⊕ List (List UInt8)) :=
 bif decide (t.2 < (c.Queues.length : Int)) then
 (
  (idx c.Queues t.2).bind fun x =>
  (dZ c x.Path).bind fun x1 =>
  bif x1 then
  (idx c.Queues t.2).bind fun x2 =>
  (app 16 t.1 [x2.Path]).bind fun l =>
  some l
  else
  some t.1).bind fun l1 =>
 some (.inl (l1,w64 (t.2 + 1)))
 else
 some (.inr t.1)
def i_ (c : Conf) : Option (List (List UInt8)) :=
 (loop (fk c) ([],0)).bind fun l2 =>
 some l2
def h83 : Hint:=(.s .z (.s .z (.s (.s .z (.b (.l [(3,.v (.slice (.str)) [0]),(4,.v (.int .i64) [])] [3,4] [(2,[(3,.v (.slice (.str)) [0])])] (.s .z (.s (.j [3] [(0,[(3,.v (.slice (.str)) [0])])] .z) .z))))) .z)))
def sp83 : Spec fam:=⟨[.v (.st 3) []],[.v (.slice (.str)) [0]],fun a => i_ a.1⟩
def dX (n : Int) : Option Vec :=
 (au n 5).bind fun x =>
 (inb x [(⟨1,1⟩ : Vec),(⟨2,1⟩ : Vec),(⟨4,4⟩ : Vec),(⟨3,2⟩ : Vec),(⟨1,3⟩ : Vec)].length).bind fun i =>
 ([(⟨1,1⟩ : Vec),(⟨2,1⟩ : Vec),(⟨4,4⟩ : Vec),(⟨3,2⟩ : Vec),(⟨1,3⟩ : Vec)][i]?).bind fun x1 =>
 some x1
def h84 : Hint:=.z
def sp84 : Spec fam:=⟨[.v (.int .i64) []],[.v (.st 0) []],fun a => dX a.1⟩
def cZ (a : Act) (s : State) (x1 : App) (t : Input × Int) : Option ((Input × Int) ⊕ Input) :=
 bif decide (t.2 < (s.Conts.length : Int)) then
 (
  (
  (idx s.Conts t.2).bind fun x11 =>
  bif x11.App == x1.Id then
   (au (w64 (a.D + t.2)) 11).bind fun x12 =>
   some (x12 == 10)
  else
   some false).bind fun q =>
  bif q then
  (idx s.Conts t.2).bind fun x13 =>
  (app 8 t.1.Ids [x13.Id]).bind fun l =>
  some (⟨t.1.Kind,t.1.Id,t.1.Beat,t.1.N,t.1.Text,⟨t.1.Node.Id,t.1.Node.Label,t.1.Node.Rack,⟨t.1.Node.Cap.Mem,t.1.Node.Cap.Cores⟩,t.1.Node.Seen,t.1.Node.Beat,t.1.Node.Up⟩,⟨t.1.App.Id,t.1.App.State,t.1.App.Queue,t.1.App.User,t.1.App.Prio,⟨t.1.App.Master.Mem,t.1.App.Master.Cores⟩,t.1.App.Asks,t.1.App.Seen,t.1.App.Beat,t.1.App.Grants,t.1.App.Kills,t.1.App.Told,t.1.App.Lost⟩,t.1.Asks,l,⟨t.1.Plan.Id,t.1.Plan.Label,t.1.Plan.From,t.1.Plan.Until,⟨t.1.Plan.Need.Mem,t.1.Plan.Need.Cores⟩⟩⟩ : Input)
  else
  some t.1).bind fun x14 =>
 some (.inl (x14,w64 (t.2 + 1)))
 else
 some (.inr t.1)
def d9 (a : Act) (s : State) : Option Input :=
 bif (s.Apps.length : Int) == 0 then
 some (⟨5,0,0,0,[],⟨0,0,0,⟨0,0⟩,0,0,false⟩,⟨0,0,[],0,0,⟨0,0⟩,[],0,0,[],[],[],[]⟩,[],[],⟨0,0,0,0,⟨0,0⟩⟩⟩ : Input)
 else
 (au a.A (s.Apps.length : Int)).bind fun x =>
 (idx s.Apps x).bind fun x1 =>
 (au a.B 8).bind fun x2 =>
 (
  bif decide ((Int.tmod a.C 3) > 0) then
  (au a.B 5).bind fun x3 =>
  (au a.C (s.Conf.Labels.length : Int)).bind fun x4 =>
  (dX a.D).bind fun x5 =>
  (au a.D 7).bind fun x6 =>
  (
   bif (Int.tmod a.D 4) == 1 then
   (au a.C 3).bind fun x7 =>
   some (⟨x3,x4,⟨x5.Mem,x5.Cores⟩,x6,(-1),x7,0⟩ : Ask)
   else
   some (⟨x3,x4,⟨x5.Mem,x5.Cores⟩,x6,(-1),(-1),0⟩ : Ask)).bind fun k =>
  (
   bif (Int.tmod a.D 4) == 2 then
   (au a.C 3).bind fun x8 =>
   (au a.B 6).bind fun x9 =>
   some (⟨k.Prio,k.Label,⟨k.Size.Mem,k.Size.Cores⟩,k.Count,x9,x8,k.Missed⟩ : Ask)
   else
   some k).bind fun k1 =>
  some (⟨5,x1.Id,w64 ((w64 (x1.Beat + 1)) - (w64 (Int.tdiv x2 6))),0,[],⟨0,0,0,⟨0,0⟩,0,0,false⟩,⟨0,0,[],0,0,⟨0,0⟩,[],0,0,[],[],[],[]⟩,[k1],[],⟨0,0,0,0,⟨0,0⟩⟩⟩ : Input)
  else
  some (⟨5,x1.Id,w64 ((w64 (x1.Beat + 1)) - (w64 (Int.tdiv x2 6))),0,[],⟨0,0,0,⟨0,0⟩,0,0,false⟩,⟨0,0,[],0,0,⟨0,0⟩,[],0,0,[],[],[],[]⟩,[],[],⟨0,0,0,0,⟨0,0⟩⟩⟩ : Input)).bind fun x10 =>
 (loop (cZ a s x1) (x10,0)).bind fun x15 =>
 some x15
def h85 : Hint:=(.s .z (.s .z (.s .z (.s .z (.s .z (.s (.j [5,7] [(0,[(5,.box (.st 15) [20,23,24,25,26,27,28])])] (.s .z (.c (.s .z (.s (.j [7] [(0,[(7,.box (.st 5) [])])] .z) (.s (.j [7] [(0,[(7,.box (.st 5) [])])] .z) .z))) .z))) (.s (.s .z (.b (.l [(5,.box (.st 15) [20,23,24,25,26,27,28]),(8,.v (.int .i64) [])] [5,8,104] [(2,[(5,.box (.st 15) [20,23,24,25,26,27,28])])] (.s .z (.s (.j [5,104] [(0,[(5,.box (.st 15) [20,23,24,25,26,27,28])])] (.b (.s (.j [] [(0,[(104,.v .bool [])])] .z) .z))) .z))))) .z)))))))
def sp85 : Spec fam:=⟨[.v (.st 11) [],.v (.st 10) []],[.v (.st 15) [20,23,24,25,26,27,28]],fun a => d9 a.1 a.2.1⟩
def du (a : Act) (s : State) (id_ : Int) (t1 : Input × Int) : Option ((Input × Int) ⊕ Input) :=
 bif decide (t1.2 < (s.Conts.length : Int)) then
 (
  (
  (idx s.Conts t1.2).bind fun x11 =>
  bif x11.Node == id_ then
   (au (w64 (a.C + t1.2)) 9).bind fun x12 =>
   some (x12 == 8)
  else
   some false).bind fun q2 =>
  bif q2 then
  (idx s.Conts t1.2).bind fun x13 =>
  (app 8 t1.1.Ids [x13.Id]).bind fun l =>
  some (⟨t1.1.Kind,t1.1.Id,t1.1.Beat,t1.1.N,t1.1.Text,⟨t1.1.Node.Id,t1.1.Node.Label,t1.1.Node.Rack,⟨t1.1.Node.Cap.Mem,t1.1.Node.Cap.Cores⟩,t1.1.Node.Seen,t1.1.Node.Beat,t1.1.Node.Up⟩,⟨t1.1.App.Id,t1.1.App.State,t1.1.App.Queue,t1.1.App.User,t1.1.App.Prio,⟨t1.1.App.Master.Mem,t1.1.App.Master.Cores⟩,t1.1.App.Asks,t1.1.App.Seen,t1.1.App.Beat,t1.1.App.Grants,t1.1.App.Kills,t1.1.App.Told,t1.1.App.Lost⟩,t1.1.Asks,l,⟨t1.1.Plan.Id,t1.1.Plan.Label,t1.1.Plan.From,t1.1.Plan.Until,⟨t1.1.Plan.Need.Mem,t1.1.Plan.Need.Cores⟩⟩⟩ : Input)
  else
  some t1.1).bind fun x14 =>
 some (.inl (x14,w64 (t1.2 + 1)))
 else
 some (.inr t1.1)
def dz (a : Act) (s : State) (id_ : Int) (t : Input × Int) : Option ((Input × Int) ⊕ Input) :=
 bif decide (t.2 < (s.Nodes.length : Int)) then
 (
  (idx s.Nodes t.2).bind fun x6 =>
  bif x6.Id == id_ then
  (idx s.Nodes t.2).bind fun x7 =>
  (au a.B 8).bind fun x8 =>
  some (⟨t.1.Kind,t.1.Id,w64 ((w64 (x7.Beat + 1)) - (w64 (Int.tdiv x8 6))),t.1.N,t.1.Text,⟨t.1.Node.Id,t.1.Node.Label,t.1.Node.Rack,⟨t.1.Node.Cap.Mem,t.1.Node.Cap.Cores⟩,t.1.Node.Seen,t.1.Node.Beat,t.1.Node.Up⟩,⟨t.1.App.Id,t.1.App.State,t.1.App.Queue,t.1.App.User,t.1.App.Prio,⟨t.1.App.Master.Mem,t.1.App.Master.Cores⟩,t.1.App.Asks,t.1.App.Seen,t.1.App.Beat,t.1.App.Grants,t.1.App.Kills,t.1.App.Told,t.1.App.Lost⟩,t.1.Asks,t.1.Ids,⟨t.1.Plan.Id,t.1.Plan.Label,t.1.Plan.From,t.1.Plan.Until,⟨t.1.Plan.Need.Mem,t.1.Plan.Need.Cores⟩⟩⟩ : Input)
  else
  some t.1).bind fun x9 =>
 some (.inl (x9,w64 (t.2 + 1)))
 else
 some (.inr t.1)
def fp (a : Act) (s : State) : Option Input :=
 (au a.A 6).bind fun id_ =>
 (i_ s.Conf).bind fun leaves =>
 (au a.B 4).bind fun x =>
 (
 (au a.Kind 16).bind fun x1 =>
 (
  bif x1 == 0 then
  some (x1 == 0)
  else
  some (x1 == 1)).bind fun q =>
 bif q then
  (au a.B (s.Conf.Labels.length : Int)).bind fun x2 =>
  (au a.C 3).bind fun x3 =>
  (au a.D 12).bind fun x4 =>
  (au a.D 8).bind fun x5 =>
  some (⟨2,id_,0,w64 (1 + x),[],⟨id_,x2,x3,⟨w64 (4 + x4),w64 (4 + x5)⟩,0,0,false⟩,⟨0,0,[],0,0,⟨0,0⟩,[],0,0,[],[],[],[]⟩,[],[],⟨0,0,0,0,⟨0,0⟩⟩⟩ : Input)
 else
  (
  bif x1 == 2 then
   some (x1 == 2)
  else
   bif x1 == 3 then
   some (x1 == 3)
   else
   bif x1 == 4 then
    some (x1 == 4)
   else
    some (x1 == 5)).bind fun q1 =>
  bif q1 then
  (loop (dz a s id_) ((⟨3,id_,0,w64 (1 + x),[],⟨0,0,0,⟨0,0⟩,0,0,false⟩,⟨0,0,[],0,0,⟨0,0⟩,[],0,0,[],[],[],[]⟩,[],[],⟨0,0,0,0,⟨0,0⟩⟩⟩ : Input),0)).bind fun x10 =>
  (loop (du a s id_) (x10,0)).bind fun x15 =>
  some x15
  else
  (
   bif x1 == 6 then
   some (x1 == 6)
   else
   some (x1 == 7)).bind fun q3 =>
  bif q3 then
   (au a.A 20).bind fun x16 =>
   (au a.B (leaves.length : Int)).bind fun x17 =>
   (inb x17 leaves.length).bind fun i =>
   (leaves[i]?).bind fun x18 =>
   (au a.C 3).bind fun x19 =>
   (au a.D 3).bind fun x20 =>
   (dX (w64 (Int.tdiv a.D 3))).bind fun x21 =>
   some (⟨4,id_,0,w64 (1 + x),[],⟨0,0,0,⟨0,0⟩,0,0,false⟩,⟨x16,0,x18,x19,x20,⟨x21.Mem,x21.Cores⟩,[],0,0,[],[],[],[]⟩,[],[],⟨0,0,0,0,⟨0,0⟩⟩⟩ : Input)
  else
   (
   bif x1 == 8 then
    some (x1 == 8)
   else
    bif x1 == 9 then
    some (x1 == 9)
    else
    some (x1 == 10)).bind fun q4 =>
   bif q4 then
   (d9 a s).bind fun x22 =>
   some x22
   else
   bif x1 == 11 then
    (au a.B 2).bind fun x23 =>
    (inb x23 [6,7].length).bind fun i1 =>
    ([6,7][i1]?).bind fun x24 =>
    (au a.A 20).bind fun x25 =>
    some (⟨x24,x25,0,w64 (1 + x),[],⟨0,0,0,⟨0,0⟩,0,0,false⟩,⟨0,0,[],0,0,⟨0,0⟩,[],0,0,[],[],[],[]⟩,[],[],⟨0,0,0,0,⟨0,0⟩⟩⟩ : Input)
   else
    (
    bif x1 == 12 then
     some (x1 == 12)
    else
     some (x1 == 13)).bind fun q5 =>
    bif q5 then
    (au a.A 5).bind fun x26 =>
    some (⟨8,id_,0,w64 (1 + x26),[],⟨0,0,0,⟨0,0⟩,0,0,false⟩,⟨0,0,[],0,0,⟨0,0⟩,[],0,0,[],[],[],[]⟩,[],[],⟨0,0,0,0,⟨0,0⟩⟩⟩ : Input)
    else
    bif x1 == 14 then
     (au a.D 3).bind fun x27 =>
     (inb x27 [9,9,10].length).bind fun i2 =>
     ([9,9,10][i2]?).bind fun x28 =>
     (au a.B (s.Conf.Labels.length : Int)).bind fun x29 =>
     (au a.C 5).bind fun x30 =>
     (dX a.D).bind fun x31 =>
     (au a.C 12).bind fun x32 =>
     some (⟨x28,id_,0,w64 (1 + x32),[],⟨0,0,0,⟨0,0⟩,0,0,false⟩,⟨0,0,[],0,0,⟨0,0⟩,[],0,0,[],[],[],[]⟩,[],[],⟨id_,x29,w64 (s.Now + x30),w64 (s.Now + 20),⟨x31.Mem,x31.Cores⟩⟩⟩ : Input)
    else
     bif x1 == 15 then
     (au a.A 3).bind fun x33 =>
     (inb x33 [11,1,1].length).bind fun i3 =>
     ([11,1,1][i3]?).bind fun x34 =>
     (gL a.B [a.C,a.D]).bind fun x35 =>
     (gY x35).bind fun x36 =>
     some (⟨x34,id_,0,w64 (1 + x),x36,⟨0,0,0,⟨0,0⟩,0,0,false⟩,⟨0,0,[],0,0,⟨0,0⟩,[],0,0,[],[],[],[]⟩,[],[],⟨0,0,0,0,⟨0,0⟩⟩⟩ : Input)
     else
     some (⟨0,id_,0,w64 (1 + x),[],⟨0,0,0,⟨0,0⟩,0,0,false⟩,⟨0,0,[],0,0,⟨0,0⟩,[],0,0,[],[],[],[]⟩,[],[],⟨0,0,0,0,⟨0,0⟩⟩⟩ : Input)).bind fun x37 =>
 some x37
def h35 : Hint:=(.s .z (.s .z (.s .z (.s .z (.s (.j [8,9,10,27,28,29,30,53,109,121,148,168] [(0,[(8,.box (.st 15) [20,23,24,25,26,27,28])])] (.s .z (.b (.s (.j [] [(0,[(30,.v .bool [])])] .z) (.c .z (.s (.j [] [(0,[(53,.v .bool [])])] .z) (.c (.s .z (.s (.s .z (.b (.l [(8,.box (.st 15) [20,23,24,25,26,27,28]),(9,.v (.int .i64) [])] [8,9] [(3,[(8,.box (.st 15) [20,23,24,25,26,27,28])])] (.s .z (.s (.j [8] [(0,[(8,.box (.st 15) [20,23,24,25,26,27,28])])] .z) .z))))) (.s .z (.b (.l [(8,.box (.st 15) [20,23,24,25,26,27,28]),(10,.v (.int .i64) [])] [8,10,109] [(5,[(8,.box (.st 15) [20,23,24,25,26,27,28])])] (.s .z (.s (.j [8,109] [(0,[(8,.box (.st 15) [20,23,24,25,26,27,28])])] (.b (.s (.j [] [(0,[(109,.v .bool [])])] .z) .z))) .z))))))) (.s (.j [] [(0,[(121,.v .bool [])])] .z) (.c .z (.s (.j [] [(0,[(148,.v .bool [])])] .z) (.c .z (.s .z (.c .z (.s (.j [] [(0,[(168,.v .bool [])])] .z) .z)))))))))))))) .z)))))
def sp35 : Spec fam:=⟨[.v (.st 11) [],.v (.st 10) []],[.v (.st 15) [20,23,24,25,26,27,28]],fun a => fp a.1 a.2.1⟩
def cp (x : Script) (t : State × Int) : Option ((State × Int) ⊕ State) :=
 bif decide (t.2 < (x.Acts.length : Int)) then
 (idx x.Acts t.2).bind fun x5 =>
 (fp x5 t.1).bind fun x6 =>
 (fu t.1 x6).bind fun x7 =>
 some (.inl (x7.1,w64 (t.2 + 1)))
 else
 some (.inr t.1)
def b7 (x : Script) : Option State :=
 (d4).bind fun x1 =>
 (gL x.Shape x.Ns).bind fun x2 =>
 (gY x2).bind fun x3 =>
 (fu x1 (⟨1,0,0,0,x3,⟨0,0,0,⟨0,0⟩,0,0,false⟩,⟨0,0,[],0,0,⟨0,0⟩,[],0,0,[],[],[],[]⟩,[],[],⟨0,0,0,0,⟨0,0⟩⟩⟩ : Input)).bind fun x4 =>
 (
 bif x4.2.Err == 0 then
  some x4.1
 else
  some x1).bind fun s =>
 (loop (cp x) (s,0)).bind fun s1 =>
 some s1
def h13 : Hint:=(.s .z (.s .z (.s .z (.s (.j [3] [(0,[(3,.box (.st 10) [])])] .z) (.s (.s .z (.b (.l [(3,.box (.st 10) []),(6,.v (.int .i64) [])] [3,6] [(2,[(3,.box (.st 10) [])])] .z))) .z)))))
def sp13 : Spec fam:=⟨[.v (.st 12) []],[.v (.st 10) []],fun a => b7 a.1⟩
def eL (l : List Int) (i : Int) (j : Int) : Option (Int ⊕ (Bool ⊕ Unit)) :=
 bif decide (j < i) then
 (inb j l.length).bind fun i2 =>
 (l[i2]?).bind fun x14 =>
 (inb i l.length).bind fun i3 =>
 (l[i3]?).bind fun x15 =>
 bif x14 == x15 then
  some (.inr (.inl false))
 else
  some (.inl (w64 (j + 1)))
 else
 some (.inr (.inr ()))
def eN (x3 : State) (k : Int) (l : List Int) (i : Int) : Option (Int ⊕ (Bool ⊕ Unit)) :=
 bif decide (i < (l.length : Int)) then
 (inb i l.length).bind fun i1 =>
 (l[i1]?).bind fun x9 =>
 (a7 x3 x9).bind fun x10 =>
 (aO x3 x10.1.App).bind fun x11 =>
 (
  bif ! x10.2 then
  some true
  else
  bif x10.1.Notice != 0 then
   some true
  else
   bif x10.1.Label != k then
   some true
   else
   (aR x3 x11.1.Queue k).bind fun x12 =>
   (cC x3 k x11.1.Queue).bind fun x13 =>
   some (decide (x12.Mem ≤ x13))).bind fun q2 =>
 bif q2 then
  some (.inr (.inl false))
 else
  (loop (eL l i) 0).bind fun q0 =>
  match q0 with
  | .inl q3 =>
  some (.inr (.inl q3))
  | .inr _ =>
  some (.inl (w64 (i + 1)))
 else
 some (.inr (.inr ()))
def eT (x3 : State) (k : Int) (x4 : App) (t1 : Bool × Int) : Option ((Bool × Int) ⊕ Bool) :=
 (
 bif decide (t1.2 < (x4.Asks.length : Int)) then
  (aT x4).bind fun x5 =>
  some x5
 else
  some false).bind fun q =>
 bif q then
 (
  (idx x4.Asks t1.2).bind fun x6 =>
  bif t1.1 then
  some true
  else
  bif x6.Label == k then
   (aR x3 x4.Queue k).bind fun x7 =>
   (bg x3 x4.Queue k).bind fun x8 =>
   let need:=decide ((w64 (x6.Size.Mem + x7.Mem)) ≤ x8.Mem)
   some need
  else
   some false).bind fun need1 =>
 some (.inl (need1,w64 (t1.2 + 1)))
 else
 some (.inr t1.1)
def bG (x3 : State) (k : Int) (t : Bool × Int) : Option ((Bool × Int) ⊕ Bool) :=
 bif decide (t.2 < (x3.Apps.length : Int)) then
 (idx x3.Apps t.2).bind fun x4 =>
 (loop (eT x3 k x4) (t.1,0)).bind fun need2 =>
 some (.inl (need2,w64 (t.2 + 1)))
 else
 some (.inr t.1)
def eU (x3 : State) (k : Int) : Option (Int ⊕ (Bool ⊕ Unit)) :=
 bif decide (k < (x3.Conf.Labels.length : Int)) then
 (loop (bG x3 k) (false,0)).bind fun need3 =>
 (fM x3 k).bind fun l =>
 (
  bif ! need3 then
  some (decide ((l.length : Int) > 0))
  else
  some false).bind fun q1 =>
 bif q1 then
  some (.inr (.inl false))
 else
  (loop (eN x3 k l) 0).bind fun q0 =>
  match q0 with
  | .inl q4 =>
  some (.inr (.inl q4))
  | .inr _ =>
  some (.inl (w64 (k + 1)))
 else
 some (.inr (.inr ()))
def bZ (x : Script) : Option Bool :=
 (cL).bind fun x1 =>
 bif ! x1 then
 some false
 else
 (cq x).bind fun x2 =>
 bif ! x2 then
  some true
 else
  (b7 x).bind fun x3 =>
  (loop (eU x3) 0).bind fun q0 =>
  match q0 with
  | .inl q5 =>
  some q5
  | .inr _ =>
  some true
def h5 : Hint:=(.s .z (.s .z (.s .z (.s .z (.s (.s .z (.b (.l [(4,.v (.int .i64) [])] [2,4,5,6,7,8,9,10,11,12,13,14,15,16,52,95,144] [(1,[(2,.v .bool [])]),(2,[])] (.s .z (.s (.b (.s .z (.s (.s .z (.b (.l [(5,.v .bool []),(6,.v (.int .i64) [])] [5,6,7,8,9,52] [(4,[(5,.v .bool [])])] (.s .z (.s (.b (.s .z (.s .z (.b (.l [(5,.v .bool []),(8,.v (.int .i64) [])] [5,8,9,52] [(6,[(5,.v .bool [])])] (.s (.s (.j [] [(0,[(52,.v .bool [])])] .z) .z) (.s (.j [5,9] [(0,[(5,.v .bool [])])] .z) .z))))))) .z))))) (.s .z (.s (.s (.j [] [(0,[(95,.v .bool [])])] .z) .z) (.s .z (.b (.l [(11,.v (.int .i64) [])] [2,11,12,13,14,15,16,144] [(1,[(2,.v .bool [])]),(8,[])] (.s .z (.s (.b (.s .z (.s .z (.s (.s (.j [] [(0,[(144,.v .bool [])])] .z) .z) (.s .z (.b (.l [(16,.v (.int .i64) [])] [2,16] [(1,[(2,.v .bool [])]),(10,[])] .z))))))) .z)))))))))) .z))))) .z)))))
def sp5 : Spec fam:=⟨[.v (.st 12) []],[.v .bool []],fun a => bZ a.1⟩
end
end Go.Fx.D
