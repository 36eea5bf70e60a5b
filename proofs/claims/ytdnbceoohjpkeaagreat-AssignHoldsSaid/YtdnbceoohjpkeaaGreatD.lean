/-
  The functions of the program that this law reaches, as functions over plain data (printed by a program). Conditions: none.
-/
import Derived.Test.YtdnbceoohjpkeaaGreatFxD
import Derived.Test.YtdnbceoohjpkeaaGreatA
namespace Go.Fx.D
open Go Go.Fx Go.Proofs
set_option linter.unusedVariables false
noncomputable section
def iE (s : List (List UInt8)) : Option (List (List UInt8)) :=
 bif s.isEmpty then
 none
 else
 (app 16 [] s).bind fun l =>
 some l
def aW (s : List (List UInt8)) : Option (List (List UInt8)):=app 16 [] s
def h58 : Hint:=.z
def sp58 : Spec fam:=⟨[.v (.slice (.str)) []],[.v (.slice (.str)) [0]],fun a => aW a.1⟩
def Ci : Spec fam:=⟨[.v (.slice (.str)) []],[.v (.slice (.str)) [0]],fun a => iE a.1⟩
def v8 (s : List Queue) : Option (List Queue) :=
 bif s.isEmpty then
 none
 else
 (app 48 [] s).bind fun l =>
 some l
def mF (s : List Queue) : Option (List Queue):=app 48 [] s
def h59 : Hint:=.z
def sp59 : Spec fam:=⟨[.v (.slice (.st 2)) []],[.v (.slice (.st 2)) [0]],fun a => mF a.1⟩
def Bq : Spec fam:=⟨[.v (.slice (.st 2)) []],[.v (.slice (.st 2)) [0]],fun a => v8 a.1⟩
def yi (s : List Cap) : Option (List Cap) :=
 bif s.isEmpty then
 none
 else
 (app 16 [] s).bind fun l =>
 some l
def nL (s : List Cap) : Option (List Cap):=app 16 [] s
def h60 : Hint:=.z
def sp60 : Spec fam:=⟨[.v (.slice (.st 1)) []],[.v (.slice (.st 1)) [0]],fun a => nL a.1⟩
def Bz : Spec fam:=⟨[.v (.slice (.st 1)) []],[.v (.slice (.st 1)) [0]],fun a => yi a.1⟩
def xf (s : List Node) : Option (List Node) :=
 bif s.isEmpty then
 none
 else
 (app 64 [] s).bind fun l =>
 some l
def oI (s : List Node) : Option (List Node):=app 64 [] s
def h61 : Hint:=.z
def sp61 : Spec fam:=⟨[.v (.slice (.st 4)) []],[.v (.slice (.st 4)) [0]],fun a => oI a.1⟩
def BL : Spec fam:=⟨[.v (.slice (.st 4)) []],[.v (.slice (.st 4)) [0]],fun a => xf a.1⟩
def wx (s : List Cont) : Option (List Cont) :=
 bif s.isEmpty then
 none
 else
 (app 72 [] s).bind fun l =>
 some l
def oo (s : List Cont) : Option (List Cont):=app 72 [] s
def h62 : Hint:=.z
def sp62 : Spec fam:=⟨[.v (.slice (.st 7)) []],[.v (.slice (.st 7)) [0]],fun a => oo a.1⟩
def BJ : Spec fam:=⟨[.v (.slice (.st 7)) []],[.v (.slice (.st 7)) [0]],fun a => wx a.1⟩
def wq (s : List Slot) : Option (List Slot) :=
 bif s.isEmpty then
 none
 else
 (app 24 [] s).bind fun l =>
 some l
def n8 (s : List Slot) : Option (List Slot):=app 24 [] s
def h63 : Hint:=.z
def sp63 : Spec fam:=⟨[.v (.slice (.st 8)) []],[.v (.slice (.st 8)) [0]],fun a => n8 a.1⟩
def Br : Spec fam:=⟨[.v (.slice (.st 8)) []],[.v (.slice (.st 8)) [0]],fun a => wq a.1⟩
def ww (s : List Plan) : Option (List Plan) :=
 bif s.isEmpty then
 none
 else
 (app 48 [] s).bind fun l =>
 some l
def oH (s : List Plan) : Option (List Plan):=app 48 [] s
def h64 : Hint:=.z
def sp64 : Spec fam:=⟨[.v (.slice (.st 9)) []],[.v (.slice (.st 9)) [0]],fun a => oH a.1⟩
def BX : Spec fam:=⟨[.v (.slice (.st 9)) []],[.v (.slice (.st 9)) [0]],fun a => ww a.1⟩
def yc (s : List App) : Option (List App) :=
 bif s.isEmpty then
 none
 else
 (app 200 [] s).bind fun l =>
 some l
def qo (s : List App) : Option (List App):=app 200 [] s
def h65 : Hint:=.z
def sp65 : Spec fam:=⟨[.v (.slice (.st 6)) []],[.v (.slice (.st 6)) [0]],fun a => qo a.1⟩
def Bn : Spec fam:=⟨[.v (.slice (.st 6)) []],[.v (.slice (.st 6)) [0]],fun a => yc a.1⟩
def xY (s : List Ask) : Option (List Ask) :=
 bif s.isEmpty then
 none
 else
 (app 64 [] s).bind fun l =>
 some l
def m_ (s : List Ask) : Option (List Ask):=app 64 [] s
def h86 : Hint:=.z
def sp86 : Spec fam:=⟨[.v (.slice (.st 5)) []],[.v (.slice (.st 5)) [0]],fun a => m_ a.1⟩
def BD : Spec fam:=⟨[.v (.slice (.st 5)) []],[.v (.slice (.st 5)) [0]],fun a => xY a.1⟩
def gh (l : List Int) : Option (List Int) :=
 (mkl 8 (l.length : Int) (l.length : Int) 0).bind fun l1 =>
 some (cpy l1 0 l1.length l)
def h90 : Hint:=.z
def sp90 : Spec fam:=⟨[.v (.slice (.int .i64)) []],[.v (.slice (.int .i64)) [0]],fun a => gh a.1⟩
def kQ (a : App) : Option App :=
 (m_ a.Asks).bind fun x =>
 (gh a.Grants).bind fun x1 =>
 (gh a.Kills).bind fun x2 =>
 (gh a.Told).bind fun x3 =>
 (gh a.Lost).bind fun x4 =>
 some (⟨a.Id,a.State,a.Queue,a.User,a.Prio,⟨a.Master.Mem,a.Master.Cores⟩,x,a.Seen,a.Beat,x1,x2,x3,x4⟩ : App)
def h66 : Hint:=.z
def sp66 : Spec fam:=⟨[.v (.st 6) []],[.v (.st 6) [7,10,11,12,13,9999]],fun a => kQ a.1⟩
def pb (x9 : List App) (t1 : List App × Int) : Option ((List App × Int) ⊕ List App) :=
 bif decide (t1.2 < (x9.length : Int)) then
 (inb t1.2 t1.1.length).bind fun i2 =>
 (t1.1[i2]?).bind fun x10 =>
 (kQ x10).bind fun x11 =>
 (inb t1.2 t1.1.length).bind fun i3 =>
 (t1.1[i3]?).bind fun x12 =>
 some (.inl (List.set t1.1 i3 x11,w64 (t1.2 + 1)))
 else
 some (.inr t1.1)
def oQ (x1 : List Queue) (t : List Queue × Int) : Option ((List Queue × Int) ⊕ List Queue) :=
 bif decide (t.2 < (x1.length : Int)) then
 (inb t.2 t.1.length).bind fun i =>
 (t.1[i]?).bind fun x2 =>
 (nL x2.Caps).bind fun x3 =>
 (inb t.2 t.1.length).bind fun i1 =>
 (t.1[i1]?).bind fun x4 =>
 some (.inl (List.set t.1 i1 (⟨x4.Path,x3,x4.User⟩ : Queue),w64 (t.2 + 1)))
 else
 some (.inr t.1)
def kP (s : State) : Option State :=
 (aW s.Conf.Labels).bind fun x =>
 (mF s.Conf.Queues).bind fun x1 =>
 (loop (oQ x1) (x1,0)).bind fun q =>
 (oI s.Nodes).bind fun x5 =>
 (oo s.Conts).bind fun x6 =>
 (n8 s.Slots).bind fun x7 =>
 (oH s.Plans).bind fun x8 =>
 (qo s.Apps).bind fun x9 =>
 (loop (pb x9) (x9,0)).bind fun q1 =>
 some (⟨⟨x,q⟩,x5,q1,x6,x7,x8,s.Now,s.Epoch,s.Seq⟩ : State)
def h30 : Hint:=(.s .z (.s .z (.s (.s .z (.b (.l [(14,.row (.st 2) false),(23,.v (.int .i64) [])] [3,4,14,23,24,25,26,27,28,29,30,31,32,33,34,35,36,37] [(2,[(14,.row (.st 2) false)])] .z))) (.s .z (.s .z (.s (.s .z (.b (.l [(56,.row (.st 6) false),(61,.v (.int .i64) [])] [5,6,56,61] [(4,[(56,.row (.st 6) false)])] .z))) .z))))))
def sp30 : Spec fam:=⟨[.v (.st 10) []],[.v (.st 10) [0,1,2,3,4,5,6]],fun a => kP a.1⟩
def jb (s : List Cont) (f : (TupT fam [.st 7] → Option Bool)) (t : Int) : Option (Int ⊕ (Int ⊕ Unit)) :=
 bif decide (t < (s.length : Int)) then
 (idx s t).bind fun x =>
 (f (x,())).bind fun r =>
 bif r then
  some (.inr (.inl t))
 else
  some (.inl (w64 (t + 1)))
 else
 some (.inr (.inr ()))
def gk (s : List Cont) (f : (TupT fam [.st 7] → Option Bool)) : Option Int :=
 (loop (jb s f) 0).bind fun q0 =>
 match q0 with
 | .inl q =>
 some q
 | .inr _ =>
 some (-1)
def h31 : Hint:=(.s .z (.s (.s .z (.b (.l [(8,.v (.int .i64) [])] [4,5,8] [(1,[(4,.v (.int .i64) [])]),(2,[])] .z))) .z))
def sp31 : Spec fam:=⟨[.v (.slice (.st 7)) [],.fn [.st 7] .bool],[.v (.int .i64) []],fun a => gk a.1 a.2.1⟩
def lg (c : Cont) (p : Int) : Option Bool :=
 some (c.Id == p)
def h32 : Hint:=.z
def sp32 : Spec fam:=⟨[.v (.st 7) [],.rp (.int .i64)],[.v .bool []],fun a => lg a.1 a.2.1⟩
def kK (s : List App) (f : (TupT fam [.st 6] → Option Bool)) (t : Int) : Option (Int ⊕ (Int ⊕ Unit)) :=
 bif decide (t < (s.length : Int)) then
 (idx s t).bind fun x =>
 (f (x,())).bind fun r =>
 bif r then
  some (.inr (.inl t))
 else
  some (.inl (w64 (t + 1)))
 else
 some (.inr (.inr ()))
def ll (s : List App) (f : (TupT fam [.st 6] → Option Bool)) : Option Int :=
 (loop (kK s f) 0).bind fun q0 =>
 match q0 with
 | .inl q =>
 some q
 | .inr _ =>
 some (-1)
def h67 : Hint:=(.s .z (.s (.s .z (.b (.l [(8,.v (.int .i64) [])] [4,5,8] [(1,[(4,.v (.int .i64) [])]),(2,[])] .z))) .z))
def sp67 : Spec fam:=⟨[.v (.slice (.st 6)) [],.fn [.st 6] .bool],[.v (.int .i64) []],fun a => ll a.1 a.2.1⟩
def oh (a : App) (p : Int) : Option Bool :=
 some (a.Id == p)
def h68 : Hint:=.z
def sp68 : Spec fam:=⟨[.v (.st 6) [],.rp (.int .i64)],[.v .bool []],fun a => oh a.1 a.2.1⟩
def mP (s : State) (id_ : Int) : Option Int :=
 (ll s.Apps (fun a' => oh a'.1 id_)).bind fun x =>
 some x
def h33 : Hint:=.z
def sp33 : Spec fam:=⟨[.v (.st 10) [],.v (.int .i64) []],[.v (.int .i64) []],fun a => mP a.1 a.2.1⟩
def kx (l : List Ask) : Option (List Ask) :=
 (mkl 64 (l.length : Int) (l.length : Int) (⟨0,0,⟨0,0⟩,0,0,0,0⟩ : Ask)).bind fun l1 =>
 some (cpy l1 0 l1.length l)
def h107 : Hint:=.z
def sp107 : Spec fam:=⟨[.v (.slice (.st 5)) []],[.v (.slice (.st 5)) [0]],fun a => kx a.1⟩
def jl (s : List Ask) (f : (TupT fam [.st 5] → Option Bool)) (t : Int) : Option (Int ⊕ (Int ⊕ Unit)) :=
 bif decide (t < (s.length : Int)) then
 (idx s t).bind fun x =>
 (f (x,())).bind fun r =>
 bif r then
  some (.inr (.inl t))
 else
  some (.inl (w64 (t + 1)))
 else
 some (.inr (.inr ()))
def gf (s : List Ask) (f : (TupT fam [.st 5] → Option Bool)) : Option Int :=
 (loop (jl s f) 0).bind fun q0 =>
 match q0 with
 | .inl q =>
 some q
 | .inr _ =>
 some (-1)
def h133 : Hint:=(.s .z (.s (.s .z (.b (.l [(8,.v (.int .i64) [])] [4,5,8] [(1,[(4,.v (.int .i64) [])]),(2,[])] .z))) .z))
def sp133 : Spec fam:=⟨[.v (.slice (.st 5)) [],.fn [.st 5] .bool],[.v (.int .i64) []],fun a => gf a.1 a.2.1⟩
def jM (del : (TupT fam [.st 5] → Option Bool)) (t : List Ask × Int × Int) : Option ((List Ask × Int × Int) ⊕ ((List Ask × Int))) :=
 bif decide (t.2.2 < (t.1.length : Int)) then
 (
  (inb t.2.2 t.1.length).bind fun i1 =>
  (t.1[i1]?).bind fun x =>
  (del (x,())).bind fun r =>
  bif ! r then
  (inb t.2.1 t.1.length).bind fun i2 =>
  (t.1[i2]?).bind fun x1 =>
  some (List.set t.1 i2 x,w64 (t.2.1 + 1))
  else
  some (t.1,t.2.1)).bind fun q =>
 some (.inl (q.1,q.2,w64 (t.2.2 + 1)))
 else
 some (.inr (t.1,t.2.1))
def jL (s : List Ask) (del : (TupT fam [.st 5] → Option Bool)) : Option (List Ask) :=
 (gf s del).bind fun i =>
 bif i == (-1) then
 some s
 else
 (loop (jM del) (s,i,w64 (i + 1))).bind fun q1 =>
 (inS q1.2 (q1.1.length : Int) q1.1.length).bind fun p =>
 none
def h122 : Hint:=(.s .z (.s .z (.s .z (.s (.s .z (.b (.l [(0,.row (.st 5) false),(5,.v (.int .i64) []),(6,.v (.int .i64) [])] [0,5,6,7] [(2,[(0,.row (.st 5) false),(5,.v (.int .i64) [])])] (.s .z (.s (.j [0,5,7] [(0,[(0,.row (.st 5) false),(5,.v (.int .i64) [])])] .z) .z))))) .z))))
def sp122 : Spec fam:=⟨[.v (.slice (.st 5)) [0],.fn [.st 5] .bool],[.v (.slice (.st 5)) [0]],fun a => jL a.1 a.2.1⟩
def mL (x : Ask) (p : Ask) : Option Bool :=
 some (x.Prio == p.Prio)
def h123 : Hint:=.z
def sp123 : Spec fam:=⟨[.v (.st 5) [],.rp (.st 5)],[.v .bool []],fun a => mL a.1 a.2.1⟩
def uJ (s : List Ask) (i : Int) (v : List Ask) : Option (List Ask) :=
 (inS i (s.length : Int) s.length).bind fun p =>
 bif (v.length : Int) == 0 then
 some s
 else
 bif i == (s.length : Int) then
  (app 64 s v).bind fun l =>
  some l
 else
  none
def jh (s : List Ask) (i : Int) (v : List Ask) : Option (List Ask):=ins s i v
def h124 : Hint:=.z
def sp124 : Spec fam:=⟨[.v (.slice (.st 5)) [0],.v (.int .i64) [],.v (.slice (.st 5)) [0]],[.v (.slice (.st 5)) [0]],fun a => jh a.1 a.2.1 a.2.2.1⟩
def Ca : Spec fam:=⟨[.v (.slice (.st 5)) [0],.v (.int .i64) [],.v (.slice (.st 5)) [0]],[.v (.slice (.st 5)) [0]],fun a => uJ a.1 a.2.1 a.2.2.1⟩
def ph (a : Ask) (out : List Ask) (k : Int) : Option (Int ⊕ Int) :=
 (
 bif decide (k < (out.length : Int)) then
  (inb k out.length).bind fun i =>
  (out[i]?).bind fun x1 =>
  some (decide (x1.Prio < a.Prio))
 else
  some false).bind fun q =>
 bif q then
 some (.inl (w64 (k + 1)))
 else
 some (.inr k)
def qG (l : List Ask) (a : Ask) : Option (List Ask × Int) :=
 (kx l).bind fun x =>
 (jL x (fun a' => mL a'.1 a)).bind fun out =>
 bif a.Count == 0 then
 some (out,0)
 else
 bif decide ((out.length : Int) ≥ 8) then
  some ([],4)
 else
  (loop (ph a out) 0).bind fun k1 =>
  (jh out k1 [(⟨a.Prio,a.Label,⟨a.Size.Mem,a.Size.Cores⟩,a.Count,a.Node,a.Rack,0⟩ : Ask)]).bind fun x2 =>
  some (x2,0)
def h91 : Hint:=(.s .z (.s .z (.s .z (.s .z (.s .z (.s .z (.s (.b (.l [(7,.v (.int .i64) [])] [7,33] [(2,[(7,.v (.int .i64) [])])] (.s (.s (.j [] [(0,[(33,.v .bool [])])] .z) .z) .z))) .z)))))))
def sp91 : Spec fam:=⟨[.v (.slice (.st 5)) [],.v (.st 5) []],[.v (.slice (.st 5)) [0],.v (.int .i64) []],fun a => qG a.1 a.2.1⟩
def mN (a : App) : Option (List Ask) :=
 (qG [] (⟨0,0,⟨a.Master.Mem,a.Master.Cores⟩,1,(-1),(-1),0⟩ : Ask)).bind fun x =>
 some x.1
def h69 : Hint:=.z
def sp69 : Spec fam:=⟨[.v (.st 6) []],[.v (.slice (.st 5)) [0]],fun a => mN a.1⟩
def uz (del : (TupT fam [.st 7] → Option Bool)) (t : List Cont × Int × Int) : Option ((List Cont × Int × Int) ⊕ ((List Cont × Int))) :=
 bif decide (t.2.2 < (t.1.length : Int)) then
 (
  (inb t.2.2 t.1.length).bind fun i1 =>
  (t.1[i1]?).bind fun x =>
  (del (x,())).bind fun r =>
  bif ! r then
  (inb t.2.1 t.1.length).bind fun i2 =>
  (t.1[i2]?).bind fun x1 =>
  some (List.set t.1 i2 x,w64 (t.2.1 + 1))
  else
  some (t.1,t.2.1)).bind fun q =>
 some (.inl (q.1,q.2,w64 (t.2.2 + 1)))
 else
 some (.inr (t.1,t.2.1))
def xi (s : List Cont) (del : (TupT fam [.st 7] → Option Bool)) : Option (List Cont) :=
 (gk s del).bind fun i =>
 bif i == (-1) then
 some s
 else
 (loop (uz del) (s,i,w64 (i + 1))).bind fun q1 =>
 (inS q1.2 (q1.1.length : Int) q1.1.length).bind fun p =>
 none
def h92 : Hint:=(.s .z (.s .z (.s .z (.s (.s .z (.b (.l [(0,.row (.st 7) false),(5,.v (.int .i64) []),(6,.v (.int .i64) [])] [0,5,6,7] [(2,[(0,.row (.st 7) false),(5,.v (.int .i64) [])])] (.s .z (.s (.j [0,5,7] [(0,[(0,.row (.st 7) false),(5,.v (.int .i64) [])])] .z) .z))))) .z))))
def sp92 : Spec fam:=⟨[.v (.slice (.st 7)) [0],.fn [.st 7] .bool],[.v (.slice (.st 7)) [0]],fun a => xi a.1 a.2.1⟩
def jP (s : List Slot) (f : (TupT fam [.st 8] → Option Bool)) (t : Int) : Option (Int ⊕ (Int ⊕ Unit)) :=
 bif decide (t < (s.length : Int)) then
 (idx s t).bind fun x =>
 (f (x,())).bind fun r =>
 bif r then
  some (.inr (.inl t))
 else
  some (.inl (w64 (t + 1)))
 else
 some (.inr (.inr ()))
def gi (s : List Slot) (f : (TupT fam [.st 8] → Option Bool)) : Option Int :=
 (loop (jP s f) 0).bind fun q0 =>
 match q0 with
 | .inl q =>
 some q
 | .inr _ =>
 some (-1)
def h40 : Hint:=(.s .z (.s (.s .z (.b (.l [(8,.v (.int .i64) [])] [4,5,8] [(1,[(4,.v (.int .i64) [])]),(2,[])] .z))) .z))
def sp40 : Spec fam:=⟨[.v (.slice (.st 8)) [],.fn [.st 8] .bool],[.v (.int .i64) []],fun a => gi a.1 a.2.1⟩
def mG (s : State) (id_ : Int) : Option (State × List Int) :=
 none
def h70 : Hint:=.z
def sp70 : Spec fam:=⟨[.v (.st 10) [],.v (.int .i64) []],[.v (.st 10) [0,1,2,3,4,5,6],.v (.slice (.int .i64)) [0]],fun a => mG a.1 a.2.1⟩
def lj (s : State) (i : Int) : Option State :=
 (inb i s.Apps.length).bind fun i1 =>
 (s.Apps[i1]?).bind fun x =>
 (mN x).bind fun x1 =>
 (inb i s.Apps.length).bind fun i2 =>
 (s.Apps[i2]?).bind fun x2 =>
 (mG (⟨⟨s.Conf.Labels,s.Conf.Queues⟩,s.Nodes,List.set s.Apps i2 (⟨x.Id,1,x.Queue,x.User,x.Prio,⟨x.Master.Mem,x.Master.Cores⟩,x1,s.Now,0,[],[],[],[]⟩ : App),s.Conts,s.Slots,s.Plans,s.Now,s.Epoch,s.Seq⟩ : State) x.Id).bind fun x3 =>
 some x3.1
def h34 : Hint:=.z
def sp34 : Spec fam:=⟨[.v (.st 10) [0,1,2,3,4,5,6],.v (.int .i64) []],[.v (.st 10) [0,1,2,3,4,5,6]],fun a => lj a.1 a.2.1⟩
def js (s : List Cont) (i : Int) (j : Int) : Option (List Cont):=del s i j
def sp35 : Spec fam:=⟨[.v (.slice (.st 7)) [0],.v (.int .i64) [],.v (.int .i64) []],[.v (.slice (.st 7)) [0]],fun a => js a.1 a.2.1 a.2.2.1⟩
def cq (s : List Int) (v : Int) (t : Int) : Option (Int ⊕ (Int ⊕ Unit)) :=
 bif decide (t < (s.length : Int)) then
 (idx s t).bind fun x =>
 bif v == x then
  some (.inr (.inl t))
 else
  some (.inl (w64 (t + 1)))
 else
 some (.inr (.inr ()))
def bK (s : List Int) (v : Int) : Option Int :=
 (loop (cq s v) 0).bind fun q0 =>
 match q0 with
 | .inl q =>
 some q
 | .inr _ =>
 some (-1)
def h36 : Hint:=(.s .z (.s (.s .z (.b (.l [(8,.v (.int .i64) [])] [4,5,8] [(1,[(4,.v (.int .i64) [])]),(2,[])] .z))) .z))
def sp36 : Spec fam:=⟨[.v (.slice (.int .i64)) [],.v (.int .i64) []],[.v (.int .i64) []],fun a => bK a.1 a.2.1⟩
def bu (s : List Int) (i : Int) (j : Int) : Option (List Int) :=
 none
def h37 : Hint:=.z
def sp37 : Spec fam:=⟨[.v (.slice (.int .i64)) [],.v (.int .i64) [],.v (.int .i64) []],[.v (.slice (.int .i64)) [0]],fun a => bu a.1 a.2.1 a.2.2.1⟩
def nf (ids : List Int) (t : State × Int) : Option ((State × Int) ⊕ State) :=
 bif decide (t.2 < (ids.length : Int)) then
 (
  (idx ids t.2).bind fun x1 =>
  (gk t.1.Conts (fun a' => lg a'.1 x1)).bind fun k =>
  bif decide (k < 0) then
  some t.1
  else
  (inb k t.1.Conts.length).bind fun i =>
  (t.1.Conts[i]?).bind fun x2 =>
  (mP t.1 x2.App).bind fun i1 =>
  (
   bif decide (i1 ≥ 0) then
   some x2.Master
   else
   some false).bind fun q =>
  bif q then
   (lj t.1 i1).bind fun x3 =>
   some x3
  else
   (js t.1.Conts k (w64 (k + 1))).bind fun x4 =>
   bif decide (i1 < 0) then
   some (⟨⟨t.1.Conf.Labels,t.1.Conf.Queues⟩,t.1.Nodes,t.1.Apps,x4,t.1.Slots,t.1.Plans,t.1.Now,t.1.Epoch,t.1.Seq⟩ : State)
   else
   (inb i1 t.1.Apps.length).bind fun i2 =>
   (t.1.Apps[i2]?).bind fun x5 =>
   (bK x5.Grants x1).bind fun j =>
   bif decide (j ≥ 0) then
    (bu x5.Grants j (w64 (j + 1))).bind fun x6 =>
    (inb i1 t.1.Apps.length).bind fun i3 =>
    (t.1.Apps[i3]?).bind fun x7 =>
    some (⟨⟨t.1.Conf.Labels,t.1.Conf.Queues⟩,t.1.Nodes,List.set t.1.Apps i3 (⟨x5.Id,x5.State,x5.Queue,x5.User,x5.Prio,⟨x5.Master.Mem,x5.Master.Cores⟩,x5.Asks,x5.Seen,x5.Beat,x6,x5.Kills,x5.Told,x5.Lost⟩ : App),x4,t.1.Slots,t.1.Plans,t.1.Now,t.1.Epoch,t.1.Seq⟩ : State)
   else
    none).bind fun s1 =>
 some (.inl (s1,w64 (t.2 + 1)))
 else
 some (.inr t.1)
def lI (s : State) (ids : List Int) : Option State :=
 (kP s).bind fun x =>
 (loop (nf ids) (x,0)).bind fun s2 =>
 (kP s2).bind fun x8 =>
 some x8
def h14 : Hint:=(.s .z (.s .z (.s (.s .z (.b (.l [(2,.box (.st 10) [0,1,2,3,4,5,6]),(16,.v (.int .i64) [])] [2,6,7,8,9,10,11,13,16,40] [(2,[(2,.box (.st 10) [0,1,2,3,4,5,6])])] (.s .z (.s .z (.s (.j [2,6,7,8,9,10,11,40] [(0,[(2,.box (.st 10) [0,1,2,3,4,5,6])])] (.b (.s .z (.s .z (.s .z (.s .z (.s .z (.s (.s (.j [] [(0,[(40,.v .bool [])])] .z) .z) .z)))))))) .z)))))) .z)))
def sp14 : Spec fam:=⟨[.v (.st 10) [],.v (.slice (.int .i64)) []],[.v (.st 10) [0,1,2,3,4,5,6]],fun a => lI a.1 a.2.1⟩
def jz (s : List Node) (f : (TupT fam [.st 4] → Option Bool)) (t : Int) : Option (Int ⊕ (Int ⊕ Unit)) :=
 bif decide (t < (s.length : Int)) then
 (idx s t).bind fun x =>
 (f (x,())).bind fun r =>
 bif r then
  some (.inr (.inl t))
 else
  some (.inl (w64 (t + 1)))
 else
 some (.inr (.inr ()))
def jm (s : List Node) (f : (TupT fam [.st 4] → Option Bool)) : Option Int :=
 (loop (jz s f) 0).bind fun q0 =>
 match q0 with
 | .inl q =>
 some q
 | .inr _ =>
 some (-1)
def h71 : Hint:=(.s .z (.s (.s .z (.b (.l [(8,.v (.int .i64) [])] [4,5,8] [(1,[(4,.v (.int .i64) [])]),(2,[])] .z))) .z))
def sp71 : Spec fam:=⟨[.v (.slice (.st 4)) [],.fn [.st 4] .bool],[.v (.int .i64) []],fun a => jm a.1 a.2.1⟩
def jp (i : Int) (n : Node) : Option Bool :=
 some (n.Id == i)
def h72 : Hint:=.z
def sp72 : Spec fam:=⟨[.v (.int .i64) [],.v (.st 4) []],[.v .bool []],fun a => jp a.1 a.2.1⟩
def qa (s : State) (id_ : Int) : Option Int :=
 (jm s.Nodes (fun a' => jp id_ a'.1)).bind fun x =>
 some x
def h38 : Hint:=.z
def sp38 : Spec fam:=⟨[.v (.st 10) [],.v (.int .i64) []],[.v (.int .i64) []],fun a => qa a.1 a.2.1⟩
def j7 (s : State) (id_ : Int) : Option (Node × Bool) :=
 (qa s id_).bind fun i =>
 bif decide (i < 0) then
 some ((⟨0,0,0,⟨0,0⟩,0,0,false⟩ : Node),false)
 else
 (idx s.Nodes i).bind fun x =>
 some (x,true)
def h15 : Hint:=.z
def sp15 : Spec fam:=⟨[.v (.st 10) [],.v (.int .i64) []],[.v (.st 4) [],.v .bool []],fun a => j7 a.1 a.2.1⟩
def aP (v : Vec) : Option Bool :=
 bif decide (v.Mem ≥ 0) then
 bif decide (v.Mem ≤ 1125899906842624) then
  bif decide (v.Cores ≥ 0) then
  some (decide (v.Cores ≤ 1125899906842624))
  else
  some false
 else
  some false
 else
 some false
def h96 : Hint:=.z
def sp96 : Spec fam:=⟨[.v (.st 0) []],[.v .bool []],fun a => aP a.1⟩
def lF (v : Vec) : Option (Vec × Int) :=
 (aP v).bind fun x =>
 bif ! x then
 some ((⟨0,0⟩ : Vec),11)
 else
 some (v,0)
def h97 : Hint:=.z
def sp97 : Spec fam:=⟨[.v (.st 0) []],[.v (.st 0) [],.v (.int .i64) []],fun a => lF a.1⟩
def gg (a : Vec) (b : Vec) : Option (Vec × Int) :=
 (
 (aP a).bind fun x =>
 bif ! x then
  some true
 else
  (aP b).bind fun x1 =>
  some (! x1)).bind fun q =>
 bif q then
 some ((⟨0,0⟩ : Vec),1)
 else
 (lF (⟨w64 (a.Mem + b.Mem),w64 (a.Cores + b.Cores)⟩ : Vec)).bind fun x2 =>
 some (x2.1,x2.2)
def h73 : Hint:=(.s .z (.s (.s (.j [] [(0,[(13,.v .bool [])])] .z) .z) .z))
def sp73 : Spec fam:=⟨[.v (.st 0) [],.v (.st 0) []],[.v (.st 0) [],.v (.int .i64) []],fun a => gg a.1 a.2.1⟩
def md (s : State) (id_ : Int) (t : Vec × Int) : Option ((Vec × Int) ⊕ Vec) :=
 bif decide (t.2 < (s.Conts.length : Int)) then
 (
  (idx s.Conts t.2).bind fun x =>
  bif x.Node == id_ then
  (gg t.1 x.Size).bind fun x1 =>
  some x1.1
  else
  some t.1).bind fun out =>
 some (.inl (out,w64 (t.2 + 1)))
 else
 some (.inr t.1)
def mK (s : State) (id_ : Int) : Option Vec :=
 (loop (md s id_) ((⟨0,0⟩ : Vec),0)).bind fun out1 =>
 some out1
def h39 : Hint:=(.s .z (.s .z (.s (.s .z (.b (.l [(5,.box (.st 0) []),(11,.v (.int .i64) [])] [5,7,11] [(2,[(5,.box (.st 0) [])])] (.s .z (.s .z (.s (.j [5,7] [(0,[(5,.box (.st 0) [])])] .z) .z)))))) .z)))
def sp39 : Spec fam:=⟨[.v (.st 10) [],.v (.int .i64) []],[.v (.st 0) []],fun a => mK a.1 a.2.1⟩
def mD (s : State) (id_ : Int) : Option Vec :=
 (j7 s id_).bind fun x =>
 (
 bif ! x.2 then
  some true
 else
  some (! x.1.Up)).bind fun q =>
 bif q then
 some (⟨0,0⟩ : Vec)
 else
 (mK s id_).bind fun x1 =>
 some (⟨imax (w64 (x.1.Cap.Mem - x1.Mem)) 0,imax (w64 (x.1.Cap.Cores - x1.Cores)) 0⟩ : Vec)
def h16 : Hint:=(.s .z (.s .z (.s (.s (.j [] [(0,[(20,.v .bool [])])] .z) .z) .z)))
def sp16 : Spec fam:=⟨[.v (.st 10) [],.v (.int .i64) []],[.v (.st 0) []],fun a => mD a.1 a.2.1⟩
def cp (x : Slot) (p : Attempt) : Option Bool :=
 some (x.Node == p.n.Id)
def h41 : Hint:=.z
def sp41 : Spec fam:=⟨[.v (.st 8) [],.rpp (.st 13)],[.v .bool []],fun a => cp a.1 a.2.1⟩
def lD (s : State) (id_ : Int) : Option (App × Bool) :=
 (mP s id_).bind fun i =>
 bif decide (i < 0) then
 some ((⟨0,0,[],0,0,⟨0,0⟩,[],0,0,[],[],[],[]⟩ : App),false)
 else
 (idx s.Apps i).bind fun x =>
 (kQ x).bind fun x1 =>
 some (x1,true)
def h42 : Hint:=.z
def sp42 : Spec fam:=⟨[.v (.st 10) [],.v (.int .i64) []],[.v (.st 6) [7,10,11,12,13,9999],.v .bool []],fun a => lD a.1 a.2.1⟩
def kA (a : App) (prio : Int) (t : Ask × Int) : Option ((Ask × Int) ⊕ ((Ask × Bool) ⊕ Ask)) :=
 bif decide (t.2 < (a.Asks.length : Int)) then
 (idx a.Asks t.2).bind fun x =>
 bif x.Prio == prio then
  some (.inr (.inl (x,true)))
 else
  some (.inl (t.1,w64 (t.2 + 1)))
 else
 some (.inr (.inr (t.1)))
def kW (a : App) (prio : Int) : Option (Ask × Bool) :=
 (loop (kA a prio) ((⟨0,0,⟨0,0⟩,0,0,0,0⟩ : Ask),0)).bind fun q0 =>
 match q0 with
 | .inl q =>
 some (q.1,q.2)
 | .inr q1 =>
 some ((⟨0,0,⟨0,0⟩,0,0,0,0⟩ : Ask),false)
def h43 : Hint:=(.s .z (.s (.s .z (.b (.l [(4,.box (.st 5) []),(11,.v (.int .i64) [])] [4,5,7,11] [(1,[(4,.box (.st 5) []),(5,.v .bool [])]),(2,[(4,.box (.st 5) [])])] .z))) .z))
def sp43 : Spec fam:=⟨[.v (.st 6) [],.v (.int .i64) []],[.v (.st 5) [],.v .bool []],fun a => kW a.1 a.2.1⟩
def lz (a : App) : Option Bool :=
 bif a.State == 1 then
 some true
 else
 some (a.State == 2)
def h44 : Hint:=.z
def sp44 : Spec fam:=⟨[.v (.st 6) []],[.v .bool []],fun a => lz a.1⟩
def ii (a : Ask) (n : Node) : Option Int :=
 (
 (
  bif ! n.Up then
  some true
  else
  some (n.Label != a.Label)).bind fun q =>
 bif q then
  some (.inr (.inl 4))
 else
  bif a.Rack == (-1) then
  some (.inl ())
  else
  (
   bif a.Node == n.Id then
   some (a.Node == n.Id)
   else
   bif a.Node == (-1) then
    some (a.Rack == n.Rack)
   else
    some false).bind fun q1 =>
  bif q1 then
   some (.inl ())
  else
   bif a.Rack == n.Rack then
   some (.inr (.inr (.inr ())))
   else
   some (.inr (.inr (.inl ()))) : Option (Unit ⊕ Int ⊕ Unit ⊕ Unit)).bind fun q0 =>
 match q0 with
 | .inl _ =>
 some 1
 | .inr (.inl q2) =>
 some q2
 | .inr (.inr (.inl _)) =>
 some 3
 | .inr (.inr (.inr _)) =>
 some 2
def h74 : Hint:=(.s .z (.s (.b (.s (.b (.s (.j [5,20] [(0,[]),(1,[(4,.v (.int .i64) [])]),(2,[]),(6,[])] (.b (.b (.s (.b (.s (.s (.s (.j [] [(0,[(5,.v .bool [])])] .z) .z) (.s .z (.s (.s (.j [] [(0,[(20,.v .bool [])])] .z) .z) .z))) .z)) .z)))) .z)) .z)) .z))
def sp74 : Spec fam:=⟨[.v (.st 5) [],.v (.st 4) []],[.v (.int .i64) []],fun a => ii a.1 a.2.1⟩
def iW (a : Ask) (n : Node) : Option Bool :=
 (ii a n).bind fun x =>
 bif x == 1 then
 some true
 else
 bif x == 2 then
  some (decide (a.Missed ≥ 2))
 else
  bif x == 3 then
  some (decide (a.Missed ≥ 4))
  else
  some false
def h45 : Hint:=.z
def sp45 : Spec fam:=⟨[.v (.st 5) [],.v (.st 4) []],[.v .bool []],fun a => iW a.1 a.2.1⟩
def dO (a : Vec) (b : Vec) : Option Bool :=
 bif decide (a.Mem ≤ b.Mem) then
 some (decide (a.Cores ≤ b.Cores))
 else
 some false
def h75 : Hint:=.z
def sp75 : Spec fam:=⟨[.v (.st 0) [],.v (.st 0) []],[.v .bool []],fun a => dO a.1 a.2.1⟩
def bD (t : Attempt) (x : Ask) : Option Bool :=
 (ii x t.n).bind fun x1 =>
 bif x1 != 4 then
 (dO x.Size t.n.Cap).bind fun x2 =>
 some x2
 else
 some false
def h46 : Hint:=.z
def sp46 : Spec fam:=⟨[.rp (.st 13),.v (.st 5) []],[.v .bool []],fun a => bD a.1 a.2.1⟩
def fN (v : View) (c : Cont) (t : App × Int) : Option ((App × Int) ⊕ ((App × Bool) ⊕ App)) :=
 bif decide (t.2 < (v.s.Apps.length : Int)) then
 (idx v.s.Apps t.2).bind fun x =>
 bif x.Id == c.App then
  some (.inr (.inl (x,true)))
 else
  some (.inl (t.1,w64 (t.2 + 1)))
 else
 some (.inr (.inr (t.1)))
def fc (v : View) (c : Cont) : Option (App × Bool) :=
 (loop (fN v c) ((⟨0,0,[],0,0,⟨0,0⟩,[],0,0,[],[],[],[]⟩ : App),0)).bind fun q0 =>
 match q0 with
 | .inl q =>
 some (q.1,q.2)
 | .inr q1 =>
 some ((⟨0,0,[],0,0,⟨0,0⟩,[],0,0,[],[],[],[]⟩ : App),false)
def h125 : Hint:=(.s .z (.s (.s .z (.b (.l [(4,.box (.st 6) [7,10,11,12,13]),(12,.v (.int .i64) [])] [4,5,7,12] [(1,[(4,.box (.st 6) []),(5,.v .bool [])]),(2,[(4,.box (.st 6) [7,10,11,12,13])])] .z))) .z))
def sp125 : Spec fam:=⟨[.v (.st 11) [],.v (.st 7) []],[.v (.st 6) [],.v .bool []],fun a => fc a.1 a.2.1⟩
def cm (s : List UInt8) (prefix_ : List UInt8) : Option Bool :=
 bif decide ((s.length : Int) ≥ (prefix_.length : Int)) then
 (slc s 0 (prefix_.length : Int)).bind fun s1 =>
 some (s1 == prefix_)
 else
 some false
def h161 : Hint:=.z
def sp161 : Spec fam:=⟨[.v .str [],.v .str []],[.v .bool []],fun a => cm a.1 a.2.1⟩
def eb (s : List UInt8) (prefix_ : List UInt8) : Option Bool :=
 (cm s prefix_).bind fun x =>
 some x
def h146 : Hint:=.z
def sp146 : Spec fam:=⟨[.v .str [],.v .str []],[.v .bool []],fun a => eb a.1 a.2.1⟩
def gv (v : View) (a : App) : Option Bool :=
 (
 bif a.Queue == v.path then
  some true
 else
  (cat v.path ([46] : List UInt8)).bind fun s =>
  (eb a.Queue s).bind fun x =>
  some x).bind fun below =>
 bif below then
 bif v.user == (-1) then
  some true
 else
  some (a.User == v.user)
 else
 some false
def h126 : Hint:=(.s .z (.s (.j [] [(0,[(5,.v .bool [])])] .z) .z))
def sp126 : Spec fam:=⟨[.v (.st 11) [],.v (.st 6) []],[.v .bool []],fun a => gv a.1 a.2.1⟩
def gn (v : View) (t : Vec × Int) : Option ((Vec × Int) ⊕ Vec) :=
 bif decide (t.2 < (v.s.Conts.length : Int)) then
 (
  (idx v.s.Conts t.2).bind fun x =>
  (fc v x).bind fun x1 =>
  (
  bif x1.2 then
   bif x.Label == v.label then
   (gv v x1.1).bind fun x2 =>
   some x2
   else
   some false
  else
   some false).bind fun q =>
  bif q then
  (gg t.1 x.Size).bind fun x3 =>
  some x3.1
  else
  some t.1).bind fun out =>
 some (.inl (out,w64 (t.2 + 1)))
 else
 some (.inr t.1)
def dU (v : View) : Option Vec :=
 (loop (gn v) ((⟨0,0⟩ : Vec),0)).bind fun out1 =>
 some out1
def h98 : Hint:=(.s .z (.s .z (.s .z (.s (.s .z (.b (.l [(3,.box (.st 0) []),(15,.v (.int .i64) [])] [3,6,7,8,15,37] [(2,[(3,.box (.st 0) [])])] (.s .z (.s .z (.s (.j [3,6,7,8,37] [(0,[(3,.box (.st 0) [])])] (.b (.s .z (.s .z (.s (.j [] [(0,[(37,.v .bool [])])] .z) .z))))) .z)))))) .z))))
def sp98 : Spec fam:=⟨[.v (.st 11) []],[.v (.st 0) []],fun a => dU a.1⟩
def gz (s : State) (path : List UInt8) (label : Int) : Option Vec :=
 (dU (⟨⟨⟨s.Conf.Labels,s.Conf.Queues⟩,s.Nodes,s.Apps,s.Conts,s.Slots,s.Plans,s.Now,s.Epoch,s.Seq⟩,path,label,(-1)⟩ : View)).bind fun x =>
 some x
def h76 : Hint:=.z
def sp76 : Spec fam:=⟨[.v (.st 10) [],.v .str [],.v (.int .i64) []],[.v (.st 0) []],fun a => gz a.1 a.2.1 a.2.2.1⟩
def gV (s : List Queue) (f : (TupT fam [.st 2] → Option Bool)) (t : Int) : Option (Int ⊕ (Int ⊕ Unit)) :=
 bif decide (t < (s.length : Int)) then
 (idx s t).bind fun x =>
 (f (x,())).bind fun r =>
 bif r then
  some (.inr (.inl t))
 else
  some (.inl (w64 (t + 1)))
 else
 some (.inr (.inr ()))
def gI (s : List Queue) (f : (TupT fam [.st 2] → Option Bool)) : Option Int :=
 (loop (gV s f) 0).bind fun q0 =>
 match q0 with
 | .inl q =>
 some q
 | .inr _ =>
 some (-1)
def h127 : Hint:=(.s .z (.s (.s .z (.b (.l [(8,.v (.int .i64) [])] [4,5,8] [(1,[(4,.v (.int .i64) [])]),(2,[])] .z))) .z))
def sp127 : Spec fam:=⟨[.v (.slice (.st 2)) [],.fn [.st 2] .bool],[.v (.int .i64) []],fun a => gI a.1 a.2.1⟩
def k8 (q : Queue) (p : List UInt8) : Option Bool :=
 some (q.Path == p)
def h128 : Hint:=.z
def sp128 : Spec fam:=⟨[.v (.st 2) [],.rp .str],[.v .bool []],fun a => k8 a.1 a.2.1⟩
def iQ (c : Conf) (path : List UInt8) : Option (Queue × Bool) :=
 (gI c.Queues (fun a' => k8 a'.1 path)).bind fun i =>
 bif decide (i < 0) then
 some ((⟨[],[],0⟩ : Queue),false)
 else
 (idx c.Queues i).bind fun x =>
 (nL x.Caps).bind fun x1 =>
 some ((⟨x.Path,x1,x.User⟩ : Queue),true)
def h101 : Hint:=.z
def sp101 : Spec fam:=⟨[.v (.st 3) [],.v .str []],[.v (.st 2) [1],.v .bool []],fun a => iQ a.1 a.2.1⟩
def gx (x : Int) (y : Int) : Option (Int × Int) :=
 let w0:=IntKind.u64.wrap ((andK .u64 x 4294967295) * (andK .u64 y 4294967295))
 let t:=IntKind.u64.wrap ((IntKind.u64.wrap ((shrK .u64 x 32) * (andK .u64 y 4294967295))) + (shrK .u64 w0 32))
 let w1:=IntKind.u64.wrap ((andK .u64 t 4294967295) + (IntKind.u64.wrap ((andK .u64 x 4294967295) * (shrK .u64 y 32))))
 let hi:=IntKind.u64.wrap ((IntKind.u64.wrap ((IntKind.u64.wrap ((shrK .u64 x 32) * (shrK .u64 y 32))) + (shrK .u64 t 32))) + (shrK .u64 w1 32))
 some (hi,IntKind.u64.wrap (x * y))
def h147 : Hint:=.z
def sp147 : Spec fam:=⟨[.v (.int .u64) [],.v (.int .u64) []],[.v (.int .u64) [],.v (.int .u64) []],fun a => gx a.1 a.2.1⟩
def mJ (x : Int) : Option Int :=
 (
 bif decide (x ≥ 4294967296) then
  some (shrK .u64 x 32,32)
 else
  some (x,0)).bind fun q =>
 (
 bif decide (q.1 ≥ 65536) then
  some (shrK .u64 q.1 16,w64 (q.2 + 16))
 else
  some (q.1,q.2)).bind fun q1 =>
 (
 bif decide (q1.1 ≥ 256) then
  some (shrK .u64 q1.1 8,w64 (q1.2 + 8))
 else
  some (q1.1,q1.2)).bind fun q2 =>
 (idx ([0,1,2,2,3,3,3,3,4,4,4,4,4,4,4,4,5,5,5,5,5,5,5,5,5,5,5,5,5,5,5,5,6,6,6,6,6,6,6,6,6,6,6,6,6,6,6,6,6,6,6,6,6,6,6,6,6,6,6,6,6,6,6,6,7,7,7,7,7,7,7,7,7,7,7,7,7,7,7,7,7,7,7,7,7,7,7,7,7,7,7,7,7,7,7,7,7,7,7,7,7,7,7,7,7,7,7,7,7,7,7,7,7,7,7,7,7,7,7,7,7,7,7,7,7,7,7,7,8,8,8,8,8,8,8,8,8,8,8,8,8,8,8,8,8,8,8,8,8,8,8,8,8,8,8,8,8,8,8,8,8,8,8,8,8,8,8,8,8,8,8,8,8,8,8,8,8,8,8,8,8,8,8,8,8,8,8,8,8,8,8,8,8,8,8,8,8,8,8,8,8,8,8,8,8,8,8,8,8,8,8,8,8,8,8,8,8,8,8,8,8,8,8,8,8,8,8,8,8,8,8,8,8,8,8,8,8,8,8,8,8,8,8,8,8,8,8,8,8,8,8,8,8,8,8,8] : List UInt8) (IntKind.u8.wrap q2.1)).bind fun ch =>
 let n:=w64 (q2.2 + (w64 (ch.toNat : Int)))
 some n
def h175 : Hint:=(.s .z (.s (.j [0,2] [(0,[(0,.v (.int .u64) []),(2,.v (.int .i64) [])])] .z) (.s (.j [0,2] [(0,[(0,.v (.int .u64) []),(2,.v (.int .i64) [])])] .z) (.s (.j [0,2] [(0,[(0,.v (.int .u64) []),(2,.v (.int .i64) [])])] .z) .z))))
def sp175 : Spec fam:=⟨[.v (.int .u64) []],[.v (.int .i64) []],fun a => mJ a.1⟩
def dh (x : Int) : Option Int :=
 (mJ x).bind fun x1 =>
 some (w64 (64 - x1))
def h162 : Hint:=.z
def sp162 : Spec fam:=⟨[.v (.int .u64) []],[.v (.int .i64) []],fun a => dh a.1⟩
def mg (yn1 : Int) (yn0 : Int) (un0 : Int) (t1 : Int × Int) : Option ((Int × Int) ⊕ Int) :=
 (
 bif decide (t1.2 ≥ 4294967296) then
  some true
 else
  some (decide ((IntKind.u64.wrap (t1.2 * yn0)) > (IntKind.u64.wrap ((IntKind.u64.wrap (4294967296 * t1.1)) + un0))))).bind fun q2 =>
 bif q2 then
 bif decide ((IntKind.u64.wrap (t1.1 + yn1)) ≥ 4294967296) then
  some (.inr (IntKind.u64.wrap (t1.2 - 1)))
 else
  some (.inl (IntKind.u64.wrap (t1.1 + yn1),IntKind.u64.wrap (t1.2 - 1)))
 else
 some (.inr t1.2)
def lZ (yn1 : Int) (yn0 : Int) (un1 : Int) (t : Int × Int) : Option ((Int × Int) ⊕ Int) :=
 (
 bif decide (t.1 ≥ 4294967296) then
  some true
 else
  some (decide ((IntKind.u64.wrap (t.1 * yn0)) > (IntKind.u64.wrap ((IntKind.u64.wrap (4294967296 * t.2)) + un1))))).bind fun q =>
 bif q then
 bif decide ((IntKind.u64.wrap (t.2 + yn1)) ≥ 4294967296) then
  some (.inr (IntKind.u64.wrap (t.1 - 1)))
 else
  some (.inl (IntKind.u64.wrap (t.1 - 1),IntKind.u64.wrap (t.2 + yn1)))
 else
 some (.inr t.1)
def mE (hi : Int) (lo : Int) (y : Int) : Option (Int × Int) :=
 bif y == 0 then
 none
 else
 bif decide (y ≤ hi) then
  none
 else
  bif hi == 0 then
  (nz y).bind fun _ =>
  (nz y).bind fun _ =>
  some (IntKind.u64.wrap (Int.tdiv lo y),Int.tmod lo y)
  else
  (dh y).bind fun x =>
  (nn (IntKind.u64.wrap x)).bind fun _ =>
  let yn1:=shrK .u64 (shlK .u64 y (IntKind.u64.wrap x)) 32
  let yn0:=andK .u64 (shlK .u64 y (IntKind.u64.wrap x)) 4294967295
  (nn (IntKind.u64.wrap x)).bind fun _ =>
  (nn (IntKind.u64.wrap (64 - (IntKind.u64.wrap x)))).bind fun _ =>
  let un32:=orK .u64 (shlK .u64 hi (IntKind.u64.wrap x)) (shrK .u64 lo (IntKind.u64.wrap (64 - (IntKind.u64.wrap x))))
  (nn (IntKind.u64.wrap x)).bind fun _ =>
  let un1:=shrK .u64 (shlK .u64 lo (IntKind.u64.wrap x)) 32
  let un0:=andK .u64 (shlK .u64 lo (IntKind.u64.wrap x)) 4294967295
  (nz yn1).bind fun _ =>
  let rhat:=IntKind.u64.wrap (un32 - (IntKind.u64.wrap ((IntKind.u64.wrap (Int.tdiv un32 yn1)) * yn1)))
  (loop (lZ yn1 yn0 un1) (IntKind.u64.wrap (Int.tdiv un32 yn1),rhat)).bind fun q1 =>
  let un21:=IntKind.u64.wrap ((IntKind.u64.wrap ((IntKind.u64.wrap (un32 * 4294967296)) + un1)) - (IntKind.u64.wrap (q1 * (shlK .u64 y (IntKind.u64.wrap x)))))
  (nz yn1).bind fun _ =>
  let rhat1:=IntKind.u64.wrap (un21 - (IntKind.u64.wrap ((IntKind.u64.wrap (Int.tdiv un21 yn1)) * yn1)))
  (loop (mg yn1 yn0 un0) (rhat1,IntKind.u64.wrap (Int.tdiv un21 yn1))).bind fun q0 =>
  (nn (IntKind.u64.wrap x)).bind fun _ =>
  let quo:=IntKind.u64.wrap ((IntKind.u64.wrap (q1 * 4294967296)) + q0)
  let rem:=shrK .u64 (IntKind.u64.wrap ((IntKind.u64.wrap ((IntKind.u64.wrap (un21 * 4294967296)) + un0)) - (IntKind.u64.wrap (q0 * (shlK .u64 y (IntKind.u64.wrap x)))))) (IntKind.u64.wrap x)
  some (quo,rem)
def h148 : Hint:=(.s .z (.s .z (.s .z (.s .z (.s .z (.s .z (.s .z (.s .z (.s .z (.s .z (.s .z (.s .z (.s .z (.s .z (.s (.b (.l [(15,.v (.int .u64) []),(16,.v (.int .u64) [])] [15,16,78] [(2,[(15,.v (.int .u64) [])])] (.s (.s (.j [] [(0,[(78,.v .bool [])])] .z) .z) .z))) (.s .z (.s .z (.s .z (.s (.b (.l [(16,.v (.int .u64) []),(18,.v (.int .u64) [])] [16,18,113] [(4,[(18,.v (.int .u64) [])])] (.s (.s (.j [] [(0,[(113,.v .bool [])])] .z) .z) .z))) .z)))))))))))))))))))
def sp148 : Spec fam:=⟨[.v (.int .u64) [],.v (.int .u64) [],.v (.int .u64) []],[.v (.int .u64) [],.v (.int .u64) []],fun a => mE a.1 a.2.1 a.2.2.1⟩
def lJ (n : Int) (bp : Int) : Option Int :=
 (gx (IntKind.u64.wrap n) (IntKind.u64.wrap bp)).bind fun x =>
 (mE x.1 x.2 10000).bind fun x1 =>
 some (w64 x1.1)
def h129 : Hint:=.z
def sp129 : Spec fam:=⟨[.v (.int .i64) [],.v (.int .i64) []],[.v (.int .i64) []],fun a => lJ a.1 a.2.1⟩
def jF (a : Vec) (bp : Int) : Option (Vec × Int) :=
 (
 (aP a).bind fun x =>
 bif ! x then
  some true
 else
  bif decide (bp < 0) then
  some true
  else
  some (decide (bp > 1000000))).bind fun q =>
 bif q then
 some ((⟨0,0⟩ : Vec),1)
 else
 (lJ a.Mem bp).bind fun x1 =>
 (lJ a.Cores bp).bind fun x2 =>
 (lF (⟨x1,x2⟩ : Vec)).bind fun x3 =>
 some (x3.1,x3.2)
def h102 : Hint:=(.s .z (.s (.s (.j [] [(0,[(16,.v .bool [])])] .z) .z) .z))
def sp102 : Spec fam:=⟨[.v (.st 0) [],.v (.int .i64) []],[.v (.st 0) [],.v (.int .i64) []],fun a => jF a.1 a.2.1⟩
def bz (s : List UInt8) (c : Int) (i1 : Int) : Option (Int ⊕ (Int ⊕ Unit)) :=
 bif decide (i1 ≥ 0) then
 (idx s i1).bind fun ch =>
 bif (ch.toNat : Int) == c then
  some (.inr (.inl i1))
 else
  some (.inl (w64 (i1 - 1)))
 else
 some (.inr (.inr ()))
def a8 (s : List UInt8) (c : Int) : Option Int :=
 let i:=w64 ((s.length : Int) - 1)
 (loop (bz s c) i).bind fun q0 =>
 match q0 with
 | .inl q =>
 some q
 | .inr _ =>
 some (-1)
def h163 : Hint:=(.s .z (.s (.s .z (.b (.l [(5,.v (.int .i64) [])] [4,5] [(1,[(4,.v (.int .i64) [])]),(2,[])] .z))) .z))
def sp163 : Spec fam:=⟨[.v .str [],.v (.int .u8) []],[.v (.int .i64) []],fun a => a8 a.1 a.2.1⟩
def bI (t1 : Int × Int × Int) : Option ((Int × Int × Int) ⊕ Int) :=
 bif decide (t1.2.2 > 0) then
 (
  bif (andK .i64 t1.2.2 1) != 0 then
  let pow:=IntKind.u32.wrap (t1.1 * t1.2.1)
  some pow
  else
  some t1.1).bind fun pow1 =>
 let sq:=IntKind.u32.wrap (t1.2.1 * t1.2.1)
 some (.inl (pow1,sq,shrK .i64 t1.2.2 1))
 else
 some (.inr t1.1)
def bJ (sep : List UInt8) (t : Int × Int) : Option ((Int × Int) ⊕ Int) :=
 bif decide (t.2 ≥ 0) then
 (idx sep t.2).bind fun ch =>
 let hash:=IntKind.u32.wrap ((IntKind.u32.wrap (t.1 * 16777619)) + (IntKind.u32.wrap (ch.toNat : Int)))
 some (.inl (hash,w64 (t.2 - 1)))
 else
 some (.inr t.1)
def bc (sep : List UInt8) : Option (Int × Int) :=
 let i:=w64 ((sep.length : Int) - 1)
 (loop (bJ sep) (0,i)).bind fun hash1 =>
 (loop bI (1,16777619,(sep.length : Int))).bind fun pow2 =>
 some (hash1,pow2)
def h182 : Hint:=(.s .z (.s .z (.s (.s .z (.b (.l [(4,.v (.int .u32) []),(5,.v (.int .i64) [])] [4,5] [(2,[(4,.v (.int .u32) [])])] .z))) (.s .z (.s (.s .z (.b (.l [(6,.v (.int .u32) []),(7,.v (.int .u32) []),(8,.v (.int .i64) [])] [6,7,8] [(4,[(6,.v (.int .u32) [])])] (.s .z (.s (.b (.s (.j [6] [(0,[(6,.v (.int .u32) [])])] .z) .z)) .z))))) .z)))))
def sp182 : Spec fam:=⟨[.v .str []],[.v (.int .u32) [],.v (.int .u32) []],fun a => bc a.1⟩
def aV (s : List UInt8) (sep : List UInt8) (x : Int × Int) (t1 : Int × Int) : Option ((Int × Int) ⊕ (Int ⊕ Unit)) :=
 bif decide (t1.2 ≥ 0) then
 (idx s t1.2).bind fun ch1 =>
 let h2:=IntKind.u32.wrap ((IntKind.u32.wrap (t1.1 * 16777619)) + (IntKind.u32.wrap (ch1.toNat : Int)))
 (idx s (w64 (t1.2 + (sep.length : Int)))).bind fun ch2 =>
 let h3:=IntKind.u32.wrap (h2 - (IntKind.u32.wrap (x.2 * (IntKind.u32.wrap (ch2.toNat : Int)))))
 (
  bif h3 == x.1 then
  (slc s t1.2 (w64 (t1.2 + (sep.length : Int)))).bind fun s2 =>
  some (s2 == sep)
  else
  some false).bind fun q1 =>
 bif q1 then
  some (.inr (.inl (t1.2)))
 else
  some (.inl (h3,w64 (t1.2 - 1)))
 else
 some (.inr (.inr ()))
def aU (s : List UInt8) (last : Int) (t : Int × Int) : Option ((Int × Int) ⊕ Int) :=
 bif decide (t.2 ≥ last) then
 (idx s t.2).bind fun ch =>
 let h:=IntKind.u32.wrap ((IntKind.u32.wrap (t.1 * 16777619)) + (IntKind.u32.wrap (ch.toNat : Int)))
 some (.inl (h,w64 (t.2 - 1)))
 else
 some (.inr t.1)
def aK (s : List UInt8) (sep : List UInt8) : Option Int :=
 (bc sep).bind fun x =>
 let last:=w64 ((s.length : Int) - (sep.length : Int))
 let i:=w64 ((s.length : Int) - 1)
 (loop (aU s last) (0,i)).bind fun h1 =>
 (
 bif h1 == x.1 then
  (slc s last (s.length : Int)).bind fun s1 =>
  some (s1 == sep)
 else
  some false).bind fun q =>
 bif q then
 some last
 else
 (loop (aV s sep x) (h1,w64 (last - 1))).bind fun q0 =>
 match q0 with
 | .inl q2 =>
  some q2
 | .inr _ =>
  some (-1)
def h164 : Hint:=(.s .z (.s .z (.s .z (.s .z (.s .z (.s (.s .z (.b (.l [(9,.v (.int .u32) []),(10,.v (.int .i64) [])] [9,10] [(2,[(9,.v (.int .u32) [])])] .z))) (.s (.s (.j [] [(0,[(47,.v .bool [])])] .z) .z) (.s (.s .z (.b (.l [(9,.v (.int .u32) []),(11,.v (.int .i64) [])] [4,9,11,85] [(1,[(4,.v (.int .i64) [])]),(4,[])] (.s .z (.s (.b (.s .z (.s .z (.s .z (.s (.j [] [(0,[(85,.v .bool [])])] .z) .z))))) .z))))) .z))))))))
def sp164 : Spec fam:=⟨[.v .str [],.v .str []],[.v (.int .i64) []],fun a => aK a.1 a.2.1⟩
def er (s : List UInt8) (substr : List UInt8) : Option Int :=
 bif (substr.length : Int) == 0 then
 some (s.length : Int)
 else
 bif (substr.length : Int) == 1 then
  (idx substr 0).bind fun ch =>
  (a8 s (ch.toNat : Int)).bind fun x =>
  some x
 else
  bif (substr.length : Int) == (s.length : Int) then
  bif substr == s then
   some 0
  else
   some (-1)
  else
  bif decide ((substr.length : Int) > (s.length : Int)) then
   some (-1)
  else
   (aK s substr).bind fun x1 =>
   some x1
def h149 : Hint:=.z
def sp149 : Spec fam:=⟨[.v .str [],.v .str []],[.v (.int .i64) []],fun a => er a.1 a.2.1⟩
def ji (path : List UInt8) : Option (List UInt8 × Bool) :=
 (er path ([46] : List UInt8)).bind fun i =>
 bif decide (i < 0) then
 some (([] : List UInt8),false)
 else
 (slc path 0 i).bind fun s =>
 some (s,true)
def h130 : Hint:=.z
def sp130 : Spec fam:=⟨[.v .str []],[.v .str [],.v .bool []],fun a => ji a.1⟩
def ql (t : List UInt8 × List (List UInt8)) : Option ((List UInt8 × List (List UInt8)) ⊕ List (List UInt8)) :=
 bif ! (t.1 == ([] : List UInt8)) then
 (app 16 t.2 [t.1]).bind fun l =>
 (ji t.1).bind fun x =>
 some (.inl (x.1,l))
 else
 some (.inr t.2)
def pz (path : List UInt8) : Option (List (List UInt8)) :=
 (loop ql (path,[])).bind fun out =>
 some out
def h103 : Hint:=(.s .z (.s .z (.s (.b (.l [(0,.v .str []),(3,.v (.slice (.str)) [0])] [0,3] [(2,[(3,.v (.slice (.str)) [0])])] .z)) .z)))
def sp103 : Spec fam:=⟨[.v .str []],[.v (.slice (.str)) [0]],fun a => pz a.1⟩
def nr (l : List Vec) (t : Vec × Int) : Option ((Vec × Int) ⊕ Vec) :=
 bif decide (t.2 < (l.length : Int)) then
 (idx l t.2).bind fun x =>
 (gg t.1 x).bind fun x1 =>
 some (.inl (x1.1,w64 (t.2 + 1)))
 else
 some (.inr t.1)
def lp (l : List Vec) : Option Vec :=
 (loop (nr l) ((⟨0,0⟩ : Vec),0)).bind fun out =>
 some out
def h132 : Hint:=(.s .z (.s .z (.s (.s .z (.b (.l [(3,.box (.st 0) []),(8,.v (.int .i64) [])] [3,5,8] [(2,[(3,.box (.st 0) [])])] .z))) .z)))
def sp132 : Spec fam:=⟨[.v (.slice (.st 0)) []],[.v (.st 0) []],fun a => lp a.1⟩
def kG (s : State) (label : Int) (t : List Vec × Int) : Option ((List Vec × Int) ⊕ List Vec) :=
 bif decide (t.2 < (s.Nodes.length : Int)) then
 (
  (idx s.Nodes t.2).bind fun x =>
  (
  bif x.Up then
   some (x.Label == label)
  else
   some false).bind fun q =>
  bif q then
  (app 16 t.1 [x.Cap]).bind fun l =>
  some l
  else
  some t.1).bind fun l1 =>
 some (.inl (l1,w64 (t.2 + 1)))
 else
 some (.inr t.1)
def ib (s : State) (label : Int) : Option Vec :=
 (loop (kG s label) ([],0)).bind fun l2 =>
 (lp l2).bind fun x1 =>
 some x1
def h105 : Hint:=(.s .z (.s .z (.s (.s .z (.b (.l [(5,.v (.slice (.st 0)) [0]),(11,.v (.int .i64) [])] [5,7,11,22] [(2,[(5,.v (.slice (.st 0)) [0])])] (.s .z (.s .z (.s (.j [5,7,22] [(0,[(5,.v (.slice (.st 0)) [0])])] (.b (.s .z (.s (.j [] [(0,[(22,.v .bool [])])] .z) .z)))) .z)))))) .z)))
def sp105 : Spec fam:=⟨[.v (.st 10) [],.v (.int .i64) []],[.v (.st 0) []],fun a => ib a.1 a.2.1⟩
def l7 (s : State) (label : Int) (part : (TupT fam [.st 1] → Option Int)) (up : List (List UInt8)) (t : Vec × Vec × Int) : Option ((Vec × Vec × Int) ⊕ (Vec ⊕ (Vec × Vec))) :=
 bif decide (t.2.2 ≥ 0) then
 (inb t.2.2 up.length).bind fun i1 =>
 (up[i1]?).bind fun x2 =>
 (iQ s.Conf x2).bind fun x3 =>
 (
  bif ! x3.2 then
  some true
  else
  bif decide (label < 0) then
   some true
  else
   some (decide (label ≥ (x3.1.Caps.length : Int)))).bind fun q =>
 bif q then
  some (.inr (.inl (⟨0,0⟩ : Vec)))
 else
  (inb label x3.1.Caps.length).bind fun i2 =>
  (x3.1.Caps[i2]?).bind fun x4 =>
  (part (x4,())).bind fun r =>
  (jF t.2.1 r).bind fun x5 =>
  some (.inl (t.1,x5.1,w64 (t.2.2 - 1)))
 else
 some (.inr (.inr (t.1,t.2.1)))
def jD (s : State) (path : List UInt8) (label : Int) (part : (TupT fam [.st 1] → Option Int)) : Option Vec :=
 (pz path).bind fun up =>
 (iQ s.Conf path).bind fun x =>
 bif ! x.2 then
 some (⟨0,0⟩ : Vec)
 else
 (ib s label).bind fun x1 =>
 let i:=w64 ((up.length : Int) - 2)
 (loop (l7 s label part up) ((⟨0,0⟩ : Vec),x1,i)).bind fun q0 =>
 match q0 with
 | .inl q1 =>
  some q1
 | .inr q2 =>
  some q2.2
def h99 : Hint:=(.s .z (.s .z (.s .z (.s .z (.s (.s .z (.b (.l [(8,.box (.st 0) []),(12,.box (.st 0) []),(13,.v (.int .i64) [])] [8,12,13,14,60] [(1,[(8,.box (.st 0) [])]),(2,[(8,.box (.st 0) []),(12,.box (.st 0) [])])] (.s .z (.s (.b (.s .z (.s (.s (.j [] [(0,[(60,.v .bool [])])] .z) .z) .z))) .z))))) .z)))))
def sp99 : Spec fam:=⟨[.v (.st 10) [],.v .str [],.v (.int .i64) [],.fn [.st 1] (.int .i64)],[.v (.st 0) []],fun a => jD a.1 a.2.1 a.2.2.1 a.2.2.2.1⟩
def cU (c : Cap) : Option Int :=
 some c.Least
def h100 : Hint:=.z
def sp100 : Spec fam:=⟨[.v (.st 1) []],[.v (.int .i64) []],fun a => cU a.1⟩
def fx (s : State) (path : List UInt8) (label : Int) : Option Vec :=
 (jD s path label (fun a' => cU a'.1)).bind fun x =>
 some x
def h77 : Hint:=.z
def sp77 : Spec fam:=⟨[.v (.st 10) [],.v .str [],.v (.int .i64) []],[.v (.st 0) []],fun a => fx a.1 a.2.1 a.2.2.1⟩
def b8 (t : Attempt) (a : App) (x : Ask) : Option Bool :=
 (gz t.s a.Queue t.n.Label).bind fun x1 =>
 (gg x1 x.Size).bind fun x2 =>
 bif x2.2 == 0 then
 (fx t.s a.Queue t.n.Label).bind fun x3 =>
 (dO x2.1 x3).bind fun x4 =>
 some x4
 else
 some false
def h47 : Hint:=.z
def sp47 : Spec fam:=⟨[.rp (.st 13),.v (.st 6) [],.v (.st 5) []],[.v .bool []],fun a => b8 a.1 a.2.1 a.2.2.1⟩
def gD (s : State) (path : List UInt8) (label : Int) (user : Int) : Option Vec :=
 bif user == (-1) then
 some (⟨0,0⟩ : Vec)
 else
 (dU (⟨⟨⟨s.Conf.Labels,s.Conf.Queues⟩,s.Nodes,s.Apps,s.Conts,s.Slots,s.Plans,s.Now,s.Epoch,s.Seq⟩,path,label,user⟩ : View)).bind fun x =>
 some x
def h78 : Hint:=.z
def sp78 : Spec fam:=⟨[.v (.st 10) [],.v .str [],.v (.int .i64) [],.v (.int .i64) []],[.v (.st 0) []],fun a => gD a.1 a.2.1 a.2.2.1 a.2.2.2.1⟩
def mB (s : State) (path : List UInt8) (label : Int) : Option Vec :=
 (iQ s.Conf path).bind fun x =>
 (fx s path label).bind fun x1 =>
 (jF x1 x.1.User).bind fun x2 =>
 some x2.1
def h79 : Hint:=.z
def sp79 : Spec fam:=⟨[.v (.st 10) [],.v .str [],.v (.int .i64) []],[.v (.st 0) []],fun a => mB a.1 a.2.1 a.2.2.1⟩
def bO (t : Attempt) (a : App) : Option Bool :=
 (gD t.s a.Queue t.n.Label a.User).bind fun x =>
 (mB t.s a.Queue t.n.Label).bind fun x1 =>
 (dO x x1).bind fun x2 =>
 some x2
def h48 : Hint:=.z
def sp48 : Spec fam:=⟨[.rp (.st 13),.v (.st 6) []],[.v .bool []],fun a => bO a.1 a.2.1⟩
def bM (t : Attempt) (x : Ask) : Option Bool :=
 (dO x.Size t.free).bind fun x1 =>
 some x1
def h49 : Hint:=.z
def sp49 : Spec fam:=⟨[.rp (.st 13),.v (.st 5) []],[.v .bool []],fun a => bM a.1 a.2.1⟩
def dq (c : Cap) : Option Int :=
 some c.Most
def h131 : Hint:=.z
def sp131 : Spec fam:=⟨[.v (.st 1) []],[.v (.int .i64) []],fun a => dq a.1⟩
def my (s : State) (path : List UInt8) (label : Int) : Option Vec :=
 (jD s path label (fun a' => dq a'.1)).bind fun x =>
 some x
def h104 : Hint:=.z
def sp104 : Spec fam:=⟨[.v (.st 10) [],.v .str [],.v (.int .i64) []],[.v (.st 0) []],fun a => my a.1 a.2.1 a.2.2.1⟩
def lN (s : State) (label : Int) (t : List Vec × Int) : Option ((List Vec × Int) ⊕ List Vec) :=
 bif decide (t.2 < (s.Plans.length : Int)) then
 (
  (idx s.Plans t.2).bind fun x =>
  (
  bif x.Label == label then
   bif decide (x.From ≤ s.Now) then
   some (decide (x.Until > s.Now))
   else
   some false
  else
   some false).bind fun q =>
  bif q then
  (app 16 t.1 [x.Need]).bind fun l =>
  some l
  else
  some t.1).bind fun l1 =>
 some (.inl (l1,w64 (t.2 + 1)))
 else
 some (.inr t.1)
def mA (s : State) (label : Int) : Option Vec :=
 (loop (lN s label) ([],0)).bind fun l2 =>
 (lp l2).bind fun x1 =>
 some x1
def h106 : Hint:=(.s .z (.s .z (.s (.s .z (.b (.l [(5,.v (.slice (.st 0)) [0]),(11,.v (.int .i64) [])] [5,7,11,32] [(2,[(5,.v (.slice (.st 0)) [0])])] (.s .z (.s .z (.s (.j [5,7,32] [(0,[(5,.v (.slice (.st 0)) [0])])] (.b (.s .z (.s (.j [] [(0,[(32,.v .bool [])])] .z) .z)))) .z)))))) .z)))
def sp106 : Spec fam:=⟨[.v (.st 10) [],.v (.int .i64) []],[.v (.st 0) []],fun a => mA a.1 a.2.1⟩
def lY (s : State) (label : Int) (size : Vec) (x : List (List UInt8)) (t : Int) : Option (Int ⊕ (Bool ⊕ Unit)) :=
 bif decide (t < (x.length : Int)) then
 (inb t x.length).bind fun i =>
 (x[i]?).bind fun x1 =>
 (gz s x1 label).bind fun x2 =>
 (gg x2 size).bind fun x3 =>
 (
  bif x3.2 != 0 then
  some true
  else
  (my s x1 label).bind fun x4 =>
  (dO x3.1 x4).bind fun x5 =>
  some (! x5)).bind fun q =>
 bif q then
  some (.inr (.inl false))
 else
  (ib s label).bind fun x6 =>
  (mA s label).bind fun x7 =>
  (
  bif x1 == ([114,111,111,116] : List UInt8) then
   bif ! (((imax (w64 (x6.Mem - x7.Mem)) 0) == x6.Mem) && ((imax (w64 (x6.Cores - x7.Cores)) 0) == x6.Cores)) then
   (dO x3.1 (⟨imax (w64 (x6.Mem - x7.Mem)) 0,imax (w64 (x6.Cores - x7.Cores)) 0⟩ : Vec)).bind fun x8 =>
   some (! x8)
   else
   some false
  else
   some false).bind fun q1 =>
  bif q1 then
  some (.inr (.inl false))
  else
  some (.inl (w64 (t + 1)))
 else
 some (.inr (.inr ()))
def ms (s : State) (path : List UInt8) (label : Int) (size : Vec) : Option Bool :=
 (pz path).bind fun x =>
 (loop (lY s label size x) 0).bind fun q0 =>
 match q0 with
 | .inl q2 =>
 some q2
 | .inr _ =>
 some true
def h80 : Hint:=(.s .z (.s (.s .z (.b (.l [(19,.v (.int .i64) [])] [8,10,11,12,13,14,15,19,42,74] [(1,[(8,.v .bool [])]),(2,[])] (.s .z (.s .z (.s (.b (.s .z (.s .z (.s (.s (.j [] [(0,[(42,.v .bool [])])] .z) .z) (.s .z (.s .z (.s (.j [] [(0,[(74,.v .bool [])])] .z) .z))))))) .z)))))) .z))
def sp80 : Spec fam:=⟨[.v (.st 10) [],.v .str [],.v (.int .i64) [],.v (.st 0) []],[.v .bool []],fun a => ms a.1 a.2.1 a.2.2.1 a.2.2.2.1⟩
def bN (t : Attempt) (a : App) (x : Ask) : Option Bool :=
 (ms t.s a.Queue t.n.Label x.Size).bind fun x1 =>
 some x1
def h50 : Hint:=.z
def sp50 : Spec fam:=⟨[.rp (.st 13),.v (.st 6) [],.v (.st 5) []],[.v .bool []],fun a => bN a.1 a.2.1 a.2.2.1⟩
def i_ (s : List Slot) (i : Int) (j : Int) : Option (List Slot):=del s i j
def sp51 : Spec fam:=⟨[.v (.slice (.st 8)) [0],.v (.int .i64) [],.v (.int .i64) []],[.v (.slice (.st 8)) [0]],fun a => i_ a.1 a.2.1 a.2.2.1⟩
def oE (a : Ask) (p : Int) : Option Bool :=
 some (a.Prio == p)
def h134 : Hint:=.z
def sp134 : Spec fam:=⟨[.v (.st 5) [],.rp (.int .i64)],[.v .bool []],fun a => oE a.1 a.2.1⟩
def pq (l : List Ask) (prio : Int) : Option Int :=
 (gf l (fun a' => oE a'.1 prio)).bind fun x =>
 some x
def h108 : Hint:=.z
def sp108 : Spec fam:=⟨[.v (.slice (.st 5)) [],.v (.int .i64) []],[.v (.int .i64) []],fun a => pq a.1 a.2.1⟩
def jX (s : List Ask) (i : Int) (j : Int) : Option (List Ask):=del s i j
def sp109 : Spec fam:=⟨[.v (.slice (.st 5)) [0],.v (.int .i64) [],.v (.int .i64) []],[.v (.slice (.st 5)) [0]],fun a => jX a.1 a.2.1 a.2.2.1⟩
def oq (l : List Ask) (prio : Int) : Option (List Ask × Bool) :=
 (kx l).bind fun out =>
 (pq out prio).bind fun i =>
 bif decide (i < 0) then
 some (out,false)
 else
 (inb i out.length).bind fun i1 =>
 (out[i1]?).bind fun x =>
 (inb i (List.set out i1 (⟨x.Prio,x.Label,⟨x.Size.Mem,x.Size.Cores⟩,x.Count,x.Node,x.Rack,0⟩ : Ask)).length).bind fun i2 =>
 ((List.set out i1 (⟨x.Prio,x.Label,⟨x.Size.Mem,x.Size.Cores⟩,x.Count,x.Node,x.Rack,0⟩ : Ask))[i2]?).bind fun x1 =>
 (inb i (List.set out i1 (⟨x.Prio,x.Label,⟨x.Size.Mem,x.Size.Cores⟩,x.Count,x.Node,x.Rack,0⟩ : Ask)).length).bind fun i3 =>
 ((List.set out i1 (⟨x.Prio,x.Label,⟨x.Size.Mem,x.Size.Cores⟩,x.Count,x.Node,x.Rack,0⟩ : Ask))[i3]?).bind fun x2 =>
 (
  (inb i (List.set (List.set out i1 (⟨x.Prio,x.Label,⟨x.Size.Mem,x.Size.Cores⟩,x.Count,x.Node,x.Rack,0⟩ : Ask)) i3 (⟨x2.Prio,x2.Label,⟨x2.Size.Mem,x2.Size.Cores⟩,w64 (x1.Count - 1),x2.Node,x2.Rack,x2.Missed⟩ : Ask)).length).bind fun i4 =>
  ((List.set (List.set out i1 (⟨x.Prio,x.Label,⟨x.Size.Mem,x.Size.Cores⟩,x.Count,x.Node,x.Rack,0⟩ : Ask)) i3 (⟨x2.Prio,x2.Label,⟨x2.Size.Mem,x2.Size.Cores⟩,w64 (x1.Count - 1),x2.Node,x2.Rack,x2.Missed⟩ : Ask))[i4]?).bind fun x3 =>
  bif decide (x3.Count ≤ 0) then
  (jX (List.set (List.set out i1 (⟨x.Prio,x.Label,⟨x.Size.Mem,x.Size.Cores⟩,x.Count,x.Node,x.Rack,0⟩ : Ask)) i3 (⟨x2.Prio,x2.Label,⟨x2.Size.Mem,x2.Size.Cores⟩,w64 (x1.Count - 1),x2.Node,x2.Rack,x2.Missed⟩ : Ask)) i (w64 (i + 1))).bind fun out1 =>
  some out1
  else
  some (List.set (List.set out i1 (⟨x.Prio,x.Label,⟨x.Size.Mem,x.Size.Cores⟩,x.Count,x.Node,x.Rack,0⟩ : Ask)) i3 (⟨x2.Prio,x2.Label,⟨x2.Size.Mem,x2.Size.Cores⟩,w64 (x1.Count - 1),x2.Node,x2.Rack,x2.Missed⟩ : Ask))).bind fun out2 =>
 some (out2,true)
def h81 : Hint:=(.s .z (.s .z (.s .z (.s .z (.s .z (.s .z (.s (.j [6] [(0,[(6,.v (.slice (.st 5)) [0])])] .z) .z)))))))
def sp81 : Spec fam:=⟨[.v (.slice (.st 5)) [],.v (.int .i64) []],[.v (.slice (.st 5)) [0],.v .bool []],fun a => oq a.1 a.2.1⟩
def uR (s : List App) (i : Int) (v : List App) : Option (List App) :=
 (inS i (s.length : Int) s.length).bind fun p =>
 bif (v.length : Int) == 0 then
 some s
 else
 bif i == (s.length : Int) then
  (app 200 s v).bind fun l =>
  some l
 else
  none
def j_ (s : List App) (i : Int) (v : List App) : Option (List App):=ins s i v
def h135 : Hint:=.z
def sp135 : Spec fam:=⟨[.v (.slice (.st 6)) [0],.v (.int .i64) [],.v (.slice (.st 6)) [0]],[.v (.slice (.st 6)) [0]],fun a => j_ a.1 a.2.1 a.2.2.1⟩
def BC : Spec fam:=⟨[.v (.slice (.st 6)) [0],.v (.int .i64) [],.v (.slice (.st 6)) [0]],[.v (.slice (.st 6)) [0]],fun a => uR a.1 a.2.1 a.2.2.1⟩
def oM (s : State) (a : App) (k : Int) : Option (Int ⊕ Int) :=
 (
 bif decide (k < (s.Apps.length : Int)) then
  (inb k s.Apps.length).bind fun i2 =>
  (s.Apps[i2]?).bind fun x1 =>
  some (decide (x1.Id < a.Id))
 else
  some false).bind fun q =>
 bif q then
 some (.inl (w64 (k + 1)))
 else
 some (.inr k)
def qq (s : State) (a : App) : Option State :=
 (mP s a.Id).bind fun i =>
 bif decide (i ≥ 0) then
 (inb i s.Apps.length).bind fun i1 =>
 (s.Apps[i1]?).bind fun x =>
 some (⟨⟨s.Conf.Labels,s.Conf.Queues⟩,s.Nodes,List.set s.Apps i1 a,s.Conts,s.Slots,s.Plans,s.Now,s.Epoch,s.Seq⟩ : State)
 else
 (loop (oM s a) 0).bind fun k1 =>
 (j_ s.Apps k1 [a]).bind fun x2 =>
 some (⟨⟨s.Conf.Labels,s.Conf.Queues⟩,s.Nodes,x2,s.Conts,s.Slots,s.Plans,s.Now,s.Epoch,s.Seq⟩ : State)
def h110 : Hint:=(.s .z (.s .z (.s .z (.s (.b (.l [(6,.v (.int .i64) [])] [6,34] [(2,[(6,.v (.int .i64) [])])] (.s (.s (.j [] [(0,[(34,.v .bool [])])] .z) .z) .z))) .z))))
def sp110 : Spec fam:=⟨[.v (.st 10) [0,1,2,3,4,5,6],.v (.st 6) [7,10,11,12,13,9999]],[.v (.st 10) [0,1,2,3,4,5,6]],fun a => qq a.1 a.2.1⟩
def nK (s : State) (a : App) : Option State :=
 (kP s).bind fun x =>
 (kQ a).bind fun x1 =>
 (qq x x1).bind fun x2 =>
 some x2
def h82 : Hint:=.z
def sp82 : Spec fam:=⟨[.v (.st 10) [],.ln (.st 6)],[.v (.st 10) [0,1,2,3,4,5,6]],fun a => nK a.1 a.2.1⟩
def uV (s : List Cont) (i : Int) (v : List Cont) : Option (List Cont) :=
 (inS i (s.length : Int) s.length).bind fun p =>
 bif (v.length : Int) == 0 then
 some s
 else
 bif i == (s.length : Int) then
  (app 72 s v).bind fun l =>
  some l
 else
  none
def ju (s : List Cont) (i : Int) (v : List Cont) : Option (List Cont):=ins s i v
def h83 : Hint:=.z
def sp83 : Spec fam:=⟨[.v (.slice (.st 7)) [0],.v (.int .i64) [],.v (.slice (.st 7)) [0]],[.v (.slice (.st 7)) [0]],fun a => ju a.1 a.2.1 a.2.2.1⟩
def Cy : Spec fam:=⟨[.v (.slice (.st 7)) [0],.v (.int .i64) [],.v (.slice (.st 7)) [0]],[.v (.slice (.st 7)) [0]],fun a => uV a.1 a.2.1 a.2.2.1⟩
def dL (t : Attempt) (x2 : State) (k : Int) : Option (Int ⊕ Int) :=
 (
 bif decide (k < (x2.Conts.length : Int)) then
  (inb k x2.Conts.length).bind fun i =>
  (x2.Conts[i]?).bind fun x3 =>
  some (decide (x3.Id < (w64 ((shlK .i64 t.s.Epoch 20) + (w64 (t.s.Seq + 1))))))
 else
  some false).bind fun q =>
 bif q then
 some (.inl (w64 (k + 1)))
 else
 some (.inr k)
def bq (t : Attempt) (a : App) (x : Ask) : Option (Cont × Attempt) :=
 (oq a.Asks x.Prio).bind fun x1 =>
 (
 bif a.State == 1 then
  some (⟨a.Id,2,a.Queue,a.User,a.Prio,⟨a.Master.Mem,a.Master.Cores⟩,[],t.s.Now,0,a.Grants,a.Kills,a.Told,a.Lost⟩ : App)
 else
  (app 8 a.Grants [w64 ((shlK .i64 t.s.Epoch 20) + (w64 (t.s.Seq + 1)))]).bind fun l =>
  some (⟨a.Id,a.State,a.Queue,a.User,a.Prio,⟨a.Master.Mem,a.Master.Cores⟩,x1.1,a.Seen,a.Beat,l,a.Kills,a.Told,a.Lost⟩ : App)).bind fun a1 =>
 (nK (⟨⟨t.s.Conf.Labels,t.s.Conf.Queues⟩,t.s.Nodes,t.s.Apps,t.s.Conts,t.s.Slots,t.s.Plans,t.s.Now,t.s.Epoch,w64 (t.s.Seq + 1)⟩ : State) a1).bind fun x2 =>
 (loop (dL t x2) 0).bind fun k1 =>
 (ju x2.Conts k1 [(⟨w64 ((shlK .i64 t.s.Epoch 20) + (w64 (t.s.Seq + 1))),a.Id,t.n.Id,⟨x.Size.Mem,x.Size.Cores⟩,x.Prio,x.Label,a.State == 1,0⟩ : Cont)]).bind fun x4 =>
 some ((⟨w64 ((shlK .i64 t.s.Epoch 20) + (w64 (t.s.Seq + 1))),a.Id,t.n.Id,⟨x.Size.Mem,x.Size.Cores⟩,x.Prio,x.Label,a.State == 1,0⟩ : Cont),(⟨⟨⟨x2.Conf.Labels,x2.Conf.Queues⟩,x2.Nodes,x2.Apps,x4,x2.Slots,x2.Plans,x2.Now,x2.Epoch,x2.Seq⟩,⟨t.n.Id,t.n.Label,t.n.Rack,⟨t.n.Cap.Mem,t.n.Cap.Cores⟩,t.n.Seen,t.n.Beat,t.n.Up⟩,⟨t.free.Mem,t.free.Cores⟩⟩ : Attempt))
def h52 : Hint:=(.s .z (.s .z (.s .z (.s .z (.s (.j [1,4] [(0,[(4,.box (.st 6) [7,10,11,12,13])])] .z) (.s .z (.s .z (.s (.b (.l [(8,.v (.int .i64) [])] [8,104] [(2,[(8,.v (.int .i64) [])])] (.s (.s (.j [] [(0,[(104,.v .bool [])])] .z) .z) .z))) .z))))))))
def sp52 : Spec fam:=⟨[.box (.st 13) [0,1,2,3,4,5,6],.v (.st 6) [7,10,11,12,13],.v (.st 5) []],[.v (.st 7) []],fun a => bq a.1 a.2.1 a.2.2.1⟩
def dj (t : Attempt) : Option (Int × Cont × Bool × Attempt) :=
 (gi t.s.Slots (fun a' => cp a'.1 t)).bind fun i =>
 bif decide (i < 0) then
 some (0,(⟨0,0,0,⟨0,0⟩,0,0,false,0⟩ : Cont),false,t)
 else
 (inb i t.s.Slots.length).bind fun i1 =>
 (t.s.Slots[i1]?).bind fun x =>
 (lD t.s x.App).bind fun x1 =>
 (kW x1.1 x.Prio).bind fun x2 =>
 (
  bif x1.2 then
  (lz x1.1).bind fun x3 =>
  bif x3 then
   bif x2.2 then
   (iW x2.1 t.n).bind fun x4 =>
   bif x4 then
    (bD t x2.1).bind fun x5 =>
    bif x5 then
    (b8 t x1.1 x2.1).bind fun x6 =>
    bif x6 then
     (bO t x1.1).bind fun x7 =>
     some x7
    else
     some false
    else
    some false
   else
    some false
   else
   some false
  else
   some false
  else
  some false).bind fun stays =>
 (
  bif stays then
  (bM t x2.1).bind fun x8 =>
  bif x8 then
   (bN t x1.1 x2.1).bind fun x9 =>
   some (! x9)
  else
   some true
  else
  some false).bind fun q =>
 bif q then
  some (3,(⟨0,0,0,⟨0,0⟩,0,0,false,0⟩ : Cont),true,t)
 else
  (i_ t.s.Slots i (w64 (i + 1))).bind fun x10 =>
  bif ! stays then
  some (0,(⟨0,0,0,⟨0,0⟩,0,0,false,0⟩ : Cont),false,(⟨⟨⟨t.s.Conf.Labels,t.s.Conf.Queues⟩,t.s.Nodes,t.s.Apps,t.s.Conts,x10,t.s.Plans,t.s.Now,t.s.Epoch,t.s.Seq⟩,⟨t.n.Id,t.n.Label,t.n.Rack,⟨t.n.Cap.Mem,t.n.Cap.Cores⟩,t.n.Seen,t.n.Beat,t.n.Up⟩,⟨t.free.Mem,t.free.Cores⟩⟩ : Attempt))
  else
  (bq (⟨⟨⟨t.s.Conf.Labels,t.s.Conf.Queues⟩,t.s.Nodes,t.s.Apps,t.s.Conts,x10,t.s.Plans,t.s.Now,t.s.Epoch,t.s.Seq⟩,⟨t.n.Id,t.n.Label,t.n.Rack,⟨t.n.Cap.Mem,t.n.Cap.Cores⟩,t.n.Seen,t.n.Beat,t.n.Up⟩,⟨t.free.Mem,t.free.Cores⟩⟩ : Attempt) x1.1 x2.1).bind fun x11 =>
  some (1,x11.1,true,x11.2)
def h17 : Hint:=(.s .z (.s .z (.s .z (.s .z (.s .z (.s .z (.s (.j [11] [(0,[(11,.v .bool [])])] .z) (.s (.s (.j [] [(0,[(91,.v .bool [])])] .z) .z) .z))))))))
def sp17 : Spec fam:=⟨[.box (.st 13) [0,1,2,3,4,5,6]],[.v (.int .i64) [],.v (.st 7) [],.v .bool []],fun a => dj a.1⟩
def mV (c : Conf) (path : List UInt8) (t : List (List UInt8) × Int) : Option ((List (List UInt8) × Int) ⊕ List (List UInt8)) :=
 bif decide (t.2 < (c.Queues.length : Int)) then
 (
  (idx c.Queues t.2).bind fun x =>
  (ji x.Path).bind fun x1 =>
  (
  bif x1.2 then
   some (x1.1 == path)
  else
   some false).bind fun q =>
  bif q then
  (app 16 t.1 [x.Path]).bind fun l =>
  some l
  else
  some t.1).bind fun out =>
 some (.inl (out,w64 (t.2 + 1)))
 else
 some (.inr t.1)
def oi (c : Conf) (path : List UInt8) : Option (List (List UInt8)) :=
 (loop (mV c path) ([],0)).bind fun out1 =>
 some out1
def h137 : Hint:=(.s .z (.s .z (.s (.s .z (.b (.l [(5,.v (.slice (.str)) [0]),(13,.v (.int .i64) [])] [5,7,8,9,13,28] [(2,[(5,.v (.slice (.str)) [0])])] (.s .z (.s .z (.s (.j [5,7,8,9,28] [(0,[(5,.v (.slice (.str)) [0])])] (.b (.s .z (.s .z (.s (.j [] [(0,[(28,.v .bool [])])] .z) .z))))) .z)))))) .z)))
def sp137 : Spec fam:=⟨[.v (.st 3) [],.v .str []],[.v (.slice (.str)) [0]],fun a => oi a.1 a.2.1⟩
def la (s : List Load) (f : (TupT fam [.st 12,.st 12] → Option Int)) : Option (List Load):=sortG (F:=fam) (.st 12) f s
def sp138 : Spec fam:=⟨[.row (.st 12) false,.fn [.st 12,.st 12] (.int .i64)],[],fun a => la a.1 a.2.1⟩
def kN (vals : List Int) (t : Int) : Option (Int ⊕ (Int ⊕ Unit)) :=
 bif decide (t < (vals.length : Int)) then
 (idx vals t).bind fun x =>
 bif x != 0 then
  some (.inr (.inl x))
 else
  some (.inl (w64 (t + 1)))
 else
 some (.inr (.inr ()))
def h_ (vals : List Int) : Option Int :=
 (loop (kN vals) 0).bind fun q0 =>
 match q0 with
 | .inl q =>
 some q
 | .inr _ =>
 some 0
def h116 : Hint:=(.s .z (.s .z (.s (.s .z (.b (.l [(8,.v (.int .i64) [])] [2,5,8] [(1,[(2,.v (.int .i64) [])]),(2,[])] .z))) .z)))
def sp116 : Spec fam:=⟨[.v (.slice (.int .i64)) []],[.v (.int .i64) []],fun a => h_ a.1⟩
def cf (r : Ratio) (q : Ratio) : Option Int :=
 (
 bif r.of == 0 then
  some (q.of == 0)
 else
  some false).bind fun q1 =>
 bif q1 then
 some 0
 else
 bif r.of == 0 then
  some 1
 else
  bif q.of == 0 then
  some (-1)
  else
  (gx r.n q.of).bind fun x =>
  (gx q.n r.of).bind fun x1 =>
  (
   bif decide (x.1 < x1.1) then
   some true
   else
   bif x.1 == x1.1 then
    some (decide (x.2 < x1.2))
   else
    some false).bind fun q2 =>
  bif q2 then
   some (-1)
  else
   (
   bif x.1 == x1.1 then
    some (x.2 == x1.2)
   else
    some false).bind fun q3 =>
   bif q3 then
   some 0
   else
   some 1
def h177 : Hint:=(.s .z (.s (.b (.s (.j [] [(0,[(9,.v .bool [])])] .z) .z)) (.s .z (.s .z (.s (.b (.s (.j [] [(0,[(42,.v .bool [])])] .z) (.c .z (.s (.j [] [(0,[(56,.v .bool [])])] .z) .z)))) .z)))))
def sp177 : Spec fam:=⟨[.v (.st 14) [],.v (.st 14) []],[.v (.int .i64) []],fun a => cf a.1 a.2.1⟩
def pI (a : Vec) (p : Vec) (get : (TupT fam [.st 0] → Option Int)) : Option Ratio :=
 (get (a,())).bind fun r =>
 (get (p,())).bind fun r1 =>
 bif r == 0 then
 some (⟨0,1⟩ : Ratio)
 else
 some (⟨IntKind.u64.wrap r,IntKind.u64.wrap r1⟩ : Ratio)
def h189 : Hint:=.z
def sp189 : Spec fam:=⟨[.v (.st 0) [],.v (.st 0) [],.fn [.st 0] (.int .i64)],[.v (.st 14) []],fun a => pI a.1 a.2.1 a.2.2.1⟩
def jn (v : Vec) : Option Int :=
 some v.Mem
def h190 : Hint:=.z
def sp190 : Spec fam:=⟨[.v (.st 0) []],[.v (.int .i64) []],fun a => jn a.1⟩
def gH (v : Vec) : Option Int :=
 some v.Cores
def h191 : Hint:=.z
def sp191 : Spec fam:=⟨[.v (.st 0) []],[.v (.int .i64) []],fun a => gH a.1⟩
def lE (a : Vec) (p : Vec) : Option Ratio :=
 (pI a p (fun a' => jn a'.1)).bind fun x =>
 (pI a p (fun a' => gH a'.1)).bind fun x1 =>
 (cf x x1).bind fun x2 =>
 bif decide (x2 < 0) then
 some x1
 else
 some x
def h176 : Hint:=.z
def sp176 : Spec fam:=⟨[.v (.st 0) [],.v (.st 0) []],[.v (.st 14) []],fun a => lE a.1 a.2.1⟩
def mu (a : Vec) (p : Vec) (b : Vec) (q : Vec) : Option Int :=
 (
 (aP a).bind fun x =>
 bif ! x then
  some true
 else
  (aP p).bind fun x1 =>
  bif ! x1 then
  some true
  else
  (aP b).bind fun x2 =>
  bif ! x2 then
   some true
  else
   (aP q).bind fun x3 =>
   some (! x3)).bind fun q1 =>
 bif q1 then
 some 0
 else
 (lE a p).bind fun x4 =>
 (lE b q).bind fun x5 =>
 (cf x4 x5).bind fun x6 =>
 some x6
def h155 : Hint:=(.s .z (.s (.s (.j [] [(0,[(26,.v .bool [])])] .z) .z) .z))
def sp155 : Spec fam:=⟨[.v (.st 0) [],.v (.st 0) [],.v (.st 0) [],.v (.st 0) []],[.v (.int .i64) []],fun a => mu a.1 a.2.1 a.2.2.1 a.2.2.2.1⟩
def cB (x : List UInt8) : Option Bool :=
 some (! (x == x))
def h178 : Hint:=.z
def sp178 : Spec fam:=⟨[.v .str []],[.v .bool []],fun a => cB a.1⟩
def du (x : List UInt8) (y : List UInt8) : Option Int :=
 (cB x).bind fun xNaN =>
 (cB y).bind fun yNaN =>
 bif xNaN then
 bif yNaN then
  some 0
 else
  some (-1)
 else
 bif yNaN then
  some 1
 else
  bif Op.bytesLess x y then
  some (-1)
  else
  bif ! (strLe x y) then
   some 1
  else
   some 0
def h156 : Hint:=.z
def sp156 : Spec fam:=⟨[.v .str [],.v .str []],[.v (.int .i64) []],fun a => du a.1 a.2.1⟩
def dW (a : Load) (b : Load) : Option Int :=
 (mu a.used a.least b.used b.least).bind fun x =>
 (du a.path b.path).bind fun x1 =>
 (h_ [x,x1]).bind fun x2 =>
 some x2
def h139 : Hint:=.z
def sp139 : Spec fam:=⟨[.v (.st 12) [],.v (.st 12) []],[.v (.int .i64) []],fun a => dW a.1 a.2.1⟩
def l9 (x4 : List Load) (t1 : List (List UInt8) × Int) : Option ((List (List UInt8) × Int) ⊕ List (List UInt8)) :=
 bif decide (t1.2 < (x4.length : Int)) then
 (inb t1.2 x4.length).bind fun i1 =>
 (x4[i1]?).bind fun x5 =>
 (inS t1.2 (t1.1.length : Int) t1.1.length).bind fun p =>
 some (.inl (cpy t1.1 p.1 p.2 [x5.path],w64 (t1.2 + 1)))
 else
 some (.inr t1.1)
def l6 (s : State) (label : Int) (x : List (List UInt8)) (t : List Load × Int) : Option ((List Load × Int) ⊕ List Load) :=
 bif decide (t.2 < (x.length : Int)) then
 (inb t.2 x.length).bind fun i =>
 (x[i]?).bind fun x1 =>
 (gz s x1 label).bind fun x2 =>
 (fx s x1 label).bind fun x3 =>
 (app 48 t.1 [(⟨x1,⟨x2.Mem,x2.Cores⟩,⟨x3.Mem,x3.Cores⟩⟩ : Load)]).bind fun l =>
 some (.inl (l,w64 (t.2 + 1)))
 else
 some (.inr t.1)
def mv (s : State) (path : List UInt8) (label : Int) : Option (List (List UInt8)) :=
 (oi s.Conf path).bind fun x =>
 (loop (l6 s label x) ([],0)).bind fun l1 =>
 (la l1 (fun a' => dW a'.1 a'.2.1)).bind fun x4 =>
 (mkl 16 (x4.length : Int) (x4.length : Int) []).bind fun l2 =>
 (loop (l9 x4) (l2,0)).bind fun out =>
 some out
def h113 : Hint:=(.s .z (.s .z (.s (.s .z (.b (.l [(7,.v (.slice (.st 12)) [0]),(18,.v (.int .i64) [])] [7,9,18,19,20,21,22,23,24,25,26,27,28,29,30,31,32,33,34,35] [(2,[(7,.v (.slice (.st 12)) [0])])] .z))) (.s .z (.s .z (.s (.s .z (.b (.l [(10,.row .str false),(43,.v (.int .i64) [])] [10,11,12,43] [(4,[(10,.row .str false)])] .z))) .z))))))
def sp113 : Spec fam:=⟨[.v (.st 10) [],.v .str [],.v (.int .i64) []],[.v (.slice (.str)) [0]],fun a => mv a.1 a.2.1 a.2.2.1⟩
def iC (s : State) (label : Int) (deep : Int) (self : State → (List UInt8) → Int → Int → Option (List (List UInt8))) (kids : List (List UInt8)) (t : List (List UInt8) × Int) : Option ((List (List UInt8) × Int) ⊕ List (List UInt8)) :=
 bif decide (t.2 < (kids.length : Int)) then
 (inb t.2 kids.length).bind fun i =>
 (kids[i]?).bind fun x =>
 (self s x label (w64 (deep + 1))).bind fun x1 =>
 (app 16 t.1 x1).bind fun l =>
 some (.inl (l,w64 (t.2 + 1)))
 else
 some (.inr t.1)
def l_ (self : State → (List UInt8) → Int → Int → Option (List (List UInt8))) (s : State) (path : List UInt8) (label : Int) (deep : Int) : Option (List (List UInt8)) :=
 (mv s path label).bind fun kids =>
 (
 bif (kids.length : Int) == 0 then
  some true
 else
  some (decide (deep > 4))).bind fun q =>
 bif q then
 some [path]
 else
 (loop (iC s label deep self kids) ([],0)).bind fun out =>
 some out
def ft : Nat → State → (List UInt8) → Int → Int → Option (List (List UInt8))
 | 0 => fun _ _ _ _ => none
 | n + 1 => l_ (ft n)
def kY (a0 : State) (a1 : List UInt8) (a2 : Int) (a3 : Int) : Option (List (List UInt8)):=ft 64 a0 a1 a2 a3
def h84 : Hint:=(.s .z (.s .z (.s (.s (.j [17,18,19,20,21,22,23] [(0,[(23,.v .bool [])])] .z) .z) (.s .z (.s (.s .z (.b (.l [(10,.v (.slice (.str)) [0]),(28,.v (.int .i64) [])] [10,12,28] [(2,[(10,.v (.slice (.str)) [0])])] .z))) .z)))))
def sp84 : Spec fam:=⟨[.v (.st 10) [],.v .str [],.v (.int .i64) [],.v (.int .i64) []],[.v (.slice (.str)) [0]],fun a => kY a.1 a.2.1 a.2.2.1 a.2.2.2.1⟩
def Cu (n : Nat) : Spec fam:=⟨[.v (.st 10) [],.v .str [],.v (.int .i64) [],.v (.int .i64) []],[.v (.slice (.str)) [0]],fun a => ft n a.1 a.2.1 a.2.2.1 a.2.2.2.1⟩
def jE (s : State) (label : Int) : Option (List (List UInt8)) :=
 (kY s ([114,111,111,116] : List UInt8) label 1).bind fun x =>
 some x
def h53 : Hint:=.z
def sp53 : Spec fam:=⟨[.v (.st 10) [],.v (.int .i64) []],[.v (.slice (.str)) [0]],fun a => jE a.1 a.2.1⟩
def jJ (a : Int) (cmp : (TupT fam [.st 6,.st 6] → Option Int)) (t1 : List App × Int) : Option ((List App × Int) ⊕ List App) :=
 (
 bif decide (t1.2 > a) then
  (inb t1.2 t1.1.length).bind fun i =>
  (t1.1[i]?).bind fun x =>
  (inb (w64 (t1.2 - 1)) t1.1.length).bind fun i1 =>
  (t1.1[i1]?).bind fun x1 =>
  (cmp (x,x1,())).bind fun r =>
  some (decide (r < 0))
 else
  some false).bind fun q =>
 bif q then
 (inb (w64 (t1.2 - 1)) t1.1.length).bind fun i2 =>
 (t1.1[i2]?).bind fun x2 =>
 (inb t1.2 t1.1.length).bind fun i3 =>
 (t1.1[i3]?).bind fun x3 =>
 (inb t1.2 t1.1.length).bind fun i4 =>
 (t1.1[i4]?).bind fun x4 =>
 (inb (w64 (t1.2 - 1)) (List.set t1.1 i4 x2).length).bind fun i5 =>
 ((List.set t1.1 i4 x2)[i5]?).bind fun x5 =>
 some (.inl (List.set (List.set t1.1 i4 x2) i5 x3,w64 (t1.2 - 1)))
 else
 some (.inr t1.1)
def jq (a : Int) (b : Int) (cmp : (TupT fam [.st 6,.st 6] → Option Int)) (t : List App × Int) : Option ((List App × Int) ⊕ List App) :=
 bif decide (t.2 < b) then
 (loop (jJ a cmp) (t.1,t.2)).bind fun data1 =>
 some (.inl (data1,w64 (t.2 + 1)))
 else
 some (.inr t.1)
def ga (data : List App) (a : Int) (b : Int) (cmp : (TupT fam [.st 6,.st 6] → Option Int)) : Option (List App) :=
 (loop (jq a b cmp) (data,w64 (a + 1))).bind fun data2 =>
 some data2
def h157 : Hint:=(.s .z (.b (.l [(0,.row (.st 6) false),(8,.v (.int .i64) [])] [0,8,9,34] [(2,[(0,.row (.st 6) false)])] (.s .z (.s (.b (.s .z (.b (.l [(0,.row (.st 6) false),(9,.v (.int .i64) [])] [0,9,34] [(4,[(0,.row (.st 6) false)])] (.s (.s (.j [] [(0,[(34,.v .bool [])])] .z) .z) .z))))) .z)))))
def sp157 : Spec fam:=⟨[.row (.st 6) false,.v (.int .i64) [],.v (.int .i64) [],.fn [.st 6,.st 6] (.int .i64)],[],fun a => ga a.1 a.2.1 a.2.2.1 a.2.2.2.1⟩
def jk (a : Int) (b : Int) (n : Int) (t : List App × Int) : Option ((List App × Int) ⊕ List App) :=
 bif decide (t.2 < n) then
 (inb (w64 (b + t.2)) t.1.length).bind fun i =>
 (t.1[i]?).bind fun x =>
 (inb (w64 (a + t.2)) t.1.length).bind fun i1 =>
 (t.1[i1]?).bind fun x1 =>
 (inb (w64 (a + t.2)) t.1.length).bind fun i2 =>
 (t.1[i2]?).bind fun x2 =>
 (inb (w64 (b + t.2)) (List.set t.1 i2 x).length).bind fun i3 =>
 ((List.set t.1 i2 x)[i3]?).bind fun x3 =>
 some (.inl (List.set (List.set t.1 i2 x) i3 x1,w64 (t.2 + 1)))
 else
 some (.inr t.1)
def ez (data : List App) (a : Int) (b : Int) (n : Int) (cmp : (TupT fam [.st 6,.st 6] → Option Int)) : Option (List App) :=
 (loop (jk a b n) (data,0)).bind fun data1 =>
 some data1
def h192 : Hint:=(.s .z (.b (.l [(0,.row (.st 6) false),(10,.v (.int .i64) [])] [0,10] [(2,[(0,.row (.st 6) false)])] .z)))
def sp192 : Spec fam:=⟨[.row (.st 6) false,.v (.int .i64) [],.v (.int .i64) [],.v (.int .i64) [],.fn [.st 6,.st 6] (.int .i64)],[],fun a => ez a.1 a.2.1 a.2.2.1 a.2.2.2.1 a.2.2.2.2.1⟩
def jA (m : Int) (cmp : (TupT fam [.st 6,.st 6] → Option Int)) (t : List App × Int × Int) : Option ((List App × Int × Int) ⊕ ((List App × Int))) :=
 bif t.2.1 != t.2.2 then
 bif decide (t.2.1 > t.2.2) then
  (ez t.1 (w64 (m - t.2.1)) m t.2.2 cmp).bind fun x =>
  let i:=w64 (t.2.1 - t.2.2)
  some (.inl (x,i,t.2.2))
 else
  (ez t.1 (w64 (m - t.2.1)) (w64 ((w64 (m + t.2.2)) - t.2.1)) t.2.1 cmp).bind fun x1 =>
  let j:=w64 (t.2.2 - t.2.1)
  some (.inl (x1,t.2.1,j))
 else
 some (.inr (t.1,t.2.1))
def jy (data : List App) (a : Int) (m : Int) (b : Int) (cmp : (TupT fam [.st 6,.st 6] → Option Int)) : Option (List App) :=
 (loop (jA m cmp) (data,w64 (m - a),w64 (b - m))).bind fun q =>
 (ez q.1 (w64 (m - q.2)) m q.2 cmp).bind fun x2 =>
 some x2
def h179 : Hint:=(.s .z (.s .z (.s (.b (.l [(0,.row (.st 6) false),(10,.v (.int .i64) []),(11,.v (.int .i64) [])] [0,10,11] [(2,[(0,.row (.st 6) false),(10,.v (.int .i64) [])])] .z)) .z)))
def sp179 : Spec fam:=⟨[.row (.st 6) false,.v (.int .i64) [],.v (.int .i64) [],.v (.int .i64) [],.fn [.st 6,.st 6] (.int .i64)],[],fun a => jy a.1 a.2.1 a.2.2.1 a.2.2.2.1 a.2.2.2.2.1⟩
def gT (data : List App) (cmp : (TupT fam [.st 6,.st 6] → Option Int)) (p : Int) (t4 : Int × Int) : Option ((Int × Int) ⊕ Int) :=
 bif decide (t4.1 < t4.2) then
 let c:=w64 (shrK .u64 (IntKind.u64.wrap (w64 (t4.1 + t4.2))) 1)
 (inb (w64 (p - c)) data.length).bind fun i14 =>
 (data[i14]?).bind fun x12 =>
 (inb c data.length).bind fun i15 =>
 (data[i15]?).bind fun x13 =>
 (cmp (x12,x13,())).bind fun r2 =>
 bif ! (decide (r2 < 0)) then
  some (.inl (w64 (c + 1),t4.2))
 else
  some (.inl (t4.1,c))
 else
 some (.inr t4.1)
def gS (i9 : Int) (t3 : List App × Int) : Option ((List App × Int) ⊕ List App) :=
 bif decide (t3.2 > i9) then
 (inb (w64 (t3.2 - 1)) t3.1.length).bind fun i10 =>
 (t3.1[i10]?).bind fun x8 =>
 (inb t3.2 t3.1.length).bind fun i11 =>
 (t3.1[i11]?).bind fun x9 =>
 (inb t3.2 t3.1.length).bind fun i12 =>
 (t3.1[i12]?).bind fun x10 =>
 (inb (w64 (t3.2 - 1)) (List.set t3.1 i12 x8).length).bind fun i13 =>
 ((List.set t3.1 i12 x8)[i13]?).bind fun x11 =>
 some (.inl (List.set (List.set t3.1 i12 x8) i13 x9,w64 (t3.2 - 1)))
 else
 some (.inr t3.1)
def g8 (data : List App) (m : Int) (cmp : (TupT fam [.st 6,.st 6] → Option Int)) (t2 : Int × Int) : Option ((Int × Int) ⊕ Int) :=
 bif decide (t2.1 < t2.2) then
 let h1:=w64 (shrK .u64 (IntKind.u64.wrap (w64 (t2.1 + t2.2))) 1)
 (inb m data.length).bind fun i7 =>
 (data[i7]?).bind fun x6 =>
 (inb h1 data.length).bind fun i8 =>
 (data[i8]?).bind fun x7 =>
 (cmp (x6,x7,())).bind fun r1 =>
 bif ! (decide (r1 < 0)) then
  some (.inl (w64 (h1 + 1),t2.2))
 else
  some (.inl (t2.1,h1))
 else
 some (.inr t2.1)
def g_ (i2 : Int) (t1 : List App × Int) : Option ((List App × Int) ⊕ List App) :=
 bif decide (t1.2 < (w64 (i2 - 1))) then
 (inb (w64 (t1.2 + 1)) t1.1.length).bind fun i3 =>
 (t1.1[i3]?).bind fun x2 =>
 (inb t1.2 t1.1.length).bind fun i4 =>
 (t1.1[i4]?).bind fun x3 =>
 (inb t1.2 t1.1.length).bind fun i5 =>
 (t1.1[i5]?).bind fun x4 =>
 (inb (w64 (t1.2 + 1)) (List.set t1.1 i5 x2).length).bind fun i6 =>
 ((List.set t1.1 i5 x2)[i6]?).bind fun x5 =>
 some (.inl (List.set (List.set t1.1 i5 x2) i6 x3,w64 (t1.2 + 1)))
 else
 some (.inr t1.1)
def gY (data : List App) (a : Int) (cmp : (TupT fam [.st 6,.st 6] → Option Int)) (t : Int × Int) : Option ((Int × Int) ⊕ Int) :=
 bif decide (t.1 < t.2) then
 let h:=w64 (shrK .u64 (IntKind.u64.wrap (w64 (t.1 + t.2))) 1)
 (inb h data.length).bind fun i =>
 (data[i]?).bind fun x =>
 (inb a data.length).bind fun i1 =>
 (data[i1]?).bind fun x1 =>
 (cmp (x,x1,())).bind fun r =>
 bif decide (r < 0) then
  some (.inl (w64 (h + 1),t.2))
 else
  some (.inl (t.1,h))
 else
 some (.inr t.1)
def kM (self : (List App) → Int → Int → Int → ((TupT fam [.st 6,.st 6] → Option Int)) → Option (List App)) (data : List App) (a : Int) (m : Int) (b : Int) (cmp : (TupT fam [.st 6,.st 6] → Option Int)) : Option (List App) :=
 bif (w64 (m - a)) == 1 then
 (loop (gY data a cmp) (m,b)).bind fun i2 =>
 (loop (g_ i2) (data,a)).bind fun data1 =>
 some data1
 else
 bif (w64 (b - m)) == 1 then
  (loop (g8 data m cmp) (a,m)).bind fun i9 =>
  (loop (gS i9) (data,m)).bind fun data2 =>
  some data2
 else
  let mid:=w64 (shrK .u64 (IntKind.u64.wrap (w64 (a + b))) 1)
  (
  bif decide (m > mid) then
   let start:=w64 ((w64 (mid + m)) - b)
   some (start,mid)
  else
   some (a,m)).bind fun q =>
  let p:=w64 ((w64 (mid + m)) - 1)
  (loop (gT data cmp p) (q.1,q.2)).bind fun start1 =>
  let end_:=w64 ((w64 (mid + m)) - start1)
  (
  (
   bif decide (start1 < m) then
   some (decide (m < end_))
   else
   some false).bind fun q1 =>
  bif q1 then
   (jy data start1 m end_ cmp).bind fun x14 =>
   some x14
  else
   some data).bind fun data3 =>
  (
  (
   bif decide (a < start1) then
   some (decide (start1 < mid))
   else
   some false).bind fun q2 =>
  bif q2 then
   (self data3 a start1 mid cmp).bind fun x15 =>
   some x15
  else
   some data3).bind fun data4 =>
  (
  bif decide (mid < end_) then
   some (decide (end_ < b))
  else
   some false).bind fun q3 =>
  bif q3 then
  (self data4 mid end_ b cmp).bind fun x16 =>
  some x16
  else
  some data4
def eE : Nat → (List App) → Int → Int → Int → ((TupT fam [.st 6,.st 6] → Option Int)) → Option (List App)
 | 0 => fun _ _ _ _ _ => none
 | n + 1 => kM (eE n)
def go (a0 : List App) (a1 : Int) (a2 : Int) (a3 : Int) (a4 : (TupT fam [.st 6,.st 6] → Option Int)) : Option (List App):=eE 64 a0 a1 a2 a3 a4
def h158 : Hint:=(.s (.s .z (.c (.s .z (.s .z (.s (.b (.l [(10,.v (.int .i64) []),(11,.v (.int .i64) [])] [10,11,12] [(2,[(10,.v (.int .i64) [])])] .z)) (.s (.s .z (.b (.l [(0,.row (.st 6) false),(13,.v (.int .i64) [])] [0,13] [(4,[(0,.row (.st 6) false)])] .z))) .z)))) .z)) (.s (.s .z (.c (.s .z (.s .z (.s (.b (.l [(14,.v (.int .i64) []),(15,.v (.int .i64) [])] [14,15,16] [(6,[(14,.v (.int .i64) [])])] .z)) (.s (.s .z (.b (.l [(0,.row (.st 6) false),(17,.v (.int .i64) [])] [0,17] [(8,[(0,.row (.st 6) false)])] .z))) .z)))) .z)) (.s .z (.s .z (.s .z (.s (.j [20,21] [(0,[(20,.v (.int .i64) []),(21,.v (.int .i64) [])])] .z) (.s .z (.s (.b (.l [(20,.v (.int .i64) []),(21,.v (.int .i64) [])] [20,21,23] [(10,[(20,.v (.int .i64) [])])] .z)) (.s .z (.s (.j [0,185] [(0,[(0,.row (.st 6) false)])] (.s (.j [] [(0,[(185,.v .bool [])])] .z) .z)) (.s (.j [0,199] [(0,[(0,.row (.st 6) false)])] (.s (.j [] [(0,[(199,.v .bool [])])] .z) .z)) (.s (.j [] [(0,[(213,.v .bool [])])] .z) .z))))))))))))
def sp158 : Spec fam:=⟨[.row (.st 6) false,.v (.int .i64) [],.v (.int .i64) [],.v (.int .i64) [],.fn [.st 6,.st 6] (.int .i64)],[],fun a => go a.1 a.2.1 a.2.2.1 a.2.2.2.1 a.2.2.2.2.1⟩
def Bw (n : Nat) : Spec fam:=⟨[.row (.st 6) false,.v (.int .i64) [],.v (.int .i64) [],.v (.int .i64) [],.fn [.st 6,.st 6] (.int .i64)],[],fun a => eE n a.1 a.2.1 a.2.2.1 a.2.2.2.1 a.2.2.2.2.1⟩
def jG (n : Int) (cmp : (TupT fam [.st 6,.st 6] → Option Int)) (t1 : List App × Int) (t2 : List App × Int × Int) : Option ((List App × Int × Int) ⊕ ((List App × Int))) :=
 bif decide (t2.2.2 ≤ n) then
 (go t2.1 t2.2.1 (w64 (t2.2.1 + t1.2)) t2.2.2 cmp).bind fun x2 =>
 let b:=w64 (t2.2.2 + (w64 (2 * t1.2)))
 some (.inl (x2,t2.2.2,b))
 else
 some (.inr (t2.1,t2.2.1))
def jH (n : Int) (cmp : (TupT fam [.st 6,.st 6] → Option Int)) (t1 : List App × Int) : Option ((List App × Int) ⊕ List App) :=
 bif decide (t1.2 < n) then
 (loop (jG n cmp t1) (t1.1,0,w64 (2 * t1.2))).bind fun q1 =>
 (
  let m:=w64 (q1.2 + t1.2)
  bif decide (m < n) then
  (go q1.1 q1.2 m n cmp).bind fun x3 =>
  some x3
  else
  some q1.1).bind fun data1 =>
 some (.inl (data1,w64 (t1.2 * 2)))
 else
 some (.inr t1.1)
def ka (n : Int) (cmp : (TupT fam [.st 6,.st 6] → Option Int)) (t : List App × Int × Int) : Option ((List App × Int × Int) ⊕ ((List App × Int))) :=
 bif decide (t.2.2 ≤ n) then
 (ga t.1 t.2.1 t.2.2 cmp).bind fun x =>
 some (.inl (x,t.2.2,w64 (t.2.2 + 20)))
 else
 some (.inr (t.1,t.2.1))
def jY (data : List App) (n : Int) (cmp : (TupT fam [.st 6,.st 6] → Option Int)) : Option (List App) :=
 (loop (ka n cmp) (data,0,20)).bind fun q =>
 (ga q.1 q.2 n cmp).bind fun x1 =>
 (loop (jH n cmp) (x1,20)).bind fun data2 =>
 some data2
def h140 : Hint:=(.s .z (.s .z (.s (.b (.l [(0,.row (.st 6) false),(7,.v (.int .i64) []),(8,.v (.int .i64) [])] [0,7,8] [(2,[(0,.row (.st 6) false),(7,.v (.int .i64) [])])] .z)) (.s .z (.b (.l [(0,.row (.st 6) false),(6,.v (.int .i64) [])] [0,6,7,8,9] [(4,[(0,.row (.st 6) false)])] (.s .z (.b (.s .z (.s (.b (.l [(0,.row (.st 6) false),(7,.v (.int .i64) []),(8,.v (.int .i64) [])] [0,7,8] [(6,[(0,.row (.st 6) false),(7,.v (.int .i64) [])])] .z)) (.s (.j [0,9] [(0,[(0,.row (.st 6) false)])] .z) .z)))))))))))
def sp140 : Spec fam:=⟨[.row (.st 6) false,.v (.int .i64) [],.fn [.st 6,.st 6] (.int .i64)],[],fun a => jY a.1 a.2.1 a.2.2.1⟩
def jN (x : List App) (cmp : (TupT fam [.st 6,.st 6] → Option Int)) : Option (List App) :=
 (jY x (x.length : Int) cmp).bind fun x1 =>
 some x1
def h114 : Hint:=.z
def sp114 : Spec fam:=⟨[.row (.st 6) false,.fn [.st 6,.st 6] (.int .i64)],[],fun a => jN a.1 a.2.1⟩
def eF (x : Int) : Option Bool :=
 some (x != x)
def h141 : Hint:=.z
def sp141 : Spec fam:=⟨[.v (.int .i64) []],[.v .bool []],fun a => eF a.1⟩
def de (x : Int) (y : Int) : Option Int :=
 (eF x).bind fun xNaN =>
 (eF y).bind fun yNaN =>
 bif xNaN then
 bif yNaN then
  some 0
 else
  some (-1)
 else
 bif yNaN then
  some 1
 else
  bif decide (x < y) then
  some (-1)
  else
  bif decide (x > y) then
   some 1
  else
   some 0
def h117 : Hint:=.z
def sp117 : Spec fam:=⟨[.v (.int .i64) [],.v (.int .i64) []],[.v (.int .i64) []],fun a => de a.1 a.2.1⟩
def jK (a : App) (b : App) : Option Int :=
 (de b.Prio a.Prio).bind fun x =>
 (de a.Id b.Id).bind fun x1 =>
 (h_ [x,x1]).bind fun x2 =>
 some x2
def h115 : Hint:=.z
def sp115 : Spec fam:=⟨[.v (.st 6) [],.v (.st 6) []],[.v (.int .i64) []],fun a => jK a.1 a.2.1⟩
def mh (x2 : List App) (t1 : List Int × Int) : Option ((List Int × Int) ⊕ List Int) :=
 bif decide (t1.2 < (x2.length : Int)) then
 (inb t1.2 x2.length).bind fun i =>
 (x2[i]?).bind fun x3 =>
 (inb t1.2 t1.1.length).bind fun i1 =>
 (t1.1[i1]?).bind fun x4 =>
 some (.inl (List.set t1.1 i1 x3.Id,w64 (t1.2 + 1)))
 else
 some (.inr t1.1)
def lL (s : State) (queue : List UInt8) (t : List App × Int) : Option ((List App × Int) ⊕ List App) :=
 bif decide (t.2 < (s.Apps.length : Int)) then
 (
  (idx s.Apps t.2).bind fun x =>
  (
  (lz x).bind fun x1 =>
  bif x1 then
   some (x.Queue == queue)
  else
   some false).bind fun q =>
  bif q then
  (app 200 t.1 [x]).bind fun l =>
  some l
  else
  some t.1).bind fun l1 =>
 some (.inl (l1,w64 (t.2 + 1)))
 else
 some (.inr t.1)
def mM (s : State) (queue : List UInt8) : Option (List Int) :=
 (loop (lL s queue) ([],0)).bind fun l2 =>
 (jN l2 (fun a' => jK a'.1 a'.2.1)).bind fun x2 =>
 (mkl 8 (x2.length : Int) (x2.length : Int) 0).bind fun l3 =>
 (loop (mh x2) (l3,0)).bind fun out =>
 some out
def h85 : Hint:=(.s .z (.s .z (.s (.s .z (.b (.l [(5,.v (.slice (.st 6)) [0]),(14,.v (.int .i64) [])] [5,7,14,15,16,17,18,19,20,21,22,23,24,25,26,27,28,29,30] [(2,[(5,.v (.slice (.st 6)) [0])])] (.s .z (.s .z (.s (.j [5,7,16,17,18,19,20,21,22,23,24,25,26,27,28,29] [(0,[(5,.v (.slice (.st 6)) [0])])] (.b (.s .z (.s (.j [18,19,20,21,22,23,24,25] [(0,[(25,.v .bool [])])] .z) .z)))) .z)))))) (.s .z (.s .z (.s (.s .z (.b (.l [(8,.row (.int .i64) false),(38,.v (.int .i64) [])] [8,9,10,38] [(4,[(8,.row (.int .i64) false)])] .z))) .z))))))
def sp85 : Spec fam:=⟨[.v (.st 10) [],.v .str []],[.v (.slice (.int .i64)) [0]],fun a => mM a.1 a.2.1⟩
def ol (l : List Ask) (prio : Int) : Option (List Ask) :=
 (kx l).bind fun out =>
 (
 (pq out prio).bind fun i =>
 bif decide (i ≥ 0) then
  (inb i out.length).bind fun i1 =>
  (out[i1]?).bind fun x =>
  (inb i out.length).bind fun i2 =>
  (out[i2]?).bind fun x1 =>
  some (List.set out i2 (⟨x1.Prio,x1.Label,⟨x1.Size.Mem,x1.Size.Cores⟩,x1.Count,x1.Node,x1.Rack,imin (w64 (x.Missed + 1)) 100⟩ : Ask))
 else
  some out).bind fun out1 =>
 some out1
def h118 : Hint:=(.s .z (.s .z (.s (.j [5,6] [(0,[(5,.row (.st 5) false)])] .z) .z)))
def sp118 : Spec fam:=⟨[.v (.slice (.st 5)) [],.v (.int .i64) []],[.v (.slice (.st 5)) [0]],fun a => ol a.1 a.2.1⟩
def dt (t : Attempt) (a : App) (prio : Int) : Option (App × Attempt) :=
 (ol a.Asks prio).bind fun x =>
 (nK t.s (⟨a.Id,a.State,a.Queue,a.User,a.Prio,⟨a.Master.Mem,a.Master.Cores⟩,x,a.Seen,a.Beat,a.Grants,a.Kills,a.Told,a.Lost⟩ : App)).bind fun x1 =>
 some ((⟨a.Id,a.State,a.Queue,a.User,a.Prio,⟨a.Master.Mem,a.Master.Cores⟩,x,a.Seen,a.Beat,a.Grants,a.Kills,a.Told,a.Lost⟩ : App),(⟨⟨⟨x1.Conf.Labels,x1.Conf.Queues⟩,x1.Nodes,x1.Apps,x1.Conts,x1.Slots,x1.Plans,x1.Now,x1.Epoch,x1.Seq⟩,⟨t.n.Id,t.n.Label,t.n.Rack,⟨t.n.Cap.Mem,t.n.Cap.Cores⟩,t.n.Seen,t.n.Beat,t.n.Up⟩,⟨t.free.Mem,t.free.Cores⟩⟩ : Attempt))
def h87 : Hint:=.z
def sp87 : Spec fam:=⟨[.box (.st 13) [0,1,2,3,4,5,6],.v (.st 6) [7,10,11,12,13],.v (.int .i64) []],[.v (.st 6) [7,10,11,12,13]],fun a => dt a.1 a.2.1 a.2.2.1⟩
def iA (s : List Slot) (f : (TupT fam [.st 8] → Option Bool)) : Option Bool :=
 (gi s f).bind fun x =>
 some (decide (x ≥ 0))
def h119 : Hint:=.z
def sp119 : Spec fam:=⟨[.v (.slice (.st 8)) [],.fn [.st 8] .bool],[.v .bool []],fun a => iA a.1 a.2.1⟩
def cj (x : Slot) (p : Int) (p1 : Int) : Option Bool :=
 bif x.App == p then
 some (x.Prio == p1)
 else
 some false
def h120 : Hint:=.z
def sp120 : Spec fam:=⟨[.v (.st 8) [],.rp (.int .i64),.rp (.int .i64)],[.v .bool []],fun a => cj a.1 a.2.1 a.2.2.1⟩
def ua (s : List Slot) (i : Int) (v : List Slot) : Option (List Slot) :=
 (inS i (s.length : Int) s.length).bind fun p =>
 bif (v.length : Int) == 0 then
 some s
 else
 bif i == (s.length : Int) then
  (app 24 s v).bind fun l =>
  some l
 else
  none
def iw (s : List Slot) (i : Int) (v : List Slot) : Option (List Slot):=ins s i v
def h121 : Hint:=.z
def sp121 : Spec fam:=⟨[.v (.slice (.st 8)) [0],.v (.int .i64) [],.v (.slice (.st 8)) [0]],[.v (.slice (.st 8)) [0]],fun a => iw a.1 a.2.1 a.2.2.1⟩
def Bp : Spec fam:=⟨[.v (.slice (.st 8)) [0],.v (.int .i64) [],.v (.slice (.st 8)) [0]],[.v (.slice (.st 8)) [0]],fun a => ua a.1 a.2.1 a.2.2.1⟩
def dX (t : Attempt) (k : Int) : Option (Int ⊕ Int) :=
 (
 bif decide (k < (t.s.Slots.length : Int)) then
  (inb k t.s.Slots.length).bind fun i =>
  (t.s.Slots[i]?).bind fun x1 =>
  some (decide (x1.Node < t.n.Id))
 else
  some false).bind fun q =>
 bif q then
 some (.inl (w64 (k + 1)))
 else
 some (.inr k)
def di (t : Attempt) (id_ : Int) (prio : Int) : Option (Bool × Attempt) :=
 (iA t.s.Slots (fun a' => cj a'.1 id_ prio)).bind fun x =>
 bif x then
 some (false,t)
 else
 (loop (dX t) 0).bind fun k1 =>
 (iw t.s.Slots k1 [(⟨t.n.Id,id_,prio⟩ : Slot)]).bind fun x2 =>
 some (true,(⟨⟨⟨t.s.Conf.Labels,t.s.Conf.Queues⟩,t.s.Nodes,t.s.Apps,t.s.Conts,x2,t.s.Plans,t.s.Now,t.s.Epoch,t.s.Seq⟩,⟨t.n.Id,t.n.Label,t.n.Rack,⟨t.n.Cap.Mem,t.n.Cap.Cores⟩,t.n.Seen,t.n.Beat,t.n.Up⟩,⟨t.free.Mem,t.free.Cores⟩⟩ : Attempt))
def h88 : Hint:=(.s .z (.s .z (.s .z (.s (.b (.l [(7,.v (.int .i64) [])] [7,39] [(2,[(7,.v (.int .i64) [])])] (.s (.s (.j [] [(0,[(39,.v .bool [])])] .z) .z) .z))) .z))))
def sp88 : Spec fam:=⟨[.box (.st 13) [0,1,2,3,4,5,6],.v (.int .i64) [],.v (.int .i64) []],[.v .bool []],fun a => di a.1 a.2.1 a.2.2.1⟩
def dK (first : Bool) (may : (TupT fam [.st 5,.st 4] → Option Bool)) (x2 : Int) (x5 : List Ask) (t3 : Attempt × Cont × App × Int) : Option ((Attempt × Cont × App × Int) ⊕ ((Attempt × Int × Cont) ⊕ (Attempt × Cont))) :=
 bif decide (t3.2.2.2 < (x5.length : Int)) then
 (
  (inb t3.2.2.2 x5.length).bind fun i1 =>
  (x5[i1]?).bind fun x6 =>
  (b8 t3.1 t3.2.2.1 x6).bind fun due =>
  (
  (bD t3.1 x6).bind fun x7 =>
  bif ! x7 then
   some true
  else
   bif first then
   some (! due)
   else
   some false).bind fun q =>
  bif q then
  some (.inl (t3.1,t3.2.1,t3.2.2.1))
  else
  (may (x6,t3.1.n,())).bind fun r =>
  bif ! r then
   bif first == due then
   (dt t3.1 t3.2.2.1 x6.Prio).bind fun x8 =>
   some (.inl (x8.2,t3.2.1,x8.1))
   else
   some (.inl (t3.1,t3.2.1,t3.2.2.1))
  else
   (bN t3.1 t3.2.2.1 x6).bind fun x9 =>
   bif ! x9 then
   some (.inl (t3.1,t3.2.1,t3.2.2.1))
   else
   (bM t3.1 x6).bind fun x10 =>
   bif x10 then
    (bq t3.1 t3.2.2.1 x6).bind fun x11 =>
    some (.inr (x11.2,1,x11.1))
   else
    (
    bif first then
     (di t3.1 x2 x6.Prio).bind fun x12 =>
     some (x12.2,x12.1)
    else
     some (t3.1,false)).bind fun q1 =>
    bif q1.2 then
    some (.inr (q1.1,2,(⟨0,0,0,⟨0,0⟩,0,0,false,0⟩ : Cont)))
    else
    some (.inl (q1.1,t3.2.1,t3.2.2.1)) : Option ((Attempt × Cont × App) ⊕ (Attempt × Int × Cont))).bind fun q0 =>
 match q0 with
 | .inl q2 =>
  some (.inl (q2.1,q2.2.1,q2.2.2,w64 (t3.2.2.2 + 1)))
 | .inr q3 =>
  some (.inr (.inl (q3.1,q3.2.1,q3.2.2)))
 else
 some (.inr (.inr (t3.1,t3.2.1)))
def dG (first : Bool) (may : (TupT fam [.st 5,.st 4] → Option Bool)) (x1 : List Int) (t2 : Attempt × Cont × Int) : Option ((Attempt × Cont × Int) ⊕ ((Attempt × Int × Cont) ⊕ (Attempt × Cont) ⊕ (Attempt × Cont))) :=
 bif decide (t2.2.2 < (x1.length : Int)) then
 (
  (inb t2.2.2 x1.length).bind fun i =>
  (x1[i]?).bind fun x2 =>
  (lD t2.1.s x2).bind fun x3 =>
  bif ! x3.2 then
  some (.inr (.inr (t2.1,t2.2.1)))
  else
  (bO t2.1 x3.1).bind fun x4 =>
  bif ! x4 then
   some (.inl (t2.1,t2.2.1))
  else
   (m_ x3.1.Asks).bind fun x5 =>
   (loop (dK first may x2 x5) (t2.1,t2.2.1,x3.1,0)).bind fun q0 =>
   match q0 with
   | .inl q4 =>
   some (.inr (.inl (q4.1,q4.2.1,q4.2.2)))
   | .inr q5 =>
   some (.inl (q5.1,q5.2)) : Option ((Attempt × Cont) ⊕ (Attempt × Int × Cont) ⊕ (Attempt × Cont))).bind fun q0 =>
 match q0 with
 | .inl q6 =>
  some (.inl (q6.1,q6.2,w64 (t2.2.2 + 1)))
 | .inr (.inl q7) =>
  some (.inr (.inl (q7.1,q7.2.1,q7.2.2)))
 | .inr (.inr q8) =>
  some (.inr (.inr (.inl (q8.1,q8.2))))
 else
 some (.inr (.inr (.inr (t2.1,t2.2.1))))
def dH (leaves : List (List UInt8)) (first : Bool) (may : (TupT fam [.st 5,.st 4] → Option Bool)) (t1 : Attempt × Cont × Int) : Option ((Attempt × Cont × Int) ⊕ ((Attempt × Int × Cont) ⊕ (Attempt × Cont))) :=
 bif decide (t1.2.2 < (leaves.length : Int)) then
 (
  (idx leaves t1.2.2).bind fun x =>
  (mM t1.1.s x).bind fun x1 =>
  (loop (dG first may x1) (t1.1,t1.2.1,0)).bind fun q0 =>
  match q0 with
  | .inl q9 =>
  some (.inr (q9.1,q9.2.1,q9.2.2))
  | .inr (.inl q10) =>
  some (.inl (q10.1,q10.2))
  | .inr (.inr q11) =>
  some (.inl (q11.1,q11.2)) : Option ((Attempt × Cont) ⊕ (Attempt × Int × Cont))).bind fun q0 =>
 match q0 with
 | .inl q12 =>
  some (.inl (q12.1,q12.2,w64 (t1.2.2 + 1)))
 | .inr q13 =>
  some (.inr (.inl (q13.1,q13.2.1,q13.2.2)))
 else
 some (.inr (.inr (t1.1,t1.2.1)))
def br (t : Attempt) (leaves : List (List UInt8)) (first : Bool) (may : (TupT fam [.st 5,.st 4] → Option Bool)) : Option (Int × Cont × Attempt) :=
 (loop (dH leaves first may) (t,(⟨0,0,0,⟨0,0⟩,0,0,false,0⟩ : Cont),0)).bind fun q0 =>
 match q0 with
 | .inl q14 =>
 some (q14.2.1,q14.2.2,q14.1)
 | .inr q15 =>
 some (0,(⟨0,0,0,⟨0,0⟩,0,0,false,0⟩ : Cont),q15.1)
def h54 : Hint:=(.s .z (.b (.s .z (.s .z (.s (.s .z (.b (.l [(0,.box (.st 13) [0,1,2,3,4,5,6]),(9,.box (.st 7) []),(24,.v (.int .i64) [])] [0,8,9,12,14,15,16,18,19,24,25,26,27,28,29,30,31,32,33,34,35,36,37,38,39,40,41,42,43,44,45,46,47,48,49,50,51,52,53,54,55,56,57,58,66,109] [(1,[(0,.box (.st 13) [0,1,2,3,4,5,6]),(8,.v (.int .i64) []),(9,.box (.st 7) [])]),(2,[(0,.box (.st 13) [0,1,2,3,4,5,6]),(9,.box (.st 7) [])])] (.s .z (.s .z (.s (.j [0,8,9,12,14,15,16,18,19,26,27,28,29,30,31,32,33,34,35,36,37,38,39,40,41,42,43,44,45,46,47,48,49,50,51,52,53,54,55,56,57,58,66,109] [(0,[(0,.box (.st 13) [0,1,2,3,4,5,6]),(9,.box (.st 7) [])]),(1,[(0,.box (.st 13) [0,1,2,3,4,5,6]),(8,.v (.int .i64) []),(9,.box (.st 7) [])])] (.b (.s .z (.s .z (.b (.l [(0,.box (.st 13) [0,1,2,3,4,5,6]),(9,.box (.st 7) []),(35,.v (.int .i64) [])] [0,8,9,14,15,16,18,19,31,35,36,37,38,39,40,41,42,43,44,45,46,47,48,49,50,51,52,53,54,55,56,57,58,66,109] [(1,[(0,.box (.st 13) [0,1,2,3,4,5,6]),(8,.v (.int .i64) []),(9,.box (.st 7) [])]),(3,[(0,.box (.st 13) [0,1,2,3,4,5,6]),(9,.box (.st 7) [])]),(4,[(0,.box (.st 13) [0,1,2,3,4,5,6]),(9,.box (.st 7) [])])] (.s .z (.s .z (.s (.j [0,8,9,14,15,16,18,19,37,38,39,40,41,42,43,44,45,46,47,48,49,50,51,52,53,54,55,56,57,58,66,109] [(0,[(0,.box (.st 13) [0,1,2,3,4,5,6]),(9,.box (.st 7) [])]),(1,[(0,.box (.st 13) [0,1,2,3,4,5,6]),(8,.v (.int .i64) []),(9,.box (.st 7) [])]),(3,[(0,.box (.st 13) [0,1,2,3,4,5,6]),(9,.box (.st 7) [])])] (.b (.s .z (.s .z (.s .z (.s .z (.s .z (.b (.l [(0,.box (.st 13) [0,1,2,3,4,5,6]),(9,.box (.st 7) []),(15,.box (.st 6) [7,10,11,12,13]),(58,.v (.int .i64) [])] [0,8,9,15,18,19,43,46,51,54,55,58,66,109] [(1,[(0,.box (.st 13) [0,1,2,3,4,5,6]),(8,.v (.int .i64) []),(9,.box (.st 7) [])]),(6,[(0,.box (.st 13) [0,1,2,3,4,5,6]),(9,.box (.st 7) [])])] (.s .z (.s .z (.s (.j [0,8,9,15,18,19,66,109] [(0,[(0,.box (.st 13) [0,1,2,3,4,5,6]),(9,.box (.st 7) []),(15,.box (.st 6) [7,10,11,12,13])]),(1,[(0,.box (.st 13) [0,1,2,3,4,5,6]),(8,.v (.int .i64) []),(9,.box (.st 7) [])])] (.b (.s .z (.s .z (.b (.s (.j [] [(0,[(66,.v .bool [])])] .z) (.c .z (.s .z (.c .z (.s .z (.c .z (.s .z (.c .z (.s (.j [0] [(0,[(0,.box (.st 13) [0,1,2,3,4,5,6]),(109,.v .bool [])])] .z) .z)))))))))))))) .z)))))))))))) .z))))))))) .z)))))) .z)))))
def sp54 : Spec fam:=⟨[.box (.st 13) [0,1,2,3,4,5,6],.v (.slice (.str)) [],.v .bool [],.fn [.st 5,.st 4] .bool],[.v (.int .i64) [],.v (.st 7) []],fun a => br a.1 a.2.1 a.2.2.1 a.2.2.2.1⟩
def co (t : Attempt) : Option (Int × Cont × Attempt) :=
 (jE t.s t.n.Label).bind fun leaves =>
 (br t leaves true (fun a' => iW a'.1 a'.2.1)).bind fun x =>
 bif x.1 != 0 then
 some (x.1,x.2.1,x.2.2)
 else
 (br x.2.2 leaves false (fun a' => iW a'.1 a'.2.1)).bind fun x1 =>
 some (x1.1,x1.2.1,x1.2.2)
def h18 : Hint:=.z
def sp18 : Spec fam:=⟨[.box (.st 13) [0,1,2,3,4,5,6]],[.v (.int .i64) [],.v (.st 7) []],fun a => co a.1⟩
def cQ (s : State) (node : Int) : Option (State × Int × Cont) :=
 (lI s []).bind fun x =>
 (j7 s node).bind fun x1 =>
 (
 bif ! x1.2 then
  some true
 else
  bif ! x1.1.Up then
  some true
  else
  bif decide ((s.Conts.length : Int) ≥ 200) then
   some true
  else
   some (decide (s.Seq ≥ 1048575))).bind fun q =>
 bif q then
 some (x,0,(⟨0,0,0,⟨0,0⟩,0,0,false,0⟩ : Cont))
 else
 (mD s node).bind fun x2 =>
 (dj (⟨⟨⟨x.Conf.Labels,x.Conf.Queues⟩,x.Nodes,x.Apps,x.Conts,x.Slots,x.Plans,x.Now,x.Epoch,x.Seq⟩,⟨x1.1.Id,x1.1.Label,x1.1.Rack,⟨x1.1.Cap.Mem,x1.1.Cap.Cores⟩,x1.1.Seen,x1.1.Beat,x1.1.Up⟩,⟨x2.Mem,x2.Cores⟩⟩ : Attempt)).bind fun x3 =>
 (
  bif ! x3.2.2.1 then
  (co x3.2.2.2).bind fun x4 =>
  some (x4.1,x4.2.1,x4.2.2)
  else
  some (x3.1,x3.2.1,x3.2.2.2)).bind fun q1 =>
 (lI q1.2.2.s []).bind fun x5 =>
 some (x5,q1.1,q1.2.1)
def h7 : Hint:=(.s .z (.s .z (.s .z (.s (.s (.j [] [(0,[(37,.v .bool [])])] .z) .z) (.s .z (.s .z (.s (.j [5,6,10] [(0,[(5,.v (.int .i64) []),(6,.box (.st 7) []),(10,.box (.st 13) [0,1,2,3,4,5,6])])] .z) .z)))))))
def sp7 : Spec fam:=⟨[.v (.st 10) [],.v (.int .i64) []],[.v (.st 10) [0,1,2,3,4,5,6],.v (.int .i64) [],.v (.st 7) []],fun a => cQ a.1 a.2.1⟩
def cA : Option State :=
 some (⟨⟨[([] : List UInt8)],[(⟨([114,111,111,116] : List UInt8),[(⟨10000,10000⟩ : Cap)],10000⟩ : Queue)]⟩,[],[],[],[],[],0,0,0⟩ : State)
def h10 : Hint:=.z
noncomputable def sp10 : Spec fam:=⟨[],[.v (.st 10) [0,1,2,3,4,5,6]],fun _ => cA⟩
def fe (s : State) (id_ : Int) (t : Node × Int) : Option ((Node × Int) ⊕ ((Node × Bool) ⊕ Node)) :=
 bif decide (t.2 < (s.Nodes.length : Int)) then
 (idx s.Nodes t.2).bind fun x =>
 bif x.Id == id_ then
  (idx s.Nodes t.2).bind fun x1 =>
  some (.inr (.inl (x1,true)))
 else
  some (.inl (t.1,w64 (t.2 + 1)))
 else
 some (.inr (.inr (t.1)))
def cD (s : State) (id_ : Int) : Option (Node × Bool) :=
 (loop (fe s id_) ((⟨0,0,0,⟨0,0⟩,0,0,false⟩ : Node),0)).bind fun q0 =>
 match q0 with
 | .inl q =>
 some (q.1,q.2)
 | .inr q1 =>
 some ((⟨0,0,0,⟨0,0⟩,0,0,false⟩ : Node),false)
def h19 : Hint:=(.s .z (.s (.s .z (.b (.l [(4,.box (.st 4) []),(6,.v (.int .i64) [])] [4,5,6] [(1,[(4,.box (.st 4) []),(5,.v .bool [])]),(2,[(4,.box (.st 4) [])])] .z))) .z))
def sp19 : Spec fam:=⟨[.v (.st 10) [],.v (.int .i64) []],[.v (.st 4) [],.v .bool []],fun a => cD a.1 a.2.1⟩
def cy (n : Int) : Option Bool :=
 bif decide (n ≥ 0) then
 some (decide (n ≤ 1073741824))
 else
 some false
def h22 : Hint:=.z
def sp22 : Spec fam:=⟨[.v (.int .i64) []],[.v .bool []],fun a => cy a.1⟩
def fV (s : State) (n : Node) (k : Int) : Option (Int ⊕ Int) :=
 (
 bif decide (k < (s.Nodes.length : Int)) then
  (idx s.Nodes k).bind fun x =>
  some (decide (x.Id < n.Id))
 else
  some false).bind fun q =>
 bif q then
 some (.inl (w64 (k + 1)))
 else
 some (.inr k)
def e_ (s : State) (n : Node) : Option State :=
 (loop (fV s n) 0).bind fun k1 =>
 (slc s.Nodes 0 k1).bind fun l =>
 (app 64 [] l).bind fun l1 =>
 (app 64 l1 [n]).bind fun l2 =>
 (
 (
  bif decide (k1 < (s.Nodes.length : Int)) then
  (idx s.Nodes k1).bind fun x1 =>
  some (x1.Id == n.Id)
  else
  some false).bind fun q1 =>
 bif q1 then
  some (w64 (k1 + 1))
 else
  some k1).bind fun k2 =>
 (slc s.Nodes k2 (s.Nodes.length : Int)).bind fun l3 =>
 (app 64 l2 l3).bind fun l4 =>
 some (⟨⟨s.Conf.Labels,s.Conf.Queues⟩,l4,s.Apps,s.Conts,s.Slots,s.Plans,s.Now,s.Epoch,s.Seq⟩ : State)
def h23 : Hint:=(.s .z (.s .z (.s (.b (.l [(5,.v (.int .i64) [])] [5,22] [(2,[(5,.v (.int .i64) [])])] (.s (.s (.j [] [(0,[(22,.v .bool [])])] .z) .z) .z))) (.s .z (.s .z (.s (.j [5,50] [(0,[(5,.v (.int .i64) [])])] (.s (.j [] [(0,[(50,.v .bool [])])] .z) .z)) .z))))))
def sp23 : Spec fam:=⟨[.v (.st 10) [],.v (.st 4) []],[.v (.st 10) [2]],fun a => e_ a.1 a.2.1⟩
def bi (s : State) (n : Node) : Option (State × Int) :=
 (
 bif decide (n.Id < 0) then
  some true
 else
  bif decide (n.Id > 999) then
  some true
  else
  bif decide (n.Label < 0) then
   some true
  else
   bif decide (n.Label ≥ (s.Conf.Labels.length : Int)) then
   some true
   else
   bif decide (n.Rack < 0) then
    some true
   else
    bif decide (n.Rack > 99) then
    some true
    else
    (cy n.Cap.Mem).bind fun x =>
    bif ! x then
     some true
    else
     (cy n.Cap.Cores).bind fun x1 =>
     some (! x1)).bind fun q =>
 bif q then
 some (s,1)
 else
 (cD s n.Id).bind fun x2 =>
 (
  bif x2.2 then
  some x2.1.Up
  else
  some false).bind fun q1 =>
 bif q1 then
  some (s,7)
 else
  (
  bif ! x2.2 then
   some (decide ((s.Nodes.length : Int) ≥ 12))
  else
   some false).bind fun q2 =>
  bif q2 then
  some (s,4)
  else
  (e_ s (⟨n.Id,n.Label,n.Rack,⟨n.Cap.Mem,n.Cap.Cores⟩,s.Now,0,true⟩ : Node)).bind fun x3 =>
  some (x3,0)
def h11 : Hint:=(.s .z (.s (.s (.j [] [(0,[(53,.v .bool [])])] .z) .z) (.s .z (.s (.s (.j [] [(0,[(66,.v .bool [])])] .z) .z) (.s (.s (.j [] [(0,[(75,.v .bool [])])] .z) .z) .z)))))
def sp11 : Spec fam:=⟨[.v (.st 10) [],.v (.st 4) []],[.v (.st 10) [],.v (.int .i64) []],fun a => bi a.1 a.2.1⟩
def eH (s : State) (id_ : Int) (t : App × Int) : Option ((App × Int) ⊕ ((App × Bool) ⊕ App)) :=
 bif decide (t.2 < (s.Apps.length : Int)) then
 (idx s.Apps t.2).bind fun x =>
 bif x.Id == id_ then
  (idx s.Apps t.2).bind fun x1 =>
  some (.inr (.inl (x1,true)))
 else
  some (.inl (t.1,w64 (t.2 + 1)))
 else
 some (.inr (.inr (t.1)))
def bX (s : State) (id_ : Int) : Option (App × Bool) :=
 (loop (eH s id_) ((⟨0,0,[],0,0,⟨0,0⟩,[],0,0,[],[],[],[]⟩ : App),0)).bind fun q0 =>
 match q0 with
 | .inl q =>
 some (q.1,q.2)
 | .inr q1 =>
 some ((⟨0,0,[],0,0,⟨0,0⟩,[],0,0,[],[],[],[]⟩ : App),false)
def h13 : Hint:=(.s .z (.s (.s .z (.b (.l [(4,.box (.st 6) [7,10,11,12,13]),(6,.v (.int .i64) [])] [4,5,6] [(1,[(4,.box (.st 6) []),(5,.v .bool [])]),(2,[(4,.box (.st 6) [7,10,11,12,13])])] .z))) .z))
def sp13 : Spec fam:=⟨[.v (.st 10) [],.v (.int .i64) []],[.v (.st 6) [],.v .bool []],fun a => bX a.1 a.2.1⟩
def b_ (n : Int) : Option Bool :=
 bif decide (n ≥ 1) then
 some (decide (n ≤ 1073741824))
 else
 some false
def h24 : Hint:=.z
def sp24 : Spec fam:=⟨[.v (.int .i64) []],[.v .bool []],fun a => b_ a.1⟩
def ce (a : App) : Option Bool :=
 bif a.State == 1 then
 some true
 else
 some (a.State == 2)
def h25 : Hint:=.z
def sp25 : Spec fam:=⟨[.v (.st 6) []],[.v .bool []],fun a => ce a.1⟩
def eV (c : Conf) (path : List UInt8) (t : Queue × Int) : Option ((Queue × Int) ⊕ ((Queue × Bool) ⊕ Queue)) :=
 bif decide (t.2 < (c.Queues.length : Int)) then
 (idx c.Queues t.2).bind fun x =>
 bif x.Path == path then
  (idx c.Queues t.2).bind fun x1 =>
  (app 16 [] x1.Caps).bind fun l =>
  some (.inr (.inl ((⟨x1.Path,l,x1.User⟩ : Queue),true)))
 else
  some (.inl (t.1,w64 (t.2 + 1)))
 else
 some (.inr (.inr (t.1)))
def et (c : Conf) (path : List UInt8) : Option (Queue × Bool) :=
 (loop (eV c path) ((⟨[],[],0⟩ : Queue),0)).bind fun q0 =>
 match q0 with
 | .inl q =>
 some (q.1,q.2)
 | .inr q1 =>
 some ((⟨[],[],0⟩ : Queue),false)
def h56 : Hint:=(.s .z (.s (.s .z (.b (.l [(4,.box (.st 2) [1]),(6,.v (.int .i64) [])] [4,5,6,7] [(1,[(4,.box (.st 2) [1]),(5,.v .bool [])]),(2,[(4,.box (.st 2) [1])])] .z))) .z))
def sp56 : Spec fam:=⟨[.v (.st 3) [],.v .str []],[.v (.st 2) [1],.v .bool []],fun a => et a.1 a.2.1⟩
def eN (path : List UInt8) (k1 : Int) : Option (Int ⊕ Int) :=
 (
 bif decide (k1 ≥ 0) then
  (idx path k1).bind fun ch =>
  some ((ch.toNat : Int) != 46)
 else
  some false).bind fun q =>
 bif q then
 some (.inl (w64 (k1 - 1)))
 else
 some (.inr k1)
def dP (path : List UInt8) : Option (List UInt8) :=
 let k:=w64 ((path.length : Int) - 1)
 (loop (eN path) k).bind fun k2 =>
 bif decide (k2 < 0) then
 some ([] : List UInt8)
 else
 (slc path 0 k2).bind fun s =>
 some s
def h89 : Hint:=(.s .z (.s .z (.s (.b (.l [(3,.v (.int .i64) [])] [3,14] [(2,[(3,.v (.int .i64) [])])] (.s (.s (.j [] [(0,[(14,.v .bool [])])] .z) .z) .z))) .z)))
def sp89 : Spec fam:=⟨[.v .str []],[.v .str []],fun a => dP a.1⟩
def fp (c : Conf) (path : List UInt8) (t : List (List UInt8) × Int) : Option ((List (List UInt8) × Int) ⊕ List (List UInt8)) :=
 bif decide (t.2 < (c.Queues.length : Int)) then
 (
  (
  bif ! (path == ([] : List UInt8)) then
   (idx c.Queues t.2).bind fun x =>
   (dP x.Path).bind fun x1 =>
   some (x1 == path)
  else
   some false).bind fun q =>
  bif q then
  (idx c.Queues t.2).bind fun x2 =>
  (app 16 t.1 [x2.Path]).bind fun l =>
  some l
  else
  some t.1).bind fun l1 =>
 some (.inl (l1,w64 (t.2 + 1)))
 else
 some (.inr t.1)
def em (c : Conf) (path : List UInt8) : Option (List (List UInt8)) :=
 (loop (fp c path) ([],0)).bind fun l2 =>
 some l2
def h57 : Hint:=(.s .z (.s .z (.s (.s .z (.b (.l [(5,.v (.slice (.str)) [0]),(6,.v (.int .i64) [])] [5,6,26] [(2,[(5,.v (.slice (.str)) [0])])] (.s .z (.s (.j [5,26] [(0,[(5,.v (.slice (.str)) [0])])] (.b (.s (.j [] [(0,[(26,.v .bool [])])] .z) .z))) .z))))) .z)))
def sp57 : Spec fam:=⟨[.v (.st 3) [],.v .str []],[.v (.slice (.str)) [0]],fun a => em a.1 a.2.1⟩
def en (c : Conf) (path : List UInt8) : Option Bool :=
 (et c path).bind fun x =>
 bif x.2 then
 (em c path).bind fun x1 =>
 some ((x1.length : Int) == 0)
 else
 some false
def h26 : Hint:=.z
def sp26 : Spec fam:=⟨[.v (.st 3) [],.v .str []],[.v .bool []],fun a => en a.1 a.2.1⟩
def dI (s : State) (t : List App × Bool × Int) : Option ((List App × Bool × Int) ⊕ List App) :=
 bif decide (t.2.2 < (s.Apps.length : Int)) then
 (
  (
  bif ! t.2.1 then
   (idx s.Apps t.2.2).bind fun x =>
   (ce x).bind fun x1 =>
   some (! x1)
  else
   some false).bind fun q =>
  bif q then
  some (t.1,true)
  else
  (idx s.Apps t.2.2).bind fun x2 =>
  (app 200 t.1 [x2]).bind fun l =>
  some (l,t.2.1)).bind fun q1 =>
 some (.inl (q1.1,q1.2,w64 (t.2.2 + 1)))
 else
 some (.inr t.1)
def cK (s : State) : Option State :=
 (loop (dI s) ([],false,0)).bind fun l1 =>
 some (⟨⟨s.Conf.Labels,s.Conf.Queues⟩,s.Nodes,l1,s.Conts,s.Slots,s.Plans,s.Now,s.Epoch,s.Seq⟩ : State)
def h27 : Hint:=(.s .z (.s .z (.s .z (.s (.s .z (.b (.l [(3,.v (.slice (.st 6)) [0]),(4,.v .bool []),(5,.v (.int .i64) [])] [3,4,5,23] [(2,[(3,.v (.slice (.st 6)) [0])])] (.s .z (.s (.j [3,4,23] [(0,[(3,.v (.slice (.st 6)) [0]),(4,.v .bool [])])] (.b (.s (.s (.j [] [(0,[(23,.v .bool [])])] .z) .z) .z))) .z))))) .z))))
def sp27 : Spec fam:=⟨[.v (.st 10) []],[.v (.st 10) [3]],fun a => cK a.1⟩
def fd (s : State) (a : App) (k : Int) : Option (Int ⊕ Int) :=
 (
 bif decide (k < (s.Apps.length : Int)) then
  (idx s.Apps k).bind fun x =>
  some (decide (x.Id < a.Id))
 else
  some false).bind fun q =>
 bif q then
 some (.inl (w64 (k + 1)))
 else
 some (.inr k)
def ef (s : State) (a : App) : Option State :=
 (loop (fd s a) 0).bind fun k1 =>
 (slc s.Apps 0 k1).bind fun l =>
 (app 200 [] l).bind fun l1 =>
 (app 200 l1 [a]).bind fun l2 =>
 (
 (
  bif decide (k1 < (s.Apps.length : Int)) then
  (idx s.Apps k1).bind fun x1 =>
  some (x1.Id == a.Id)
  else
  some false).bind fun q1 =>
 bif q1 then
  some (w64 (k1 + 1))
 else
  some k1).bind fun k2 =>
 (slc s.Apps k2 (s.Apps.length : Int)).bind fun l3 =>
 (app 200 l2 l3).bind fun l4 =>
 some (⟨⟨s.Conf.Labels,s.Conf.Queues⟩,s.Nodes,l4,s.Conts,s.Slots,s.Plans,s.Now,s.Epoch,s.Seq⟩ : State)
def h28 : Hint:=(.s .z (.s .z (.s (.b (.l [(5,.v (.int .i64) [])] [5,22] [(2,[(5,.v (.int .i64) [])])] (.s (.s (.j [] [(0,[(22,.v .bool [])])] .z) .z) .z))) (.s .z (.s .z (.s (.j [5,50] [(0,[(5,.v (.int .i64) [])])] (.s (.j [] [(0,[(50,.v .bool [])])] .z) .z)) .z))))))
def sp28 : Spec fam:=⟨[.v (.st 10) [],.v (.st 6) []],[.v (.st 10) [3]],fun a => ef a.1 a.2.1⟩
def dw (a : App) : Option (List Ask) :=
 some [(⟨0,0,⟨a.Master.Mem,a.Master.Cores⟩,1,(-1),(-1),0⟩ : Ask)]
def h29 : Hint:=.z
def sp29 : Spec fam:=⟨[.v (.st 6) []],[.v (.slice (.st 5)) [0]],fun a => dw a.1⟩
def dF (s : State) (t : Int × Int) : Option ((Int × Int) ⊕ Int) :=
 bif decide (t.2 < (s.Apps.length : Int)) then
 (
  (idx s.Apps t.2).bind fun x3 =>
  (ce x3).bind fun x4 =>
  bif x4 then
  some (w64 (t.1 + 1))
  else
  some t.1).bind fun live =>
 some (.inl (live,w64 (t.2 + 1)))
 else
 some (.inr t.1)
def cL (s : State) (a : App) : Option (State × Int) :=
 (
 bif decide (a.Id < 0) then
  some true
 else
  bif decide (a.Id > 9999) then
  some true
  else
  bif decide (a.User < 0) then
   some true
  else
   bif decide (a.User > 99) then
   some true
   else
   bif decide (a.Prio < 0) then
    some true
   else
    bif decide (a.Prio > 9) then
    some true
    else
    (b_ a.Master.Mem).bind fun x =>
    bif ! x then
     some true
    else
     (b_ a.Master.Cores).bind fun x1 =>
     some (! x1)).bind fun q =>
 bif q then
 some (s,1)
 else
 (bX s a.Id).bind fun x2 =>
 bif x2.2 then
  some (s,7)
 else
  (loop (dF s) (0,0)).bind fun live1 =>
  bif decide (live1 ≥ 16) then
  some (s,4)
  else
  (en s.Conf a.Queue).bind fun x5 =>
  bif ! x5 then
   some (s,19)
  else
   (
   bif decide ((s.Apps.length : Int) ≥ 16) then
    (cK s).bind fun x6 =>
    some x6
   else
    some s).bind fun s1 =>
   (dw a).bind fun x7 =>
   (ef s1 (⟨a.Id,1,a.Queue,a.User,a.Prio,⟨a.Master.Mem,a.Master.Cores⟩,x7,s1.Now,0,[],[],[],[]⟩ : App)).bind fun x8 =>
   some (x8,0)
def h12 : Hint:=(.s .z (.s (.s (.j [] [(0,[(51,.v .bool [])])] .z) .z) (.s .z (.s .z (.s .z (.s (.s .z (.b (.l [(8,.v (.int .i64) []),(9,.v (.int .i64) [])] [8,9] [(2,[(8,.v (.int .i64) [])])] (.s .z (.s (.j [8] [(0,[(8,.v (.int .i64) [])])] .z) .z))))) (.s .z (.s .z (.s (.j [2] [(0,[(2,.box (.st 10) [])])] .z) .z)))))))))
def sp12 : Spec fam:=⟨[.v (.st 10) [],.v (.st 6) []],[.v (.st 10) [],.v (.int .i64) []],fun a => cL a.1 a.2.1⟩
def dl : Option Bool :=
 (cA).bind fun x =>
 (bi x (⟨1,0,0,⟨4,4⟩,0,0,false⟩ : Node)).bind fun x1 =>
 (cL x1.1 (⟨7,0,([114,111,111,116] : List UInt8),0,0,⟨2,1⟩,[],0,0,[],[],[],[]⟩ : App)).bind fun x2 =>
 (cQ x2.1 1).bind fun x3 =>
 (bX x3.1 7).bind fun x4 =>
 bif x3.2.1 == 1 then
 bif x3.2.2.Id == 1 then
  bif x3.2.2.Master then
  bif x3.2.2.App == 7 then
   bif x4.1.State == 2 then
   some ((x3.1.Conts.length : Int) == 1)
   else
   some false
  else
   some false
  else
  some false
 else
  some false
 else
 some false
def h4 : Hint:=.z
noncomputable def sp4 : Spec fam:=⟨[],[.v .bool []],fun _ => dl⟩
def aA (at_ : Int) (n : Int) : Option Int :=
 (nz n).bind fun _ =>
 (
 bif decide ((Int.tmod at_ n) < 0) then
  let k:=w64 ((Int.tmod at_ n) + n)
  some k
 else
  some (Int.tmod at_ n)).bind fun k1 =>
 some k1
def h5 : Hint:=(.s .z (.s .z (.s (.j [5] [(0,[(5,.v (.int .i64) [])])] .z) .z)))
def sp5 : Spec fam:=⟨[.v (.int .i64) [],.v (.int .i64) []],[.v (.int .i64) []],fun a => aA a.1 a.2.1⟩
def eZ (racks : List Int) (units : Int) (t : State × Int) : Option ((State × Int) ⊕ State) :=
 bif decide (t.2 < (racks.length : Int)) then
 (idx racks t.2).bind fun x2 =>
 (bi t.1 (⟨t.2,0,x2,⟨units,units⟩,0,0,false⟩ : Node)).bind fun x3 =>
 some (.inl (x3.1,w64 (t.2 + 1)))
 else
 some (.inr t.1)
def ep (racks : List Int) (units : Int) (x : Ask) : Option State :=
 (cA).bind fun x1 =>
 (loop (eZ racks units) (x1,0)).bind fun s =>
 some (⟨⟨s.Conf.Labels,s.Conf.Queues⟩,s.Nodes,[(⟨5,2,([114,111,111,116] : List UInt8),0,0,⟨1,1⟩,[x],0,0,[],[],[],[]⟩ : App)],[(⟨1,5,0,⟨1,1⟩,0,0,true,0⟩ : Cont)],s.Slots,s.Plans,s.Now,s.Epoch,1⟩ : State)
def h6 : Hint:=(.s .z (.s .z (.s (.s .z (.b (.l [(7,.box (.st 10) []),(8,.v (.int .i64) [])] [7,8] [(2,[(7,.box (.st 10) [])])] .z))) .z)))
def sp6 : Spec fam:=⟨[.v (.slice (.int .i64)) [],.v (.int .i64) [],.v (.st 5) []],[.v (.st 10) [1003,4]],fun a => ep a.1 a.2.1 a.2.2.1⟩
def eI (s : State) (id_ : Int) (t : List Cont × Int) : Option ((List Cont × Int) ⊕ List Cont) :=
 bif decide (t.2 < (s.Conts.length : Int)) then
 (
  (idx s.Conts t.2).bind fun x =>
  bif x.Id != id_ then
  (idx s.Conts t.2).bind fun x1 =>
  (app 72 t.1 [x1]).bind fun l =>
  some l
  else
  some t.1).bind fun l1 =>
 some (.inl (l1,w64 (t.2 + 1)))
 else
 some (.inr t.1)
def bZ (s : State) (id_ : Int) : Option State :=
 (loop (eI s id_) ([],0)).bind fun l2 =>
 some (⟨⟨s.Conf.Labels,s.Conf.Queues⟩,s.Nodes,s.Apps,l2,s.Slots,s.Plans,s.Now,s.Epoch,s.Seq⟩ : State)
def h8 : Hint:=(.s .z (.s .z (.s (.s .z (.b (.l [(5,.v (.slice (.st 7)) [0]),(6,.v (.int .i64) [])] [5,6] [(2,[(5,.v (.slice (.st 7)) [0])])] (.s .z (.s (.j [5] [(0,[(5,.v (.slice (.st 7)) [0])])] .z) .z))))) .z)))
def sp8 : Spec fam:=⟨[.v (.st 10) [],.v (.int .i64) []],[.v (.st 10) [4]],fun a => bZ a.1 a.2.1⟩
def eg (a : Vec) (b : Vec) : Option Vec :=
 some (⟨imax (w64 (a.Mem - b.Mem)) 0,imax (w64 (a.Cores - b.Cores)) 0⟩ : Vec)
def h20 : Hint:=.z
def sp20 : Spec fam:=⟨[.v (.st 0) [],.v (.st 0) []],[.v (.st 0) []],fun a => eg a.1 a.2.1⟩
def eo (a : Vec) (b : Vec) : Option Vec :=
 some (⟨w64 (a.Mem + b.Mem),w64 (a.Cores + b.Cores)⟩ : Vec)
def h55 : Hint:=.z
def sp55 : Spec fam:=⟨[.v (.st 0) [],.v (.st 0) []],[.v (.st 0) []],fun a => eo a.1 a.2.1⟩
def fb (s : State) (id_ : Int) (t : Vec × Int) : Option ((Vec × Int) ⊕ Vec) :=
 bif decide (t.2 < (s.Conts.length : Int)) then
 (
  (idx s.Conts t.2).bind fun x =>
  bif x.Node == id_ then
  (idx s.Conts t.2).bind fun x1 =>
  (eo t.1 x1.Size).bind fun x2 =>
  some x2
  else
  some t.1).bind fun v =>
 some (.inl (v,w64 (t.2 + 1)))
 else
 some (.inr t.1)
def eu (s : State) (id_ : Int) : Option Vec :=
 (loop (fb s id_) ((⟨0,0⟩ : Vec),0)).bind fun v1 =>
 some v1
def h21 : Hint:=(.s .z (.s .z (.s (.s .z (.b (.l [(5,.box (.st 0) []),(6,.v (.int .i64) [])] [5,6] [(2,[(5,.box (.st 0) [])])] (.s .z (.s (.j [5] [(0,[(5,.box (.st 0) [])])] .z) .z))))) .z)))
def sp21 : Spec fam:=⟨[.v (.st 10) [],.v (.int .i64) []],[.v (.st 0) []],fun a => eu a.1 a.2.1⟩
def cx (s : State) (id_ : Int) : Option Vec :=
 (cD s id_).bind fun x =>
 (
 bif ! x.2 then
  some true
 else
  some (! x.1.Up)).bind fun q =>
 bif q then
 some (⟨0,0⟩ : Vec)
 else
 (eu s id_).bind fun x1 =>
 (eg x.1.Cap x1).bind fun x2 =>
 some x2
def h9 : Hint:=(.s .z (.s .z (.s (.s (.j [] [(0,[(19,.v .bool [])])] .z) .z) .z)))
def sp9 : Spec fam:=⟨[.v (.st 10) [],.v (.int .i64) []],[.v (.st 0) []],fun a => cx a.1 a.2.1⟩
def aG (waits : Int) (t : State × State × Int) : Option ((State × State × Int) ⊕ (Bool ⊕ (State × State))) :=
 (aA waits 4).bind fun x11 =>
 bif decide (t.2.2 < (w64 (2 + x11))) then
 (cQ t.1 0).bind fun x12 =>
 (
  bif t.2.2 == 0 then
  some 2
  else
  some 3).bind fun want1 =>
 (
  bif x12.2.1 != want1 then
  some true
  else
  bif (x12.1.Slots.length : Int) != 1 then
   some true
  else
   (inb 0 x12.1.Slots.length).bind fun i4 =>
   (x12.1.Slots[i4]?).bind fun x13 =>
   some (! ((x13.Node == 0) && ((x13.App == 5) && (x13.Prio == 1))))).bind fun q1 =>
 bif q1 then
  some (.inr (.inl false))
 else
  some (.inl (x12.1,x12.1,w64 (t.2.2 + 1)))
 else
 some (.inr (.inr (t.1,t.2.1)))
def az (units : Int) (waits : Int) : Option Bool :=
 (dl).bind fun x =>
 bif ! x then
 some false
 else
 (aA units 10).bind fun x1 =>
 (ep [0] (w64 (4 + x1)) (⟨1,0,⟨w64 ((w64 (4 + x1)) - 1),1⟩,1,(-1),(-1),0⟩ : Ask)).bind fun x2 =>
 (app 72 x2.Conts [(⟨2,5,0,⟨1,1⟩,0,0,false,0⟩ : Cont)]).bind fun l =>
 (cQ (⟨⟨x2.Conf.Labels,x2.Conf.Queues⟩,x2.Nodes,x2.Apps,l,x2.Slots,x2.Plans,x2.Now,x2.Epoch,3⟩ : State) 0).bind fun x3 =>
 bif x3.2.1 != 0 then
  some false
 else
  bif (x3.1.Slots.length : Int) != 0 then
  some false
  else
  (inb 0 x2.Apps.length).bind fun i =>
  (x2.Apps[i]?).bind fun x4 =>
  (x2.Apps[i]?).bind fun x5 =>
  (inb 0 x5.Asks.length).bind fun i1 =>
  (x2.Apps[i]?).bind fun x6 =>
  (x6.Asks[i1]?).bind fun y =>
  (inb 1 l.length).bind fun i2 =>
  (l[i2]?).bind fun x7 =>
  (app 64 [] x2.Nodes).bind fun l1 =>
  (app 64 l1 [(⟨1,0,0,⟨1,1⟩,0,0,true⟩ : Node)]).bind fun l2 =>
  (app 72 (List.set l i2 (⟨x7.Id,x7.App,x7.Node,⟨1,x7.Size.Cores⟩,x7.Prio,x7.Label,x7.Master,x7.Notice⟩ : Cont)) [(⟨3,5,0,⟨1,1⟩,0,0,false,0⟩ : Cont)]).bind fun l3 =>
  (aA waits 4).bind fun x8 =>
  bif decide (0 < (w64 (2 + x8))) then
   (cQ (⟨⟨x2.Conf.Labels,x2.Conf.Queues⟩,l2,List.set x2.Apps i (⟨x6.Id,x6.State,x6.Queue,x6.User,x6.Prio,⟨x6.Master.Mem,x6.Master.Cores⟩,List.set x6.Asks i1 (⟨y.Prio,y.Label,⟨w64 ((w64 (4 + x1)) - 2),y.Size.Cores⟩,y.Count,y.Node,y.Rack,y.Missed⟩ : Ask),x6.Seen,x6.Beat,x6.Grants,x6.Kills,x6.Told,x6.Lost⟩ : App),l3,x2.Slots,x2.Plans,x2.Now,x2.Epoch,3⟩ : State) 0).bind fun x9 =>
   (
   bif 0 == 0 then
    some 2
   else
    some 3).bind fun want =>
   (
   bif x9.2.1 != want then
    some true
   else
    bif (x9.1.Slots.length : Int) != 1 then
    some true
    else
    (inb 0 x9.1.Slots.length).bind fun i3 =>
    (x9.1.Slots[i3]?).bind fun x10 =>
    some (! ((x10.Node == 0) && ((x10.App == 5) && (x10.Prio == 1))))).bind fun q =>
   bif q then
   some false
   else
   (loop (aG waits) (x9.1,x9.1,w64 (0 + 1))).bind fun q0 =>
   match q0 with
   | .inl q2 =>
    some q2
   | .inr q3 =>
    (bZ q3.1 3).bind fun x17 =>
    (cQ x17 0).bind fun x18 =>
    bif x18.2.1 == 1 then
    bif x18.2.2.Size.Mem == (w64 ((w64 (4 + x1)) - 2)) then
     bif (x18.1.Slots.length : Int) == 0 then
     (cx x18.1 0).bind fun x19 =>
     some (x19.Mem == 0)
     else
     some false
    else
     some false
    else
    some false
  else
   (bZ (⟨⟨x2.Conf.Labels,x2.Conf.Queues⟩,l2,List.set x2.Apps i (⟨x6.Id,x6.State,x6.Queue,x6.User,x6.Prio,⟨x6.Master.Mem,x6.Master.Cores⟩,List.set x6.Asks i1 (⟨y.Prio,y.Label,⟨w64 ((w64 (4 + x1)) - 2),y.Size.Cores⟩,y.Count,y.Node,y.Rack,y.Missed⟩ : Ask),x6.Seen,x6.Beat,x6.Grants,x6.Kills,x6.Told,x6.Lost⟩ : App),l3,x2.Slots,x2.Plans,x2.Now,x2.Epoch,3⟩ : State) 3).bind fun x14 =>
   (cQ x14 0).bind fun x15 =>
   bif x15.2.1 == 1 then
   bif x15.2.2.Size.Mem == (w64 ((w64 (4 + x1)) - 2)) then
    bif (x15.1.Slots.length : Int) == 0 then
    (cx x15.1 0).bind fun x16 =>
    some (x16.Mem == 0)
    else
    some false
   else
    some false
   else
   some false
def h3 : Hint:=(.s .z (.s .z (.s .z (.s .z (.s .z (.s .z (.s (.r [9998]) (.s .z (.s .z (.s .z (.s .z (.s .z (.s .z (.s (.s .z (.b (.p (.s .z (.s (.b (.s .z (.s .z (.s (.j [10] [(0,[(10,.v (.int .i64) [])])] .z) (.s (.s (.j [] [(0,[(111,.v .bool [])])] .z) .z) .z))))) .z)) (.l [(5,.box (.st 10) []),(6,.box (.st 10) []),(9,.v (.int .i64) [])] [4,5,6,7,9,10,111] [(1,[(4,.v .bool [])]),(2,[(5,.box (.st 10) []),(6,.box (.st 10) [])])] (.s .z (.s (.b (.s .z (.s .z (.s (.j [10] [(0,[(10,.v (.int .i64) [])])] .z) (.s (.s (.j [] [(0,[(111,.v .bool [])])] .z) .z) .z))))) .z)))))) .z))))))))))))))
def sp3 : Spec fam:=⟨[.v (.int .i64) [],.v (.int .i64) []],[.v .bool []],fun a => az a.1 a.2.1⟩
end
end Go.Fx.D
