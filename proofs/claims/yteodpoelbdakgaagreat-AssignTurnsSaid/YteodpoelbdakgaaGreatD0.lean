/-
  The functions of the program that this law reaches, as functions over plain data (printed by a program). Conditions: none.
-/
import Derived.Test.YteodpoelbdakgaaGreatFxD
import Derived.Test.YteodpoelbdakgaaGreatA
namespace Go.Fx.D
open Go Go.Fx Go.Proofs
set_option linter.unusedVariables false
noncomputable section
def bD (s : State) (id_ : Int) (t : App × Int) : Option ((App × Int) ⊕ ((App × Bool) ⊕ App)) :=
 bif decide (t.2 < (s.Apps.length : Int)) then
 (idx s.Apps t.2).bind fun x =>
 bif x.Id == id_ then
  (idx s.Apps t.2).bind fun x1 =>
  some (.inr (.inl (x1, true)))
 else
  some (.inl (t.1, w64 (t.2 + 1)))
 else
 some (.inr (.inr (t.1)))
def aG (s : State) (id_ : Int) : Option (App × Bool) :=
 (loop (bD s id_) ((⟨0, 0, [], 0, 0, ⟨0, 0⟩, [], 0, 0, [], [], [], []⟩ : App), 0)).bind fun q0 =>
 match q0 with
 | .inl q =>
 some (q.1, q.2)
 | .inr q1 =>
 some ((⟨0, 0, [], 0, 0, ⟨0, 0⟩, [], 0, 0, [], [], [], []⟩ : App), false)
def h20 : Hint := (.s .z (.s (.s .z (.b (.l [(4, .box (.st 6) [7, 10, 11, 12, 13]), (6, .v (.int .i64) [])] [4, 5, 6] [(1, [(4, .box (.st 6) []), (5, .v .bool [])]), (2, [(4, .box (.st 6) [7, 10, 11, 12, 13])])] .z))) .z))
def sp20 : Spec fam := ⟨[.v (.st 10) [], .v (.int .i64) []], [.v (.st 6) [], .v .bool []], fun a => aG a.1 a.2.1⟩
def az (a : Vec) (b : Vec) : Option Vec :=
 some (⟨w64 (a.Mem + b.Mem), w64 (a.Cores + b.Cores)⟩ : Vec)
def h109 : Hint := .z
def sp109 : Spec fam := ⟨[.v (.st 0) [], .v (.st 0) []], [.v (.st 0) []], fun a => az a.1 a.2.1⟩
def eZ (path : List UInt8) (k1 : Int) : Option (Int ⊕ Int) :=
 (
 bif decide (k1 ≥ 0) then
  (idx path k1).bind fun ch =>
  some ((ch.toNat : Int) != 46)
 else
  some false).bind fun q =>
 bif q then
 some (.inl (w64 (k1 - 1)))
 else
 some (.inr k1)
def cS (path : List UInt8) : Option (List UInt8) :=
 let k := w64 ((path.length : Int) - 1)
 (loop (eZ path) k).bind fun k2 =>
 bif decide (k2 < 0) then
 some ([] : List UInt8)
 else
 (slc path 0 k2).bind fun s =>
 some s
def h113 : Hint := (.s .z (.s .z (.s (.b (.l [(3, .v (.int .i64) [])] [3, 14] [(2, [(3, .v (.int .i64) [])])] (.s (.s (.j [] [(0, [(14, .v .bool [])])] .z) .z) .z))) .z)))
def sp113 : Spec fam := ⟨[.v .str []], [.v .str []], fun a => cS a.1⟩
def cM (t : List UInt8 × List (List UInt8)) : Option ((List UInt8 × List (List UInt8)) ⊕ List (List UInt8)) :=
 bif ! (t.1 == ([] : List UInt8)) then
 (app 16 t.2 [t.1]).bind fun l =>
 (cS t.1).bind fun path1 =>
 some (.inl (path1, l))
 else
 some (.inr t.2)
def cW (path : List UInt8) : Option (List (List UInt8)) :=
 (loop cM (path, [])).bind fun l1 =>
 some l1
def h47 : Hint := (.s .z (.s .z (.s (.b (.l [(0, .v .str []), (3, .v (.slice (.str)) [0])] [0, 3] [(2, [(3, .v (.slice (.str)) [0])])] .z)) .z)))
def sp47 : Spec fam := ⟨[.v .str []], [.v (.slice (.str)) [0]], fun a => cW a.1⟩
def bA (path : List UInt8) (up : List (List UInt8)) (i : Int) : Option (Int ⊕ (Bool ⊕ Unit)) :=
 bif decide (i < (up.length : Int)) then
 (inb i up.length).bind fun i1 =>
 (up[i1]?).bind fun x =>
 bif x == path then
  some (.inr (.inl true))
 else
  some (.inl (w64 (i + 1)))
 else
 some (.inr (.inr ()))
def cA (leaf : List UInt8) (path : List UInt8) : Option Bool :=
 (cW leaf).bind fun up =>
 (loop (bA path up) 0).bind fun q0 =>
 match q0 with
 | .inl q =>
 some q
 | .inr _ =>
 some false
def h114 : Hint := (.s .z (.s .z (.s (.s .z (.b (.l [(6, .v (.int .i64) [])] [4, 6] [(1, [(4, .v .bool [])]), (2, [])] .z))) .z)))
def sp114 : Spec fam := ⟨[.v .str [], .v .str []], [.v .bool []], fun a => cA a.1 a.2.1⟩
def c8 (s : State) (path : List UInt8) (label : Int) (all : Bool) (user : Int) (t : Vec × Int) : Option ((Vec × Int) ⊕ Vec) :=
 bif decide (t.2 < (s.Conts.length : Int)) then
 (
  (idx s.Conts t.2).bind fun x =>
  (aG s x.App).bind fun x1 =>
  (
  bif x1.2 then
   (idx s.Conts t.2).bind fun x2 =>
   bif x2.Label == label then
   (cA x1.1.Queue path).bind fun x3 =>
   bif x3 then
    bif all then
    some true
    else
    some (x1.1.User == user)
   else
    some false
   else
   some false
  else
   some false).bind fun q =>
  bif q then
  (idx s.Conts t.2).bind fun x4 =>
  (az t.1 x4.Size).bind fun x5 =>
  some x5
  else
  some t.1).bind fun v =>
 some (.inl (v, w64 (t.2 + 1)))
 else
 some (.inr t.1)
def cR (s : State) (path : List UInt8) (label : Int) (all : Bool) (user : Int) : Option Vec :=
 (loop (c8 s path label all user) ((⟨0, 0⟩ : Vec), 0)).bind fun v1 =>
 some v1
def h97 : Hint := (.s .z (.s .z (.s (.s .z (.b (.l [(11, .box (.st 0) []), (12, .v (.int .i64) [])] [11, 12, 13, 59] [(2, [(11, .box (.st 0) [])])] (.s .z (.s (.j [11, 13, 59] [(0, [(11, .box (.st 0) [])])] (.b (.s .z (.s (.j [] [(0, [(59, .v .bool [])])] .z) .z)))) .z))))) .z)))
def sp97 : Spec fam := ⟨[.v (.st 10) [], .v .str [], .v (.int .i64) [], .v .bool [], .v (.int .i64) []], [.v (.st 0) []], fun a => cR a.1 a.2.1 a.2.2.1 a.2.2.2.1 a.2.2.2.2.1⟩
def aK (s : State) (path : List UInt8) (label : Int) : Option Vec :=
 (cR s path label true 0).bind fun x =>
 some x
def h32 : Hint := .z
def sp32 : Spec fam := ⟨[.v (.st 10) [], .v .str [], .v (.int .i64) []], [.v (.st 0) []], fun a => aK a.1 a.2.1 a.2.2.1⟩
def eI : Option State :=
 some (⟨⟨[([] : List UInt8)], [(⟨([114, 111, 111, 116] : List UInt8), [(⟨10000, 10000⟩ : Cap)], 10000⟩ : Queue)]⟩, [], [], [], [], [], 0, 0, 0⟩ : State)
def h37 : Hint := .z
noncomputable def sp37 : Spec fam := ⟨[], [.v (.st 10) [0, 1, 2, 3, 4, 5, 6]], fun _ => eI⟩
def xF (_a0 : List Cont) (_a1 : (TupT fam [.st 7] → Option Bool)) : Option Int := none
def sp81 : Spec fam := ⟨[.v (.slice (.st 7)) [], .fn [.st 7] .bool], [.v (.int .i64) []], fun a => xF a.1 a.2.1⟩
def oI (s : List Cont) : Option (List Cont) :=
 bif s.isEmpty then
 none
 else
 (app 72 [] s).bind fun l =>
 some l
def jN (s : List Cont) : Option (List Cont) := app 72 [] s
def h158 : Hint := .z
def sp158 : Spec fam := ⟨[.v (.slice (.st 7)) []], [.v (.slice (.st 7)) [0]], fun a => jN a.1⟩
def xZ : Spec fam := ⟨[.v (.slice (.st 7)) []], [.v (.slice (.st 7)) [0]], fun a => oI a.1⟩
def ua (s : List Ask) : Option (List Ask) :=
 bif s.isEmpty then
 none
 else
 (app 64 [] s).bind fun l =>
 some l
def je (s : List Ask) : Option (List Ask) := app 64 [] s
def h265 : Hint := .z
def sp265 : Spec fam := ⟨[.v (.slice (.st 5)) []], [.v (.slice (.st 5)) [0]], fun a => je a.1⟩
def ye : Spec fam := ⟨[.v (.slice (.st 5)) []], [.v (.slice (.st 5)) [0]], fun a => ua a.1⟩
def gx (l : List Int) : Option (List Int) :=
 (mkl 8 (l.length : Int) (l.length : Int) 0).bind fun l1 =>
 some (cpy l1 0 l1.length l)
def h302 : Hint := .z
def sp302 : Spec fam := ⟨[.v (.slice (.int .i64)) []], [.v (.slice (.int .i64)) [0]], fun a => gx a.1⟩
def jm (a : App) : Option App :=
 (je a.Asks).bind fun x =>
 (gx a.Grants).bind fun x1 =>
 (gx a.Kills).bind fun x2 =>
 (gx a.Told).bind fun x3 =>
 (gx a.Lost).bind fun x4 =>
 some (⟨a.Id, a.State, a.Queue, a.User, a.Prio, ⟨a.Master.Mem, a.Master.Cores⟩, x, a.Seen, a.Beat, x1, x2, x3, x4⟩ : App)
def h222 : Hint := .z
def sp222 : Spec fam := ⟨[.v (.st 6) []], [.v (.st 6) [7, 10, 11, 12, 13, 9999]], fun a => jm a.1⟩
def ie (s : List (List UInt8)) : Option (List (List UInt8)) :=
 bif s.isEmpty then
 none
 else
 (app 16 [] s).bind fun l =>
 some l
def co (s : List (List UInt8)) : Option (List (List UInt8)) := app 16 [] s
def h227 : Hint := .z
def sp227 : Spec fam := ⟨[.v (.slice (.str)) []], [.v (.slice (.str)) [0]], fun a => co a.1⟩
def xI : Spec fam := ⟨[.v (.slice (.str)) []], [.v (.slice (.str)) [0]], fun a => ie a.1⟩
def n7 (s : List Queue) : Option (List Queue) :=
 bif s.isEmpty then
 none
 else
 (app 48 [] s).bind fun l =>
 some l
def ji (s : List Queue) : Option (List Queue) := app 48 [] s
def h228 : Hint := .z
def sp228 : Spec fam := ⟨[.v (.slice (.st 2)) []], [.v (.slice (.st 2)) [0]], fun a => ji a.1⟩
def yl : Spec fam := ⟨[.v (.slice (.st 2)) []], [.v (.slice (.st 2)) [0]], fun a => n7 a.1⟩
def uj (s : List Cap) : Option (List Cap) :=
 bif s.isEmpty then
 none
 else
 (app 16 [] s).bind fun l =>
 some l
def kC (s : List Cap) : Option (List Cap) := app 16 [] s
def h229 : Hint := .z
def sp229 : Spec fam := ⟨[.v (.slice (.st 1)) []], [.v (.slice (.st 1)) [0]], fun a => kC a.1⟩
def zf : Spec fam := ⟨[.v (.slice (.st 1)) []], [.v (.slice (.st 1)) [0]], fun a => uj a.1⟩
def sQ (s : List Node) : Option (List Node) :=
 bif s.isEmpty then
 none
 else
 (app 64 [] s).bind fun l =>
 some l
def nf (s : List Node) : Option (List Node) := app 64 [] s
def h230 : Hint := .z
def sp230 : Spec fam := ⟨[.v (.slice (.st 4)) []], [.v (.slice (.st 4)) [0]], fun a => nf a.1⟩
def xP : Spec fam := ⟨[.v (.slice (.st 4)) []], [.v (.slice (.st 4)) [0]], fun a => sQ a.1⟩
def sm (s : List Slot) : Option (List Slot) :=
 bif s.isEmpty then
 none
 else
 (app 24 [] s).bind fun l =>
 some l
def ng (s : List Slot) : Option (List Slot) := app 24 [] s
def h231 : Hint := .z
def sp231 : Spec fam := ⟨[.v (.slice (.st 8)) []], [.v (.slice (.st 8)) [0]], fun a => ng a.1⟩
def yy : Spec fam := ⟨[.v (.slice (.st 8)) []], [.v (.slice (.st 8)) [0]], fun a => sm a.1⟩
def sS (s : List Plan) : Option (List Plan) :=
 bif s.isEmpty then
 none
 else
 (app 48 [] s).bind fun l =>
 some l
def nj (s : List Plan) : Option (List Plan) := app 48 [] s
def h232 : Hint := .z
def sp232 : Spec fam := ⟨[.v (.slice (.st 9)) []], [.v (.slice (.st 9)) [0]], fun a => nj a.1⟩
def ym : Spec fam := ⟨[.v (.slice (.st 9)) []], [.v (.slice (.st 9)) [0]], fun a => sS a.1⟩
def pD (s : List App) : Option (List App) :=
 bif s.isEmpty then
 none
 else
 (app 200 [] s).bind fun l =>
 some l
def kf (s : List App) : Option (List App) := app 200 [] s
def h233 : Hint := .z
def sp233 : Spec fam := ⟨[.v (.slice (.st 6)) []], [.v (.slice (.st 6)) [0]], fun a => kf a.1⟩
def zp : Spec fam := ⟨[.v (.slice (.st 6)) []], [.v (.slice (.st 6)) [0]], fun a => pD a.1⟩
def jt (x9 : List App) (t1 : List App × Int) : Option ((List App × Int) ⊕ List App) :=
 bif decide (t1.2 < (x9.length : Int)) then
 (inb t1.2 t1.1.length).bind fun i2 =>
 (t1.1[i2]?).bind fun x10 =>
 (jm x10).bind fun x11 =>
 (inb t1.2 t1.1.length).bind fun i3 =>
 (t1.1[i3]?).bind fun x12 =>
 some (.inl (List.set t1.1 i3 x11, w64 (t1.2 + 1)))
 else
 some (.inr t1.1)
def jr (x1 : List Queue) (t : List Queue × Int) : Option ((List Queue × Int) ⊕ List Queue) :=
 bif decide (t.2 < (x1.length : Int)) then
 (inb t.2 t.1.length).bind fun i =>
 (t.1[i]?).bind fun x2 =>
 (kC x2.Caps).bind fun x3 =>
 (inb t.2 t.1.length).bind fun i1 =>
 (t.1[i1]?).bind fun x4 =>
 some (.inl (List.set t.1 i1 (⟨x4.Path, x3, x4.User⟩ : Queue), w64 (t.2 + 1)))
 else
 some (.inr t.1)
def jb (s : State) : Option State :=
 (co s.Conf.Labels).bind fun x =>
 (ji s.Conf.Queues).bind fun x1 =>
 (loop (jr x1) (x1, 0)).bind fun q =>
 (nf s.Nodes).bind fun x5 =>
 (jN s.Conts).bind fun x6 =>
 (ng s.Slots).bind fun x7 =>
 (nj s.Plans).bind fun x8 =>
 (kf s.Apps).bind fun x9 =>
 (loop (jt x9) (x9, 0)).bind fun q1 =>
 some (⟨⟨x, q⟩, x5, q1, x6, x7, x8, s.Now, s.Epoch, s.Seq⟩ : State)
def h150 : Hint := (.s .z (.s .z (.s (.s .z (.b (.l [(14, .row (.st 2) false), (23, .v (.int .i64) [])] [3, 4, 14, 23, 24, 25, 26, 27, 28, 29, 30, 31, 32, 33, 34, 35, 36, 37] [(2, [(14, .row (.st 2) false)])] .z))) (.s .z (.s .z (.s (.s .z (.b (.l [(56, .row (.st 6) false), (61, .v (.int .i64) [])] [5, 6, 56, 61] [(4, [(56, .row (.st 6) false)])] .z))) .z))))))
def sp150 : Spec fam := ⟨[.v (.st 10) []], [.v (.st 10) [0, 1, 2, 3, 4, 5, 6]], fun a => jb a.1⟩
def fU (s : List App) (f : (TupT fam [.st 6] → Option Bool)) (t : Int) : Option (Int ⊕ (Int ⊕ Unit)) :=
 bif decide (t < (s.length : Int)) then
 (idx s t).bind fun x =>
 (f (x, ())).bind fun r =>
 bif r then
  some (.inr (.inl t))
 else
  some (.inl (w64 (t + 1)))
 else
 some (.inr (.inr ()))
def gq (s : List App) (f : (TupT fam [.st 6] → Option Bool)) : Option Int :=
 (loop (fU s f) 0).bind fun q0 =>
 match q0 with
 | .inl q =>
 some q
 | .inr _ =>
 some (-1)
def h234 : Hint := (.s .z (.s (.s .z (.b (.l [(8, .v (.int .i64) [])] [4, 5, 8] [(1, [(4, .v (.int .i64) [])]), (2, [])] .z))) .z))
def sp234 : Spec fam := ⟨[.v (.slice (.st 6)) [], .fn [.st 6] .bool], [.v (.int .i64) []], fun a => gq a.1 a.2.1⟩
def mL (a : App) (p : Int) : Option Bool :=
 some (a.Id == p)
def h235 : Hint := .z
def sp235 : Spec fam := ⟨[.v (.st 6) [], .rp (.int .i64)], [.v .bool []], fun a => mL a.1 a.2.1⟩
def j1 (s : State) (id_ : Int) : Option Int :=
 (gq s.Apps (fun a' => mL a'.1 id_)).bind fun x =>
 some x
def h152 : Hint := .z
def sp152 : Spec fam := ⟨[.v (.st 10) [], .v (.int .i64) []], [.v (.int .i64) []], fun a => j1 a.1 a.2.1⟩
def gw (ids : List Int) (t : Int) : Option (Int ⊕ Unit) :=
 bif decide (t < (ids.length : Int)) then
 (idx ids t).bind fun x1 =>
 none
 else
 some (.inr ())
def go (s : State) (ids : List Int) : Option State :=
 (jb s).bind fun x =>
 (loop (gw ids) 0).bind fun _ =>
 (jb x).bind fun x2 =>
 some x2
def h79 : Hint := (.s .z (.s .z (.s (.s .z (.b (.l [(16, .v (.int .i64) [])] [16] [(2, [])] .z))) .z)))
def sp79 : Spec fam := ⟨[.v (.st 10) [], .v (.slice (.int .i64)) []], [.v (.st 10) [0, 1, 2, 3, 4, 5, 6]], fun a => go a.1 a.2.1⟩
def ft (s : List Node) (f : (TupT fam [.st 4] → Option Bool)) (t : Int) : Option (Int ⊕ (Int ⊕ Unit)) :=
 bif decide (t < (s.length : Int)) then
 (idx s t).bind fun x =>
 (f (x, ())).bind fun r =>
 bif r then
  some (.inr (.inl t))
 else
  some (.inl (w64 (t + 1)))
 else
 some (.inr (.inr ()))
def fA (s : List Node) (f : (TupT fam [.st 4] → Option Bool)) : Option Int :=
 (loop (ft s f) 0).bind fun q0 =>
 match q0 with
 | .inl q =>
 some q
 | .inr _ =>
 some (-1)
def h254 : Hint := (.s .z (.s (.s .z (.b (.l [(8, .v (.int .i64) [])] [4, 5, 8] [(1, [(4, .v (.int .i64) [])]), (2, [])] .z))) .z))
def sp254 : Spec fam := ⟨[.v (.slice (.st 4)) [], .fn [.st 4] .bool], [.v (.int .i64) []], fun a => fA a.1 a.2.1⟩
def kF (i : Int) (n : Node) : Option Bool :=
 some (n.Id == i)
def h255 : Hint := .z
def sp255 : Spec fam := ⟨[.v (.int .i64) [], .v (.st 4) []], [.v .bool []], fun a => kF a.1 a.2.1⟩
def oF (s : State) (id_ : Int) : Option Int :=
 (fA s.Nodes (fun a' => kF id_ a'.1)).bind fun x =>
 some x
def h176 : Hint := .z
def sp176 : Spec fam := ⟨[.v (.st 10) [], .v (.int .i64) []], [.v (.int .i64) []], fun a => oF a.1 a.2.1⟩
def iL (s : State) (id_ : Int) : Option (Node × Bool) :=
 (oF s id_).bind fun i =>
 bif decide (i < 0) then
 some ((⟨0, 0, 0, ⟨0, 0⟩, 0, 0, false⟩ : Node), false)
 else
 (idx s.Nodes i).bind fun x =>
 some (x, true)
def h103 : Hint := .z
def sp103 : Spec fam := ⟨[.v (.st 10) [], .v (.int .i64) []], [.v (.st 4) [], .v .bool []], fun a => iL a.1 a.2.1⟩
def aR (v : Vec) : Option Bool :=
 bif decide (v.Mem ≥ 0) then
 bif decide (v.Mem ≤ 1125899906842624) then
  bif decide (v.Cores ≥ 0) then
  some (decide (v.Cores ≤ 1125899906842624))
  else
  some false
 else
  some false
 else
 some false
def h289 : Hint := .z
def sp289 : Spec fam := ⟨[.v (.st 0) []], [.v .bool []], fun a => aR a.1⟩
def jJ (v : Vec) : Option (Vec × Int) :=
 (aR v).bind fun x =>
 bif ! x then
 some ((⟨0, 0⟩ : Vec), 11)
 else
 some (v, 0)
def h315 : Hint := .z
def sp315 : Spec fam := ⟨[.v (.st 0) []], [.v (.st 0) [], .v (.int .i64) []], fun a => jJ a.1⟩
def gm (a : Vec) (b : Vec) : Option (Vec × Int) :=
 (
 (aR a).bind fun x =>
 bif ! x then
  some true
 else
  (aR b).bind fun x1 =>
  some (! x1)).bind fun q =>
 bif q then
 some ((⟨0, 0⟩ : Vec), 1)
 else
 (jJ (⟨w64 (a.Mem + b.Mem), w64 (a.Cores + b.Cores)⟩ : Vec)).bind fun x2 =>
 some (x2.1, x2.2)
def h256 : Hint := (.s .z (.s (.s (.j [] [(0, [(13, .v .bool [])])] .z) .z) .z))
def sp256 : Spec fam := ⟨[.v (.st 0) [], .v (.st 0) []], [.v (.st 0) [], .v (.int .i64) []], fun a => gm a.1 a.2.1⟩
def hP (s : State) (id_ : Int) (t : Vec × Int) : Option ((Vec × Int) ⊕ Vec) :=
 bif decide (t.2 < (s.Conts.length : Int)) then
 (
  (idx s.Conts t.2).bind fun x =>
  bif x.Node == id_ then
  (gm t.1 x.Size).bind fun x1 =>
  some x1.1
  else
  some t.1).bind fun out =>
 some (.inl (out, w64 (t.2 + 1)))
 else
 some (.inr t.1)
def jV (s : State) (id_ : Int) : Option Vec :=
 (loop (hP s id_) ((⟨0, 0⟩ : Vec), 0)).bind fun out1 =>
 some out1
def h177 : Hint := (.s .z (.s .z (.s (.s .z (.b (.l [(5, .box (.st 0) []), (11, .v (.int .i64) [])] [5, 7, 11] [(2, [(5, .box (.st 0) [])])] (.s .z (.s .z (.s (.j [5, 7] [(0, [(5, .box (.st 0) [])])] .z) .z)))))) .z)))
def sp177 : Spec fam := ⟨[.v (.st 10) [], .v (.int .i64) []], [.v (.st 0) []], fun a => jV a.1 a.2.1⟩
def jT (s : State) (id_ : Int) : Option Vec :=
 (iL s id_).bind fun x =>
 (
 bif ! x.2 then
  some true
 else
  some (! x.1.Up)).bind fun q =>
 bif q then
 some (⟨0, 0⟩ : Vec)
 else
 (jV s id_).bind fun x1 =>
 some (⟨imax (w64 (x.1.Cap.Mem - x1.Mem)) 0, imax (w64 (x.1.Cap.Cores - x1.Cores)) 0⟩ : Vec)
def h104 : Hint := (.s .z (.s .z (.s (.s (.j [] [(0, [(20, .v .bool [])])] .z) .z) .z)))
def sp104 : Spec fam := ⟨[.v (.st 10) [], .v (.int .i64) []], [.v (.st 0) []], fun a => jT a.1 a.2.1⟩
def jK (a : App) : Option Bool :=
 bif a.State == 1 then
 some true
 else
 some (a.State == 2)
def h65 : Hint := .z
def sp65 : Spec fam := ⟨[.v (.st 6) []], [.v .bool []], fun a => jK a.1⟩
def jy (s : State) (id_ : Int) : Option (App × Bool) :=
 (j1 s id_).bind fun i =>
 bif decide (i < 0) then
 some ((⟨0, 0, [], 0, 0, ⟨0, 0⟩, [], 0, 0, [], [], [], []⟩ : App), false)
 else
 (idx s.Apps i).bind fun x =>
 (jm x).bind fun x1 =>
 some (x1, true)
def h143 : Hint := .z
def sp143 : Spec fam := ⟨[.v (.st 10) [], .v (.int .i64) []], [.v (.st 6) [7, 10, 11, 12, 13, 9999], .v .bool []], fun a => jy a.1 a.2.1⟩
def ff (s : List Slot) (f : (TupT fam [.st 8] → Option Bool)) (t : Int) : Option (Int ⊕ (Int ⊕ Unit)) :=
 bif decide (t < (s.length : Int)) then
 (idx s t).bind fun x =>
 (f (x, ())).bind fun r =>
 bif r then
  some (.inr (.inl t))
 else
  some (.inl (w64 (t + 1)))
 else
 some (.inr (.inr ()))
def dZ (s : List Slot) (f : (TupT fam [.st 8] → Option Bool)) : Option Int :=
 (loop (ff s f) 0).bind fun q0 =>
 match q0 with
 | .inl q =>
 some q
 | .inr _ =>
 some (-1)
def h178 : Hint := (.s .z (.s (.s .z (.b (.l [(8, .v (.int .i64) [])] [4, 5, 8] [(1, [(4, .v (.int .i64) [])]), (2, [])] .z))) .z))
def sp178 : Spec fam := ⟨[.v (.slice (.st 8)) [], .fn [.st 8] .bool], [.v (.int .i64) []], fun a => dZ a.1 a.2.1⟩
def c_ (x : Slot) (p : Attempt) : Option Bool :=
 some (x.Node == p.n.Id)
def h179 : Hint := .z
def sp179 : Spec fam := ⟨[.v (.st 8) [], .rpp (.st 19)], [.v .bool []], fun a => c_ a.1 a.2.1⟩
def eV (a : App) (prio : Int) (t : Ask × Int) : Option ((Ask × Int) ⊕ ((Ask × Bool) ⊕ Ask)) :=
 bif decide (t.2 < (a.Asks.length : Int)) then
 (idx a.Asks t.2).bind fun x =>
 bif x.Prio == prio then
  some (.inr (.inl (x, true)))
 else
  some (.inl (t.1, w64 (t.2 + 1)))
 else
 some (.inr (.inr (t.1)))
def jv (a : App) (prio : Int) : Option (Ask × Bool) :=
 (loop (eV a prio) ((⟨0, 0, ⟨0, 0⟩, 0, 0, 0, 0⟩ : Ask), 0)).bind fun q0 =>
 match q0 with
 | .inl q =>
 some (q.1, q.2)
 | .inr q1 =>
 some ((⟨0, 0, ⟨0, 0⟩, 0, 0, 0, 0⟩ : Ask), false)
def h180 : Hint := (.s .z (.s (.s .z (.b (.l [(4, .box (.st 5) []), (11, .v (.int .i64) [])] [4, 5, 7, 11] [(1, [(4, .box (.st 5) []), (5, .v .bool [])]), (2, [(4, .box (.st 5) [])])] .z))) .z))
def sp180 : Spec fam := ⟨[.v (.st 6) [], .v (.int .i64) []], [.v (.st 5) [], .v .bool []], fun a => jv a.1 a.2.1⟩
def fR (a : Ask) (n : Node) : Option Int :=
 (
 (
  bif ! n.Up then
  some true
  else
  some (n.Label != a.Label)).bind fun q =>
 bif q then
  some (.inr (.inl 4))
 else
  bif a.Rack == (-1) then
  some (.inl ())
  else
  (
   bif a.Node == n.Id then
   some (a.Node == n.Id)
   else
   bif a.Node == (-1) then
    some (a.Rack == n.Rack)
   else
    some false).bind fun q1 =>
  bif q1 then
   some (.inl ())
  else
   bif a.Rack == n.Rack then
   some (.inr (.inr (.inr ())))
   else
   some (.inr (.inr (.inl ()))) : Option (Unit ⊕ Int ⊕ Unit ⊕ Unit)).bind fun q0 =>
 match q0 with
 | .inl _ =>
 some 1
 | .inr (.inl q2) =>
 some q2
 | .inr (.inr (.inl _)) =>
 some 3
 | .inr (.inr (.inr _)) =>
 some 2
def h257 : Hint := (.s .z (.s (.b (.s (.b (.s (.j [5, 20] [(0, []), (1, [(4, .v (.int .i64) [])]), (2, []), (6, [])] (.b (.b (.s (.b (.s (.s (.s (.j [] [(0, [(5, .v .bool [])])] .z) .z) (.s .z (.s (.s (.j [] [(0, [(20, .v .bool [])])] .z) .z) .z))) .z)) .z)))) .z)) .z)) .z))
def sp257 : Spec fam := ⟨[.v (.st 5) [], .v (.st 4) []], [.v (.int .i64) []], fun a => fR a.1 a.2.1⟩
def d4 (a : Ask) (n : Node) : Option Bool :=
 (fR a n).bind fun x =>
 bif x == 1 then
 some true
 else
 bif x == 2 then
  some (decide (a.Missed ≥ 2))
 else
  bif x == 3 then
  some (decide (a.Missed ≥ 4))
  else
  some false
def h181 : Hint := .z
def sp181 : Spec fam := ⟨[.v (.st 5) [], .v (.st 4) []], [.v .bool []], fun a => d4 a.1 a.2.1⟩
def ee (a : Vec) (b : Vec) : Option Bool :=
 bif decide (a.Mem ≤ b.Mem) then
 some (decide (a.Cores ≤ b.Cores))
 else
 some false
def h258 : Hint := .z
def sp258 : Spec fam := ⟨[.v (.st 0) [], .v (.st 0) []], [.v .bool []], fun a => ee a.1 a.2.1⟩
def b8 (t : Attempt) (x : Ask) : Option Bool :=
 (fR x t.n).bind fun x1 =>
 bif x1 != 4 then
 (ee x.Size t.n.Cap).bind fun x2 =>
 some x2
 else
 some false
def h182 : Hint := .z
def sp182 : Spec fam := ⟨[.rp (.st 19), .v (.st 5) []], [.v .bool []], fun a => b8 a.1 a.2.1⟩
def cD (v : View) (c : Cont) (t : App × Int) : Option ((App × Int) ⊕ ((App × Bool) ⊕ App)) :=
 bif decide (t.2 < (v.s.Apps.length : Int)) then
 (idx v.s.Apps t.2).bind fun x =>
 bif x.Id == c.App then
  some (.inr (.inl (x, true)))
 else
  some (.inl (t.1, w64 (t.2 + 1)))
 else
 some (.inr (.inr (t.1)))
def fq (v : View) (c : Cont) : Option (App × Bool) :=
 (loop (cD v c) ((⟨0, 0, [], 0, 0, ⟨0, 0⟩, [], 0, 0, [], [], [], []⟩ : App), 0)).bind fun q0 =>
 match q0 with
 | .inl q =>
 some (q.1, q.2)
 | .inr q1 =>
 some ((⟨0, 0, [], 0, 0, ⟨0, 0⟩, [], 0, 0, [], [], [], []⟩ : App), false)
def h276 : Hint := (.s .z (.s (.s .z (.b (.l [(4, .box (.st 6) [7, 10, 11, 12, 13]), (12, .v (.int .i64) [])] [4, 5, 7, 12] [(1, [(4, .box (.st 6) []), (5, .v .bool [])]), (2, [(4, .box (.st 6) [7, 10, 11, 12, 13])])] .z))) .z))
def sp276 : Spec fam := ⟨[.v (.st 17) [], .v (.st 7) []], [.v (.st 6) [], .v .bool []], fun a => fq a.1 a.2.1⟩
def eX (s : List UInt8) (prefix_ : List UInt8) : Option Bool :=
 bif decide ((s.length : Int) ≥ (prefix_.length : Int)) then
 (slc s 0 (prefix_.length : Int)).bind fun s1 =>
 some (s1 == prefix_)
 else
 some false
def h362 : Hint := .z
def sp362 : Spec fam := ⟨[.v .str [], .v .str []], [.v .bool []], fun a => eX a.1 a.2.1⟩
def eG (s : List UInt8) (prefix_ : List UInt8) : Option Bool :=
 (eX s prefix_).bind fun x =>
 some x
def h330 : Hint := .z
def sp330 : Spec fam := ⟨[.v .str [], .v .str []], [.v .bool []], fun a => eG a.1 a.2.1⟩
def gN (v : View) (a : App) : Option Bool :=
 (
 bif a.Queue == v.path then
  some true
 else
  (cat v.path ([46] : List UInt8)).bind fun s =>
  (eG a.Queue s).bind fun x =>
  some x).bind fun below =>
 bif below then
 bif v.user == (-1) then
  some true
 else
  some (a.User == v.user)
 else
 some false
def h277 : Hint := (.s .z (.s (.j [] [(0, [(5, .v .bool [])])] .z) .z))
def sp277 : Spec fam := ⟨[.v (.st 17) [], .v (.st 6) []], [.v .bool []], fun a => gN a.1 a.2.1⟩
def d_ (v : View) (t : Vec × Int) : Option ((Vec × Int) ⊕ Vec) :=
 bif decide (t.2 < (v.s.Conts.length : Int)) then
 (
  (idx v.s.Conts t.2).bind fun x =>
  (fq v x).bind fun x1 =>
  (
  bif x1.2 then
   bif x.Label == v.label then
   (gN v x1.1).bind fun x2 =>
   some x2
   else
   some false
  else
   some false).bind fun q =>
  bif q then
  (gm t.1 x.Size).bind fun x3 =>
  some x3.1
  else
  some t.1).bind fun out =>
 some (.inl (out, w64 (t.2 + 1)))
 else
 some (.inr t.1)
def d9 (v : View) : Option Vec :=
 (loop (d_ v) ((⟨0, 0⟩ : Vec), 0)).bind fun out1 =>
 some out1
def h202 : Hint := (.s .z (.s .z (.s .z (.s (.s .z (.b (.l [(3, .box (.st 0) []), (15, .v (.int .i64) [])] [3, 6, 7, 8, 15, 37] [(2, [(3, .box (.st 0) [])])] (.s .z (.s .z (.s (.j [3, 6, 7, 8, 37] [(0, [(3, .box (.st 0) [])])] (.b (.s .z (.s .z (.s (.j [] [(0, [(37, .v .bool [])])] .z) .z))))) .z)))))) .z))))
def sp202 : Spec fam := ⟨[.v (.st 17) []], [.v (.st 0) []], fun a => d9 a.1⟩
def gz (s : State) (path : List UInt8) (label : Int) : Option Vec :=
 (d9 (⟨⟨⟨s.Conf.Labels, s.Conf.Queues⟩, s.Nodes, s.Apps, s.Conts, s.Slots, s.Plans, s.Now, s.Epoch, s.Seq⟩, path, label, (-1)⟩ : View)).bind fun x =>
 some x
def h121 : Hint := .z
def sp121 : Spec fam := ⟨[.v (.st 10) [], .v .str [], .v (.int .i64) []], [.v (.st 0) []], fun a => gz a.1 a.2.1 a.2.2.1⟩
def iF (l : List Vec) (t : Vec × Int) : Option ((Vec × Int) ⊕ Vec) :=
 bif decide (t.2 < (l.length : Int)) then
 (idx l t.2).bind fun x =>
 (gm t.1 x).bind fun x1 =>
 some (.inl (x1.1, w64 (t.2 + 1)))
 else
 some (.inr t.1)
def jL (l : List Vec) : Option Vec :=
 (loop (iF l) ((⟨0, 0⟩ : Vec), 0)).bind fun out =>
 some out
def h224 : Hint := (.s .z (.s .z (.s (.s .z (.b (.l [(3, .box (.st 0) []), (8, .v (.int .i64) [])] [3, 5, 8] [(2, [(3, .box (.st 0) [])])] .z))) .z)))
def sp224 : Spec fam := ⟨[.v (.slice (.st 0)) []], [.v (.st 0) []], fun a => jL a.1⟩
def gO (s : State) (label : Int) (t : List Vec × Int) : Option ((List Vec × Int) ⊕ List Vec) :=
 bif decide (t.2 < (s.Nodes.length : Int)) then
 (
  (idx s.Nodes t.2).bind fun x =>
  (
  bif x.Up then
   some (x.Label == label)
  else
   some false).bind fun q =>
  bif q then
  (app 16 t.1 [x.Cap]).bind fun l =>
  some l
  else
  some t.1).bind fun l1 =>
 some (.inl (l1, w64 (t.2 + 1)))
 else
 some (.inr t.1)
def g6 (s : State) (label : Int) : Option Vec :=
 (loop (gO s label) ([], 0)).bind fun l2 =>
 (jL l2).bind fun x1 =>
 some x1
def h145 : Hint := (.s .z (.s .z (.s (.s .z (.b (.l [(5, .v (.slice (.st 0)) [0]), (11, .v (.int .i64) [])] [5, 7, 11, 22] [(2, [(5, .v (.slice (.st 0)) [0])])] (.s .z (.s .z (.s (.j [5, 7, 22] [(0, [(5, .v (.slice (.st 0)) [0])])] (.b (.s .z (.s (.j [] [(0, [(22, .v .bool [])])] .z) .z)))) .z)))))) .z)))
def sp145 : Spec fam := ⟨[.v (.st 10) [], .v (.int .i64) []], [.v (.st 0) []], fun a => g6 a.1 a.2.1⟩
def bZ (s : List UInt8) (c : Int) (i1 : Int) : Option (Int ⊕ (Int ⊕ Unit)) :=
 bif decide (i1 ≥ 0) then
 (idx s i1).bind fun ch =>
 bif (ch.toNat : Int) == c then
  some (.inr (.inl i1))
 else
  some (.inl (w64 (i1 - 1)))
 else
 some (.inr (.inr ()))
def aC (s : List UInt8) (c : Int) : Option Int :=
 let i := w64 ((s.length : Int) - 1)
 (loop (bZ s c) i).bind fun q0 =>
 match q0 with
 | .inl q =>
 some q
 | .inr _ =>
 some (-1)
def h328 : Hint := (.s .z (.s (.s .z (.b (.l [(5, .v (.int .i64) [])] [4, 5] [(1, [(4, .v (.int .i64) [])]), (2, [])] .z))) .z))
def sp328 : Spec fam := ⟨[.v .str [], .v (.int .u8) []], [.v (.int .i64) []], fun a => aC a.1 a.2.1⟩
def iU (t1 : Int × Int × Int) : Option ((Int × Int × Int) ⊕ Int) :=
 bif decide (t1.2.2 > 0) then
 (
  bif (andK .i64 t1.2.2 1) != 0 then
  let pow := IntKind.u32.wrap (t1.1 * t1.2.1)
  some pow
  else
  some t1.1).bind fun pow1 =>
 let sq := IntKind.u32.wrap (t1.2.1 * t1.2.1)
 some (.inl (pow1, sq, shrK .i64 t1.2.2 1))
 else
 some (.inr t1.1)
def iV (sep : List UInt8) (t : Int × Int) : Option ((Int × Int) ⊕ Int) :=
 bif decide (t.2 ≥ 0) then
 (idx sep t.2).bind fun ch =>
 let hash := IntKind.u32.wrap ((IntKind.u32.wrap (t.1 * 16777619)) + (IntKind.u32.wrap (ch.toNat : Int)))
 some (.inl (hash, w64 (t.2 - 1)))
 else
 some (.inr t.1)
def fF (sep : List UInt8) : Option (Int × Int) :=
 let i := w64 ((sep.length : Int) - 1)
 (loop (iV sep) (0, i)).bind fun hash1 =>
 (loop iU (1, 16777619, (sep.length : Int))).bind fun pow2 =>
 some (hash1, pow2)
def h361 : Hint := (.s .z (.s .z (.s (.s .z (.b (.l [(4, .v (.int .u32) []), (5, .v (.int .i64) [])] [4, 5] [(2, [(4, .v (.int .u32) [])])] .z))) (.s .z (.s (.s .z (.b (.l [(6, .v (.int .u32) []), (7, .v (.int .u32) []), (8, .v (.int .i64) [])] [6, 7, 8] [(4, [(6, .v (.int .u32) [])])] (.s .z (.s (.b (.s (.j [6] [(0, [(6, .v (.int .u32) [])])] .z) .z)) .z))))) .z)))))
def sp361 : Spec fam := ⟨[.v .str []], [.v (.int .u32) [], .v (.int .u32) []], fun a => fF a.1⟩
def fX (s : List UInt8) (sep : List UInt8) (x : Int × Int) (t1 : Int × Int) : Option ((Int × Int) ⊕ (Int ⊕ Unit)) :=
 bif decide (t1.2 ≥ 0) then
 (idx s t1.2).bind fun ch1 =>
 let h2 := IntKind.u32.wrap ((IntKind.u32.wrap (t1.1 * 16777619)) + (IntKind.u32.wrap (ch1.toNat : Int)))
 (idx s (w64 (t1.2 + (sep.length : Int)))).bind fun ch2 =>
 let h3 := IntKind.u32.wrap (h2 - (IntKind.u32.wrap (x.2 * (IntKind.u32.wrap (ch2.toNat : Int)))))
 (
  bif h3 == x.1 then
  (slc s t1.2 (w64 (t1.2 + (sep.length : Int)))).bind fun s2 =>
  some (s2 == sep)
  else
  some false).bind fun q1 =>
 bif q1 then
  some (.inr (.inl (t1.2)))
 else
  some (.inl (h3, w64 (t1.2 - 1)))
 else
 some (.inr (.inr ()))
def fY (s : List UInt8) (last : Int) (t : Int × Int) : Option ((Int × Int) ⊕ Int) :=
 bif decide (t.2 ≥ last) then
 (idx s t.2).bind fun ch =>
 let h := IntKind.u32.wrap ((IntKind.u32.wrap (t.1 * 16777619)) + (IntKind.u32.wrap (ch.toNat : Int)))
 some (.inl (h, w64 (t.2 - 1)))
 else
 some (.inr t.1)
def df (s : List UInt8) (sep : List UInt8) : Option Int :=
 (fF sep).bind fun x =>
 let last := w64 ((s.length : Int) - (sep.length : Int))
 let i := w64 ((s.length : Int) - 1)
 (loop (fY s last) (0, i)).bind fun h1 =>
 (
 bif h1 == x.1 then
  (slc s last (s.length : Int)).bind fun s1 =>
  some (s1 == sep)
 else
  some false).bind fun q =>
 bif q then
 some last
 else
 (loop (fX s sep x) (h1, w64 (last - 1))).bind fun q0 =>
 match q0 with
 | .inl q2 =>
  some q2
 | .inr _ =>
  some (-1)
def h329 : Hint := (.s .z (.s .z (.s .z (.s .z (.s .z (.s (.s .z (.b (.l [(9, .v (.int .u32) []), (10, .v (.int .i64) [])] [9, 10] [(2, [(9, .v (.int .u32) [])])] .z))) (.s (.s (.j [] [(0, [(47, .v .bool [])])] .z) .z) (.s (.s .z (.b (.l [(9, .v (.int .u32) []), (11, .v (.int .i64) [])] [4, 9, 11, 85] [(1, [(4, .v (.int .i64) [])]), (4, [])] (.s .z (.s (.b (.s .z (.s .z (.s .z (.s (.j [] [(0, [(85, .v .bool [])])] .z) .z))))) .z))))) .z))))))))
def sp329 : Spec fam := ⟨[.v .str [], .v .str []], [.v (.int .i64) []], fun a => df a.1 a.2.1⟩
def cg (s : List UInt8) (substr : List UInt8) : Option Int :=
 bif (substr.length : Int) == 0 then
 some (s.length : Int)
 else
 bif (substr.length : Int) == 1 then
  (idx substr 0).bind fun ch =>
  (aC s (ch.toNat : Int)).bind fun x =>
  some x
 else
  bif (substr.length : Int) == (s.length : Int) then
  bif substr == s then
   some 0
  else
   some (-1)
  else
  bif decide ((substr.length : Int) > (s.length : Int)) then
   some (-1)
  else
   (df s substr).bind fun x1 =>
   some x1
def h275 : Hint := .z
def sp275 : Spec fam := ⟨[.v .str [], .v .str []], [.v (.int .i64) []], fun a => cg a.1 a.2.1⟩
def fp (path : List UInt8) : Option (List UInt8 × Bool) :=
 (cg path ([46] : List UInt8)).bind fun i =>
 bif decide (i < 0) then
 some (([] : List UInt8), false)
 else
 (slc path 0 i).bind fun s =>
 some (s, true)
def h201 : Hint := .z
def sp201 : Spec fam := ⟨[.v .str []], [.v .str [], .v .bool []], fun a => fp a.1⟩
def iK (t : List UInt8 × List (List UInt8)) : Option ((List UInt8 × List (List UInt8)) ⊕ List (List UInt8)) :=
 bif ! (t.1 == ([] : List UInt8)) then
 (app 16 t.2 [t.1]).bind fun l =>
 (fp t.1).bind fun x =>
 some (.inl (x.1, l))
 else
 some (.inr t.2)
def lM (path : List UInt8) : Option (List (List UInt8)) :=
 (loop iK (path, [])).bind fun out =>
 some out
def h278 : Hint := (.s .z (.s .z (.s (.b (.l [(0, .v .str []), (3, .v (.slice (.str)) [0])] [0, 3] [(2, [(3, .v (.slice (.str)) [0])])] .z)) .z)))
def sp278 : Spec fam := ⟨[.v .str []], [.v (.slice (.str)) [0]], fun a => lM a.1⟩
def fH (s : List Queue) (f : (TupT fam [.st 2] → Option Bool)) (t : Int) : Option (Int ⊕ (Int ⊕ Unit)) :=
 bif decide (t < (s.length : Int)) then
 (idx s t).bind fun x =>
 (f (x, ())).bind fun r =>
 bif r then
  some (.inr (.inl t))
 else
  some (.inl (w64 (t + 1)))
 else
 some (.inr (.inr ()))
def l7 (s : List Queue) (f : (TupT fam [.st 2] → Option Bool)) : Option Int :=
 (loop (fH s f) 0).bind fun q0 =>
 match q0 with
 | .inl q =>
 some q
 | .inr _ =>
 some (-1)
def h331 : Hint := (.s .z (.s (.s .z (.b (.l [(8, .v (.int .i64) [])] [4, 5, 8] [(1, [(4, .v (.int .i64) [])]), (2, [])] .z))) .z))
def sp331 : Spec fam := ⟨[.v (.slice (.st 2)) [], .fn [.st 2] .bool], [.v (.int .i64) []], fun a => l7 a.1 a.2.1⟩
def gZ (q : Queue) (p : List UInt8) : Option Bool :=
 some (q.Path == p)
def h332 : Hint := .z
def sp332 : Spec fam := ⟨[.v (.st 2) [], .rp .str], [.v .bool []], fun a => gZ a.1 a.2.1⟩
def ii (c : Conf) (path : List UInt8) : Option (Queue × Bool) :=
 (l7 c.Queues (fun a' => gZ a'.1 path)).bind fun i =>
 bif decide (i < 0) then
 some ((⟨[], [], 0⟩ : Queue), false)
 else
 (idx c.Queues i).bind fun x =>
 (kC x.Caps).bind fun x1 =>
 some ((⟨x.Path, x1, x.User⟩ : Queue), true)
def h279 : Hint := .z
def sp279 : Spec fam := ⟨[.v (.st 3) [], .v .str []], [.v (.st 2) [1], .v .bool []], fun a => ii a.1 a.2.1⟩
def gB (x : Int) (y : Int) : Option (Int × Int) :=
 let w0 := IntKind.u64.wrap ((andK .u64 x 4294967295) * (andK .u64 y 4294967295))
 let t := IntKind.u64.wrap ((IntKind.u64.wrap ((shrK .u64 x 32) * (andK .u64 y 4294967295))) + (shrK .u64 w0 32))
 let w1 := IntKind.u64.wrap ((andK .u64 t 4294967295) + (IntKind.u64.wrap ((andK .u64 x 4294967295) * (shrK .u64 y 32))))
 let hi := IntKind.u64.wrap ((IntKind.u64.wrap ((IntKind.u64.wrap ((shrK .u64 x 32) * (shrK .u64 y 32))) + (shrK .u64 t 32))) + (shrK .u64 w1 32))
 some (hi, IntKind.u64.wrap (x * y))
def h340 : Hint := .z
def sp340 : Spec fam := ⟨[.v (.int .u64) [], .v (.int .u64) []], [.v (.int .u64) [], .v (.int .u64) []], fun a => gB a.1 a.2.1⟩
def pH (x : Int) : Option Int :=
 (
 bif decide (x ≥ 4294967296) then
  some (shrK .u64 x 32, 32)
 else
  some (x, 0)).bind fun q =>
 (
 bif decide (q.1 ≥ 65536) then
  some (shrK .u64 q.1 16, w64 (q.2 + 16))
 else
  some (q.1, q.2)).bind fun q1 =>
 (
 bif decide (q1.1 ≥ 256) then
  some (shrK .u64 q1.1 8, w64 (q1.2 + 8))
 else
  some (q1.1, q1.2)).bind fun q2 =>
 (idx ([0, 1, 2, 2, 3, 3, 3, 3, 4, 4, 4, 4, 4, 4, 4, 4, 5, 5, 5, 5, 5, 5, 5, 5, 5, 5, 5, 5, 5, 5, 5, 5, 6, 6, 6, 6, 6, 6, 6, 6, 6, 6, 6, 6, 6, 6, 6, 6, 6, 6, 6, 6, 6, 6, 6, 6, 6, 6, 6, 6, 6, 6, 6, 6, 7, 7, 7, 7, 7, 7, 7, 7, 7, 7, 7, 7, 7, 7, 7, 7, 7, 7, 7, 7, 7, 7, 7, 7, 7, 7, 7, 7, 7, 7, 7, 7, 7, 7, 7, 7, 7, 7, 7, 7, 7, 7, 7, 7, 7, 7, 7, 7, 7, 7, 7, 7, 7, 7, 7, 7, 7, 7, 7, 7, 7, 7, 7, 7, 8, 8, 8, 8, 8, 8, 8, 8, 8, 8, 8, 8, 8, 8, 8, 8, 8, 8, 8, 8, 8, 8, 8, 8, 8, 8, 8, 8, 8, 8, 8, 8, 8, 8, 8, 8, 8, 8, 8, 8, 8, 8, 8, 8, 8, 8, 8, 8, 8, 8, 8, 8, 8, 8, 8, 8, 8, 8, 8, 8, 8, 8, 8, 8, 8, 8, 8, 8, 8, 8, 8, 8, 8, 8, 8, 8, 8, 8, 8, 8, 8, 8, 8, 8, 8, 8, 8, 8, 8, 8, 8, 8, 8, 8, 8, 8, 8, 8, 8, 8, 8, 8, 8, 8, 8, 8, 8, 8, 8, 8, 8, 8, 8, 8, 8, 8, 8, 8, 8, 8, 8, 8, 8, 8, 8, 8, 8, 8] : List UInt8) (IntKind.u8.wrap q2.1)).bind fun ch =>
 let n := w64 (q2.2 + (w64 (ch.toNat : Int)))
 some n
def h251 : Hint := (.s .z (.s (.j [0, 2] [(0, [(0, .v (.int .u64) []), (2, .v (.int .i64) [])])] .z) (.s (.j [0, 2] [(0, [(0, .v (.int .u64) []), (2, .v (.int .i64) [])])] .z) (.s (.j [0, 2] [(0, [(0, .v (.int .u64) []), (2, .v (.int .i64) [])])] .z) .z))))
def sp251 : Spec fam := ⟨[.v (.int .u64) []], [.v (.int .i64) []], fun a => pH a.1⟩
def iW (x : Int) : Option Int :=
 (pH x).bind fun x1 =>
 some (w64 (64 - x1))
def h373 : Hint := .z
def sp373 : Spec fam := ⟨[.v (.int .u64) []], [.v (.int .i64) []], fun a => iW a.1⟩
def rt (yn1 : Int) (yn0 : Int) (un0 : Int) (t1 : Int × Int) : Option ((Int × Int) ⊕ Int) :=
 (
 bif decide (t1.2 ≥ 4294967296) then
  some true
 else
  some (decide ((IntKind.u64.wrap (t1.2 * yn0)) > (IntKind.u64.wrap ((IntKind.u64.wrap (4294967296 * t1.1)) + un0))))).bind fun q2 =>
 bif q2 then
 bif decide ((IntKind.u64.wrap (t1.1 + yn1)) ≥ 4294967296) then
  some (.inr (IntKind.u64.wrap (t1.2 - 1)))
 else
  some (.inl (IntKind.u64.wrap (t1.1 + yn1), IntKind.u64.wrap (t1.2 - 1)))
 else
 some (.inr t1.2)
def rr (yn1 : Int) (yn0 : Int) (un1 : Int) (t : Int × Int) : Option ((Int × Int) ⊕ Int) :=
 (
 bif decide (t.1 ≥ 4294967296) then
  some true
 else
  some (decide ((IntKind.u64.wrap (t.1 * yn0)) > (IntKind.u64.wrap ((IntKind.u64.wrap (4294967296 * t.2)) + un1))))).bind fun q =>
 bif q then
 bif decide ((IntKind.u64.wrap (t.2 + yn1)) ≥ 4294967296) then
  some (.inr (IntKind.u64.wrap (t.1 - 1)))
 else
  some (.inl (IntKind.u64.wrap (t.1 - 1), IntKind.u64.wrap (t.2 + yn1)))
 else
 some (.inr t.1)
def mh (hi : Int) (lo : Int) (y : Int) : Option (Int × Int) :=
 bif y == 0 then
 none
 else
 bif decide (y ≤ hi) then
  none
 else
  bif hi == 0 then
  (nz y).bind fun _ =>
  (nz y).bind fun _ =>
  some (IntKind.u64.wrap (Int.tdiv lo y), Int.tmod lo y)
  else
  (iW y).bind fun x =>
  (nn (IntKind.u64.wrap x)).bind fun _ =>
  let yn1 := shrK .u64 (shlK .u64 y (IntKind.u64.wrap x)) 32
  let yn0 := andK .u64 (shlK .u64 y (IntKind.u64.wrap x)) 4294967295
  (nn (IntKind.u64.wrap x)).bind fun _ =>
  (nn (IntKind.u64.wrap (64 - (IntKind.u64.wrap x)))).bind fun _ =>
  let un32 := orK .u64 (shlK .u64 hi (IntKind.u64.wrap x)) (shrK .u64 lo (IntKind.u64.wrap (64 - (IntKind.u64.wrap x))))
  (nn (IntKind.u64.wrap x)).bind fun _ =>
  let un1 := shrK .u64 (shlK .u64 lo (IntKind.u64.wrap x)) 32
  let un0 := andK .u64 (shlK .u64 lo (IntKind.u64.wrap x)) 4294967295
  (nz yn1).bind fun _ =>
  let rhat := IntKind.u64.wrap (un32 - (IntKind.u64.wrap ((IntKind.u64.wrap (Int.tdiv un32 yn1)) * yn1)))
  (loop (rr yn1 yn0 un1) (IntKind.u64.wrap (Int.tdiv un32 yn1), rhat)).bind fun q1 =>
  let un21 := IntKind.u64.wrap ((IntKind.u64.wrap ((IntKind.u64.wrap (un32 * 4294967296)) + un1)) - (IntKind.u64.wrap (q1 * (shlK .u64 y (IntKind.u64.wrap x)))))
  (nz yn1).bind fun _ =>
  let rhat1 := IntKind.u64.wrap (un21 - (IntKind.u64.wrap ((IntKind.u64.wrap (Int.tdiv un21 yn1)) * yn1)))
  (loop (rt yn1 yn0 un0) (rhat1, IntKind.u64.wrap (Int.tdiv un21 yn1))).bind fun q0 =>
  (nn (IntKind.u64.wrap x)).bind fun _ =>
  let quo := IntKind.u64.wrap ((IntKind.u64.wrap (q1 * 4294967296)) + q0)
  let rem := shrK .u64 (IntKind.u64.wrap ((IntKind.u64.wrap ((IntKind.u64.wrap (un21 * 4294967296)) + un0)) - (IntKind.u64.wrap (q0 * (shlK .u64 y (IntKind.u64.wrap x)))))) (IntKind.u64.wrap x)
  some (quo, rem)
def h363 : Hint := (.s .z (.s .z (.s .z (.s .z (.s .z (.s .z (.s .z (.s .z (.s .z (.s .z (.s .z (.s .z (.s .z (.s .z (.s (.b (.l [(15, .v (.int .u64) []), (16, .v (.int .u64) [])] [15, 16, 78] [(2, [(15, .v (.int .u64) [])])] (.s (.s (.j [] [(0, [(78, .v .bool [])])] .z) .z) .z))) (.s .z (.s .z (.s .z (.s (.b (.l [(16, .v (.int .u64) []), (18, .v (.int .u64) [])] [16, 18, 113] [(4, [(18, .v (.int .u64) [])])] (.s (.s (.j [] [(0, [(113, .v .bool [])])] .z) .z) .z))) .z)))))))))))))))))))
def sp363 : Spec fam := ⟨[.v (.int .u64) [], .v (.int .u64) [], .v (.int .u64) []], [.v (.int .u64) [], .v (.int .u64) []], fun a => mh a.1 a.2.1 a.2.2.1⟩
def jG (n : Int) (bp : Int) : Option Int :=
 (gB (IntKind.u64.wrap n) (IntKind.u64.wrap bp)).bind fun x =>
 (mh x.1 x.2 10000).bind fun x1 =>
 some (w64 x1.1)
def h333 : Hint := .z
def sp333 : Spec fam := ⟨[.v (.int .i64) [], .v (.int .i64) []], [.v (.int .i64) []], fun a => jG a.1 a.2.1⟩
def iD (a : Vec) (bp : Int) : Option (Vec × Int) :=
 (
 (aR a).bind fun x =>
 bif ! x then
  some true
 else
  bif decide (bp < 0) then
  some true
  else
  some (decide (bp > 1000000))).bind fun q =>
 bif q then
 some ((⟨0, 0⟩ : Vec), 1)
 else
 (jG a.Mem bp).bind fun x1 =>
 (jG a.Cores bp).bind fun x2 =>
 (jJ (⟨x1, x2⟩ : Vec)).bind fun x3 =>
 some (x3.1, x3.2)
def h280 : Hint := (.s .z (.s (.s (.j [] [(0, [(16, .v .bool [])])] .z) .z) .z))
def sp280 : Spec fam := ⟨[.v (.st 0) [], .v (.int .i64) []], [.v (.st 0) [], .v (.int .i64) []], fun a => iD a.1 a.2.1⟩
def hS (s : State) (label : Int) (part : (TupT fam [.st 1] → Option Int)) (up : List (List UInt8)) (t : Vec × Vec × Int) : Option ((Vec × Vec × Int) ⊕ (Vec ⊕ (Vec × Vec))) :=
 bif decide (t.2.2 ≥ 0) then
 (inb t.2.2 up.length).bind fun i1 =>
 (up[i1]?).bind fun x2 =>
 (ii s.Conf x2).bind fun x3 =>
 (
  bif ! x3.2 then
  some true
  else
  bif decide (label < 0) then
   some true
  else
   some (decide (label ≥ (x3.1.Caps.length : Int)))).bind fun q =>
 bif q then
  some (.inr (.inl (⟨0, 0⟩ : Vec)))
 else
  (inb label x3.1.Caps.length).bind fun i2 =>
  (x3.1.Caps[i2]?).bind fun x4 =>
  (part (x4, ())).bind fun r =>
  (iD t.2.1 r).bind fun x5 =>
  some (.inl (t.1, x5.1, w64 (t.2.2 - 1)))
 else
 some (.inr (.inr (t.1, t.2.1)))
def iN (s : State) (path : List UInt8) (label : Int) (part : (TupT fam [.st 1] → Option Int)) : Option Vec :=
 (lM path).bind fun up =>
 (ii s.Conf path).bind fun x =>
 bif ! x.2 then
 some (⟨0, 0⟩ : Vec)
 else
 (g6 s label).bind fun x1 =>
 let i := w64 ((up.length : Int) - 2)
 (loop (hS s label part up) ((⟨0, 0⟩ : Vec), x1, i)).bind fun q0 =>
 match q0 with
 | .inl q1 =>
  some q1
 | .inr q2 =>
  some q2.2
def h203 : Hint := (.s .z (.s .z (.s .z (.s .z (.s (.s .z (.b (.l [(8, .box (.st 0) []), (12, .box (.st 0) []), (13, .v (.int .i64) [])] [8, 12, 13, 14, 60] [(1, [(8, .box (.st 0) [])]), (2, [(8, .box (.st 0) []), (12, .box (.st 0) [])])] (.s .z (.s (.b (.s .z (.s (.s (.j [] [(0, [(60, .v .bool [])])] .z) .z) .z))) .z))))) .z)))))
def sp203 : Spec fam := ⟨[.v (.st 10) [], .v .str [], .v (.int .i64) [], .fn [.st 1] (.int .i64)], [.v (.st 0) []], fun a => iN a.1 a.2.1 a.2.2.1 a.2.2.2.1⟩
def iO (c : Cap) : Option Int :=
 some c.Least
def h204 : Hint := .z
def sp204 : Spec fam := ⟨[.v (.st 1) []], [.v (.int .i64) []], fun a => iO a.1⟩
def fJ (s : State) (path : List UInt8) (label : Int) : Option Vec :=
 (iN s path label (fun a' => iO a'.1)).bind fun x =>
 some x
def h122 : Hint := .z
def sp122 : Spec fam := ⟨[.v (.st 10) [], .v .str [], .v (.int .i64) []], [.v (.st 0) []], fun a => fJ a.1 a.2.1 a.2.2.1⟩
def cV (t : Attempt) (a : App) (x : Ask) : Option Bool :=
 (gz t.s a.Queue t.n.Label).bind fun x1 =>
 (gm x1 x.Size).bind fun x2 =>
 bif x2.2 == 0 then
 (fJ t.s a.Queue t.n.Label).bind fun x3 =>
 (ee x2.1 x3).bind fun x4 =>
 some x4
 else
 some false
def h183 : Hint := .z
def sp183 : Spec fam := ⟨[.rp (.st 19), .v (.st 6) [], .v (.st 5) []], [.v .bool []], fun a => cV a.1 a.2.1 a.2.2.1⟩
def gF (s : State) (path : List UInt8) (label : Int) (user : Int) : Option Vec :=
 bif user == (-1) then
 some (⟨0, 0⟩ : Vec)
 else
 (d9 (⟨⟨⟨s.Conf.Labels, s.Conf.Queues⟩, s.Nodes, s.Apps, s.Conts, s.Slots, s.Plans, s.Now, s.Epoch, s.Seq⟩, path, label, user⟩ : View)).bind fun x =>
 some x
def h259 : Hint := .z
def sp259 : Spec fam := ⟨[.v (.st 10) [], .v .str [], .v (.int .i64) [], .v (.int .i64) []], [.v (.st 0) []], fun a => gF a.1 a.2.1 a.2.2.1 a.2.2.2.1⟩
def jR (s : State) (path : List UInt8) (label : Int) : Option Vec :=
 (ii s.Conf path).bind fun x =>
 (fJ s path label).bind fun x1 =>
 (iD x1 x.1.User).bind fun x2 =>
 some x2.1
def h260 : Hint := .z
def sp260 : Spec fam := ⟨[.v (.st 10) [], .v .str [], .v (.int .i64) []], [.v (.st 0) []], fun a => jR a.1 a.2.1 a.2.2.1⟩
def cB (t : Attempt) (a : App) : Option Bool :=
 (gF t.s a.Queue t.n.Label a.User).bind fun x =>
 (jR t.s a.Queue t.n.Label).bind fun x1 =>
 (ee x x1).bind fun x2 =>
 some x2
def h184 : Hint := .z
def sp184 : Spec fam := ⟨[.rp (.st 19), .v (.st 6) []], [.v .bool []], fun a => cB a.1 a.2.1⟩
def cE (t : Attempt) (x : Ask) : Option Bool :=
 (ee x.Size t.free).bind fun x1 =>
 some x1
def h185 : Hint := .z
def sp185 : Spec fam := ⟨[.rp (.st 19), .v (.st 5) []], [.v .bool []], fun a => cE a.1 a.2.1⟩
def iZ (c : Cap) : Option Int :=
 some c.Most
def h346 : Hint := .z
def sp346 : Spec fam := ⟨[.v (.st 1) []], [.v (.int .i64) []], fun a => iZ a.1⟩
def jW (s : State) (path : List UInt8) (label : Int) : Option Vec :=
 (iN s path label (fun a' => iZ a'.1)).bind fun x =>
 some x
def h300 : Hint := .z
def sp300 : Spec fam := ⟨[.v (.st 10) [], .v .str [], .v (.int .i64) []], [.v (.st 0) []], fun a => jW a.1 a.2.1 a.2.2.1⟩
def hJ (s : State) (label : Int) (t : List Vec × Int) : Option ((List Vec × Int) ⊕ List Vec) :=
 bif decide (t.2 < (s.Plans.length : Int)) then
 (
  (idx s.Plans t.2).bind fun x =>
  (
  bif x.Label == label then
   bif decide (x.From ≤ s.Now) then
   some (decide (x.Until > s.Now))
   else
   some false
  else
   some false).bind fun q =>
  bif q then
  (app 16 t.1 [x.Need]).bind fun l =>
  some l
  else
  some t.1).bind fun l1 =>
 some (.inl (l1, w64 (t.2 + 1)))
 else
 some (.inr t.1)
def jP (s : State) (label : Int) : Option Vec :=
 (loop (hJ s label) ([], 0)).bind fun l2 =>
 (jL l2).bind fun x1 =>
 some x1
def h316 : Hint := (.s .z (.s .z (.s (.s .z (.b (.l [(5, .v (.slice (.st 0)) [0]), (11, .v (.int .i64) [])] [5, 7, 11, 32] [(2, [(5, .v (.slice (.st 0)) [0])])] (.s .z (.s .z (.s (.j [5, 7, 32] [(0, [(5, .v (.slice (.st 0)) [0])])] (.b (.s .z (.s (.j [] [(0, [(32, .v .bool [])])] .z) .z)))) .z)))))) .z)))
def sp316 : Spec fam := ⟨[.v (.st 10) [], .v (.int .i64) []], [.v (.st 0) []], fun a => jP a.1 a.2.1⟩
def fE (s : State) (label : Int) (size : Vec) (x : List (List UInt8)) (t : Int) : Option (Int ⊕ (Bool ⊕ Unit)) :=
 bif decide (t < (x.length : Int)) then
 (inb t x.length).bind fun i =>
 (x[i]?).bind fun x1 =>
 (gz s x1 label).bind fun x2 =>
 (gm x2 size).bind fun x3 =>
 (
  bif x3.2 != 0 then
  some true
  else
  (jW s x1 label).bind fun x4 =>
  (ee x3.1 x4).bind fun x5 =>
  some (! x5)).bind fun q =>
 bif q then
  some (.inr (.inl false))
 else
  (g6 s label).bind fun x6 =>
  (jP s label).bind fun x7 =>
  (
  bif x1 == ([114, 111, 111, 116] : List UInt8) then
   bif ! (((imax (w64 (x6.Mem - x7.Mem)) 0) == x6.Mem) && ((imax (w64 (x6.Cores - x7.Cores)) 0) == x6.Cores)) then
   (ee x3.1 (⟨imax (w64 (x6.Mem - x7.Mem)) 0, imax (w64 (x6.Cores - x7.Cores)) 0⟩ : Vec)).bind fun x8 =>
   some (! x8)
   else
   some false
  else
   some false).bind fun q1 =>
  bif q1 then
  some (.inr (.inl false))
  else
  some (.inl (w64 (t + 1)))
 else
 some (.inr (.inr ()))
def jU (s : State) (path : List UInt8) (label : Int) (size : Vec) : Option Bool :=
 (lM path).bind fun x =>
 (loop (fE s label size x) 0).bind fun q0 =>
 match q0 with
 | .inl q2 =>
 some q2
 | .inr _ =>
 some true
def h261 : Hint := (.s .z (.s (.s .z (.b (.l [(19, .v (.int .i64) [])] [8, 10, 11, 12, 13, 14, 15, 19, 42, 74] [(1, [(8, .v .bool [])]), (2, [])] (.s .z (.s .z (.s (.b (.s .z (.s .z (.s (.s (.j [] [(0, [(42, .v .bool [])])] .z) .z) (.s .z (.s .z (.s (.j [] [(0, [(74, .v .bool [])])] .z) .z))))))) .z)))))) .z))
def sp261 : Spec fam := ⟨[.v (.st 10) [], .v .str [], .v (.int .i64) [], .v (.st 0) []], [.v .bool []], fun a => jU a.1 a.2.1 a.2.2.1 a.2.2.2.1⟩
def cy (t : Attempt) (a : App) (x : Ask) : Option Bool :=
 (jU t.s a.Queue t.n.Label x.Size).bind fun x1 =>
 some x1
def h186 : Hint := .z
def sp186 : Spec fam := ⟨[.rp (.st 19), .v (.st 6) [], .v (.st 5) []], [.v .bool []], fun a => cy a.1 a.2.1 a.2.2.1⟩
def g9 (s : List Slot) (i : Int) (j : Int) : Option (List Slot) := del s i j
def sp187 : Spec fam := ⟨[.v (.slice (.st 8)) [0], .v (.int .i64) [], .v (.int .i64) []], [.v (.slice (.st 8)) [0]], fun a => g9 a.1 a.2.1 a.2.2.1⟩
def kv (l : List Ask) : Option (List Ask) :=
 (mkl 64 (l.length : Int) (l.length : Int) (⟨0, 0, ⟨0, 0⟩, 0, 0, 0, 0⟩ : Ask)).bind fun l1 =>
 some (cpy l1 0 l1.length l)
def h317 : Hint := .z
def sp317 : Spec fam := ⟨[.v (.slice (.st 5)) []], [.v (.slice (.st 5)) [0]], fun a => kv a.1⟩
def fV (s : List Ask) (f : (TupT fam [.st 5] → Option Bool)) (t : Int) : Option (Int ⊕ (Int ⊕ Unit)) :=
 bif decide (t < (s.length : Int)) then
 (idx s t).bind fun x =>
 (f (x, ())).bind fun r =>
 bif r then
  some (.inr (.inl t))
 else
  some (.inl (w64 (t + 1)))
 else
 some (.inr (.inr ()))
def gj (s : List Ask) (f : (TupT fam [.st 5] → Option Bool)) : Option Int :=
 (loop (fV s f) 0).bind fun q0 =>
 match q0 with
 | .inl q =>
 some q
 | .inr _ =>
 some (-1)
def h354 : Hint := (.s .z (.s (.s .z (.b (.l [(8, .v (.int .i64) [])] [4, 5, 8] [(1, [(4, .v (.int .i64) [])]), (2, [])] .z))) .z))
def sp354 : Spec fam := ⟨[.v (.slice (.st 5)) [], .fn [.st 5] .bool], [.v (.int .i64) []], fun a => gj a.1 a.2.1⟩
def m8 (a : Ask) (p : Int) : Option Bool :=
 some (a.Prio == p)
def h355 : Hint := .z
def sp355 : Spec fam := ⟨[.v (.st 5) [], .rp (.int .i64)], [.v .bool []], fun a => m8 a.1 a.2.1⟩
def j5 (l : List Ask) (prio : Int) : Option Int :=
 (gj l (fun a' => m8 a'.1 prio)).bind fun x =>
 some x
def h318 : Hint := .z
def sp318 : Spec fam := ⟨[.v (.slice (.st 5)) [], .v (.int .i64) []], [.v (.int .i64) []], fun a => j5 a.1 a.2.1⟩
def kg (s : List Ask) (i : Int) (j : Int) : Option (List Ask) := del s i j
def sp319 : Spec fam := ⟨[.v (.slice (.st 5)) [0], .v (.int .i64) [], .v (.int .i64) []], [.v (.slice (.st 5)) [0]], fun a => kg a.1 a.2.1 a.2.2.1⟩
def k8 (l : List Ask) (prio : Int) : Option (List Ask × Bool) :=
 (kv l).bind fun out =>
 (j5 out prio).bind fun i =>
 bif decide (i < 0) then
 some (out, false)
 else
 (inb i out.length).bind fun i1 =>
 (out[i1]?).bind fun x =>
 (inb i (List.set out i1 (⟨x.Prio, x.Label, ⟨x.Size.Mem, x.Size.Cores⟩, x.Count, x.Node, x.Rack, 0⟩ : Ask)).length).bind fun i2 =>
 ((List.set out i1 (⟨x.Prio, x.Label, ⟨x.Size.Mem, x.Size.Cores⟩, x.Count, x.Node, x.Rack, 0⟩ : Ask))[i2]?).bind fun x1 =>
 (inb i (List.set out i1 (⟨x.Prio, x.Label, ⟨x.Size.Mem, x.Size.Cores⟩, x.Count, x.Node, x.Rack, 0⟩ : Ask)).length).bind fun i3 =>
 ((List.set out i1 (⟨x.Prio, x.Label, ⟨x.Size.Mem, x.Size.Cores⟩, x.Count, x.Node, x.Rack, 0⟩ : Ask))[i3]?).bind fun x2 =>
 (
  (inb i (List.set (List.set out i1 (⟨x.Prio, x.Label, ⟨x.Size.Mem, x.Size.Cores⟩, x.Count, x.Node, x.Rack, 0⟩ : Ask)) i3 (⟨x2.Prio, x2.Label, ⟨x2.Size.Mem, x2.Size.Cores⟩, w64 (x1.Count - 1), x2.Node, x2.Rack, x2.Missed⟩ : Ask)).length).bind fun i4 =>
  ((List.set (List.set out i1 (⟨x.Prio, x.Label, ⟨x.Size.Mem, x.Size.Cores⟩, x.Count, x.Node, x.Rack, 0⟩ : Ask)) i3 (⟨x2.Prio, x2.Label, ⟨x2.Size.Mem, x2.Size.Cores⟩, w64 (x1.Count - 1), x2.Node, x2.Rack, x2.Missed⟩ : Ask))[i4]?).bind fun x3 =>
  bif decide (x3.Count ≤ 0) then
  (kg (List.set (List.set out i1 (⟨x.Prio, x.Label, ⟨x.Size.Mem, x.Size.Cores⟩, x.Count, x.Node, x.Rack, 0⟩ : Ask)) i3 (⟨x2.Prio, x2.Label, ⟨x2.Size.Mem, x2.Size.Cores⟩, w64 (x1.Count - 1), x2.Node, x2.Rack, x2.Missed⟩ : Ask)) i (w64 (i + 1))).bind fun out1 =>
  some out1
  else
  some (List.set (List.set out i1 (⟨x.Prio, x.Label, ⟨x.Size.Mem, x.Size.Cores⟩, x.Count, x.Node, x.Rack, 0⟩ : Ask)) i3 (⟨x2.Prio, x2.Label, ⟨x2.Size.Mem, x2.Size.Cores⟩, w64 (x1.Count - 1), x2.Node, x2.Rack, x2.Missed⟩ : Ask))).bind fun out2 =>
 some (out2, true)
def h262 : Hint := (.s .z (.s .z (.s .z (.s .z (.s .z (.s .z (.s (.j [6] [(0, [(6, .v (.slice (.st 5)) [0])])] .z) .z)))))))
def sp262 : Spec fam := ⟨[.v (.slice (.st 5)) [], .v (.int .i64) []], [.v (.slice (.st 5)) [0], .v .bool []], fun a => k8 a.1 a.2.1⟩
def tG (_a0 : List App) (_a1 : Int) (_a2 : List App) : Option (List App) := none
def sp356 : Spec fam := ⟨[.v (.slice (.st 6)) [], .v (.int .i64) [], .v (.slice (.st 6)) []], [.v (.slice (.st 6)) []], fun a => tG a.1 a.2.1 a.2.2.1⟩
def ud (s : State) (a : App) (k : Int) : Option (Int ⊕ Int) :=
 (
 bif decide (k < (s.Apps.length : Int)) then
  (inb k s.Apps.length).bind fun i2 =>
  (s.Apps[i2]?).bind fun x1 =>
  some (decide (x1.Id < a.Id))
 else
  some false).bind fun q =>
 bif q then
 some (.inl (w64 (k + 1)))
 else
 some (.inr k)
def mn (s : State) (a : App) : Option State :=
 (j1 s a.Id).bind fun i =>
 bif decide (i ≥ 0) then
 (inb i s.Apps.length).bind fun i1 =>
 (s.Apps[i1]?).bind fun x =>
 some (⟨⟨s.Conf.Labels, s.Conf.Queues⟩, s.Nodes, List.set s.Apps i1 a, s.Conts, s.Slots, s.Plans, s.Now, s.Epoch, s.Seq⟩ : State)
 else
 (loop (ud s a) 0).bind fun k1 =>
 none
def h320 : Hint := (.s .z (.s .z (.s .z (.s (.b (.l [(6, .v (.int .i64) [])] [6, 34] [(2, [(6, .v (.int .i64) [])])] (.s (.s (.j [] [(0, [(34, .v .bool [])])] .z) .z) .z))) .z))))
def sp320 : Spec fam := ⟨[.v (.st 10) [0, 1, 2, 3, 4, 5, 6], .v (.st 6) [7, 10, 11, 12, 13, 9999]], [.v (.st 10) [0, 1, 2, 3, 4, 5, 6]], fun a => mn a.1 a.2.1⟩
def h_ (s : State) (a : App) : Option State :=
 (jb s).bind fun x =>
 (jm a).bind fun x1 =>
 (mn x x1).bind fun x2 =>
 some x2
def h263 : Hint := .z
def sp263 : Spec fam := ⟨[.v (.st 10) [], .ln (.st 6)], [.v (.st 10) [0, 1, 2, 3, 4, 5, 6]], fun a => h_ a.1 a.2.1⟩
def pd (s : List Cont) (i : Int) (v : List Cont) : Option (List Cont) :=
 (inS i (s.length : Int) s.length).bind fun p =>
 bif (v.length : Int) == 0 then
 some s
 else
 bif i == (s.length : Int) then
  (app 72 s v).bind fun l =>
  some l
 else
  none
def g_ (s : List Cont) (i : Int) (v : List Cont) : Option (List Cont) := ins s i v
def h264 : Hint := .z
def sp264 : Spec fam := ⟨[.v (.slice (.st 7)) [0], .v (.int .i64) [], .v (.slice (.st 7)) [0]], [.v (.slice (.st 7)) [0]], fun a => g_ a.1 a.2.1 a.2.2.1⟩
def zL : Spec fam := ⟨[.v (.slice (.st 7)) [0], .v (.int .i64) [], .v (.slice (.st 7)) [0]], [.v (.slice (.st 7)) [0]], fun a => pd a.1 a.2.1 a.2.2.1⟩
def cq (t : Attempt) (x2 : State) (k : Int) : Option (Int ⊕ Int) :=
 (
 bif decide (k < (x2.Conts.length : Int)) then
  (inb k x2.Conts.length).bind fun i =>
  (x2.Conts[i]?).bind fun x3 =>
  some (decide (x3.Id < (w64 ((shlK .i64 t.s.Epoch 20) + (w64 (t.s.Seq + 1))))))
 else
  some false).bind fun q =>
 bif q then
 some (.inl (w64 (k + 1)))
 else
 some (.inr k)
def bn (t : Attempt) (a : App) (x : Ask) : Option (Cont × Attempt) :=
 (k8 a.Asks x.Prio).bind fun x1 =>
 (
 bif a.State == 1 then
  some (⟨a.Id, 2, a.Queue, a.User, a.Prio, ⟨a.Master.Mem, a.Master.Cores⟩, [], t.s.Now, 0, a.Grants, a.Kills, a.Told, a.Lost⟩ : App)
 else
  (app 8 a.Grants [w64 ((shlK .i64 t.s.Epoch 20) + (w64 (t.s.Seq + 1)))]).bind fun l =>
  some (⟨a.Id, a.State, a.Queue, a.User, a.Prio, ⟨a.Master.Mem, a.Master.Cores⟩, x1.1, a.Seen, a.Beat, l, a.Kills, a.Told, a.Lost⟩ : App)).bind fun a1 =>
 (h_ (⟨⟨t.s.Conf.Labels, t.s.Conf.Queues⟩, t.s.Nodes, t.s.Apps, t.s.Conts, t.s.Slots, t.s.Plans, t.s.Now, t.s.Epoch, w64 (t.s.Seq + 1)⟩ : State) a1).bind fun x2 =>
 (loop (cq t x2) 0).bind fun k1 =>
 (g_ x2.Conts k1 [(⟨w64 ((shlK .i64 t.s.Epoch 20) + (w64 (t.s.Seq + 1))), a.Id, t.n.Id, ⟨x.Size.Mem, x.Size.Cores⟩, x.Prio, x.Label, a.State == 1, 0⟩ : Cont)]).bind fun x4 =>
 some ((⟨w64 ((shlK .i64 t.s.Epoch 20) + (w64 (t.s.Seq + 1))), a.Id, t.n.Id, ⟨x.Size.Mem, x.Size.Cores⟩, x.Prio, x.Label, a.State == 1, 0⟩ : Cont), (⟨⟨⟨x2.Conf.Labels, x2.Conf.Queues⟩, x2.Nodes, x2.Apps, x4, x2.Slots, x2.Plans, x2.Now, x2.Epoch, x2.Seq⟩, ⟨t.n.Id, t.n.Label, t.n.Rack, ⟨t.n.Cap.Mem, t.n.Cap.Cores⟩, t.n.Seen, t.n.Beat, t.n.Up⟩, ⟨t.free.Mem, t.free.Cores⟩⟩ : Attempt))
def h188 : Hint := (.s .z (.s .z (.s .z (.s .z (.s (.j [1, 4] [(0, [(4, .box (.st 6) [7, 10, 11, 12, 13])])] .z) (.s .z (.s .z (.s (.b (.l [(8, .v (.int .i64) [])] [8, 104] [(2, [(8, .v (.int .i64) [])])] (.s (.s (.j [] [(0, [(104, .v .bool [])])] .z) .z) .z))) .z))))))))
def sp188 : Spec fam := ⟨[.box (.st 19) [0, 1, 2, 3, 4, 5, 6], .v (.st 6) [7, 10, 11, 12, 13], .v (.st 5) []], [.v (.st 7) []], fun a => bn a.1 a.2.1 a.2.2.1⟩
def ba (t : Attempt) : Option (Int × Cont × Bool × Attempt) :=
 (dZ t.s.Slots (fun a' => c_ a'.1 t)).bind fun i =>
 bif decide (i < 0) then
 some (0, (⟨0, 0, 0, ⟨0, 0⟩, 0, 0, false, 0⟩ : Cont), false, t)
 else
 (inb i t.s.Slots.length).bind fun i1 =>
 (t.s.Slots[i1]?).bind fun x =>
 (jy t.s x.App).bind fun x1 =>
 (jv x1.1 x.Prio).bind fun x2 =>
 (
  bif x1.2 then
  (jK x1.1).bind fun x3 =>
  bif x3 then
   bif x2.2 then
   (d4 x2.1 t.n).bind fun x4 =>
   bif x4 then
    (b8 t x2.1).bind fun x5 =>
    bif x5 then
    (cV t x1.1 x2.1).bind fun x6 =>
    bif x6 then
     (cB t x1.1).bind fun x7 =>
     some x7
    else
     some false
    else
    some false
   else
    some false
   else
   some false
  else
   some false
  else
  some false).bind fun stays =>
 (
  bif stays then
  (cE t x2.1).bind fun x8 =>
  bif x8 then
   (cy t x1.1 x2.1).bind fun x9 =>
   some (! x9)
  else
   some true
  else
  some false).bind fun q =>
 bif q then
  some (3, (⟨0, 0, 0, ⟨0, 0⟩, 0, 0, false, 0⟩ : Cont), true, t)
 else
  (g9 t.s.Slots i (w64 (i + 1))).bind fun x10 =>
  bif ! stays then
  some (0, (⟨0, 0, 0, ⟨0, 0⟩, 0, 0, false, 0⟩ : Cont), false, (⟨⟨⟨t.s.Conf.Labels, t.s.Conf.Queues⟩, t.s.Nodes, t.s.Apps, t.s.Conts, x10, t.s.Plans, t.s.Now, t.s.Epoch, t.s.Seq⟩, ⟨t.n.Id, t.n.Label, t.n.Rack, ⟨t.n.Cap.Mem, t.n.Cap.Cores⟩, t.n.Seen, t.n.Beat, t.n.Up⟩, ⟨t.free.Mem, t.free.Cores⟩⟩ : Attempt))
  else
  (bn (⟨⟨⟨t.s.Conf.Labels, t.s.Conf.Queues⟩, t.s.Nodes, t.s.Apps, t.s.Conts, x10, t.s.Plans, t.s.Now, t.s.Epoch, t.s.Seq⟩, ⟨t.n.Id, t.n.Label, t.n.Rack, ⟨t.n.Cap.Mem, t.n.Cap.Cores⟩, t.n.Seen, t.n.Beat, t.n.Up⟩, ⟨t.free.Mem, t.free.Cores⟩⟩ : Attempt) x1.1 x2.1).bind fun x11 =>
  some (1, x11.1, true, x11.2)
def h105 : Hint := (.s .z (.s .z (.s .z (.s .z (.s .z (.s .z (.s (.j [11] [(0, [(11, .v .bool [])])] .z) (.s (.s (.j [] [(0, [(91, .v .bool [])])] .z) .z) .z))))))))
def sp105 : Spec fam := ⟨[.box (.st 19) [0, 1, 2, 3, 4, 5, 6]], [.v (.int .i64) [], .v (.st 7) [], .v .bool []], fun a => ba a.1⟩
def iw (c : Conf) (path : List UInt8) (t : List (List UInt8) × Int) : Option ((List (List UInt8) × Int) ⊕ List (List UInt8)) :=
 bif decide (t.2 < (c.Queues.length : Int)) then
 (
  (idx c.Queues t.2).bind fun x =>
  (fp x.Path).bind fun x1 =>
  (
  bif x1.2 then
   some (x1.1 == path)
  else
   some false).bind fun q =>
  bif q then
  (app 16 t.1 [x.Path]).bind fun l =>
  some l
  else
  some t.1).bind fun out =>
 some (.inl (out, w64 (t.2 + 1)))
 else
 some (.inr t.1)
def kS (c : Conf) (path : List UInt8) : Option (List (List UInt8)) :=
 (loop (iw c path) ([], 0)).bind fun out1 =>
 some out1
def h120 : Hint := (.s .z (.s .z (.s (.s .z (.b (.l [(5, .v (.slice (.str)) [0]), (13, .v (.int .i64) [])] [5, 7, 8, 9, 13, 28] [(2, [(5, .v (.slice (.str)) [0])])] (.s .z (.s .z (.s (.j [5, 7, 8, 9, 28] [(0, [(5, .v (.slice (.str)) [0])])] (.b (.s .z (.s .z (.s (.j [] [(0, [(28, .v .bool [])])] .z) .z))))) .z)))))) .z)))
def sp120 : Spec fam := ⟨[.v (.st 3) [], .v .str []], [.v (.slice (.str)) [0]], fun a => kS a.1 a.2.1⟩
def jw (s : List Load) (f : (TupT fam [.st 18, .st 18] → Option Int)) : Option (List Load) := sortG (F := fam) (.st 18) f s
def sp123 : Spec fam := ⟨[.row (.st 18) false, .fn [.st 18, .st 18] (.int .i64)], [], fun a => jw a.1 a.2.1⟩
def eU (vals : List Int) (t : Int) : Option (Int ⊕ (Int ⊕ Unit)) :=
 bif decide (t < (vals.length : Int)) then
 (idx vals t).bind fun x =>
 bif x != 0 then
  some (.inr (.inl x))
 else
  some (.inl (w64 (t + 1)))
 else
 some (.inr (.inr ()))
def g8 (vals : List Int) : Option Int :=
 (loop (eU vals) 0).bind fun q0 =>
 match q0 with
 | .inl q =>
 some q
 | .inr _ =>
 some 0
def h68 : Hint := (.s .z (.s .z (.s (.s .z (.b (.l [(8, .v (.int .i64) [])] [2, 5, 8] [(1, [(2, .v (.int .i64) [])]), (2, [])] .z))) .z)))
def sp68 : Spec fam := ⟨[.v (.slice (.int .i64)) []], [.v (.int .i64) []], fun a => g8 a.1⟩
def eL (x : List UInt8) : Option Bool :=
 some (! (x == x))
def h225 : Hint := .z
def sp225 : Spec fam := ⟨[.v .str []], [.v .bool []], fun a => eL a.1⟩
def dY (x : List UInt8) (y : List UInt8) : Option Int :=
 (eL x).bind fun xNaN =>
 (eL y).bind fun yNaN =>
 bif xNaN then
 bif yNaN then
  some 0
 else
  some (-1)
 else
 bif yNaN then
  some 1
 else
  bif Op.bytesLess x y then
  some (-1)
  else
  bif ! (strLe x y) then
   some 1
  else
   some 0
def h146 : Hint := .z
def sp146 : Spec fam := ⟨[.v .str [], .v .str []], [.v (.int .i64) []], fun a => dY a.1 a.2.1⟩
def cJ (r : Ratio) (q : Ratio) : Option Int :=
 (
 bif r.of == 0 then
  some (q.of == 0)
 else
  some false).bind fun q1 =>
 bif q1 then
 some 0
 else
 bif r.of == 0 then
  some 1
 else
  bif q.of == 0 then
  some (-1)
  else
  (gB r.n q.of).bind fun x =>
  (gB q.n r.of).bind fun x1 =>
  (
   bif decide (x.1 < x1.1) then
   some true
   else
   bif x.1 == x1.1 then
    some (decide (x.2 < x1.2))
   else
    some false).bind fun q2 =>
  bif q2 then
   some (-1)
  else
   (
   bif x.1 == x1.1 then
    some (x.2 == x1.2)
   else
    some false).bind fun q3 =>
   bif q3 then
   some 0
   else
   some 1
def h291 : Hint := (.s .z (.s (.b (.s (.j [] [(0, [(9, .v .bool [])])] .z) .z)) (.s .z (.s .z (.s (.b (.s (.j [] [(0, [(42, .v .bool [])])] .z) (.c .z (.s (.j [] [(0, [(56, .v .bool [])])] .z) .z)))) .z)))))
def sp291 : Spec fam := ⟨[.v (.st 20) [], .v (.st 20) []], [.v (.int .i64) []], fun a => cJ a.1 a.2.1⟩
def jf (a : Vec) (p : Vec) (get : (TupT fam [.st 0] → Option Int)) : Option Ratio :=
 (get (a, ())).bind fun r =>
 (get (p, ())).bind fun r1 =>
 bif r == 0 then
 some (⟨0, 1⟩ : Ratio)
 else
 some (⟨IntKind.u64.wrap r, IntKind.u64.wrap r1⟩ : Ratio)
def h337 : Hint := .z
def sp337 : Spec fam := ⟨[.v (.st 0) [], .v (.st 0) [], .fn [.st 0] (.int .i64)], [.v (.st 20) []], fun a => jf a.1 a.2.1 a.2.2.1⟩
def iI (v : Vec) : Option Int :=
 some v.Mem
def h338 : Hint := .z
def sp338 : Spec fam := ⟨[.v (.st 0) []], [.v (.int .i64) []], fun a => iI a.1⟩
def gM (v : Vec) : Option Int :=
 some v.Cores
def h339 : Hint := .z
def sp339 : Spec fam := ⟨[.v (.st 0) []], [.v (.int .i64) []], fun a => gM a.1⟩
def jE (a : Vec) (p : Vec) : Option Ratio :=
 (jf a p (fun a' => iI a'.1)).bind fun x =>
 (jf a p (fun a' => gM a'.1)).bind fun x1 =>
 (cJ x x1).bind fun x2 =>
 bif decide (x2 < 0) then
 some x1
 else
 some x
def h290 : Hint := .z
def sp290 : Spec fam := ⟨[.v (.st 0) [], .v (.st 0) []], [.v (.st 20) []], fun a => jE a.1 a.2.1⟩
def gC (a : Vec) (p : Vec) (b : Vec) (q : Vec) : Option Int :=
 (
 (aR a).bind fun x =>
 bif ! x then
  some true
 else
  (aR p).bind fun x1 =>
  bif ! x1 then
  some true
  else
  (aR b).bind fun x2 =>
  bif ! x2 then
   some true
  else
   (aR q).bind fun x3 =>
   some (! x3)).bind fun q1 =>
 bif q1 then
 some 0
 else
 (jE a p).bind fun x4 =>
 (jE b q).bind fun x5 =>
 (cJ x4 x5).bind fun x6 =>
 some x6
def h206 : Hint := (.s .z (.s (.s (.j [] [(0, [(26, .v .bool [])])] .z) .z) .z))
def sp206 : Spec fam := ⟨[.v (.st 0) [], .v (.st 0) [], .v (.st 0) [], .v (.st 0) []], [.v (.int .i64) []], fun a => gC a.1 a.2.1 a.2.2.1 a.2.2.2.1⟩
def bi (a : Load) (b : Load) : Option Int :=
 (gC a.used a.least b.used b.least).bind fun x =>
 (dY a.path b.path).bind fun x1 =>
 (g8 [x, x1]).bind fun x2 =>
 some x2
def h124 : Hint := .z
def sp124 : Spec fam := ⟨[.v (.st 18) [], .v (.st 18) []], [.v (.int .i64) []], fun a => bi a.1 a.2.1⟩
def fG (x4 : List Load) (t1 : List (List UInt8) × Int) : Option ((List (List UInt8) × Int) ⊕ List (List UInt8)) :=
 bif decide (t1.2 < (x4.length : Int)) then
 (inb t1.2 x4.length).bind fun i1 =>
 (x4[i1]?).bind fun x5 =>
 (inS t1.2 (t1.1.length : Int) t1.1.length).bind fun p =>
 some (.inl (cpy t1.1 p.1 p.2 [x5.path], w64 (t1.2 + 1)))
 else
 some (.inr t1.1)
def fC (s : State) (label : Int) (x : List (List UInt8)) (t : List Load × Int) : Option ((List Load × Int) ⊕ List Load) :=
 bif decide (t.2 < (x.length : Int)) then
 (inb t.2 x.length).bind fun i =>
 (x[i]?).bind fun x1 =>
 (gz s x1 label).bind fun x2 =>
 (fJ s x1 label).bind fun x3 =>
 (app 48 t.1 [(⟨x1, ⟨x2.Mem, x2.Cores⟩, ⟨x3.Mem, x3.Cores⟩⟩ : Load)]).bind fun l =>
 some (.inl (l, w64 (t.2 + 1)))
 else
 some (.inr t.1)
def jQ (s : State) (path : List UInt8) (label : Int) : Option (List (List UInt8)) :=
 (kS s.Conf path).bind fun x =>
 (loop (fC s label x) ([], 0)).bind fun l1 =>
 (jw l1 (fun a' => bi a'.1 a'.2.1)).bind fun x4 =>
 (mkl 16 (x4.length : Int) (x4.length : Int) []).bind fun l2 =>
 (loop (fG x4) (l2, 0)).bind fun out =>
 some out
def h59 : Hint := (.s .z (.s .z (.s (.s .z (.b (.l [(7, .v (.slice (.st 18)) [0]), (18, .v (.int .i64) [])] [7, 9, 18, 19, 20, 21, 22, 23, 24, 25, 26, 27, 28, 29, 30, 31, 32, 33, 34, 35] [(2, [(7, .v (.slice (.st 18)) [0])])] .z))) (.s .z (.s .z (.s (.s .z (.b (.l [(10, .row .str false), (43, .v (.int .i64) [])] [10, 11, 12, 43] [(4, [(10, .row .str false)])] .z))) .z))))))
def sp59 : Spec fam := ⟨[.v (.st 10) [], .v .str [], .v (.int .i64) []], [.v (.slice (.str)) [0]], fun a => jQ a.1 a.2.1 a.2.2.1⟩
def fx (s : State) (label : Int) (deep : Int) (self : State → (List UInt8) → Int → Int → Option (List (List UInt8))) (kids : List (List UInt8)) (t : List (List UInt8) × Int) : Option ((List (List UInt8) × Int) ⊕ List (List UInt8)) :=
 bif decide (t.2 < (kids.length : Int)) then
 (inb t.2 kids.length).bind fun i =>
 (kids[i]?).bind fun x =>
 (self s x label (w64 (deep + 1))).bind fun x1 =>
 (app 16 t.1 x1).bind fun l =>
 some (.inl (l, w64 (t.2 + 1)))
 else
 some (.inr t.1)
def fB (self : State → (List UInt8) → Int → Int → Option (List (List UInt8))) (s : State) (path : List UInt8) (label : Int) (deep : Int) : Option (List (List UInt8)) :=
 (jQ s path label).bind fun kids =>
 (
 bif (kids.length : Int) == 0 then
  some true
 else
  some (decide (deep > 4))).bind fun q =>
 bif q then
 some [path]
 else
 (loop (fx s label deep self kids) ([], 0)).bind fun out =>
 some out
def cm : Nat → State → (List UInt8) → Int → Int → Option (List (List UInt8))
 | 0 => fun _ _ _ _ => none
 | n + 1 => fB (cm n)
def lk (a0 : State) (a1 : List UInt8) (a2 : Int) (a3 : Int) : Option (List (List UInt8)) := cm 64 a0 a1 a2 a3
def h119 : Hint := (.s .z (.s .z (.s (.s (.j [17, 18, 19, 20, 21, 22, 23] [(0, [(23, .v .bool [])])] .z) .z) (.s .z (.s (.s .z (.b (.l [(10, .v (.slice (.str)) [0]), (28, .v (.int .i64) [])] [10, 12, 28] [(2, [(10, .v (.slice (.str)) [0])])] .z))) .z)))))
def sp119 : Spec fam := ⟨[.v (.st 10) [], .v .str [], .v (.int .i64) [], .v (.int .i64) []], [.v (.slice (.str)) [0]], fun a => lk a.1 a.2.1 a.2.2.1 a.2.2.2.1⟩
def z3 (n : Nat) : Spec fam := ⟨[.v (.st 10) [], .v .str [], .v (.int .i64) [], .v (.int .i64) []], [.v (.slice (.str)) [0]], fun a => cm n a.1 a.2.1 a.2.2.1 a.2.2.2.1⟩
def iG (s : State) (label : Int) : Option (List (List UInt8)) :=
 (lk s ([114, 111, 111, 116] : List UInt8) label 1).bind fun x =>
 some x
def h58 : Hint := .z
def sp58 : Spec fam := ⟨[.v (.st 10) [], .v (.int .i64) []], [.v (.slice (.str)) [0]], fun a => iG a.1 a.2.1⟩
def dH (a : Int) (cmp : (TupT fam [.st 6, .st 6] → Option Int)) (t1 : List App × Int) : Option ((List App × Int) ⊕ List App) :=
 (
 bif decide (t1.2 > a) then
  (inb t1.2 t1.1.length).bind fun i =>
  (t1.1[i]?).bind fun x =>
  (inb (w64 (t1.2 - 1)) t1.1.length).bind fun i1 =>
  (t1.1[i1]?).bind fun x1 =>
  (cmp (x, x1, ())).bind fun r =>
  some (decide (r < 0))
 else
  some false).bind fun q =>
 bif q then
 (inb (w64 (t1.2 - 1)) t1.1.length).bind fun i2 =>
 (t1.1[i2]?).bind fun x2 =>
 (inb t1.2 t1.1.length).bind fun i3 =>
 (t1.1[i3]?).bind fun x3 =>
 (inb t1.2 t1.1.length).bind fun i4 =>
 (t1.1[i4]?).bind fun x4 =>
 (inb (w64 (t1.2 - 1)) (List.set t1.1 i4 x2).length).bind fun i5 =>
 ((List.set t1.1 i4 x2)[i5]?).bind fun x5 =>
 some (.inl (List.set (List.set t1.1 i4 x2) i5 x3, w64 (t1.2 - 1)))
 else
 some (.inr t1.1)
def fL (a : Int) (b : Int) (cmp : (TupT fam [.st 6, .st 6] → Option Int)) (t : List App × Int) : Option ((List App × Int) ⊕ List App) :=
 bif decide (t.2 < b) then
 (loop (dH a cmp) (t.1, t.2)).bind fun data1 =>
 some (.inl (data1, w64 (t.2 + 1)))
 else
 some (.inr t.1)
def kn (data : List App) (a : Int) (b : Int) (cmp : (TupT fam [.st 6, .st 6] → Option Int)) : Option (List App) :=
 (loop (fL a b cmp) (data, w64 (a + 1))).bind fun data2 =>
 some data2
def h219 : Hint := (.s .z (.b (.l [(0, .row (.st 6) false), (8, .v (.int .i64) [])] [0, 8, 9, 34] [(2, [(0, .row (.st 6) false)])] (.s .z (.s (.b (.s .z (.b (.l [(0, .row (.st 6) false), (9, .v (.int .i64) [])] [0, 9, 34] [(4, [(0, .row (.st 6) false)])] (.s (.s (.j [] [(0, [(34, .v .bool [])])] .z) .z) .z))))) .z)))))
def sp219 : Spec fam := ⟨[.row (.st 6) false, .v (.int .i64) [], .v (.int .i64) [], .fn [.st 6, .st 6] (.int .i64)], [], fun a => kn a.1 a.2.1 a.2.2.1 a.2.2.2.1⟩
def pA (a : Int) (b : Int) (n : Int) (t : List App × Int) : Option ((List App × Int) ⊕ List App) :=
 bif decide (t.2 < n) then
 (inb (w64 (b + t.2)) t.1.length).bind fun i =>
 (t.1[i]?).bind fun x =>
 (inb (w64 (a + t.2)) t.1.length).bind fun i1 =>
 (t.1[i1]?).bind fun x1 =>
 (inb (w64 (a + t.2)) t.1.length).bind fun i2 =>
 (t.1[i2]?).bind fun x2 =>
 (inb (w64 (b + t.2)) (List.set t.1 i2 x).length).bind fun i3 =>
 ((List.set t.1 i2 x)[i3]?).bind fun x3 =>
 some (.inl (List.set (List.set t.1 i2 x) i3 x1, w64 (t.2 + 1)))
 else
 some (.inr t.1)
def iC (data : List App) (a : Int) (b : Int) (n : Int) (cmp : (TupT fam [.st 6, .st 6] → Option Int)) : Option (List App) :=
 (loop (pA a b n) (data, 0)).bind fun data1 =>
 some data1
def h345 : Hint := (.s .z (.b (.l [(0, .row (.st 6) false), (10, .v (.int .i64) [])] [0, 10] [(2, [(0, .row (.st 6) false)])] .z)))
def sp345 : Spec fam := ⟨[.row (.st 6) false, .v (.int .i64) [], .v (.int .i64) [], .v (.int .i64) [], .fn [.st 6, .st 6] (.int .i64)], [], fun a => iC a.1 a.2.1 a.2.2.1 a.2.2.2.1 a.2.2.2.2.1⟩
def pz (m : Int) (cmp : (TupT fam [.st 6, .st 6] → Option Int)) (t : List App × Int × Int) : Option ((List App × Int × Int) ⊕ ((List App × Int))) :=
 bif t.2.1 != t.2.2 then
 bif decide (t.2.1 > t.2.2) then
  (iC t.1 (w64 (m - t.2.1)) m t.2.2 cmp).bind fun x =>
  let i := w64 (t.2.1 - t.2.2)
  some (.inl (x, i, t.2.2))
 else
  (iC t.1 (w64 (m - t.2.1)) (w64 ((w64 (m + t.2.2)) - t.2.1)) t.2.1 cmp).bind fun x1 =>
  let j := w64 (t.2.2 - t.2.1)
  some (.inl (x1, t.2.1, j))
 else
 some (.inr (t.1, t.2.1))
def mU (data : List App) (a : Int) (m : Int) (b : Int) (cmp : (TupT fam [.st 6, .st 6] → Option Int)) : Option (List App) :=
 (loop (pz m cmp) (data, w64 (m - a), w64 (b - m))).bind fun q =>
 (iC q.1 (w64 (m - q.2)) m q.2 cmp).bind fun x2 =>
 some x2
def h299 : Hint := (.s .z (.s .z (.s (.b (.l [(0, .row (.st 6) false), (10, .v (.int .i64) []), (11, .v (.int .i64) [])] [0, 10, 11] [(2, [(0, .row (.st 6) false), (10, .v (.int .i64) [])])] .z)) .z)))
def sp299 : Spec fam := ⟨[.row (.st 6) false, .v (.int .i64) [], .v (.int .i64) [], .v (.int .i64) [], .fn [.st 6, .st 6] (.int .i64)], [], fun a => mU a.1 a.2.1 a.2.2.1 a.2.2.2.1 a.2.2.2.2.1⟩
def n9 (data : List App) (cmp : (TupT fam [.st 6, .st 6] → Option Int)) (p : Int) (t4 : Int × Int) : Option ((Int × Int) ⊕ Int) :=
 bif decide (t4.1 < t4.2) then
 let c := w64 (shrK .u64 (IntKind.u64.wrap (w64 (t4.1 + t4.2))) 1)
 (inb (w64 (p - c)) data.length).bind fun i14 =>
 (data[i14]?).bind fun x12 =>
 (inb c data.length).bind fun i15 =>
 (data[i15]?).bind fun x13 =>
 (cmp (x12, x13, ())).bind fun r2 =>
 bif ! (decide (r2 < 0)) then
  some (.inl (w64 (c + 1), t4.2))
 else
  some (.inl (t4.1, c))
 else
 some (.inr t4.1)
def nZ (i9 : Int) (t3 : List App × Int) : Option ((List App × Int) ⊕ List App) :=
 bif decide (t3.2 > i9) then
 (inb (w64 (t3.2 - 1)) t3.1.length).bind fun i10 =>
 (t3.1[i10]?).bind fun x8 =>
 (inb t3.2 t3.1.length).bind fun i11 =>
 (t3.1[i11]?).bind fun x9 =>
 (inb t3.2 t3.1.length).bind fun i12 =>
 (t3.1[i12]?).bind fun x10 =>
 (inb (w64 (t3.2 - 1)) (List.set t3.1 i12 x8).length).bind fun i13 =>
 ((List.set t3.1 i12 x8)[i13]?).bind fun x11 =>
 some (.inl (List.set (List.set t3.1 i12 x8) i13 x9, w64 (t3.2 - 1)))
 else
 some (.inr t3.1)
def n4 (data : List App) (m : Int) (cmp : (TupT fam [.st 6, .st 6] → Option Int)) (t2 : Int × Int) : Option ((Int × Int) ⊕ Int) :=
 bif decide (t2.1 < t2.2) then
 let h1 := w64 (shrK .u64 (IntKind.u64.wrap (w64 (t2.1 + t2.2))) 1)
 (inb m data.length).bind fun i7 =>
 (data[i7]?).bind fun x6 =>
 (inb h1 data.length).bind fun i8 =>
 (data[i8]?).bind fun x7 =>
 (cmp (x6, x7, ())).bind fun r1 =>
 bif ! (decide (r1 < 0)) then
  some (.inl (w64 (h1 + 1), t2.2))
 else
  some (.inl (t2.1, h1))
 else
 some (.inr t2.1)
def n5 (i2 : Int) (t1 : List App × Int) : Option ((List App × Int) ⊕ List App) :=
 bif decide (t1.2 < (w64 (i2 - 1))) then
 (inb (w64 (t1.2 + 1)) t1.1.length).bind fun i3 =>
 (t1.1[i3]?).bind fun x2 =>
 (inb t1.2 t1.1.length).bind fun i4 =>
 (t1.1[i4]?).bind fun x3 =>
 (inb t1.2 t1.1.length).bind fun i5 =>
 (t1.1[i5]?).bind fun x4 =>
 (inb (w64 (t1.2 + 1)) (List.set t1.1 i5 x2).length).bind fun i6 =>
 ((List.set t1.1 i5 x2)[i6]?).bind fun x5 =>
 some (.inl (List.set (List.set t1.1 i5 x2) i6 x3, w64 (t1.2 + 1)))
 else
 some (.inr t1.1)
def n8 (data : List App) (a : Int) (cmp : (TupT fam [.st 6, .st 6] → Option Int)) (t : Int × Int) : Option ((Int × Int) ⊕ Int) :=
 bif decide (t.1 < t.2) then
 let h := w64 (shrK .u64 (IntKind.u64.wrap (w64 (t.1 + t.2))) 1)
 (inb h data.length).bind fun i =>
 (data[i]?).bind fun x =>
 (inb a data.length).bind fun i1 =>
 (data[i1]?).bind fun x1 =>
 (cmp (x, x1, ())).bind fun r =>
 bif decide (r < 0) then
  some (.inl (w64 (h + 1), t.2))
 else
  some (.inl (t.1, h))
 else
 some (.inr t.1)
def qh (self : (List App) → Int → Int → Int → ((TupT fam [.st 6, .st 6] → Option Int)) → Option (List App)) (data : List App) (a : Int) (m : Int) (b : Int) (cmp : (TupT fam [.st 6, .st 6] → Option Int)) : Option (List App) :=
 bif (w64 (m - a)) == 1 then
 (loop (n8 data a cmp) (m, b)).bind fun i2 =>
 (loop (n5 i2) (data, a)).bind fun data1 =>
 some data1
 else
 bif (w64 (b - m)) == 1 then
  (loop (n4 data m cmp) (a, m)).bind fun i9 =>
  (loop (nZ i9) (data, m)).bind fun data2 =>
  some data2
 else
  let mid := w64 (shrK .u64 (IntKind.u64.wrap (w64 (a + b))) 1)
  (
  bif decide (m > mid) then
   let start := w64 ((w64 (mid + m)) - b)
   some (start, mid)
  else
   some (a, m)).bind fun q =>
  let p := w64 ((w64 (mid + m)) - 1)
  (loop (n9 data cmp p) (q.1, q.2)).bind fun start1 =>
  let end_ := w64 ((w64 (mid + m)) - start1)
  (
  (
   bif decide (start1 < m) then
   some (decide (m < end_))
   else
   some false).bind fun q1 =>
  bif q1 then
   (mU data start1 m end_ cmp).bind fun x14 =>
   some x14
  else
   some data).bind fun data3 =>
  (
  (
   bif decide (a < start1) then
   some (decide (start1 < mid))
   else
   some false).bind fun q2 =>
  bif q2 then
   (self data3 a start1 mid cmp).bind fun x15 =>
   some x15
  else
   some data3).bind fun data4 =>
  (
  bif decide (mid < end_) then
   some (decide (end_ < b))
  else
   some false).bind fun q3 =>
  bif q3 then
  (self data4 mid end_ b cmp).bind fun x16 =>
  some x16
  else
  some data4
def ja : Nat → (List App) → Int → Int → Int → ((TupT fam [.st 6, .st 6] → Option Int)) → Option (List App)
 | 0 => fun _ _ _ _ _ => none
 | n + 1 => qh (ja n)
def kc (a0 : List App) (a1 : Int) (a2 : Int) (a3 : Int) (a4 : (TupT fam [.st 6, .st 6] → Option Int)) : Option (List App) := ja 64 a0 a1 a2 a3 a4
def h220 : Hint := (.s (.s .z (.c (.s .z (.s .z (.s (.b (.l [(10, .v (.int .i64) []), (11, .v (.int .i64) [])] [10, 11, 12] [(2, [(10, .v (.int .i64) [])])] .z)) (.s (.s .z (.b (.l [(0, .row (.st 6) false), (13, .v (.int .i64) [])] [0, 13] [(4, [(0, .row (.st 6) false)])] .z))) .z)))) .z)) (.s (.s .z (.c (.s .z (.s .z (.s (.b (.l [(14, .v (.int .i64) []), (15, .v (.int .i64) [])] [14, 15, 16] [(6, [(14, .v (.int .i64) [])])] .z)) (.s (.s .z (.b (.l [(0, .row (.st 6) false), (17, .v (.int .i64) [])] [0, 17] [(8, [(0, .row (.st 6) false)])] .z))) .z)))) .z)) (.s .z (.s .z (.s .z (.s (.j [20, 21] [(0, [(20, .v (.int .i64) []), (21, .v (.int .i64) [])])] .z) (.s .z (.s (.b (.l [(20, .v (.int .i64) []), (21, .v (.int .i64) [])] [20, 21, 23] [(10, [(20, .v (.int .i64) [])])] .z)) (.s .z (.s (.j [0, 185] [(0, [(0, .row (.st 6) false)])] (.s (.j [] [(0, [(185, .v .bool [])])] .z) .z)) (.s (.j [0, 199] [(0, [(0, .row (.st 6) false)])] (.s (.j [] [(0, [(199, .v .bool [])])] .z) .z)) (.s (.j [] [(0, [(213, .v .bool [])])] .z) .z))))))))))))
def sp220 : Spec fam := ⟨[.row (.st 6) false, .v (.int .i64) [], .v (.int .i64) [], .v (.int .i64) [], .fn [.st 6, .st 6] (.int .i64)], [], fun a => kc a.1 a.2.1 a.2.2.1 a.2.2.2.1 a.2.2.2.2.1⟩
def AA (n : Nat) : Spec fam := ⟨[.row (.st 6) false, .v (.int .i64) [], .v (.int .i64) [], .v (.int .i64) [], .fn [.st 6, .st 6] (.int .i64)], [], fun a => ja n a.1 a.2.1 a.2.2.1 a.2.2.2.1 a.2.2.2.2.1⟩
def ph (n : Int) (cmp : (TupT fam [.st 6, .st 6] → Option Int)) (t1 : List App × Int) (t2 : List App × Int × Int) : Option ((List App × Int × Int) ⊕ ((List App × Int))) :=
 bif decide (t2.2.2 ≤ n) then
 (kc t2.1 t2.2.1 (w64 (t2.2.1 + t1.2)) t2.2.2 cmp).bind fun x2 =>
 let b := w64 (t2.2.2 + (w64 (2 * t1.2)))
 some (.inl (x2, t2.2.2, b))
 else
 some (.inr (t2.1, t2.2.1))
def iP (n : Int) (cmp : (TupT fam [.st 6, .st 6] → Option Int)) (t1 : List App × Int) : Option ((List App × Int) ⊕ List App) :=
 bif decide (t1.2 < n) then
 (loop (ph n cmp t1) (t1.1, 0, w64 (2 * t1.2))).bind fun q1 =>
 (
  let m := w64 (q1.2 + t1.2)
  bif decide (m < n) then
  (kc q1.1 q1.2 m n cmp).bind fun x3 =>
  some x3
  else
  some q1.1).bind fun data1 =>
 some (.inl (data1, w64 (t1.2 * 2)))
 else
 some (.inr t1.1)
def iS (n : Int) (cmp : (TupT fam [.st 6, .st 6] → Option Int)) (t : List App × Int × Int) : Option ((List App × Int × Int) ⊕ ((List App × Int))) :=
 bif decide (t.2.2 ≤ n) then
 (kn t.1 t.2.1 t.2.2 cmp).bind fun x =>
 some (.inl (x, t.2.2, w64 (t.2.2 + 20)))
 else
 some (.inr (t.1, t.2.1))
def ky (data : List App) (n : Int) (cmp : (TupT fam [.st 6, .st 6] → Option Int)) : Option (List App) :=
 (loop (iS n cmp) (data, 0, 20)).bind fun q =>
 (kn q.1 q.2 n cmp).bind fun x1 =>
 (loop (iP n cmp) (x1, 20)).bind fun data2 =>
 some data2
def h140 : Hint := (.s .z (.s .z (.s (.b (.l [(0, .row (.st 6) false), (7, .v (.int .i64) []), (8, .v (.int .i64) [])] [0, 7, 8] [(2, [(0, .row (.st 6) false), (7, .v (.int .i64) [])])] .z)) (.s .z (.b (.l [(0, .row (.st 6) false), (6, .v (.int .i64) [])] [0, 6, 7, 8, 9] [(4, [(0, .row (.st 6) false)])] (.s .z (.b (.s .z (.s (.b (.l [(0, .row (.st 6) false), (7, .v (.int .i64) []), (8, .v (.int .i64) [])] [0, 7, 8] [(6, [(0, .row (.st 6) false), (7, .v (.int .i64) [])])] .z)) (.s (.j [0, 9] [(0, [(0, .row (.st 6) false)])] .z) .z)))))))))))
def sp140 : Spec fam := ⟨[.row (.st 6) false, .v (.int .i64) [], .fn [.st 6, .st 6] (.int .i64)], [], fun a => ky a.1 a.2.1 a.2.2.1⟩
def gW (x : List App) (cmp : (TupT fam [.st 6, .st 6] → Option Int)) : Option (List App) :=
 (ky x (x.length : Int) cmp).bind fun x1 =>
 some x1
def h66 : Hint := .z
def sp66 : Spec fam := ⟨[.row (.st 6) false, .fn [.st 6, .st 6] (.int .i64)], [], fun a => gW a.1 a.2.1⟩
def gD (x : Int) : Option Bool :=
 some (x != x)
def h141 : Hint := .z
def sp141 : Spec fam := ⟨[.v (.int .i64) []], [.v .bool []], fun a => gD a.1⟩
def dR (x : Int) (y : Int) : Option Int :=
 (gD x).bind fun xNaN =>
 (gD y).bind fun yNaN =>
 bif xNaN then
 bif yNaN then
  some 0
 else
  some (-1)
 else
 bif yNaN then
  some 1
 else
  bif decide (x < y) then
  some (-1)
  else
  bif decide (x > y) then
   some 1
  else
   some 0
def h69 : Hint := .z
def sp69 : Spec fam := ⟨[.v (.int .i64) [], .v (.int .i64) []], [.v (.int .i64) []], fun a => dR a.1 a.2.1⟩
def e_ (a : App) (b : App) : Option Int :=
 (dR b.Prio a.Prio).bind fun x =>
 (dR a.Id b.Id).bind fun x1 =>
 (g8 [x, x1]).bind fun x2 =>
 some x2
def h67 : Hint := .z
def sp67 : Spec fam := ⟨[.v (.st 6) [], .v (.st 6) []], [.v (.int .i64) []], fun a => e_ a.1 a.2.1⟩
def fy (x2 : List App) (t1 : List Int × Int) : Option ((List Int × Int) ⊕ List Int) :=
 bif decide (t1.2 < (x2.length : Int)) then
 (inb t1.2 x2.length).bind fun i =>
 (x2[i]?).bind fun x3 =>
 (inb t1.2 t1.1.length).bind fun i1 =>
 (t1.1[i1]?).bind fun x4 =>
 some (.inl (List.set t1.1 i1 x3.Id, w64 (t1.2 + 1)))
 else
 some (.inr t1.1)
def hC (s : State) (queue : List UInt8) (t : List App × Int) : Option ((List App × Int) ⊕ List App) :=
 bif decide (t.2 < (s.Apps.length : Int)) then
 (
  (idx s.Apps t.2).bind fun x =>
  (
  (jK x).bind fun x1 =>
  bif x1 then
   some (x.Queue == queue)
  else
   some false).bind fun q =>
  bif q then
  (app 200 t.1 [x]).bind fun l =>
  some l
  else
  some t.1).bind fun l1 =>
 some (.inl (l1, w64 (t.2 + 1)))
 else
 some (.inr t.1)
def jO (s : State) (queue : List UInt8) : Option (List Int) :=
 (loop (hC s queue) ([], 0)).bind fun l2 =>
 (gW l2 (fun a' => e_ a'.1 a'.2.1)).bind fun x2 =>
 (mkl 8 (x2.length : Int) (x2.length : Int) 0).bind fun l3 =>
 (loop (fy x2) (l3, 0)).bind fun out =>
 some out
def h19 : Hint := (.s .z (.s .z (.s (.s .z (.b (.l [(5, .v (.slice (.st 6)) [0]), (14, .v (.int .i64) [])] [5, 7, 14, 15, 16, 17, 18, 19, 20, 21, 22, 23, 24, 25, 26, 27, 28, 29, 30] [(2, [(5, .v (.slice (.st 6)) [0])])] (.s .z (.s .z (.s (.j [5, 7, 16, 17, 18, 19, 20, 21, 22, 23, 24, 25, 26, 27, 28, 29] [(0, [(5, .v (.slice (.st 6)) [0])])] (.b (.s .z (.s (.j [18, 19, 20, 21, 22, 23, 24, 25] [(0, [(25, .v .bool [])])] .z) .z)))) .z)))))) (.s .z (.s .z (.s (.s .z (.b (.l [(8, .row (.int .i64) false), (38, .v (.int .i64) [])] [8, 9, 10, 38] [(4, [(8, .row (.int .i64) false)])] .z))) .z))))))
def sp19 : Spec fam := ⟨[.v (.st 10) [], .v .str []], [.v (.slice (.int .i64)) [0]], fun a => jO a.1 a.2.1⟩
def kJ (l : List Ask) (prio : Int) : Option (List Ask) :=
 (kv l).bind fun out =>
 (
 (j5 out prio).bind fun i =>
 bif decide (i ≥ 0) then
  (inb i out.length).bind fun i1 =>
  (out[i1]?).bind fun x =>
  (inb i out.length).bind fun i2 =>
  (out[i2]?).bind fun x1 =>
  some (List.set out i2 (⟨x1.Prio, x1.Label, ⟨x1.Size.Mem, x1.Size.Cores⟩, x1.Count, x1.Node, x1.Rack, imin (w64 (x.Missed + 1)) 100⟩ : Ask))
 else
  some out).bind fun out1 =>
 some out1
def h323 : Hint := (.s .z (.s .z (.s (.j [5, 6] [(0, [(5, .row (.st 5) false)])] .z) .z)))
def sp323 : Spec fam := ⟨[.v (.slice (.st 5)) [], .v (.int .i64) []], [.v (.slice (.st 5)) [0]], fun a => kJ a.1 a.2.1⟩
def dX (t : Attempt) (a : App) (prio : Int) : Option (App × Attempt) :=
 (kJ a.Asks prio).bind fun x =>
 (h_ t.s (⟨a.Id, a.State, a.Queue, a.User, a.Prio, ⟨a.Master.Mem, a.Master.Cores⟩, x, a.Seen, a.Beat, a.Grants, a.Kills, a.Told, a.Lost⟩ : App)).bind fun x1 =>
 some ((⟨a.Id, a.State, a.Queue, a.User, a.Prio, ⟨a.Master.Mem, a.Master.Cores⟩, x, a.Seen, a.Beat, a.Grants, a.Kills, a.Told, a.Lost⟩ : App), (⟨⟨⟨x1.Conf.Labels, x1.Conf.Queues⟩, x1.Nodes, x1.Apps, x1.Conts, x1.Slots, x1.Plans, x1.Now, x1.Epoch, x1.Seq⟩, ⟨t.n.Id, t.n.Label, t.n.Rack, ⟨t.n.Cap.Mem, t.n.Cap.Cores⟩, t.n.Seen, t.n.Beat, t.n.Up⟩, ⟨t.free.Mem, t.free.Cores⟩⟩ : Attempt))
def h266 : Hint := .z
def sp266 : Spec fam := ⟨[.box (.st 19) [0, 1, 2, 3, 4, 5, 6], .v (.st 6) [7, 10, 11, 12, 13], .v (.int .i64) []], [.v (.st 6) [7, 10, 11, 12, 13]], fun a => dX a.1 a.2.1 a.2.2.1⟩
def hU (s : List Slot) (f : (TupT fam [.st 8] → Option Bool)) : Option Bool :=
 (dZ s f).bind fun x =>
 some (decide (x ≥ 0))
def h324 : Hint := .z
def sp324 : Spec fam := ⟨[.v (.slice (.st 8)) [], .fn [.st 8] .bool], [.v .bool []], fun a => hU a.1 a.2.1⟩
def eT (x : Slot) (p : Int) (p1 : Int) : Option Bool :=
 bif x.App == p then
 some (x.Prio == p1)
 else
 some false
def h325 : Hint := .z
def sp325 : Spec fam := ⟨[.v (.st 8) [], .rp (.int .i64), .rp (.int .i64)], [.v .bool []], fun a => eT a.1 a.2.1 a.2.2.1⟩
def oX (s : List Slot) (i : Int) (v : List Slot) : Option (List Slot) :=
 (inS i (s.length : Int) s.length).bind fun p =>
 bif (v.length : Int) == 0 then
 some s
 else
 bif i == (s.length : Int) then
  (app 24 s v).bind fun l =>
  some l
 else
  none
def jM (s : List Slot) (i : Int) (v : List Slot) : Option (List Slot) := ins s i v
def h326 : Hint := .z
def sp326 : Spec fam := ⟨[.v (.slice (.st 8)) [0], .v (.int .i64) [], .v (.slice (.st 8)) [0]], [.v (.slice (.st 8)) [0]], fun a => jM a.1 a.2.1 a.2.2.1⟩
def AG : Spec fam := ⟨[.v (.slice (.st 8)) [0], .v (.int .i64) [], .v (.slice (.st 8)) [0]], [.v (.slice (.st 8)) [0]], fun a => oX a.1 a.2.1 a.2.2.1⟩
def cI (t : Attempt) (k : Int) : Option (Int ⊕ Int) :=
 (
 bif decide (k < (t.s.Slots.length : Int)) then
  (inb k t.s.Slots.length).bind fun i =>
  (t.s.Slots[i]?).bind fun x1 =>
  some (decide (x1.Node < t.n.Id))
 else
  some false).bind fun q =>
 bif q then
 some (.inl (w64 (k + 1)))
 else
 some (.inr k)
def dV (t : Attempt) (id_ : Int) (prio : Int) : Option (Bool × Attempt) :=
 (hU t.s.Slots (fun a' => eT a'.1 id_ prio)).bind fun x =>
 bif x then
 some (false, t)
 else
 (loop (cI t) 0).bind fun k1 =>
 (jM t.s.Slots k1 [(⟨t.n.Id, id_, prio⟩ : Slot)]).bind fun x2 =>
 some (true, (⟨⟨⟨t.s.Conf.Labels, t.s.Conf.Queues⟩, t.s.Nodes, t.s.Apps, t.s.Conts, x2, t.s.Plans, t.s.Now, t.s.Epoch, t.s.Seq⟩, ⟨t.n.Id, t.n.Label, t.n.Rack, ⟨t.n.Cap.Mem, t.n.Cap.Cores⟩, t.n.Seen, t.n.Beat, t.n.Up⟩, ⟨t.free.Mem, t.free.Cores⟩⟩ : Attempt))
def h267 : Hint := (.s .z (.s .z (.s .z (.s (.b (.l [(7, .v (.int .i64) [])] [7, 39] [(2, [(7, .v (.int .i64) [])])] (.s (.s (.j [] [(0, [(39, .v .bool [])])] .z) .z) .z))) .z))))
def sp267 : Spec fam := ⟨[.box (.st 19) [0, 1, 2, 3, 4, 5, 6], .v (.int .i64) [], .v (.int .i64) []], [.v .bool []], fun a => dV a.1 a.2.1 a.2.2.1⟩
def a7 (first : Bool) (may : (TupT fam [.st 5, .st 4] → Option Bool)) (x2 : Int) (x5 : List Ask) (t3 : Attempt × Cont × App × Int) : Option ((Attempt × Cont × App × Int) ⊕ ((Attempt × Int × Cont) ⊕ (Attempt × Cont))) :=
 bif decide (t3.2.2.2 < (x5.length : Int)) then
 (
  (inb t3.2.2.2 x5.length).bind fun i1 =>
  (x5[i1]?).bind fun x6 =>
  (cV t3.1 t3.2.2.1 x6).bind fun due =>
  (
  (b8 t3.1 x6).bind fun x7 =>
  bif ! x7 then
   some true
  else
   bif first then
   some (! due)
   else
   some false).bind fun q =>
  bif q then
  some (.inl (t3.1, t3.2.1, t3.2.2.1))
  else
  (may (x6, t3.1.n, ())).bind fun r =>
  bif ! r then
   bif first == due then
   (dX t3.1 t3.2.2.1 x6.Prio).bind fun x8 =>
   some (.inl (x8.2, t3.2.1, x8.1))
   else
   some (.inl (t3.1, t3.2.1, t3.2.2.1))
  else
   (cy t3.1 t3.2.2.1 x6).bind fun x9 =>
   bif ! x9 then
   some (.inl (t3.1, t3.2.1, t3.2.2.1))
   else
   (cE t3.1 x6).bind fun x10 =>
   bif x10 then
    (bn t3.1 t3.2.2.1 x6).bind fun x11 =>
    some (.inr (x11.2, 1, x11.1))
   else
    (
    bif first then
     (dV t3.1 x2 x6.Prio).bind fun x12 =>
     some (x12.2, x12.1)
    else
     some (t3.1, false)).bind fun q1 =>
    bif q1.2 then
    some (.inr (q1.1, 2, (⟨0, 0, 0, ⟨0, 0⟩, 0, 0, false, 0⟩ : Cont)))
    else
    some (.inl (q1.1, t3.2.1, t3.2.2.1)) : Option ((Attempt × Cont × App) ⊕ (Attempt × Int × Cont))).bind fun q0 =>
 match q0 with
 | .inl q2 =>
  some (.inl (q2.1, q2.2.1, q2.2.2, w64 (t3.2.2.2 + 1)))
 | .inr q3 =>
  some (.inr (.inl (q3.1, q3.2.1, q3.2.2)))
 else
 some (.inr (.inr (t3.1, t3.2.1)))
def bq (first : Bool) (may : (TupT fam [.st 5, .st 4] → Option Bool)) (x1 : List Int) (t2 : Attempt × Cont × Int) : Option ((Attempt × Cont × Int) ⊕ ((Attempt × Int × Cont) ⊕ (Attempt × Cont) ⊕ (Attempt × Cont))) :=
 bif decide (t2.2.2 < (x1.length : Int)) then
 (
  (inb t2.2.2 x1.length).bind fun i =>
  (x1[i]?).bind fun x2 =>
  (jy t2.1.s x2).bind fun x3 =>
  bif ! x3.2 then
  some (.inr (.inr (t2.1, t2.2.1)))
  else
  (cB t2.1 x3.1).bind fun x4 =>
  bif ! x4 then
   some (.inl (t2.1, t2.2.1))
  else
   (je x3.1.Asks).bind fun x5 =>
   (loop (a7 first may x2 x5) (t2.1, t2.2.1, x3.1, 0)).bind fun q0 =>
   match q0 with
   | .inl q4 =>
   some (.inr (.inl (q4.1, q4.2.1, q4.2.2)))
   | .inr q5 =>
   some (.inl (q5.1, q5.2)) : Option ((Attempt × Cont) ⊕ (Attempt × Int × Cont) ⊕ (Attempt × Cont))).bind fun q0 =>
 match q0 with
 | .inl q6 =>
  some (.inl (q6.1, q6.2, w64 (t2.2.2 + 1)))
 | .inr (.inl q7) =>
  some (.inr (.inl (q7.1, q7.2.1, q7.2.2)))
 | .inr (.inr q8) =>
  some (.inr (.inr (.inl (q8.1, q8.2))))
 else
 some (.inr (.inr (.inr (t2.1, t2.2.1))))
def cw (leaves : List (List UInt8)) (first : Bool) (may : (TupT fam [.st 5, .st 4] → Option Bool)) (t1 : Attempt × Cont × Int) : Option ((Attempt × Cont × Int) ⊕ ((Attempt × Int × Cont) ⊕ (Attempt × Cont))) :=
 bif decide (t1.2.2 < (leaves.length : Int)) then
 (
  (idx leaves t1.2.2).bind fun x =>
  (jO t1.1.s x).bind fun x1 =>
  (loop (bq first may x1) (t1.1, t1.2.1, 0)).bind fun q0 =>
  match q0 with
  | .inl q9 =>
  some (.inr (q9.1, q9.2.1, q9.2.2))
  | .inr (.inl q10) =>
  some (.inl (q10.1, q10.2))
  | .inr (.inr q11) =>
  some (.inl (q11.1, q11.2)) : Option ((Attempt × Cont) ⊕ (Attempt × Int × Cont))).bind fun q0 =>
 match q0 with
 | .inl q12 =>
  some (.inl (q12.1, q12.2, w64 (t1.2.2 + 1)))
 | .inr q13 =>
  some (.inr (.inl (q13.1, q13.2.1, q13.2.2)))
 else
 some (.inr (.inr (t1.1, t1.2.1)))
def bT (t : Attempt) (leaves : List (List UInt8)) (first : Bool) (may : (TupT fam [.st 5, .st 4] → Option Bool)) : Option (Int × Cont × Attempt) :=
 (loop (cw leaves first may) (t, (⟨0, 0, 0, ⟨0, 0⟩, 0, 0, false, 0⟩ : Cont), 0)).bind fun q0 =>
 match q0 with
 | .inl q14 =>
 some (q14.2.1, q14.2.2, q14.1)
 | .inr q15 =>
 some (0, (⟨0, 0, 0, ⟨0, 0⟩, 0, 0, false, 0⟩ : Cont), q15.1)
def h189 : Hint := (.s .z (.b (.s .z (.s .z (.s (.s .z (.b (.l [(0, .box (.st 19) [0, 1, 2, 3, 4, 5, 6]), (9, .box (.st 7) []), (24, .v (.int .i64) [])] [0, 8, 9, 12, 14, 15, 16, 18, 19, 24, 25, 26, 27, 28, 29, 30, 31, 32, 33, 34, 35, 36, 37, 38, 39, 40, 41, 42, 43, 44, 45, 46, 47, 48, 49, 50, 51, 52, 53, 54, 55, 56, 57, 58, 66, 109] [(1, [(0, .box (.st 19) [0, 1, 2, 3, 4, 5, 6]), (8, .v (.int .i64) []), (9, .box (.st 7) [])]), (2, [(0, .box (.st 19) [0, 1, 2, 3, 4, 5, 6]), (9, .box (.st 7) [])])] (.s .z (.s .z (.s (.j [0, 8, 9, 12, 14, 15, 16, 18, 19, 26, 27, 28, 29, 30, 31, 32, 33, 34, 35, 36, 37, 38, 39, 40, 41, 42, 43, 44, 45, 46, 47, 48, 49, 50, 51, 52, 53, 54, 55, 56, 57, 58, 66, 109] [(0, [(0, .box (.st 19) [0, 1, 2, 3, 4, 5, 6]), (9, .box (.st 7) [])]), (1, [(0, .box (.st 19) [0, 1, 2, 3, 4, 5, 6]), (8, .v (.int .i64) []), (9, .box (.st 7) [])])] (.b (.s .z (.s .z (.b (.l [(0, .box (.st 19) [0, 1, 2, 3, 4, 5, 6]), (9, .box (.st 7) []), (35, .v (.int .i64) [])] [0, 8, 9, 14, 15, 16, 18, 19, 31, 35, 36, 37, 38, 39, 40, 41, 42, 43, 44, 45, 46, 47, 48, 49, 50, 51, 52, 53, 54, 55, 56, 57, 58, 66, 109] [(1, [(0, .box (.st 19) [0, 1, 2, 3, 4, 5, 6]), (8, .v (.int .i64) []), (9, .box (.st 7) [])]), (3, [(0, .box (.st 19) [0, 1, 2, 3, 4, 5, 6]), (9, .box (.st 7) [])]), (4, [(0, .box (.st 19) [0, 1, 2, 3, 4, 5, 6]), (9, .box (.st 7) [])])] (.s .z (.s .z (.s (.j [0, 8, 9, 14, 15, 16, 18, 19, 37, 38, 39, 40, 41, 42, 43, 44, 45, 46, 47, 48, 49, 50, 51, 52, 53, 54, 55, 56, 57, 58, 66, 109] [(0, [(0, .box (.st 19) [0, 1, 2, 3, 4, 5, 6]), (9, .box (.st 7) [])]), (1, [(0, .box (.st 19) [0, 1, 2, 3, 4, 5, 6]), (8, .v (.int .i64) []), (9, .box (.st 7) [])]), (3, [(0, .box (.st 19) [0, 1, 2, 3, 4, 5, 6]), (9, .box (.st 7) [])])] (.b (.s .z (.s .z (.s .z (.s .z (.s .z (.b (.l [(0, .box (.st 19) [0, 1, 2, 3, 4, 5, 6]), (9, .box (.st 7) []), (15, .box (.st 6) [7, 10, 11, 12, 13]), (58, .v (.int .i64) [])] [0, 8, 9, 15, 18, 19, 43, 46, 51, 54, 55, 58, 66, 109] [(1, [(0, .box (.st 19) [0, 1, 2, 3, 4, 5, 6]), (8, .v (.int .i64) []), (9, .box (.st 7) [])]), (6, [(0, .box (.st 19) [0, 1, 2, 3, 4, 5, 6]), (9, .box (.st 7) [])])] (.s .z (.s .z (.s (.j [0, 8, 9, 15, 18, 19, 66, 109] [(0, [(0, .box (.st 19) [0, 1, 2, 3, 4, 5, 6]), (9, .box (.st 7) []), (15, .box (.st 6) [7, 10, 11, 12, 13])]), (1, [(0, .box (.st 19) [0, 1, 2, 3, 4, 5, 6]), (8, .v (.int .i64) []), (9, .box (.st 7) [])])] (.b (.s .z (.s .z (.b (.s (.j [] [(0, [(66, .v .bool [])])] .z) (.c .z (.s .z (.c .z (.s .z (.c .z (.s .z (.c .z (.s (.j [0] [(0, [(0, .box (.st 19) [0, 1, 2, 3, 4, 5, 6]), (109, .v .bool [])])] .z) .z)))))))))))))) .z)))))))))))) .z))))))))) .z)))))) .z)))))
def sp189 : Spec fam := ⟨[.box (.st 19) [0, 1, 2, 3, 4, 5, 6], .v (.slice (.str)) [], .v .bool [], .fn [.st 5, .st 4] .bool], [.v (.int .i64) [], .v (.st 7) []], fun a => bT a.1 a.2.1 a.2.2.1 a.2.2.2.1⟩
def bM (t : Attempt) : Option (Int × Cont × Attempt) :=
 (iG t.s t.n.Label).bind fun leaves =>
 (bT t leaves true (fun a' => d4 a'.1 a'.2.1)).bind fun x =>
 bif x.1 != 0 then
 some (x.1, x.2.1, x.2.2)
 else
 (bT x.2.2 leaves false (fun a' => d4 a'.1 a'.2.1)).bind fun x1 =>
 some (x1.1, x1.2.1, x1.2.2)
def h106 : Hint := .z
def sp106 : Spec fam := ⟨[.box (.st 19) [0, 1, 2, 3, 4, 5, 6]], [.v (.int .i64) [], .v (.st 7) []], fun a => bM a.1⟩
def iJ (s : State) (node : Int) : Option (State × Int × Cont) :=
 (go s []).bind fun x =>
 (iL s node).bind fun x1 =>
 (
 bif ! x1.2 then
  some true
 else
  bif ! x1.1.Up then
  some true
  else
  bif decide ((s.Conts.length : Int) ≥ 200) then
   some true
  else
   some (decide (s.Seq ≥ 1048575))).bind fun q =>
 bif q then
 some (x, 0, (⟨0, 0, 0, ⟨0, 0⟩, 0, 0, false, 0⟩ : Cont))
 else
 (jT s node).bind fun x2 =>
 (ba (⟨⟨⟨x.Conf.Labels, x.Conf.Queues⟩, x.Nodes, x.Apps, x.Conts, x.Slots, x.Plans, x.Now, x.Epoch, x.Seq⟩, ⟨x1.1.Id, x1.1.Label, x1.1.Rack, ⟨x1.1.Cap.Mem, x1.1.Cap.Cores⟩, x1.1.Seen, x1.1.Beat, x1.1.Up⟩, ⟨x2.Mem, x2.Cores⟩⟩ : Attempt)).bind fun x3 =>
 (
  bif ! x3.2.2.1 then
  (bM x3.2.2.2).bind fun x4 =>
  some (x4.1, x4.2.1, x4.2.2)
  else
  some (x3.1, x3.2.1, x3.2.2.2)).bind fun q1 =>
 (go q1.2.2.s []).bind fun x5 =>
 some (x5, q1.1, q1.2.1)
def h41 : Hint := (.s .z (.s .z (.s .z (.s (.s (.j [] [(0, [(37, .v .bool [])])] .z) .z) (.s .z (.s .z (.s (.j [5, 6, 10] [(0, [(5, .v (.int .i64) []), (6, .box (.st 7) []), (10, .box (.st 19) [0, 1, 2, 3, 4, 5, 6])])] .z) .z)))))))
def sp41 : Spec fam := ⟨[.v (.st 10) [], .v (.int .i64) []], [.v (.st 10) [0, 1, 2, 3, 4, 5, 6], .v (.int .i64) [], .v (.st 7) []], fun a => iJ a.1 a.2.1⟩
def bV (s : State) (id_ : Int) (t : Node × Int) : Option ((Node × Int) ⊕ ((Node × Bool) ⊕ Node)) :=
 bif decide (t.2 < (s.Nodes.length : Int)) then
 (idx s.Nodes t.2).bind fun x =>
 bif x.Id == id_ then
  (idx s.Nodes t.2).bind fun x1 =>
  some (.inr (.inl (x1, true)))
 else
  some (.inl (t.1, w64 (t.2 + 1)))
 else
 some (.inr (.inr (t.1)))
def ce (s : State) (id_ : Int) : Option (Node × Bool) :=
 (loop (bV s id_) ((⟨0, 0, 0, ⟨0, 0⟩, 0, 0, false⟩ : Node), 0)).bind fun q0 =>
 match q0 with
 | .inl q =>
 some (q.1, q.2)
 | .inr q1 =>
 some ((⟨0, 0, 0, ⟨0, 0⟩, 0, 0, false⟩ : Node), false)
def h95 : Hint := (.s .z (.s (.s .z (.b (.l [(4, .box (.st 4) []), (6, .v (.int .i64) [])] [4, 5, 6] [(1, [(4, .box (.st 4) []), (5, .v .bool [])]), (2, [(4, .box (.st 4) [])])] .z))) .z))
def sp95 : Spec fam := ⟨[.v (.st 10) [], .v (.int .i64) []], [.v (.st 4) [], .v .bool []], fun a => ce a.1 a.2.1⟩
def di (n : Int) : Option Bool :=
 bif decide (n ≥ 0) then
 some (decide (n ≤ 1073741824))
 else
 some false
def h171 : Hint := .z
def sp171 : Spec fam := ⟨[.v (.int .i64) []], [.v .bool []], fun a => di a.1⟩
def cz (s : State) (n : Node) (k : Int) : Option (Int ⊕ Int) :=
 (
 bif decide (k < (s.Nodes.length : Int)) then
  (inb k s.Nodes.length).bind fun i =>
  (s.Nodes[i]?).bind fun x =>
  some (decide (x.Id < n.Id))
 else
  some false).bind fun q =>
 bif q then
 some (.inl (w64 (k + 1)))
 else
 some (.inr k)
def dQ (s : State) (n : Node) : Option State :=
 (loop (cz s n) 0).bind fun k1 =>
 (inS 0 k1 s.Nodes.length).bind fun p =>
 (app 64 [] (sub s.Nodes p.1 p.2)).bind fun l =>
 (app 64 l [n]).bind fun l1 =>
 (
 (
  bif decide (k1 < (s.Nodes.length : Int)) then
  (inb k1 s.Nodes.length).bind fun i1 =>
  (s.Nodes[i1]?).bind fun x1 =>
  some (x1.Id == n.Id)
  else
  some false).bind fun q1 =>
 bif q1 then
  some (w64 (k1 + 1))
 else
  some k1).bind fun k2 =>
 (inS k2 (s.Nodes.length : Int) s.Nodes.length).bind fun p1 =>
 (app 64 l1 (sub s.Nodes p1.1 p1.2)).bind fun l2 =>
 some (⟨⟨s.Conf.Labels, s.Conf.Queues⟩, l2, s.Apps, s.Conts, s.Slots, s.Plans, s.Now, s.Epoch, s.Seq⟩ : State)
def h172 : Hint := (.s .z (.s .z (.s (.b (.l [(5, .v (.int .i64) [])] [5, 22] [(2, [(5, .v (.int .i64) [])])] (.s (.s (.j [] [(0, [(22, .v .bool [])])] .z) .z) .z))) (.s .z (.s .z (.s (.j [5, 50] [(0, [(5, .v (.int .i64) [])])] (.s (.j [] [(0, [(50, .v .bool [])])] .z) .z)) .z))))))
def sp172 : Spec fam := ⟨[.v (.st 10) [0, 1, 2, 3, 4, 5, 6], .v (.st 4) []], [.v (.st 10) [0, 1, 2, 3, 4, 5, 6]], fun a => dQ a.1 a.2.1⟩
def aI (s : State) (n : Node) : Option (State × Int) :=
 (
 bif decide (n.Id < 0) then
  some true
 else
  bif decide (n.Id > 999) then
  some true
  else
  bif decide (n.Label < 0) then
   some true
  else
   bif decide (n.Label ≥ (s.Conf.Labels.length : Int)) then
   some true
   else
   bif decide (n.Rack < 0) then
    some true
   else
    bif decide (n.Rack > 99) then
    some true
    else
    (di n.Cap.Mem).bind fun x =>
    bif ! x then
     some true
    else
     (di n.Cap.Cores).bind fun x1 =>
     some (! x1)).bind fun q =>
 bif q then
 some (s, 1)
 else
 (ce s n.Id).bind fun x2 =>
 (
  bif x2.2 then
  some x2.1.Up
  else
  some false).bind fun q1 =>
 bif q1 then
  some (s, 7)
 else
  (
  bif ! x2.2 then
   some (decide ((s.Nodes.length : Int) ≥ 12))
  else
   some false).bind fun q2 =>
  bif q2 then
  some (s, 4)
  else
  (dQ s (⟨n.Id, n.Label, n.Rack, ⟨n.Cap.Mem, n.Cap.Cores⟩, s.Now, 0, true⟩ : Node)).bind fun x3 =>
  some (x3, 0)
def h101 : Hint := (.s .z (.s (.s (.j [] [(0, [(53, .v .bool [])])] .z) .z) (.s .z (.s (.s (.j [] [(0, [(66, .v .bool [])])] .z) .z) (.s (.s (.j [] [(0, [(75, .v .bool [])])] .z) .z) .z)))))
def sp101 : Spec fam := ⟨[.v (.st 10) [0, 1, 2, 3, 4, 5, 6], .v (.st 4) []], [.v (.st 10) [0, 1, 2, 3, 4, 5, 6], .v (.int .i64) []], fun a => aI a.1 a.2.1⟩
def a6 (a : App) : Option Bool :=
 bif a.State == 1 then
 some true
 else
 some (a.State == 2)
def h21 : Hint := .z
def sp21 : Spec fam := ⟨[.v (.st 6) []], [.v .bool []], fun a => a6 a.1⟩
def b_ (c : Conf) (path : List UInt8) (t : Queue × Int) : Option ((Queue × Int) ⊕ ((Queue × Bool) ⊕ Queue)) :=
 bif decide (t.2 < (c.Queues.length : Int)) then
 (idx c.Queues t.2).bind fun x =>
 bif x.Path == path then
  (idx c.Queues t.2).bind fun x1 =>
  (app 16 [] x1.Caps).bind fun l =>
  some (.inr (.inl ((⟨x1.Path, l, x1.User⟩ : Queue), true)))
 else
  some (.inl (t.1, w64 (t.2 + 1)))
 else
 some (.inr (.inr (t.1)))
def bu (c : Conf) (path : List UInt8) : Option (Queue × Bool) :=
 (loop (b_ c path) ((⟨[], [], 0⟩ : Queue), 0)).bind fun q0 =>
 match q0 with
 | .inl q =>
 some (q.1, q.2)
 | .inr q1 =>
 some ((⟨[], [], 0⟩ : Queue), false)
def h111 : Hint := (.s .z (.s (.s .z (.b (.l [(4, .box (.st 2) [1]), (6, .v (.int .i64) [])] [4, 5, 6, 7] [(1, [(4, .box (.st 2) [1]), (5, .v .bool [])]), (2, [(4, .box (.st 2) [1])])] .z))) .z))
def sp111 : Spec fam := ⟨[.v (.st 3) [], .v .str []], [.v (.st 2) [1], .v .bool []], fun a => bu a.1 a.2.1⟩
def du (c : Conf) (path : List UInt8) (t : List (List UInt8) × Int) : Option ((List (List UInt8) × Int) ⊕ List (List UInt8)) :=
 bif decide (t.2 < (c.Queues.length : Int)) then
 (
  (
  bif ! (path == ([] : List UInt8)) then
   (idx c.Queues t.2).bind fun x =>
   (cS x.Path).bind fun x1 =>
   some (x1 == path)
  else
   some false).bind fun q =>
  bif q then
  (idx c.Queues t.2).bind fun x2 =>
  (app 16 t.1 [x2.Path]).bind fun l =>
  some l
  else
  some t.1).bind fun l1 =>
 some (.inl (l1, w64 (t.2 + 1)))
 else
 some (.inr t.1)
def dg (c : Conf) (path : List UInt8) : Option (List (List UInt8)) :=
 (loop (du c path) ([], 0)).bind fun l2 =>
 some l2
def h135 : Hint := (.s .z (.s .z (.s (.s .z (.b (.l [(5, .v (.slice (.str)) [0]), (6, .v (.int .i64) [])] [5, 6, 26] [(2, [(5, .v (.slice (.str)) [0])])] (.s .z (.s (.j [5, 26] [(0, [(5, .v (.slice (.str)) [0])])] (.b (.s (.j [] [(0, [(26, .v .bool [])])] .z) .z))) .z))))) .z)))
def sp135 : Spec fam := ⟨[.v (.st 3) [], .v .str []], [.v (.slice (.str)) [0]], fun a => dg a.1 a.2.1⟩
def eK (c : Conf) (path : List UInt8) : Option Bool :=
 (bu c path).bind fun x =>
 bif x.2 then
 (dg c path).bind fun x1 =>
 some ((x1.length : Int) == 0)
 else
 some false
def h64 : Hint := .z
def sp64 : Spec fam := ⟨[.v (.st 3) [], .v .str []], [.v .bool []], fun a => eK a.1 a.2.1⟩
def dv (s : State) (a : App) (k : Int) : Option (Int ⊕ Int) :=
 (
 bif decide (k < (s.Apps.length : Int)) then
  (idx s.Apps k).bind fun x =>
  some (decide (x.Id < a.Id))
 else
  some false).bind fun q =>
 bif q then
 some (.inl (w64 (k + 1)))
 else
 some (.inr k)
def aX (s : State) (a : App) : Option State :=
 (loop (dv s a) 0).bind fun k1 =>
 (slc s.Apps 0 k1).bind fun l =>
 (app 200 [] l).bind fun l1 =>
 (app 200 l1 [a]).bind fun l2 =>
 (
 (
  bif decide (k1 < (s.Apps.length : Int)) then
  (idx s.Apps k1).bind fun x1 =>
  some (x1.Id == a.Id)
  else
  some false).bind fun q1 =>
 bif q1 then
  some (w64 (k1 + 1))
 else
  some k1).bind fun k2 =>
 (slc s.Apps k2 (s.Apps.length : Int)).bind fun l3 =>
 (app 200 l2 l3).bind fun l4 =>
 some (⟨⟨s.Conf.Labels, s.Conf.Queues⟩, s.Nodes, l4, s.Conts, s.Slots, s.Plans, s.Now, s.Epoch, s.Seq⟩ : State)
def h100 : Hint := (.s .z (.s .z (.s (.b (.l [(5, .v (.int .i64) [])] [5, 22] [(2, [(5, .v (.int .i64) [])])] (.s (.s (.j [] [(0, [(22, .v .bool [])])] .z) .z) .z))) (.s .z (.s .z (.s (.j [5, 50] [(0, [(5, .v (.int .i64) [])])] (.s (.j [] [(0, [(50, .v .bool [])])] .z) .z)) .z))))))
def sp100 : Spec fam := ⟨[.v (.st 10) [], .v (.st 6) []], [.v (.st 10) [3]], fun a => aX a.1 a.2.1⟩
def cN (n : Int) : Option Bool :=
 bif decide (n ≥ 1) then
 some (decide (n ≤ 1073741824))
 else
 some false
def h173 : Hint := .z
def sp173 : Spec fam := ⟨[.v (.int .i64) []], [.v .bool []], fun a => cN a.1⟩
def cp (s : State) (t : List App × Bool × Int) : Option ((List App × Bool × Int) ⊕ List App) :=
 bif decide (t.2.2 < (s.Apps.length : Int)) then
 (
  (
  bif ! t.2.1 then
   (idx s.Apps t.2.2).bind fun x =>
   (a6 x).bind fun x1 =>
   some (! x1)
  else
   some false).bind fun q =>
  bif q then
  some (t.1, true)
  else
  (idx s.Apps t.2.2).bind fun x2 =>
  (app 200 t.1 [x2]).bind fun l =>
  some (l, t.2.1)).bind fun q1 =>
 some (.inl (q1.1, q1.2, w64 (t.2.2 + 1)))
 else
 some (.inr t.1)
def dA (s : State) : Option State :=
 (loop (cp s) ([], false, 0)).bind fun l1 =>
 some (⟨⟨s.Conf.Labels, s.Conf.Queues⟩, s.Nodes, l1, s.Conts, s.Slots, s.Plans, s.Now, s.Epoch, s.Seq⟩ : State)
def h174 : Hint := (.s .z (.s .z (.s .z (.s (.s .z (.b (.l [(3, .v (.slice (.st 6)) [0]), (4, .v .bool []), (5, .v (.int .i64) [])] [3, 4, 5, 23] [(2, [(3, .v (.slice (.st 6)) [0])])] (.s .z (.s (.j [3, 4, 23] [(0, [(3, .v (.slice (.st 6)) [0]), (4, .v .bool [])])] (.b (.s (.s (.j [] [(0, [(23, .v .bool [])])] .z) .z) .z))) .z))))) .z))))
def sp174 : Spec fam := ⟨[.v (.st 10) []], [.v (.st 10) [3]], fun a => dA a.1⟩
def iY (a : App) : Option (List Ask) :=
 some [(⟨0, 0, ⟨a.Master.Mem, a.Master.Cores⟩, 1, (-1), (-1), 0⟩ : Ask)]
def h175 : Hint := .z
def sp175 : Spec fam := ⟨[.v (.st 6) []], [.v (.slice (.st 5)) [0]], fun a => iY a.1⟩
def bo (s : State) (t : Int × Int) : Option ((Int × Int) ⊕ Int) :=
 bif decide (t.2 < (s.Apps.length : Int)) then
 (
  (idx s.Apps t.2).bind fun x3 =>
  (a6 x3).bind fun x4 =>
  bif x4 then
  some (w64 (t.1 + 1))
  else
  some t.1).bind fun live =>
 some (.inl (live, w64 (t.2 + 1)))
 else
 some (.inr t.1)
def bm (s : State) (a : App) : Option (State × Int) :=
 (
 bif decide (a.Id < 0) then
  some true
 else
  bif decide (a.Id > 9999) then
  some true
  else
  bif decide (a.User < 0) then
   some true
  else
   bif decide (a.User > 99) then
   some true
   else
   bif decide (a.Prio < 0) then
    some true
   else
    bif decide (a.Prio > 9) then
    some true
    else
    (cN a.Master.Mem).bind fun x =>
    bif ! x then
     some true
    else
     (cN a.Master.Cores).bind fun x1 =>
     some (! x1)).bind fun q =>
 bif q then
 some (s, 1)
 else
 (aG s a.Id).bind fun x2 =>
 bif x2.2 then
  some (s, 7)
 else
  (loop (bo s) (0, 0)).bind fun live1 =>
  bif decide (live1 ≥ 16) then
  some (s, 4)
  else
  (eK s.Conf a.Queue).bind fun x5 =>
  bif ! x5 then
   some (s, 19)
  else
   (
   bif decide ((s.Apps.length : Int) ≥ 16) then
    (dA s).bind fun x6 =>
    some x6
   else
    some s).bind fun s1 =>
   (iY a).bind fun x7 =>
   (aX s1 (⟨a.Id, 1, a.Queue, a.User, a.Prio, ⟨a.Master.Mem, a.Master.Cores⟩, x7, s1.Now, 0, [], [], [], []⟩ : App)).bind fun x8 =>
   some (x8, 0)
def h102 : Hint := (.s .z (.s (.s (.j [] [(0, [(51, .v .bool [])])] .z) .z) (.s .z (.s .z (.s .z (.s (.s .z (.b (.l [(8, .v (.int .i64) []), (9, .v (.int .i64) [])] [8, 9] [(2, [(8, .v (.int .i64) [])])] (.s .z (.s (.j [8] [(0, [(8, .v (.int .i64) [])])] .z) .z))))) (.s .z (.s .z (.s (.j [2] [(0, [(2, .box (.st 10) [])])] .z) .z)))))))))
def sp102 : Spec fam := ⟨[.v (.st 10) [], .v (.st 6) []], [.v (.st 10) [], .v (.int .i64) []], fun a => bm a.1 a.2.1⟩
def dW : Option Bool :=
 (eI).bind fun x =>
 (aI x (⟨1, 0, 0, ⟨4, 4⟩, 0, 0, false⟩ : Node)).bind fun x1 =>
 (bm x1.1 (⟨7, 0, ([114, 111, 111, 116] : List UInt8), 0, 0, ⟨2, 1⟩, [], 0, 0, [], [], [], []⟩ : App)).bind fun x2 =>
 (iJ x2.1 1).bind fun x3 =>
 (aG x3.1 7).bind fun x4 =>
 bif x3.2.1 == 1 then
 bif x3.2.2.Id == 1 then
  bif x3.2.2.Master then
  bif x3.2.2.App == 7 then
   bif x4.1.State == 2 then
   some ((x3.1.Conts.length : Int) == 1)
   else
   some false
  else
   some false
  else
  some false
 else
  some false
 else
 some false
def h40 : Hint := .z
noncomputable def sp40 : Spec fam := ⟨[], [.v .bool []], fun _ => dW⟩
def dj (a : Vec) (b : Vec) : Option Vec :=
 some (⟨imax (w64 (a.Mem - b.Mem)) 0, imax (w64 (a.Cores - b.Cores)) 0⟩ : Vec)
def h107 : Hint := .z
def sp107 : Spec fam := ⟨[.v (.st 0) [], .v (.st 0) []], [.v (.st 0) []], fun a => dj a.1 a.2.1⟩
def dC (s : State) (id_ : Int) (t : Vec × Int) : Option ((Vec × Int) ⊕ Vec) :=
 bif decide (t.2 < (s.Conts.length : Int)) then
 (
  (idx s.Conts t.2).bind fun x =>
  bif x.Node == id_ then
  (idx s.Conts t.2).bind fun x1 =>
  (az t.1 x1.Size).bind fun x2 =>
  some x2
  else
  some t.1).bind fun v =>
 some (.inl (v, w64 (t.2 + 1)))
 else
 some (.inr t.1)
def eP (s : State) (id_ : Int) : Option Vec :=
 (loop (dC s id_) ((⟨0, 0⟩ : Vec), 0)).bind fun v1 =>
 some v1
def h108 : Hint := (.s .z (.s .z (.s (.s .z (.b (.l [(5, .box (.st 0) []), (6, .v (.int .i64) [])] [5, 6] [(2, [(5, .box (.st 0) [])])] (.s .z (.s (.j [5] [(0, [(5, .box (.st 0) [])])] .z) .z))))) .z)))
def sp108 : Spec fam := ⟨[.v (.st 10) [], .v (.int .i64) []], [.v (.st 0) []], fun a => eP a.1 a.2.1⟩
def br (s : State) (id_ : Int) : Option Vec :=
 (ce s id_).bind fun x =>
 (
 bif ! x.2 then
  some true
 else
  some (! x.1.Up)).bind fun q =>
 bif q then
 some (⟨0, 0⟩ : Vec)
 else
 (eP s id_).bind fun x1 =>
 (dj x.1.Cap x1).bind fun x2 =>
 some x2
def h43 : Hint := (.s .z (.s .z (.s (.s (.j [] [(0, [(19, .v .bool [])])] .z) .z) .z)))
def sp43 : Spec fam := ⟨[.v (.st 10) [], .v (.int .i64) []], [.v (.st 0) []], fun a => br a.1 a.2.1⟩
def bS (at_ : Int) (n : Int) : Option Int :=
 (nz n).bind fun _ =>
 (
 bif decide ((Int.tmod at_ n) < 0) then
  let k := w64 ((Int.tmod at_ n) + n)
  some k
 else
  some (Int.tmod at_ n)).bind fun k1 =>
 some k1
def h49 : Hint := (.s .z (.s .z (.s (.j [5] [(0, [(5, .v (.int .i64) [])])] .z) .z)))
def sp49 : Spec fam := ⟨[.v (.int .i64) [], .v (.int .i64) []], [.v (.int .i64) []], fun a => bS a.1 a.2.1⟩
def b7 (used : Arr2_Int) (t1 : State × Int) (t2 : State × Int) : Option ((State × Int) ⊕ State) :=
 (inb t1.2 2).bind fun i3 =>
 ([used.a0, used.a1][i3]?).bind fun x5 =>
 bif decide (t2.2 < x5) then
 (app 72 t2.1.Conts [(⟨w64 (t2.1.Seq + 1), t1.2, 1, ⟨1, 1⟩, 0, 0, t2.2 == 0, 0⟩ : Cont)]).bind fun l2 =>
 some (.inl ((⟨⟨t2.1.Conf.Labels, t2.1.Conf.Queues⟩, t2.1.Nodes, t2.1.Apps, l2, t2.1.Slots, t2.1.Plans, t2.1.Now, t2.1.Epoch, w64 (t2.1.Seq + 1)⟩ : State), w64 (t2.2 + 1)))
 else
 some (.inr t2.1)
def dn (used : Arr2_Int) (t1 : State × Int) : Option ((State × Int) ⊕ State) :=
 bif decide (t1.2 < 2) then
 (loop (b7 used t1) (t1.1, 0)).bind fun s1 =>
 some (.inl (s1, w64 (t1.2 + 1)))
 else
 some (.inr t1.1)
def bW (want : Arr2_Int) (t : State × Int) : Option ((State × Int) ⊕ State) :=
 bif decide (t.2 < 2) then
 (inb t.2 [([114, 111, 111, 116, 46, 97] : List UInt8), ([114, 111, 111, 116, 46, 98] : List UInt8)].length).bind fun i =>
 ([([114, 111, 111, 116, 46, 97] : List UInt8), ([114, 111, 111, 116, 46, 98] : List UInt8)][i]?).bind fun x2 =>
 (
  (inb t.2 2).bind fun i1 =>
  ([want.a0, want.a1][i1]?).bind fun x3 =>
  bif decide (x3 > 0) then
  (inb t.2 2).bind fun i2 =>
  ([want.a0, want.a1][i2]?).bind fun x4 =>
  some (⟨t.2, 2, x2, 0, 0, ⟨1, 1⟩, [(⟨1, 0, ⟨1, 1⟩, x4, (-1), (-1), 0⟩ : Ask)], 0, 0, [], [], [], []⟩ : App)
  else
  some (⟨t.2, 2, x2, 0, 0, ⟨1, 1⟩, [], 0, 0, [], [], [], []⟩ : App)).bind fun a =>
 (app 200 t.1.Apps [a]).bind fun l1 =>
 some (.inl ((⟨⟨t.1.Conf.Labels, t.1.Conf.Queues⟩, t.1.Nodes, l1, t.1.Conts, t.1.Slots, t.1.Plans, t.1.Now, t.1.Epoch, t.1.Seq⟩ : State), w64 (t.2 + 1)))
 else
 some (.inr t.1)
def eN (units : Int) (want : Arr2_Int) (used : Arr2_Int) : Option State :=
 (eI).bind fun x =>
 (app 48 x.Conf.Queues [(⟨([114, 111, 111, 116, 46, 97] : List UInt8), [(⟨5000, 10000⟩ : Cap)], 1000000⟩ : Queue), (⟨([114, 111, 111, 116, 46, 98] : List UInt8), [(⟨5000, 10000⟩ : Cap)], 1000000⟩ : Queue)]).bind fun l =>
 (aI (⟨⟨x.Conf.Labels, l⟩, x.Nodes, x.Apps, x.Conts, x.Slots, x.Plans, x.Now, x.Epoch, x.Seq⟩ : State) (⟨1, 0, 0, ⟨units, units⟩, 0, 0, false⟩ : Node)).bind fun x1 =>
 (loop (bW want) (x1.1, 0)).bind fun s =>
 (loop (dn used) (s, 0)).bind fun s2 =>
 some s2
def h50 : Hint := (.s .z (.s .z (.s .z (.s .z (.s .z (.s (.s .z (.b (.l [(7, .box (.st 10) [0, 1, 2, 3, 4, 5, 6]), (9, .v (.int .i64) [])] [7, 9, 10] [(2, [(7, .box (.st 10) [0, 1, 2, 3, 4, 5, 6])])] (.s .z (.s (.b (.s .z (.s (.j [10] [(0, [(10, .box (.st 6) [7, 10, 11, 12, 13])])] .z) .z))) .z))))) (.s (.s .z (.b (.l [(7, .box (.st 10) [0, 1, 2, 3, 4, 5, 6]), (11, .v (.int .i64) [])] [7, 11, 12] [(4, [(7, .box (.st 10) [0, 1, 2, 3, 4, 5, 6])])] (.s .z (.s (.b (.s .z (.b (.l [(7, .box (.st 10) [0, 1, 2, 3, 4, 5, 6]), (12, .v (.int .i64) [])] [7, 12] [(6, [(7, .box (.st 10) [0, 1, 2, 3, 4, 5, 6])])] .z)))) .z))))) .z)))))))
def sp50 : Spec fam := ⟨[.v (.int .i64) [], .v (.st 21) [], .v (.st 21) []], [.v (.st 10) [0, 1, 2, 3, 4, 5, 6]], fun a => eN a.1 a.2.1 a.2.2.1⟩
def cx (l : List Ask) (label : Int) (t : Vec × Int) : Option ((Vec × Int) ⊕ Vec) :=
 bif decide (t.2 < (l.length : Int)) then
 (
  (idx l t.2).bind fun x =>
  bif x.Label == label then
  (idx l t.2).bind fun x1 =>
  (idx l t.2).bind fun x2 =>
  (idx l t.2).bind fun x3 =>
  (idx l t.2).bind fun x4 =>
  (az t.1 (⟨w64 (x1.Size.Mem * x2.Count), w64 (x3.Size.Cores * x4.Count)⟩ : Vec)).bind fun x5 =>
  some x5
  else
  some t.1).bind fun v =>
 some (.inl (v, w64 (t.2 + 1)))
 else
 some (.inr t.1)
def dD (l : List Ask) (label : Int) : Option Vec :=
 (loop (cx l label) ((⟨0, 0⟩ : Vec), 0)).bind fun v1 =>
 some v1
def h115 : Hint := (.s .z (.s .z (.s (.s .z (.b (.l [(5, .box (.st 0) []), (6, .v (.int .i64) [])] [5, 6] [(2, [(5, .box (.st 0) [])])] (.s .z (.s (.j [5] [(0, [(5, .box (.st 0) [])])] .z) .z))))) .z)))
def sp115 : Spec fam := ⟨[.v (.slice (.st 5)) [], .v (.int .i64) []], [.v (.st 0) []], fun a => dD a.1 a.2.1⟩
def bU (s : State) (path : List UInt8) (label : Int) (t : Vec × Int) : Option ((Vec × Int) ⊕ Vec) :=
 bif decide (t.2 < (s.Apps.length : Int)) then
 (
  (
  (idx s.Apps t.2).bind fun x =>
  (a6 x).bind fun x1 =>
  bif x1 then
   (idx s.Apps t.2).bind fun x2 =>
   (cA x2.Queue path).bind fun x3 =>
   some x3
  else
   some false).bind fun q =>
  bif q then
  (idx s.Apps t.2).bind fun x4 =>
  (dD x4.Asks label).bind fun x5 =>
  (az t.1 x5).bind fun x6 =>
  some x6
  else
  some t.1).bind fun v =>
 some (.inl (v, w64 (t.2 + 1)))
 else
 some (.inr t.1)
def aL (s : State) (path : List UInt8) (label : Int) : Option Vec :=
 (loop (bU s path label) ((⟨0, 0⟩ : Vec), 0)).bind fun v1 =>
 some v1
def h51 : Hint := (.s .z (.s .z (.s (.s .z (.b (.l [(7, .box (.st 0) []), (8, .v (.int .i64) [])] [7, 8, 32] [(2, [(7, .box (.st 0) [])])] (.s .z (.s (.j [7, 32] [(0, [(7, .box (.st 0) [])])] (.b (.s (.j [] [(0, [(32, .v .bool [])])] .z) .z))) .z))))) .z)))
def sp51 : Spec fam := ⟨[.v (.st 10) [], .v .str [], .v (.int .i64) []], [.v (.st 0) []], fun a => aL a.1 a.2.1 a.2.2.1⟩
def bk (t : State × Int) : Option ((State × Int) ⊕ (Bool ⊕ Unit)) :=
 bif decide (t.2 < 30) then
 (iJ t.1 1).bind fun x5 =>
 bif x5.2.1 != 1 then
  (br t.1 1).bind fun x6 =>
  bif x6.Mem == 0 then
  some (.inr (.inl true))
  else
  (aL t.1 ([114, 111, 111, 116] : List UInt8) 0).bind fun x7 =>
  some (.inr (.inl (x7.Mem == 0)))
 else
  (aK x5.1 ([114, 111, 111, 116, 46, 97] : List UInt8) 0).bind fun x8 =>
  (aK x5.1 ([114, 111, 111, 116, 46, 98] : List UInt8) 0).bind fun x9 =>
  (
  (aL x5.1 ([114, 111, 111, 116, 46, 97] : List UInt8) 0).bind fun x10 =>
  bif decide (x10.Mem > 0) then
   (aL x5.1 ([114, 111, 111, 116, 46, 98] : List UInt8) 0).bind fun x11 =>
   bif decide (x11.Mem > 0) then
   bif decide ((w64 (x8.Mem - x9.Mem)) > 1) then
    some true
   else
    some (decide ((w64 (x9.Mem - x8.Mem)) > 1))
   else
   some false
  else
   some false).bind fun q =>
  bif q then
  some (.inr (.inl false))
  else
  some (.inl (x5.1, w64 (t.2 + 1)))
 else
 some (.inr (.inr ()))
def bR (units : Int) (a : Int) (b : Int) : Option Bool :=
 (dW).bind fun x =>
 bif ! x then
 some false
 else
 (bS units 20).bind fun x1 =>
 (bS a 20).bind fun x2 =>
 (bS b 20).bind fun x3 =>
 (eN (w64 (4 + x1)) (⟨w64 (1 + x2), w64 (1 + x3)⟩ : Arr2_Int) (⟨1, 1⟩ : Arr2_Int)).bind fun x4 =>
 (loop bk (x4, 0)).bind fun q0 =>
 match q0 with
 | .inl q1 =>
  some q1
 | .inr _ =>
  some true
def h11 : Hint := (.s .z (.s .z (.s .z (.s .z (.s (.s .z (.b (.l [(7, .box (.st 10) [0, 1, 2, 3, 4, 5, 6]), (8, .v (.int .i64) [])] [6, 7, 8, 9, 10, 11, 12, 79] [(1, [(6, .v .bool [])]), (2, [])] (.s .z (.s (.b (.s .z (.s .z (.s .z (.s .z (.s (.j [] [(0, [(79, .v .bool [])])] .z) .z)))))) .z))))) .z)))))
def sp11 : Spec fam := ⟨[.v (.int .i64) [], .v (.int .i64) [], .v (.int .i64) []], [.v .bool []], fun a => bR a.1 a.2.1 a.2.2.1⟩
end
end Go.Fx.D
