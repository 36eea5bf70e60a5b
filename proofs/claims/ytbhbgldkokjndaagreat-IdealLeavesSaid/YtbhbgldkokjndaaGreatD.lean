/-
  The functions of the program that this law reaches, as functions over plain data (printed by a program). Conditions: none.
-/
import Derived.Test.YtbhbgldkokjndaaGreatA
namespace Go.Fx.D
open Go Go.Fx Go.Proofs
set_option linter.unusedVariables false
noncomputable section
def ja (l : List Int) (t : Int × Int) : Option ((Int × Int) ⊕ Int) :=
 bif decide (t.2 < (l.length : Int)) then
 (idx l t.2).bind fun x =>
 some (.inl (imin t.1 x,w64 (t.2 + 1)))
 else
 some (.inr t.1)
def fO (first : Int) (l : List Int) : Option Int :=
 (loop (ja l) (first,0)).bind fun first1 =>
 some first1
def h39 : Hint:=(.s .z (.s (.s .z (.b (.l [(0,.v (.int .i64) []),(9,.v (.int .i64) [])] [0,6,9] [(2,[(0,.v (.int .i64) [])])] .z))) .z))
def sp39 : Spec fam:=⟨[.v (.int .i64) [],.v (.slice (.int .i64)) []],[.v (.int .i64) []],fun a => fO a.1 a.2.1⟩
def gw (n : Int) : Option Int :=
 (
 bif decide (n < 0) then
  some true
 else
  some (decide (n > 1125899906842624))).bind fun q =>
 bif q then
 some 0
 else
 some n
def h40 : Hint:=(.s .z (.s (.s (.j [] [(0,[(8,.v .bool [])])] .z) .z) .z))
def sp40 : Spec fam:=⟨[.v (.int .i64) []],[.v (.int .i64) []],fun a => gw a.1⟩
def jp (want : List Int) (most : List Int) (n : Int) (t1 : List Int × Int × Int) : Option ((List Int × Int × Int) ⊕ List Int) :=
 bif decide (t1.2.2 < n) then
 (idx want t1.2.2).bind fun x9 =>
 (gw x9).bind fun x10 =>
 (idx most t1.2.2).bind fun x11 =>
 (gw x11).bind fun x12 =>
 (fO x10 [x12]).bind fun x13 =>
 (inb t1.2.2 t1.1.length).bind fun i2 =>
 (t1.1[i2]?).bind fun x14 =>
 (fO (imax (w64 (x13 - x14)) 0) [t1.2.1]).bind fun more =>
 (inb t1.2.2 t1.1.length).bind fun i3 =>
 (t1.1[i3]?).bind fun x15 =>
 (inb t1.2.2 t1.1.length).bind fun i4 =>
 (t1.1[i4]?).bind fun x16 =>
 some (.inl (List.set t1.1 i4 (w64 (x15 + more)),w64 (t1.2.1 - more),w64 (t1.2.2 + 1)))
 else
 some (.inr t1.1)
def jr (least : List Int) (want : List Int) (most : List Int) (n : Int) (t : List Int × Int × Int) : Option ((List Int × Int × Int) ⊕ ((List Int × Int))) :=
 bif decide (t.2.2 < n) then
 (idx least t.2.2).bind fun x =>
 (gw x).bind fun x1 =>
 (idx want t.2.2).bind fun x2 =>
 (gw x2).bind fun x3 =>
 (idx most t.2.2).bind fun x4 =>
 (gw x4).bind fun x5 =>
 (fO x1 [x3,x5,t.2.1]).bind fun x6 =>
 (inb t.2.2 t.1.length).bind fun i =>
 (t.1[i]?).bind fun x7 =>
 (inb t.2.2 (List.set t.1 i x6).length).bind fun i1 =>
 ((List.set t.1 i x6)[i1]?).bind fun x8 =>
 some (.inl (List.set t.1 i x6,w64 (t.2.1 - x8),w64 (t.2.2 + 1)))
 else
 some (.inr (t.1,t.2.1))
def iO (total : Int) (least : List Int) (want : List Int) (most : List Int) : Option (List Int) :=
 (fO (least.length : Int) [(want.length : Int),(most.length : Int)]).bind fun n =>
 (mkl 8 n n 0).bind fun l =>
 (gw total).bind fun left =>
 (loop (jr least want most n) (l,left,0)).bind fun q =>
 (loop (jp want most n) (q.1,q.2,0)).bind fun out =>
 some out
def h18 : Hint:=(.s .z (.s .z (.s .z (.s .z (.s (.s .z (.b (.l [(10,.row (.int .i64) false),(11,.v (.int .i64) []),(28,.v (.int .i64) [])] [10,11,12,28,29,30,31,32,33,34,35,36,37,38,39,40,41,42,43,44,45,46,47,48,49,50,51,52,53,54,55,56,57,58] [(2,[(10,.row (.int .i64) false),(11,.v (.int .i64) [])])] .z))) (.s (.s .z (.b (.l [(10,.row (.int .i64) false),(11,.v (.int .i64) []),(60,.v (.int .i64) [])] [10,11,13,14,60] [(4,[(10,.row (.int .i64) false)])] .z))) .z))))))
def sp18 : Spec fam:=⟨[.v (.int .i64) [],.v (.slice (.int .i64)) [],.v (.slice (.int .i64)) [],.v (.slice (.int .i64)) []],[.v (.slice (.int .i64)) [0]],fun a => iO a.1 a.2.1 a.2.2.1 a.2.2.2.1⟩
def fY : Option Bool :=
 (iO 10 [5,5] [9,3] [10,10]).bind fun l =>
 bif (l.length : Int) == 2 then
 (inb 0 l.length).bind fun i =>
 (l[i]?).bind fun x =>
 bif x == 7 then
  (inb 1 l.length).bind fun i1 =>
  (l[i1]?).bind fun x1 =>
  some (x1 == 3)
 else
  some false
 else
 some false
def h5 : Hint:=.z
noncomputable def sp5 : Spec fam:=⟨[],[.v .bool []],fun _ => fY⟩
def bE (x : Script) : Option Bool :=
 bif decide ((x.Ns.length : Int) ≤ 30) then
 some (decide ((x.Acts.length : Int) ≤ 80))
 else
 some false
def h6 : Hint:=.z
def sp6 : Spec fam:=⟨[.v (.st 12) []],[.v .bool []],fun a => bE a.1⟩
def jx : Option State :=
 some (⟨⟨[([] : List UInt8)],[(⟨([114,111,111,116] : List UInt8),[(⟨10000,10000⟩ : Cap)],10000⟩ : Queue)]⟩,[],[],[],[],[],0,0,0⟩ : State)
def h19 : Hint:=.z
noncomputable def sp19 : Spec fam:=⟨[],[.v (.st 10) [0,1,2,3,4,5,6]],fun _ => jx⟩
def aM (a : App) : Option Bool :=
 bif a.State == 1 then
 some true
 else
 some (a.State == 2)
def h28 : Hint:=.z
def sp28 : Spec fam:=⟨[.v (.st 6) []],[.v .bool []],fun a => aM a.1⟩
def aB (s : State) (e : Int) : Option (State × Output) :=
 some (s,(⟨e,[],[],[],0⟩ : Output))
def h50 : Hint:=.z
def sp50 : Spec fam:=⟨[.v (.st 10) [],.v (.int .i64) []],[.v (.st 10) [],.v (.st 13) [1,2,3]],fun a => aB a.1 a.2.1⟩
def iX (s : List UInt8) (c : Int) (t : List (List UInt8) × Int × Int) : Option ((List (List UInt8) × Int × Int) ⊕ ((List (List UInt8) × Int))) :=
 bif decide (t.2.2 < (s.length : Int)) then
 (
  (idx s t.2.2).bind fun ch =>
  bif (ch.toNat : Int) == c then
  (slc s t.2.1 t.2.2).bind fun s1 =>
  (app 16 t.1 [s1]).bind fun l =>
  some (l,w64 (t.2.2 + 1))
  else
  some (t.1,t.2.1)).bind fun q =>
 some (.inl (q.1,q.2,w64 (t.2.2 + 1)))
 else
 some (.inr (t.1,t.2.1))
def fQ (s : List UInt8) (c : Int) : Option (List (List UInt8)) :=
 (loop (iX s c) ([],0,0)).bind fun q1 =>
 (
 bif decide (q1.2 < (s.length : Int)) then
  (slc s q1.2 (s.length : Int)).bind fun s2 =>
  (app 16 q1.1 [s2]).bind fun l1 =>
  some l1
 else
  some q1.1).bind fun l2 =>
 some l2
def h144 : Hint:=(.s .z (.s .z (.s .z (.s (.s .z (.b (.l [(5,.v (.slice (.str)) [0]),(6,.v (.int .i64) []),(7,.v (.int .i64) [])] [5,6,7] [(2,[(5,.v (.slice (.str)) [0]),(6,.v (.int .i64) [])])] (.s .z (.s (.j [5,6] [(0,[(5,.v (.slice (.str)) [0]),(6,.v (.int .i64) [])])] .z) .z))))) (.s (.j [5] [(0,[(5,.v (.slice (.str)) [0])])] .z) .z)))))
def sp144 : Spec fam:=⟨[.v .str [],.v (.int .u8) []],[.v (.slice (.str)) [0]],fun a => fQ a.1 a.2.1⟩
def eD (l : List (List UInt8)) (t : List (List UInt8) × Int) : Option ((List (List UInt8) × Int) ⊕ List (List UInt8)) :=
 bif decide (t.2 < (l.length : Int)) then
 (
  (inb t.2 l.length).bind fun i =>
  (l[i]?).bind fun x =>
  bif ! (x == ([] : List UInt8)) then
  (inb t.2 l.length).bind fun i1 =>
  (l[i1]?).bind fun x1 =>
  (app 16 t.1 [x1]).bind fun l1 =>
  some l1
  else
  some t.1).bind fun out =>
 some (.inl (out,w64 (t.2 + 1)))
 else
 some (.inr t.1)
def gB (s : List UInt8) : Option (List (List UInt8)) :=
 (fQ s 32).bind fun l =>
 (loop (eD l) ([],0)).bind fun out1 =>
 some out1
def h145 : Hint:=(.s .z (.s .z (.s .z (.s (.s .z (.b (.l [(3,.v (.slice (.str)) [0]),(5,.v (.int .i64) [])] [3,5] [(2,[(3,.v (.slice (.str)) [0])])] (.s .z (.s (.j [3] [(0,[(3,.v (.slice (.str)) [0])])] .z) .z))))) .z))))
def sp145 : Spec fam:=⟨[.v .str []],[.v (.slice (.str)) [0]],fun a => gB a.1⟩
def gT (s : List UInt8) (t : Int × Int) : Option ((Int × Int) ⊕ ((Int × Bool) ⊕ Int)) :=
 bif decide (t.2 < (s.length : Int)) then
 (
  (idx s t.2).bind fun ch1 =>
  bif decide ((ch1.toNat : Int) < 48) then
  some true
  else
  (idx s t.2).bind fun ch2 =>
  some (decide ((ch2.toNat : Int) > 57))).bind fun q1 =>
 bif q1 then
  some (.inr (.inl (0,false)))
 else
  (idx s t.2).bind fun ch3 =>
  let n:=w64 ((w64 (t.1 * 10)) + (w64 (IntKind.u8.wrap ((ch3.toNat : Int) - 48))))
  some (.inl (n,w64 (t.2 + 1)))
 else
 some (.inr (.inr (t.1)))
def bK (s : List UInt8) : Option (Int × Bool) :=
 (
 bif decide ((s.length : Int) < 1) then
  some true
 else
  bif decide ((s.length : Int) > 7) then
  some true
  else
  (idx s 0).bind fun ch =>
  bif (ch.toNat : Int) == 48 then
   some (decide ((s.length : Int) > 1))
  else
   some false).bind fun q =>
 bif q then
 some (0,false)
 else
 (loop (gT s) (0,0)).bind fun q0 =>
 match q0 with
 | .inl q2 =>
  some (q2.1,q2.2)
 | .inr n1 =>
  some (n1,true)
def h196 : Hint:=(.s .z (.s (.s (.j [] [(0,[(23,.v .bool [])])] .z) .z) (.s .z (.s (.s .z (.b (.l [(4,.v (.int .i64) []),(5,.v (.int .i64) [])] [2,3,4,5,39] [(1,[(2,.v (.int .i64) []),(3,.v .bool [])]),(2,[(4,.v (.int .i64) [])])] (.s .z (.s (.b (.s (.s (.j [] [(0,[(39,.v .bool [])])] .z) .z) .z)) .z))))) .z))))
def sp196 : Spec fam:=⟨[.v .str []],[.v (.int .i64) [],.v .bool []],fun a => bK a.1⟩
def j3 (s : List UInt8) (k : Int) : Option (Int ⊕ Int) :=
 (
 bif decide (k < (s.length : Int)) then
  (idx s k).bind fun ch =>
  some ((ch.toNat : Int) != 47)
 else
  some false).bind fun q =>
 bif q then
 some (.inl (w64 (k + 1)))
 else
 some (.inr k)
def go (s : List UInt8) : Option (Cap × Bool) :=
 (loop (j3 s) 0).bind fun k1 =>
 bif k1 == (s.length : Int) then
 some ((⟨0,0⟩ : Cap),false)
 else
 (slc s 0 k1).bind fun s1 =>
 (bK s1).bind fun x =>
 (slc s (w64 (k1 + 1)) (s.length : Int)).bind fun s2 =>
 (bK s2).bind fun x1 =>
 bif x.2 then
  some ((⟨x.1,x1.1⟩ : Cap),x1.2)
 else
  some ((⟨x.1,x1.1⟩ : Cap),false)
def h197 : Hint:=(.s .z (.s .z (.s (.b (.l [(4,.v (.int .i64) [])] [4,18] [(2,[(4,.v (.int .i64) [])])] (.s (.s (.j [] [(0,[(18,.v .bool [])])] .z) .z) .z))) .z)))
def sp197 : Spec fam:=⟨[.v .str []],[.v (.st 1) [],.v .bool []],fun a => go a.1⟩
def jV (w : List (List UInt8)) (t : Bool × Queue × Int) : Option ((Bool × Queue × Int) ⊕ ((Bool × Queue))) :=
 (
 bif decide (t.2.2 < (w.length : Int)) then
  some t.1
 else
  some false).bind fun q1 =>
 bif q1 then
 (idx w t.2.2).bind fun x4 =>
 (go x4).bind fun x5 =>
 (app 16 t.2.1.Caps [x5.1]).bind fun l =>
 some (.inl (x5.2,(⟨t.2.1.Path,l,t.2.1.User⟩ : Queue),w64 (t.2.2 + 1)))
 else
 some (.inr (t.1,t.2.1))
def gq (w : List (List UInt8)) (labels : Int) : Option (Queue × Bool) :=
 (
 bif (w.length : Int) != (w64 (3 + labels)) then
  some true
 else
  (idx w 0).bind fun x =>
  some (! (x == ([113,117,101,117,101] : List UInt8)))).bind fun q =>
 bif q then
 some ((⟨[],[],0⟩ : Queue),false)
 else
 (idx w 2).bind fun x1 =>
 (bK x1).bind fun x2 =>
 (idx w 1).bind fun x3 =>
 (loop (jV w) (x2.2,(⟨x3,[],x2.1⟩ : Queue),3)).bind fun q2 =>
 some (q2.2,q2.1)
def h146 : Hint:=(.s .z (.s (.s (.j [] [(0,[(21,.v .bool [])])] .z) .z) (.s .z (.s .z (.s (.s .z (.b (.l [(7,.v .bool []),(8,.box (.st 2) [1]),(9,.v (.int .i64) [])] [7,8,9,10,41] [(2,[(7,.v .bool []),(8,.box (.st 2) [1])])] (.s (.s (.j [] [(0,[(41,.v .bool [])])] .z) .z) .z)))) .z)))))
def sp146 : Spec fam:=⟨[.v (.slice (.str)) [],.v (.int .i64) []],[.v (.st 2) [1],.v .bool []],fun a => gq a.1 a.2.1⟩
def jT (t : Conf × Conf × Bool × Int) (x3 : Queue × Bool) (k : Int) : Option (Int ⊕ Int) :=
 (
 bif decide (k < (t.2.1.Queues.length : Int)) then
  (inb k t.2.1.Queues.length).bind fun i3 =>
  (t.2.1.Queues[i3]?).bind fun x4 =>
  some (Op.bytesLess x4.Path x3.1.Path)
 else
  some false).bind fun q1 =>
 bif q1 then
 some (.inl (w64 (k + 1)))
 else
 some (.inr k)
def eC (l : List (List UInt8)) (t : Conf × Conf × Bool × Int) : Option ((Conf × Conf × Bool × Int) ⊕ ((Conf × Int) ⊕ (Conf × Conf × Bool))) :=
 bif decide (t.2.2.2 < (l.length : Int)) then
 (
  (inb t.2.2.2 l.length).bind fun i =>
  (l[i]?).bind fun x =>
  (gB x).bind fun w =>
  bif (w.length : Int) == 0 then
  some (.inl (t.1,t.2.1,t.2.2.1))
  else
  bif (t.2.1.Labels.length : Int) == 0 then
   (inb 0 w.length).bind fun i1 =>
   (w[i1]?).bind fun x1 =>
   bif ! (x1 == ([108,97,98,101,108,115] : List UInt8)) then
   some (.inr ((⟨[],[]⟩ : Conf),6))
   else
   bif decide ((w.length : Int) > 3) then
    some (.inr ((⟨[],[]⟩ : Conf),4))
   else
    (inS 1 (w.length : Int) w.length).bind fun p =>
    (app 16 [([] : List UInt8)] (sub w p.1 p.2)).bind fun l1 =>
    some (.inl (t.1,(⟨l1,t.2.1.Queues⟩ : Conf),t.2.2.1))
  else
   (
   bif (t.2.1.Queues.length : Int) == 16 then
    (inb 0 w.length).bind fun i2 =>
    (w[i2]?).bind fun x2 =>
    some (x2 == ([113,117,101,117,101] : List UInt8))
   else
    some false).bind fun q =>
   bif q then
   some (.inr ((⟨[],[]⟩ : Conf),4))
   else
   (gq w (t.2.1.Labels.length : Int)).bind fun x3 =>
   bif ! x3.2 then
    some (.inr ((⟨[],[]⟩ : Conf),6))
   else
    (loop (jT t x3) 0).bind fun k1 =>
    (
    bif t.2.2.1 then
     some true
    else
     bif decide (k1 < (t.2.1.Queues.length : Int)) then
     (inb k1 t.2.1.Queues.length).bind fun i4 =>
     (t.2.1.Queues[i4]?).bind fun x5 =>
     let twice:=x5.Path == x3.1.Path
     some twice
     else
     some false).bind fun twice1 =>
    (inS 0 k1 t.2.1.Queues.length).bind fun p1 =>
    (app 48 [] (sub t.2.1.Queues p1.1 p1.2)).bind fun l2 =>
    (app 48 l2 [x3.1]).bind fun l3 =>
    (inS k1 (t.2.1.Queues.length : Int) t.2.1.Queues.length).bind fun p2 =>
    (app 48 l3 (sub t.2.1.Queues p2.1 p2.2)).bind fun l4 =>
    some (.inl (t.1,(⟨t.2.1.Labels,l4⟩ : Conf),twice1)) : Option ((Conf × Conf × Bool) ⊕ (Conf × Int))).bind fun q0 =>
 match q0 with
 | .inl q2 =>
  some (.inl (q2.1,q2.2.1,q2.2.2,w64 (t.2.2.2 + 1)))
 | .inr q3 =>
  some (.inr (.inl (q3.1,q3.2)))
 else
 some (.inr (.inr (t.1,t.2.1,t.2.2.1)))
def gL (s : List UInt8) : Option (Conf × Int) :=
 bif decide ((s.length : Int) > 2000) then
 some ((⟨[],[]⟩ : Conf),5)
 else
 (fQ s 10).bind fun l =>
 (loop (eC l) ((⟨[],[]⟩ : Conf),(⟨[],[]⟩ : Conf),false,0)).bind fun q0 =>
 match q0 with
 | .inl q4 =>
  some (q4.1,q4.2)
 | .inr q5 =>
  bif (q5.2.1.Labels.length : Int) == 0 then
  some ((⟨[],[]⟩ : Conf),6)
  else
  bif q5.2.2 then
   some ((⟨[],[]⟩ : Conf),7)
  else
   some (q5.2.1,0)
def h85 : Hint:=(.s .z (.s .z (.s .z (.s .z (.s .z (.s (.s .z (.b (.l [(2,.box (.st 3) [0,1]),(4,.box (.st 3) [0,1]),(5,.v .bool []),(7,.v (.int .i64) [])] [2,3,4,5,7,8,9,10,11,61,89] [(1,[(2,.box (.st 3) [0,1]),(3,.v (.int .i64) [])]),(2,[(2,.box (.st 3) [0,1]),(4,.box (.st 3) [0,1]),(5,.v .bool [])])] (.s .z (.s (.j [2,3,4,5,8,9,10,11,61,89] [(0,[(2,.box (.st 3) [0,1]),(4,.box (.st 3) [0,1]),(5,.v .bool [])]),(1,[(2,.box (.st 3) [0,1]),(3,.v (.int .i64) [])])] (.b (.s .z (.s .z (.s .z (.s (.s (.j [] [(0,[(61,.v .bool [])])] .z) .z) (.s .z (.s .z (.s .z (.s (.b (.l [(11,.v (.int .i64) [])] [11,89] [(4,[(11,.v (.int .i64) [])])] (.s (.s (.j [] [(0,[(89,.v .bool [])])] .z) .z) .z))) (.s (.j [5] [(0,[(5,.v .bool [])])] .z) .z))))))))))) .z))))) .z))))))
def sp85 : Spec fam:=⟨[.v .str []],[.v (.st 3) [0,1],.v (.int .i64) []],fun a => gL a.1⟩
def iu (s : List UInt8) (i : Int) : Option (Int ⊕ (Bool ⊕ Unit)) :=
 bif decide (i < (s.length : Int)) then
 (idx s i).bind fun ch =>
 (
  bif decide ((ch.toNat : Int) < 97) then
  bif decide ((ch.toNat : Int) < 48) then
   some ((ch.toNat : Int) != 45)
  else
   bif decide ((ch.toNat : Int) > 57) then
   some ((ch.toNat : Int) != 45)
   else
   some false
  else
  bif decide ((ch.toNat : Int) > 122) then
   bif decide ((ch.toNat : Int) < 48) then
   some ((ch.toNat : Int) != 45)
   else
   bif decide ((ch.toNat : Int) > 57) then
    some ((ch.toNat : Int) != 45)
   else
    some false
  else
   some false).bind fun q1 =>
 bif q1 then
  some (.inr (.inl false))
 else
  some (.inl (w64 (i + 1)))
 else
 some (.inr (.inr ()))
def eV (s : List UInt8) : Option Bool :=
 (
 bif decide ((s.length : Int) < 1) then
  some true
 else
  some (decide ((s.length : Int) > 12))).bind fun q =>
 bif q then
 some false
 else
 (loop (iu s) 0).bind fun q0 =>
 match q0 with
 | .inl q2 =>
  some q2
 | .inr _ =>
  some true
def h198 : Hint:=(.s .z (.s (.s (.j [] [(0,[(12,.v .bool [])])] .z) .z) (.s (.s .z (.b (.l [(3,.v (.int .i64) [])] [2,3,39] [(1,[(2,.v .bool [])]),(2,[])] (.s .z (.s (.b (.s .z (.s (.j [] [(0,[(39,.v .bool [])])] .z) .z))) .z))))) .z)))
def sp198 : Spec fam:=⟨[.v .str []],[.v .bool []],fun a => eV a.1⟩
def jI (c : Conf) (i1 : Int) (k : Int) : Option (Int ⊕ (Int ⊕ Unit)) :=
 bif decide (k < i1) then
 (idx c.Labels i1).bind fun x3 =>
 (idx c.Labels k).bind fun x4 =>
 bif x3 == x4 then
  some (.inr (.inl 7))
 else
  some (.inl (w64 (k + 1)))
 else
 some (.inr (.inr ()))
def jJ (c : Conf) (i1 : Int) : Option (Int ⊕ (Int ⊕ Unit)) :=
 bif decide (i1 < (c.Labels.length : Int)) then
 (loop (jI c i1) 1).bind fun q0 =>
 match q0 with
 | .inl q2 =>
  some (.inr (.inl q2))
 | .inr _ =>
  some (.inl (w64 (i1 + 1)))
 else
 some (.inr (.inr ()))
def jH (c : Conf) (i : Int) : Option (Int ⊕ (Int ⊕ Unit)) :=
 bif decide (i < (c.Labels.length : Int)) then
 (idx c.Labels i).bind fun x1 =>
 (eV x1).bind fun x2 =>
 bif ! x2 then
  some (.inr (.inl 12))
 else
  some (.inl (w64 (i + 1)))
 else
 some (.inr (.inr ()))
def c_ (c : Conf) : Option Int :=
 (
 bif decide ((c.Labels.length : Int) < 1) then
  some true
 else
  bif decide ((c.Labels.length : Int) > 3) then
  some true
  else
  some (decide ((c.Queues.length : Int) > 16))).bind fun q =>
 bif q then
 some 4
 else
 (idx c.Labels 0).bind fun x =>
 bif ! (x == ([] : List UInt8)) then
  some 12
 else
  (loop (jH c) 1).bind fun q0 =>
  match q0 with
  | .inl q1 =>
  some q1
  | .inr _ =>
  (loop (jJ c) 1).bind fun q0 =>
  match q0 with
  | .inl q3 =>
   some q3
  | .inr _ =>
   some 0
def h147 : Hint:=(.s .z (.s (.s (.j [] [(0,[(21,.v .bool [])])] .z) .z) (.s .z (.s (.s .z (.b (.l [(3,.v (.int .i64) [])] [2,3] [(1,[(2,.v (.int .i64) [])]),(2,[])] .z))) (.s (.s .z (.b (.l [(4,.v (.int .i64) [])] [2,4,5] [(1,[(2,.v (.int .i64) [])]),(4,[])] (.s .z (.s (.b (.s .z (.b (.l [(5,.v (.int .i64) [])] [2,5] [(1,[(2,.v (.int .i64) [])]),(6,[])] .z)))) .z))))) .z)))))
def sp147 : Spec fam:=⟨[.v (.st 3) []],[.v (.int .i64) []],fun a => c_ a.1⟩
def cu (c : Conf) (path : List UInt8) (t : Queue × Int) : Option ((Queue × Int) ⊕ ((Queue × Bool) ⊕ Queue)) :=
 bif decide (t.2 < (c.Queues.length : Int)) then
 (idx c.Queues t.2).bind fun x =>
 bif x.Path == path then
  (idx c.Queues t.2).bind fun x1 =>
  (app 16 [] x1.Caps).bind fun l =>
  some (.inr (.inl ((⟨x1.Path,l,x1.User⟩ : Queue),true)))
 else
  some (.inl (t.1,w64 (t.2 + 1)))
 else
 some (.inr (.inr (t.1)))
def be (c : Conf) (path : List UInt8) : Option (Queue × Bool) :=
 (loop (cu c path) ((⟨[],[],0⟩ : Queue),0)).bind fun q0 =>
 match q0 with
 | .inl q =>
 some (q.1,q.2)
 | .inr q1 =>
 some ((⟨[],[],0⟩ : Queue),false)
def h78 : Hint:=(.s .z (.s (.s .z (.b (.l [(4,.box (.st 2) [1]),(6,.v (.int .i64) [])] [4,5,6,7] [(1,[(4,.box (.st 2) [1]),(5,.v .bool [])]),(2,[(4,.box (.st 2) [1])])] .z))) .z))
def sp78 : Spec fam:=⟨[.v (.st 3) [],.v .str []],[.v (.st 2) [1],.v .bool []],fun a => be a.1 a.2.1⟩
def ia (path : List UInt8) (k1 : Int) : Option (Int ⊕ Int) :=
 (
 bif decide (k1 ≥ 0) then
  (idx path k1).bind fun ch =>
  some ((ch.toNat : Int) != 46)
 else
  some false).bind fun q =>
 bif q then
 some (.inl (w64 (k1 - 1)))
 else
 some (.inr k1)
def bZ (path : List UInt8) : Option (List UInt8) :=
 let k:=w64 ((path.length : Int) - 1)
 (loop (ia path) k).bind fun k2 =>
 bif decide (k2 < 0) then
 some ([] : List UInt8)
 else
 (slc path 0 k2).bind fun s =>
 some s
def h114 : Hint:=(.s .z (.s .z (.s (.b (.l [(3,.v (.int .i64) [])] [3,14] [(2,[(3,.v (.int .i64) [])])] (.s (.s (.j [] [(0,[(14,.v .bool [])])] .z) .z) .z))) .z)))
def sp114 : Spec fam:=⟨[.v .str []],[.v .str []],fun a => bZ a.1⟩
def du (s : List UInt8) (t : Int × Int × Int) : Option ((Int × Int × Int) ⊕ (Bool ⊕ Int)) :=
 bif decide (t.2.2 ≤ (s.length : Int)) then
 (
  (
  bif decide (t.2.2 < (s.length : Int)) then
   (idx s t.2.2).bind fun ch =>
   some ((ch.toNat : Int) != 46)
  else
   some false).bind fun q =>
  bif q then
  some (.inl (t.1,t.2.1))
  else
  (
   (slc s t.1 t.2.2).bind fun s1 =>
   (eV s1).bind fun x =>
   bif ! x then
   some true
   else
   bif t.2.1 == 0 then
    (slc s t.1 t.2.2).bind fun s2 =>
    some (! (s2 == ([114,111,111,116] : List UInt8)))
   else
    some false).bind fun q1 =>
  bif q1 then
   some (.inr false)
  else
   some (.inl (w64 (t.2.2 + 1),w64 (t.2.1 + 1))) : Option ((Int × Int) ⊕ Bool)).bind fun q0 =>
 match q0 with
 | .inl q2 =>
  some (.inl (q2.1,q2.2,w64 (t.2.2 + 1)))
 | .inr q3 =>
  some (.inr (.inl q3))
 else
 some (.inr (.inr (t.2.1)))
def fX (s : List UInt8) : Option Bool :=
 (loop (du s) (0,0,0)).bind fun q0 =>
 match q0 with
 | .inl q4 =>
 some q4
 | .inr n =>
 some (decide (n ≤ 4))
def h199 : Hint:=(.s .z (.s .z (.s (.s .z (.b (.l [(3,.v (.int .i64) []),(4,.v (.int .i64) []),(5,.v (.int .i64) [])] [2,3,4,5,21,38] [(1,[(2,.v .bool [])]),(2,[(4,.v (.int .i64) [])])] (.s .z (.s (.j [2,3,4,21,38] [(0,[(3,.v (.int .i64) []),(4,.v (.int .i64) [])]),(1,[(2,.v .bool [])])] (.b (.s (.s (.j [] [(0,[(21,.v .bool [])])] .z) .z) (.s (.s (.j [] [(0,[(38,.v .bool [])])] .z) .z) .z)))) .z))))) .z)))
def sp199 : Spec fam:=⟨[.v .str []],[.v .bool []],fun a => fX a.1⟩
def ib (x : Queue) (k : Int) : Option (Int ⊕ (Int ⊕ Unit)) :=
 bif decide (k < (x.Caps.length : Int)) then
 (idx x.Caps k).bind fun x5 =>
 (
  bif decide (x5.Least < 0) then
  some true
  else
  bif decide (x5.Least > 10000) then
   some true
  else
   bif decide (x5.Most < 0) then
   some true
   else
   bif decide (x5.Most > 10000) then
    some true
   else
    some (decide (x5.Least > x5.Most))).bind fun q3 =>
 bif q3 then
  some (.inr (.inl 1))
 else
  some (.inl (w64 (k + 1)))
 else
 some (.inr (.inr ()))
def dQ (c : Conf) (i : Int) : Option Int :=
 (idx c.Queues i).bind fun x =>
 (fX x.Path).bind fun x1 =>
 bif ! x1 then
 some 12
 else
 (
  bif decide (i > 0) then
  (idx c.Queues (w64 (i - 1))).bind fun x2 =>
  some (strLe x.Path x2.Path)
  else
  some false).bind fun q =>
 bif q then
  some 7
 else
  (bZ x.Path).bind fun x3 =>
  (be c x3).bind fun x4 =>
  (
  bif decide (i > 0) then
   some (! x4.2)
  else
   some false).bind fun q1 =>
  bif q1 then
  some 12
  else
  (
   bif decide (x.User < 1) then
   some true
   else
   bif decide (x.User > 1000000) then
    some true
   else
    some ((x.Caps.length : Int) != (c.Labels.length : Int))).bind fun q2 =>
  bif q2 then
   some 1
  else
   (loop (ib x) 0).bind fun q0 =>
   match q0 with
   | .inl q4 =>
   some q4
   | .inr _ =>
   some 0
def h148 : Hint:=(.s .z (.s .z (.s .z (.s (.s (.j [] [(0,[(32,.v .bool [])])] .z) .z) (.s .z (.s (.s (.j [] [(0,[(46,.v .bool [])])] .z) .z) (.s (.s (.j [] [(0,[(63,.v .bool [])])] .z) .z) (.s (.s .z (.b (.l [(8,.v (.int .i64) [])] [4,8,9,100] [(1,[(4,.v (.int .i64) [])]),(2,[])] (.s .z (.s (.b (.s .z (.s (.j [] [(0,[(100,.v .bool [])])] .z) .z))) .z))))) .z))))))))
def sp148 : Spec fam:=⟨[.v (.st 3) [],.v (.int .i64) []],[.v (.int .i64) []],fun a => dQ a.1 a.2.1⟩
def e_ (c : Conf) (path : List UInt8) (t : List (List UInt8) × Int) : Option ((List (List UInt8) × Int) ⊕ List (List UInt8)) :=
 bif decide (t.2 < (c.Queues.length : Int)) then
 (
  (
  bif ! (path == ([] : List UInt8)) then
   (idx c.Queues t.2).bind fun x =>
   (bZ x.Path).bind fun x1 =>
   some (x1 == path)
  else
   some false).bind fun q =>
  bif q then
  (idx c.Queues t.2).bind fun x2 =>
  (app 16 t.1 [x2.Path]).bind fun l =>
  some l
  else
  some t.1).bind fun l1 =>
 some (.inl (l1,w64 (t.2 + 1)))
 else
 some (.inr t.1)
def bj (c : Conf) (path : List UInt8) : Option (List (List UInt8)) :=
 (loop (e_ c path) ([],0)).bind fun l2 =>
 some l2
def h53 : Hint:=(.s .z (.s .z (.s (.s .z (.b (.l [(5,.v (.slice (.str)) [0]),(6,.v (.int .i64) [])] [5,6,26] [(2,[(5,.v (.slice (.str)) [0])])] (.s .z (.s (.j [5,26] [(0,[(5,.v (.slice (.str)) [0])])] (.b (.s (.j [] [(0,[(26,.v .bool [])])] .z) .z))) .z))))) .z)))
def sp53 : Spec fam:=⟨[.v (.st 3) [],.v .str []],[.v (.slice (.str)) [0]],fun a => bj a.1 a.2.1⟩
def fh (c : Conf) (kids : List (List UInt8)) (k : Int) (t : Int × Int) : Option ((Int × Int) ⊕ Int) :=
 bif decide (t.2 < (kids.length : Int)) then
 (inb t.2 kids.length).bind fun i1 =>
 (kids[i1]?).bind fun x1 =>
 (be c x1).bind fun x2 =>
 (inb k x2.1.Caps.length).bind fun i2 =>
 (x2.1.Caps[i2]?).bind fun x3 =>
 let n:=w64 (t.1 + x3.Least)
 some (.inl (n,w64 (t.2 + 1)))
 else
 some (.inr t.1)
def kg (c : Conf) (kids : List (List UInt8)) (k : Int) : Option (Int ⊕ (Bool ⊕ Unit)) :=
 (
 bif decide (k < (c.Labels.length : Int)) then
  some (decide ((kids.length : Int) > 0))
 else
  some false).bind fun q =>
 bif q then
 (loop (fh c kids k) (0,0)).bind fun n1 =>
 bif n1 != 10000 then
  some (.inr (.inl false))
 else
  some (.inl (w64 (k + 1)))
 else
 some (.inr (.inr ()))
def iw (c : Conf) (i : Int) : Option (Int ⊕ (Bool ⊕ Unit)) :=
 bif decide (i < (c.Queues.length : Int)) then
 (idx c.Queues i).bind fun x =>
 (bj c x.Path).bind fun kids =>
 (loop (kg c kids) 0).bind fun q0 =>
 match q0 with
 | .inl q1 =>
  some (.inr (.inl q1))
 | .inr _ =>
  some (.inl (w64 (i + 1)))
 else
 some (.inr (.inr ()))
def g_ (c : Conf) : Option Bool :=
 (loop (iw c) 0).bind fun q0 =>
 match q0 with
 | .inl q2 =>
 some q2
 | .inr _ =>
 some true
def h149 : Hint:=(.s .z (.s (.s .z (.b (.l [(3,.v (.int .i64) [])] [2,3,4,5,6,7,8,34] [(1,[(2,.v .bool [])]),(2,[])] (.s .z (.s (.b (.s .z (.s .z (.b (.l [(5,.v (.int .i64) [])] [2,5,6,7,8,34] [(1,[(2,.v .bool [])]),(4,[])] (.s (.s (.j [] [(0,[(34,.v .bool [])])] .z) .z) (.s (.b (.s .z (.s (.s .z (.b (.l [(6,.v (.int .i64) []),(7,.v (.int .i64) [])] [6,7,8] [(6,[(6,.v (.int .i64) [])])] .z))) .z))) .z))))))) .z))))) .z))
def sp149 : Spec fam:=⟨[.v (.st 3) []],[.v .bool []],fun a => g_ a.1⟩
def ig (c : Conf) (k : Int) : Option (Int ⊕ (Int ⊕ Unit)) :=
 bif decide (k < (c.Labels.length : Int)) then
 (idx c.Queues 0).bind fun x5 =>
 (idx x5.Caps k).bind fun x6 =>
 bif ! ((x6.Least == 10000) && (x6.Most == 10000)) then
  some (.inr (.inl 13))
 else
  some (.inl (w64 (k + 1)))
 else
 some (.inr (.inr ()))
def ip (c : Conf) (i : Int) : Option (Int ⊕ (Int ⊕ Unit)) :=
 bif decide (i < (c.Queues.length : Int)) then
 (dQ c i).bind fun x3 =>
 bif x3 != 0 then
  (dQ c i).bind fun x4 =>
  some (.inr (.inl x4))
 else
  some (.inl (w64 (i + 1)))
 else
 some (.inr (.inr ()))
def gO (c : Conf) : Option Int :=
 (c_ c).bind fun x =>
 bif x != 0 then
 (c_ c).bind fun x1 =>
 some x1
 else
 (
  bif (c.Queues.length : Int) == 0 then
  some true
  else
  (idx c.Queues 0).bind fun x2 =>
  some (! (x2.Path == ([114,111,111,116] : List UInt8)))).bind fun q =>
 bif q then
  some 12
 else
  (loop (ip c) 0).bind fun q0 =>
  match q0 with
  | .inl q1 =>
  some q1
  | .inr _ =>
  (loop (ig c) 0).bind fun q0 =>
  match q0 with
  | .inl q2 =>
   some q2
  | .inr _ =>
   (g_ c).bind fun x7 =>
   bif ! x7 then
   some 13
   else
   some 0
def h86 : Hint:=(.s .z (.s .z (.s (.s (.j [] [(0,[(21,.v .bool [])])] .z) .z) (.s (.s .z (.b (.l [(3,.v (.int .i64) [])] [2,3] [(1,[(2,.v (.int .i64) [])]),(2,[])] .z))) (.s (.s .z (.b (.l [(4,.v (.int .i64) [])] [2,4] [(1,[(2,.v (.int .i64) [])]),(4,[])] .z))) .z)))))
def sp86 : Spec fam:=⟨[.v (.st 3) []],[.v (.int .i64) []],fun a => gO a.1⟩
def cI (c : Conf) (path : List UInt8) : Option Bool :=
 (be c path).bind fun x =>
 bif x.2 then
 (bj c path).bind fun x1 =>
 some ((x1.length : Int) == 0)
 else
 some false
def h87 : Hint:=.z
def sp87 : Spec fam:=⟨[.v (.st 3) [],.v .str []],[.v .bool []],fun a => cI a.1 a.2.1⟩
def cQ (s : State) (x : Conf × Int) (t1 : State × Output × Int) : Option ((State × Output × Int) ⊕ ((State × Output) ⊕ (State × Output))) :=
 bif decide (t1.2.2 < (s.Apps.length : Int)) then
 (
  (idx s.Apps t1.2.2).bind fun x6 =>
  (aM x6).bind fun x7 =>
  bif x7 then
  (idx s.Apps t1.2.2).bind fun x8 =>
  (cI x.1 x8.Queue).bind fun x9 =>
  some (! x9)
  else
  some false).bind fun q2 =>
 bif q2 then
  (aB s 14).bind fun x10 =>
  some (.inr (.inl (x10.1,x10.2)))
 else
  some (.inl (t1.1,t1.2.1,w64 (t1.2.2 + 1)))
 else
 some (.inr (.inr (t1.1,t1.2.1)))
def cS (s : State) (x : Conf × Int) (t : State × Output × Int) : Option ((State × Output × Int) ⊕ ((State × Output) ⊕ (State × Output))) :=
 bif decide (t.2.2 < (s.Conf.Labels.length : Int)) then
 (inb t.2.2 x.1.Labels.length).bind fun i =>
 (x.1.Labels[i]?).bind fun x3 =>
 (idx s.Conf.Labels t.2.2).bind fun x4 =>
 bif ! (x3 == x4) then
  (aB s 14).bind fun x5 =>
  some (.inr (.inl (x5.1,x5.2)))
 else
  some (.inl (t.1,t.2.1,w64 (t.2.2 + 1)))
 else
 some (.inr (.inr (t.1,t.2.1)))
def fj (s : State) (text : List UInt8) : Option (State × Output) :=
 (gL text).bind fun x =>
 (
 bif x.2 == 0 then
  (gO x.1).bind fun e =>
  some e
 else
  some x.2).bind fun e1 =>
 bif e1 != 0 then
 (aB s e1).bind fun x1 =>
 some (x1.1,x1.2)
 else
 bif decide ((x.1.Labels.length : Int) < (s.Conf.Labels.length : Int)) then
  (aB s 14).bind fun x2 =>
  some (x2.1,x2.2)
 else
  (loop (cS s x) ((⟨⟨[],[]⟩,[],[],[],[],[],0,0,0⟩ : State),(⟨0,[],[],[],0⟩ : Output),0)).bind fun q0 =>
  match q0 with
  | .inl q =>
  some (q.1,q.2)
  | .inr q1 =>
  (loop (cQ s x) (q1.1,q1.2,0)).bind fun q0 =>
  match q0 with
  | .inl q3 =>
   some (q3.1,q3.2)
  | .inr q4 =>
   some ((⟨⟨x.1.Labels,x.1.Queues⟩,s.Nodes,s.Apps,s.Conts,s.Slots,s.Plans,s.Now,s.Epoch,s.Seq⟩ : State),(⟨0,[],[],[],0⟩ : Output))
def h41 : Hint:=(.s .z (.s .z (.s (.j [7] [(0,[(7,.v (.int .i64) [])])] .z) (.s .z (.s .z (.s (.s .z (.b (.l [(4,.box (.st 10) [0,1,2,3,4,5,6]),(5,.box (.st 13) [1,2,3]),(8,.v (.int .i64) [])] [4,5,8] [(1,[(4,.box (.st 10) []),(5,.box (.st 13) [1,2,3])]),(2,[(4,.box (.st 10) [0,1,2,3,4,5,6]),(5,.box (.st 13) [1,2,3])])] .z))) (.s (.s .z (.b (.l [(4,.box (.st 10) [0,1,2,3,4,5,6]),(5,.box (.st 13) [1,2,3]),(9,.v (.int .i64) [])] [4,5,9,85] [(1,[(4,.box (.st 10) []),(5,.box (.st 13) [1,2,3])]),(4,[(4,.box (.st 10) [0,1,2,3,4,5,6]),(5,.box (.st 13) [1,2,3])])] (.s .z (.s (.b (.s (.j [] [(0,[(85,.v .bool [])])] .z) .z)) .z))))) .z)))))))
def sp41 : Spec fam:=⟨[.v (.st 10) [],.v .str []],[.v (.st 10) [],.v (.st 13) [1,2,3]],fun a => fj a.1 a.2.1⟩
def eW (n : Int) : Option Bool :=
 bif decide (n ≥ 0) then
 some (decide (n ≤ 1073741824))
 else
 some false
def h88 : Hint:=.z
def sp88 : Spec fam:=⟨[.v (.int .i64) []],[.v .bool []],fun a => eW a.1⟩
def cA (s : State) (id_ : Int) (t : Node × Int) : Option ((Node × Int) ⊕ ((Node × Bool) ⊕ Node)) :=
 bif decide (t.2 < (s.Nodes.length : Int)) then
 (idx s.Nodes t.2).bind fun x =>
 bif x.Id == id_ then
  (idx s.Nodes t.2).bind fun x1 =>
  some (.inr (.inl (x1,true)))
 else
  some (.inl (t.1,w64 (t.2 + 1)))
 else
 some (.inr (.inr (t.1)))
def bb (s : State) (id_ : Int) : Option (Node × Bool) :=
 (loop (cA s id_) ((⟨0,0,0,⟨0,0⟩,0,0,false⟩ : Node),0)).bind fun q0 =>
 match q0 with
 | .inl q =>
 some (q.1,q.2)
 | .inr q1 =>
 some ((⟨0,0,0,⟨0,0⟩,0,0,false⟩ : Node),false)
def h89 : Hint:=(.s .z (.s (.s .z (.b (.l [(4,.box (.st 4) []),(6,.v (.int .i64) [])] [4,5,6] [(1,[(4,.box (.st 4) []),(5,.v .bool [])]),(2,[(4,.box (.st 4) [])])] .z))) .z))
def sp89 : Spec fam:=⟨[.v (.st 10) [],.v (.int .i64) []],[.v (.st 4) [],.v .bool []],fun a => bb a.1 a.2.1⟩
def fW (s : State) (n : Node) (k : Int) : Option (Int ⊕ Int) :=
 (
 bif decide (k < (s.Nodes.length : Int)) then
  (idx s.Nodes k).bind fun x =>
  some (decide (x.Id < n.Id))
 else
  some false).bind fun q =>
 bif q then
 some (.inl (w64 (k + 1)))
 else
 some (.inr k)
def dc (s : State) (n : Node) : Option State :=
 (loop (fW s n) 0).bind fun k1 =>
 (slc s.Nodes 0 k1).bind fun l =>
 (app 64 [] l).bind fun l1 =>
 (app 64 l1 [n]).bind fun l2 =>
 (
 (
  bif decide (k1 < (s.Nodes.length : Int)) then
  (idx s.Nodes k1).bind fun x1 =>
  some (x1.Id == n.Id)
  else
  some false).bind fun q1 =>
 bif q1 then
  some (w64 (k1 + 1))
 else
  some k1).bind fun k2 =>
 (slc s.Nodes k2 (s.Nodes.length : Int)).bind fun l3 =>
 (app 64 l2 l3).bind fun l4 =>
 some (⟨⟨s.Conf.Labels,s.Conf.Queues⟩,l4,s.Apps,s.Conts,s.Slots,s.Plans,s.Now,s.Epoch,s.Seq⟩ : State)
def h90 : Hint:=(.s .z (.s .z (.s (.b (.l [(5,.v (.int .i64) [])] [5,22] [(2,[(5,.v (.int .i64) [])])] (.s (.s (.j [] [(0,[(22,.v .bool [])])] .z) .z) .z))) (.s .z (.s .z (.s (.j [5,50] [(0,[(5,.v (.int .i64) [])])] (.s (.j [] [(0,[(50,.v .bool [])])] .z) .z)) .z))))))
def sp90 : Spec fam:=⟨[.v (.st 10) [],.v (.st 4) []],[.v (.st 10) [2]],fun a => dc a.1 a.2.1⟩
def et (s : State) (n : Node) : Option (State × Int) :=
 (
 bif decide (n.Id < 0) then
  some true
 else
  bif decide (n.Id > 999) then
  some true
  else
  bif decide (n.Label < 0) then
   some true
  else
   bif decide (n.Label ≥ (s.Conf.Labels.length : Int)) then
   some true
   else
   bif decide (n.Rack < 0) then
    some true
   else
    bif decide (n.Rack > 99) then
    some true
    else
    (eW n.Cap.Mem).bind fun x =>
    bif ! x then
     some true
    else
     (eW n.Cap.Cores).bind fun x1 =>
     some (! x1)).bind fun q =>
 bif q then
 some (s,1)
 else
 (bb s n.Id).bind fun x2 =>
 (
  bif x2.2 then
  some x2.1.Up
  else
  some false).bind fun q1 =>
 bif q1 then
  some (s,7)
 else
  (
  bif ! x2.2 then
   some (decide ((s.Nodes.length : Int) ≥ 12))
  else
   some false).bind fun q2 =>
  bif q2 then
  some (s,4)
  else
  (dc s (⟨n.Id,n.Label,n.Rack,⟨n.Cap.Mem,n.Cap.Cores⟩,s.Now,0,true⟩ : Node)).bind fun x3 =>
  some (x3,0)
def h42 : Hint:=(.s .z (.s (.s (.j [] [(0,[(53,.v .bool [])])] .z) .z) (.s .z (.s (.s (.j [] [(0,[(66,.v .bool [])])] .z) .z) (.s (.s (.j [] [(0,[(75,.v .bool [])])] .z) .z) .z)))))
def sp42 : Spec fam:=⟨[.v (.st 10) [],.v (.st 4) []],[.v (.st 10) [],.v (.int .i64) []],fun a => et a.1 a.2.1⟩
def fZ (s : State) (node : Int) (t : List Int × Int) : Option ((List Int × Int) ⊕ List Int) :=
 bif decide (t.2 < (s.Conts.length : Int)) then
 (
  (idx s.Conts t.2).bind fun x =>
  bif x.Node == node then
  (idx s.Conts t.2).bind fun x1 =>
  (app 8 t.1 [x1.Id]).bind fun l =>
  some l
  else
  some t.1).bind fun l1 =>
 some (.inl (l1,w64 (t.2 + 1)))
 else
 some (.inr t.1)
def df (s : State) (node : Int) : Option (List Int) :=
 (loop (fZ s node) ([],0)).bind fun l2 =>
 some l2
def h91 : Hint:=(.s .z (.s .z (.s (.s .z (.b (.l [(5,.v (.slice (.int .i64)) [0]),(6,.v (.int .i64) [])] [5,6] [(2,[(5,.v (.slice (.int .i64)) [0])])] (.s .z (.s (.j [5] [(0,[(5,.v (.slice (.int .i64)) [0])])] .z) .z))))) .z)))
def sp91 : Spec fam:=⟨[.v (.st 10) [],.v (.int .i64) []],[.v (.slice (.int .i64)) [0]],fun a => df a.1 a.2.1⟩
def gZ (s : State) (id_ : Int) (beat : Int) : Option (State × Int) :=
 (bb s id_).bind fun x =>
 bif ! x.2 then
 some (s,2)
 else
 bif ! x.1.Up then
  some (s,18)
 else
  bif decide (beat < 0) then
  some (s,15)
  else
  bif decide (beat < x.1.Beat) then
   some (s,15)
  else
   bif decide ((w64 (beat - x.1.Beat)) > 1) then
   some (s,1)
   else
   (dc s (⟨x.1.Id,x.1.Label,x.1.Rack,⟨x.1.Cap.Mem,x.1.Cap.Cores⟩,s.Now,beat,x.1.Up⟩ : Node)).bind fun x1 =>
   some (x1,0)
def h92 : Hint:=.z
def sp92 : Spec fam:=⟨[.v (.st 10) [],.v (.int .i64) [],.v (.int .i64) []],[.v (.st 10) [],.v (.int .i64) []],fun a => gZ a.1 a.2.1 a.2.2.1⟩
def ce (s : State) (id_ : Int) (t : Cont × Int) : Option ((Cont × Int) ⊕ ((Cont × Bool) ⊕ Cont)) :=
 bif decide (t.2 < (s.Conts.length : Int)) then
 (idx s.Conts t.2).bind fun x =>
 bif x.Id == id_ then
  (idx s.Conts t.2).bind fun x1 =>
  some (.inr (.inl (x1,true)))
 else
  some (.inl (t.1,w64 (t.2 + 1)))
 else
 some (.inr (.inr (t.1)))
def aS (s : State) (id_ : Int) : Option (Cont × Bool) :=
 (loop (ce s id_) ((⟨0,0,0,⟨0,0⟩,0,0,false,0⟩ : Cont),0)).bind fun q0 =>
 match q0 with
 | .inl q =>
 some (q.1,q.2)
 | .inr q1 =>
 some ((⟨0,0,0,⟨0,0⟩,0,0,false,0⟩ : Cont),false)
def h93 : Hint:=(.s .z (.s (.s .z (.b (.l [(4,.box (.st 7) []),(6,.v (.int .i64) [])] [4,5,6] [(1,[(4,.box (.st 7) []),(5,.v .bool [])]),(2,[(4,.box (.st 7) [])])] .z))) .z))
def sp93 : Spec fam:=⟨[.v (.st 10) [],.v (.int .i64) []],[.v (.st 7) [],.v .bool []],fun a => aS a.1 a.2.1⟩
def cg (s : State) (id_ : Int) (t : App × Int) : Option ((App × Int) ⊕ ((App × Bool) ⊕ App)) :=
 bif decide (t.2 < (s.Apps.length : Int)) then
 (idx s.Apps t.2).bind fun x =>
 bif x.Id == id_ then
  (idx s.Apps t.2).bind fun x1 =>
  some (.inr (.inl (x1,true)))
 else
  some (.inl (t.1,w64 (t.2 + 1)))
 else
 some (.inr (.inr (t.1)))
def aH (s : State) (id_ : Int) : Option (App × Bool) :=
 (loop (cg s id_) ((⟨0,0,[],0,0,⟨0,0⟩,[],0,0,[],[],[],[]⟩ : App),0)).bind fun q0 =>
 match q0 with
 | .inl q =>
 some (q.1,q.2)
 | .inr q1 =>
 some ((⟨0,0,[],0,0,⟨0,0⟩,[],0,0,[],[],[],[]⟩ : App),false)
def h67 : Hint:=(.s .z (.s (.s .z (.b (.l [(4,.box (.st 6) [7,10,11,12,13]),(6,.v (.int .i64) [])] [4,5,6] [(1,[(4,.box (.st 6) []),(5,.v .bool [])]),(2,[(4,.box (.st 6) [7,10,11,12,13])])] .z))) .z))
def sp67 : Spec fam:=⟨[.v (.st 10) [],.v (.int .i64) []],[.v (.st 6) [],.v .bool []],fun a => aH a.1 a.2.1⟩
def fA (s : State) (a : App) (k : Int) : Option (Int ⊕ Int) :=
 (
 bif decide (k < (s.Apps.length : Int)) then
  (idx s.Apps k).bind fun x =>
  some (decide (x.Id < a.Id))
 else
  some false).bind fun q =>
 bif q then
 some (.inl (w64 (k + 1)))
 else
 some (.inr k)
def aI (s : State) (a : App) : Option State :=
 (loop (fA s a) 0).bind fun k1 =>
 (slc s.Apps 0 k1).bind fun l =>
 (app 200 [] l).bind fun l1 =>
 (app 200 l1 [a]).bind fun l2 =>
 (
 (
  bif decide (k1 < (s.Apps.length : Int)) then
  (idx s.Apps k1).bind fun x1 =>
  some (x1.Id == a.Id)
  else
  some false).bind fun q1 =>
 bif q1 then
  some (w64 (k1 + 1))
 else
  some k1).bind fun k2 =>
 (slc s.Apps k2 (s.Apps.length : Int)).bind fun l3 =>
 (app 200 l2 l3).bind fun l4 =>
 some (⟨⟨s.Conf.Labels,s.Conf.Queues⟩,s.Nodes,l4,s.Conts,s.Slots,s.Plans,s.Now,s.Epoch,s.Seq⟩ : State)
def h98 : Hint:=(.s .z (.s .z (.s (.b (.l [(5,.v (.int .i64) [])] [5,22] [(2,[(5,.v (.int .i64) [])])] (.s (.s (.j [] [(0,[(22,.v .bool [])])] .z) .z) .z))) (.s .z (.s .z (.s (.j [5,50] [(0,[(5,.v (.int .i64) [])])] (.s (.j [] [(0,[(50,.v .bool [])])] .z) .z)) .z))))))
def sp98 : Spec fam:=⟨[.v (.st 10) [],.v (.st 6) []],[.v (.st 10) [3]],fun a => aI a.1 a.2.1⟩
def f_ (a : App) : Option (List Ask) :=
 some [(⟨0,0,⟨a.Master.Mem,a.Master.Cores⟩,1,(-1),(-1),0⟩ : Ask)]
def h99 : Hint:=.z
def sp99 : Spec fam:=⟨[.v (.st 6) []],[.v (.slice (.st 5)) [0]],fun a => f_ a.1⟩
def d7 (s : State) (id_ : Int) (t : List Cont × Int) : Option ((List Cont × Int) ⊕ List Cont) :=
 bif decide (t.2 < (s.Conts.length : Int)) then
 (
  (idx s.Conts t.2).bind fun x =>
  bif x.Id != id_ then
  (idx s.Conts t.2).bind fun x1 =>
  (app 72 t.1 [x1]).bind fun l =>
  some l
  else
  some t.1).bind fun l1 =>
 some (.inl (l1,w64 (t.2 + 1)))
 else
 some (.inr t.1)
def b7 (s : State) (id_ : Int) : Option State :=
 (loop (d7 s id_) ([],0)).bind fun l2 =>
 some (⟨⟨s.Conf.Labels,s.Conf.Queues⟩,s.Nodes,s.Apps,l2,s.Slots,s.Plans,s.Now,s.Epoch,s.Seq⟩ : State)
def h103 : Hint:=(.s .z (.s .z (.s (.s .z (.b (.l [(5,.v (.slice (.st 7)) [0]),(6,.v (.int .i64) [])] [5,6] [(2,[(5,.v (.slice (.st 7)) [0])])] (.s .z (.s (.j [5] [(0,[(5,.v (.slice (.st 7)) [0])])] .z) .z))))) .z)))
def sp103 : Spec fam:=⟨[.v (.st 10) [],.v (.int .i64) []],[.v (.st 10) [4]],fun a => b7 a.1 a.2.1⟩
def cB (l : List Int) (n : Int) (t : List Int × Int) : Option ((List Int × Int) ⊕ List Int) :=
 bif decide (t.2 < (l.length : Int)) then
 (
  (idx l t.2).bind fun x =>
  bif x != n then
  (idx l t.2).bind fun x1 =>
  (app 8 t.1 [x1]).bind fun l1 =>
  some l1
  else
  some t.1).bind fun out =>
 some (.inl (out,w64 (t.2 + 1)))
 else
 some (.inr t.1)
def bo (l : List Int) (n : Int) : Option (List Int × Bool) :=
 (loop (cB l n) ([],0)).bind fun out1 =>
 some (out1,decide ((out1.length : Int) < (l.length : Int)))
def h104 : Hint:=(.s .z (.s .z (.s (.s .z (.b (.l [(6,.v (.slice (.int .i64)) [0]),(7,.v (.int .i64) [])] [6,7] [(2,[(6,.v (.slice (.int .i64)) [0])])] (.s .z (.s (.j [6] [(0,[(6,.v (.slice (.int .i64)) [0])])] .z) .z))))) .z)))
def sp104 : Spec fam:=⟨[.v (.slice (.int .i64)) [],.v (.int .i64) []],[.v (.slice (.int .i64)) [0],.v .bool []],fun a => bo a.1 a.2.1⟩
def dW (s : State) (id_ : Int) (t1 : List Slot × Int) : Option ((List Slot × Int) ⊕ List Slot) :=
 bif decide (t1.2 < (s.Slots.length : Int)) then
 (
  (idx s.Slots t1.2).bind fun x3 =>
  bif x3.App != id_ then
  (idx s.Slots t1.2).bind fun x4 =>
  (app 24 t1.1 [x4]).bind fun l2 =>
  some l2
  else
  some t1.1).bind fun slots =>
 some (.inl (slots,w64 (t1.2 + 1)))
 else
 some (.inr t1.1)
def eE (s : State) (id_ : Int) (t : List Cont × List Int × Int) : Option ((List Cont × List Int × Int) ⊕ ((List Cont × List Int))) :=
 bif decide (t.2.2 < (s.Conts.length : Int)) then
 (
  (idx s.Conts t.2.2).bind fun x =>
  bif x.App == id_ then
  (idx s.Conts t.2.2).bind fun x1 =>
  (app 8 t.2.1 [x1.Id]).bind fun l =>
  some (t.1,l)
  else
  (idx s.Conts t.2.2).bind fun x2 =>
  (app 72 t.1 [x2]).bind fun l1 =>
  some (l1,t.2.1)).bind fun q =>
 some (.inl (q.1,q.2,w64 (t.2.2 + 1)))
 else
 some (.inr (t.1,t.2.1))
def b8 (s : State) (id_ : Int) : Option (State × List Int) :=
 (loop (eE s id_) ([],[],0)).bind fun q1 =>
 (loop (dW s id_) ([],0)).bind fun slots1 =>
 some ((⟨⟨s.Conf.Labels,s.Conf.Queues⟩,s.Nodes,s.Apps,q1.1,slots1,s.Plans,s.Now,s.Epoch,s.Seq⟩ : State),q1.2)
def h150 : Hint:=(.s .z (.s .z (.s .z (.s .z (.s (.s .z (.b (.l [(6,.v (.slice (.st 7)) [0]),(8,.v (.slice (.int .i64)) [0]),(9,.v (.int .i64) [])] [6,8,9] [(2,[(6,.v (.slice (.st 7)) [0]),(8,.v (.slice (.int .i64)) [0])])] (.s .z (.s (.j [6,8] [(0,[(6,.v (.slice (.st 7)) [0]),(8,.v (.slice (.int .i64)) [0])])] .z) .z))))) (.s (.s .z (.b (.l [(7,.v (.slice (.st 8)) [0]),(10,.v (.int .i64) [])] [7,10] [(4,[(7,.v (.slice (.st 8)) [0])])] (.s .z (.s (.j [7] [(0,[(7,.v (.slice (.st 8)) [0])])] .z) .z))))) .z))))))
def sp150 : Spec fam:=⟨[.v (.st 10) [],.v (.int .i64) []],[.v (.st 10) [4,5],.v (.slice (.int .i64)) [0]],fun a => b8 a.1 a.2.1⟩
def dX (ids : List Int) (t : State × Int) : Option ((State × Int) ⊕ State) :=
 bif decide (t.2 < (ids.length : Int)) then
 (
  (idx ids t.2).bind fun x =>
  (aS t.1 x).bind fun x1 =>
  bif ! x1.2 then
  some t.1
  else
  (aH t.1 x1.1.App).bind fun x2 =>
  bif x1.1.Master then
   (f_ x2.1).bind fun x3 =>
   (aI t.1 (⟨x2.1.Id,1,x2.1.Queue,x2.1.User,x2.1.Prio,⟨x2.1.Master.Mem,x2.1.Master.Cores⟩,x3,t.1.Now,0,[],[],[],[]⟩ : App)).bind fun x4 =>
   (b8 x4 x1.1.App).bind fun x5 =>
   some x5.1
  else
   (b7 t.1 x1.1.Id).bind fun x6 =>
   (bo x2.1.Grants x1.1.Id).bind fun x7 =>
   (
   bif ! x7.2 then
    (app 8 [] x2.1.Kills).bind fun l =>
    (app 8 l [x1.1.Id]).bind fun l1 =>
    some (⟨x2.1.Id,x2.1.State,x2.1.Queue,x2.1.User,x2.1.Prio,⟨x2.1.Master.Mem,x2.1.Master.Cores⟩,x2.1.Asks,x2.1.Seen,x2.1.Beat,x7.1,l1,x2.1.Told,x2.1.Lost⟩ : App)
   else
    some (⟨x2.1.Id,x2.1.State,x2.1.Queue,x2.1.User,x2.1.Prio,⟨x2.1.Master.Mem,x2.1.Master.Cores⟩,x2.1.Asks,x2.1.Seen,x2.1.Beat,x7.1,x2.1.Kills,x2.1.Told,x2.1.Lost⟩ : App)).bind fun a =>
   (aI x6 a).bind fun x8 =>
   some x8).bind fun s1 =>
 some (.inl (s1,w64 (t.2 + 1)))
 else
 some (.inr t.1)
def bw (s : State) (ids : List Int) : Option State :=
 (loop (dX ids) (s,0)).bind fun s2 =>
 some s2
def h94 : Hint:=(.s .z (.s (.s .z (.b (.l [(2,.box (.st 10) []),(5,.v (.int .i64) [])] [2,5,6,7,8] [(2,[(2,.box (.st 10) [])])] (.s .z (.s (.j [2,6,7,8] [(0,[(2,.box (.st 10) [])])] (.b (.s .z (.s .z (.s .z (.s .z (.s .z (.s .z (.s .z (.s (.j [8] [(0,[(8,.box (.st 6) [10])])] .z) .z)))))))))) .z))))) .z))
def sp94 : Spec fam:=⟨[.v (.st 10) [],.v (.slice (.int .i64)) []],[.v (.st 10) []],fun a => bw a.1 a.2.1⟩
def cb (s : State) (node : Int) (t : Slot × Int) : Option ((Slot × Int) ⊕ ((Slot × Bool) ⊕ Slot)) :=
 bif decide (t.2 < (s.Slots.length : Int)) then
 (idx s.Slots t.2).bind fun x =>
 bif x.Node == node then
  (idx s.Slots t.2).bind fun x1 =>
  some (.inr (.inl (x1,true)))
 else
  some (.inl (t.1,w64 (t.2 + 1)))
 else
 some (.inr (.inr (t.1)))
def gM (s : State) (node : Int) : Option (Slot × Bool) :=
 (loop (cb s node) ((⟨0,0,0⟩ : Slot),0)).bind fun q0 =>
 match q0 with
 | .inl q =>
 some (q.1,q.2)
 | .inr q1 =>
 some ((⟨0,0,0⟩ : Slot),false)
def h200 : Hint:=(.s .z (.s (.s .z (.b (.l [(4,.box (.st 8) []),(6,.v (.int .i64) [])] [4,5,6] [(1,[(4,.box (.st 8) []),(5,.v .bool [])]),(2,[(4,.box (.st 8) [])])] .z))) .z))
def sp200 : Spec fam:=⟨[.v (.st 10) [],.v (.int .i64) []],[.v (.st 8) [],.v .bool []],fun a => gM a.1 a.2.1⟩
def cO (s : State) (node : Int) (t : List Slot × Int) : Option ((List Slot × Int) ⊕ List Slot) :=
 bif decide (t.2 < (s.Slots.length : Int)) then
 (
  (idx s.Slots t.2).bind fun x =>
  bif x.Node != node then
  (idx s.Slots t.2).bind fun x1 =>
  (app 24 t.1 [x1]).bind fun l =>
  some l
  else
  some t.1).bind fun l1 =>
 some (.inl (l1,w64 (t.2 + 1)))
 else
 some (.inr t.1)
def bA (s : State) (node : Int) : Option State :=
 (loop (cO s node) ([],0)).bind fun l2 =>
 some (⟨⟨s.Conf.Labels,s.Conf.Queues⟩,s.Nodes,s.Apps,s.Conts,l2,s.Plans,s.Now,s.Epoch,s.Seq⟩ : State)
def h107 : Hint:=(.s .z (.s .z (.s (.s .z (.b (.l [(5,.v (.slice (.st 8)) [0]),(6,.v (.int .i64) [])] [5,6] [(2,[(5,.v (.slice (.st 8)) [0])])] (.s .z (.s (.j [5] [(0,[(5,.v (.slice (.st 8)) [0])])] .z) .z))))) .z)))
def sp107 : Spec fam:=⟨[.v (.st 10) [],.v (.int .i64) []],[.v (.st 10) [5]],fun a => bA a.1 a.2.1⟩
def aL (a : Vec) (b : Vec) : Option Bool :=
 bif decide (a.Mem ≤ b.Mem) then
 some (decide (a.Cores ≤ b.Cores))
 else
 some false
def h210 : Hint:=.z
def sp210 : Spec fam:=⟨[.v (.st 0) [],.v (.st 0) []],[.v .bool []],fun a => aL a.1 a.2.1⟩
def c9 (l : List Ask) (prio : Int) (t : Ask × Int) : Option ((Ask × Int) ⊕ ((Ask × Bool) ⊕ Ask)) :=
 bif decide (t.2 < (l.length : Int)) then
 (idx l t.2).bind fun x =>
 bif x.Prio == prio then
  (idx l t.2).bind fun x1 =>
  some (.inr (.inl (x1,true)))
 else
  some (.inl (t.1,w64 (t.2 + 1)))
 else
 some (.inr (.inr (t.1)))
def iz (l : List Ask) (prio : Int) : Option (Ask × Bool) :=
 (loop (c9 l prio) ((⟨0,0,⟨0,0⟩,0,0,0,0⟩ : Ask),0)).bind fun q0 =>
 match q0 with
 | .inl q =>
 some (q.1,q.2)
 | .inr q1 =>
 some ((⟨0,0,⟨0,0⟩,0,0,0,0⟩ : Ask),false)
def h229 : Hint:=(.s .z (.s (.s .z (.b (.l [(4,.box (.st 5) []),(6,.v (.int .i64) [])] [4,5,6] [(1,[(4,.box (.st 5) []),(5,.v .bool [])]),(2,[(4,.box (.st 5) [])])] .z))) .z))
def sp229 : Spec fam:=⟨[.v (.slice (.st 5)) [],.v (.int .i64) []],[.v (.st 5) [],.v .bool []],fun a => iz a.1 a.2.1⟩
def bk (a : Ask) (n : Node) : Option Int :=
 (
 bif ! n.Up then
  some true
 else
  some (n.Label != a.Label)).bind fun q =>
 bif q then
 some 4
 else
 (
  bif a.Rack == (-1) then
  some true
  else
  bif a.Node == n.Id then
   some true
  else
   bif a.Node == (-1) then
   some (a.Rack == n.Rack)
   else
   some false).bind fun q1 =>
 bif q1 then
  some 1
 else
  bif a.Rack == n.Rack then
  some 2
  else
  some 3
def h252 : Hint:=(.s .z (.s (.b (.s (.j [] [(0,[(5,.v .bool [])])] .z) (.c .z (.s (.j [] [(0,[(16,.v .bool [])])] .z) .z)))) .z))
def sp252 : Spec fam:=⟨[.v (.st 5) [],.v (.st 4) []],[.v (.int .i64) []],fun a => bk a.1 a.2.1⟩
def bI (a : Ask) (n : Node) : Option Bool :=
 (bk a n).bind fun x =>
 bif x == 1 then
 some true
 else
 bif x == 2 then
  some (decide (a.Missed ≥ 2))
 else
  bif x == 3 then
  some (decide (a.Missed ≥ 4))
  else
  some false
def h230 : Hint:=.z
def sp230 : Spec fam:=⟨[.v (.st 5) [],.v (.st 4) []],[.v .bool []],fun a => bI a.1 a.2.1⟩
def dT (t : List UInt8 × List (List UInt8)) : Option ((List UInt8 × List (List UInt8)) ⊕ List (List UInt8)) :=
 bif ! (t.1 == ([] : List UInt8)) then
 (app 16 t.2 [t.1]).bind fun l =>
 (bZ t.1).bind fun path1 =>
 some (.inl (path1,l))
 else
 some (.inr t.2)
def d9 (path : List UInt8) : Option (List (List UInt8)) :=
 (loop dT (path,[])).bind fun l1 =>
 some l1
def h68 : Hint:=(.s .z (.s .z (.s (.b (.l [(0,.v .str []),(3,.v (.slice (.str)) [0])] [0,3] [(2,[(3,.v (.slice (.str)) [0])])] .z)) .z)))
def sp68 : Spec fam:=⟨[.v .str []],[.v (.slice (.str)) [0]],fun a => d9 a.1⟩
def bR (path : List UInt8) (up : List (List UInt8)) (i : Int) : Option (Int ⊕ (Bool ⊕ Unit)) :=
 bif decide (i < (up.length : Int)) then
 (inb i up.length).bind fun i1 =>
 (up[i1]?).bind fun x =>
 bif x == path then
  some (.inr (.inl true))
 else
  some (.inl (w64 (i + 1)))
 else
 some (.inr (.inr ()))
def c6 (leaf : List UInt8) (path : List UInt8) : Option Bool :=
 (d9 leaf).bind fun up =>
 (loop (bR path up) 0).bind fun q0 =>
 match q0 with
 | .inl q =>
 some q
 | .inr _ =>
 some false
def h29 : Hint:=(.s .z (.s .z (.s (.s .z (.b (.l [(6,.v (.int .i64) [])] [4,6] [(1,[(4,.v .bool [])]),(2,[])] .z))) .z)))
def sp29 : Spec fam:=⟨[.v .str [],.v .str []],[.v .bool []],fun a => c6 a.1 a.2.1⟩
def ax (a : Vec) (b : Vec) : Option Vec :=
 some (⟨w64 (a.Mem + b.Mem),w64 (a.Cores + b.Cores)⟩ : Vec)
def h30 : Hint:=.z
def sp30 : Spec fam:=⟨[.v (.st 0) [],.v (.st 0) []],[.v (.st 0) []],fun a => ax a.1 a.2.1⟩
def ef (s : State) (path : List UInt8) (label : Int) (all : Bool) (user : Int) (t : Vec × Int) : Option ((Vec × Int) ⊕ Vec) :=
 bif decide (t.2 < (s.Conts.length : Int)) then
 (
  (idx s.Conts t.2).bind fun x =>
  (aH s x.App).bind fun x1 =>
  (
  bif x1.2 then
   (idx s.Conts t.2).bind fun x2 =>
   bif x2.Label == label then
   (c6 x1.1.Queue path).bind fun x3 =>
   bif x3 then
    bif all then
    some true
    else
    some (x1.1.User == user)
   else
    some false
   else
   some false
  else
   some false).bind fun q =>
  bif q then
  (idx s.Conts t.2).bind fun x4 =>
  (ax t.1 x4.Size).bind fun x5 =>
  some x5
  else
  some t.1).bind fun v =>
 some (.inl (v,w64 (t.2 + 1)))
 else
 some (.inr t.1)
def dK (s : State) (path : List UInt8) (label : Int) (all : Bool) (user : Int) : Option Vec :=
 (loop (ef s path label all user) ((⟨0,0⟩ : Vec),0)).bind fun v1 =>
 some v1
def h27 : Hint:=(.s .z (.s .z (.s (.s .z (.b (.l [(11,.box (.st 0) []),(12,.v (.int .i64) [])] [11,12,13,59] [(2,[(11,.box (.st 0) [])])] (.s .z (.s (.j [11,13,59] [(0,[(11,.box (.st 0) [])])] (.b (.s .z (.s (.j [] [(0,[(59,.v .bool [])])] .z) .z)))) .z))))) .z)))
def sp27 : Spec fam:=⟨[.v (.st 10) [],.v .str [],.v (.int .i64) [],.v .bool [],.v (.int .i64) []],[.v (.st 0) []],fun a => dK a.1 a.2.1 a.2.2.1 a.2.2.2.1 a.2.2.2.2.1⟩
def aG (s : State) (path : List UInt8) (label : Int) : Option Vec :=
 (dK s path label true 0).bind fun x =>
 some x
def h10 : Hint:=.z
def sp10 : Spec fam:=⟨[.v (.st 10) [],.v .str [],.v (.int .i64) []],[.v (.st 0) []],fun a => aG a.1 a.2.1 a.2.2.1⟩
def d4 (s : State) (label : Int) (t : Vec × Int) : Option ((Vec × Int) ⊕ Vec) :=
 bif decide (t.2 < (s.Nodes.length : Int)) then
 (
  (
  (idx s.Nodes t.2).bind fun x =>
  bif x.Up then
   (idx s.Nodes t.2).bind fun x1 =>
   some (x1.Label == label)
  else
   some false).bind fun q =>
  bif q then
  (idx s.Nodes t.2).bind fun x2 =>
  (ax t.1 x2.Cap).bind fun x3 =>
  some x3
  else
  some t.1).bind fun v =>
 some (.inl (v,w64 (t.2 + 1)))
 else
 some (.inr t.1)
def aZ (s : State) (label : Int) : Option Vec :=
 (loop (d4 s label) ((⟨0,0⟩ : Vec),0)).bind fun v1 =>
 some v1
def h12 : Hint:=(.s .z (.s .z (.s (.s .z (.b (.l [(5,.box (.st 0) []),(6,.v (.int .i64) [])] [5,6,30] [(2,[(5,.box (.st 0) [])])] (.s .z (.s (.j [5,30] [(0,[(5,.box (.st 0) [])])] (.b (.s (.j [] [(0,[(30,.v .bool [])])] .z) .z))) .z))))) .z)))
def sp12 : Spec fam:=⟨[.v (.st 10) [],.v (.int .i64) []],[.v (.st 0) []],fun a => aZ a.1 a.2.1⟩
def hH (n : Int) : Option Bool :=
 bif decide (n ≥ 0) then
 some (decide (n ≤ 1125899906842624))
 else
 some false
def h193 : Hint:=.z
def sp193 : Spec fam:=⟨[.v (.int .i64) []],[.v .bool []],fun a => hH a.1⟩
def bg (a : Vec) : Option Bool :=
 (hH a.Mem).bind fun x =>
 bif x then
 (hH a.Cores).bind fun x1 =>
 some x1
 else
 some false
def h138 : Hint:=.z
def sp138 : Spec fam:=⟨[.v (.st 0) []],[.v .bool []],fun a => bg a.1⟩
def dJ (n : Int) (bp : Int) : Option Int :=
 some (w64 ((w64 ((w64 (Int.tdiv n 10000)) * bp)) + (w64 (Int.tdiv (w64 ((Int.tmod n 10000) * bp)) 10000))))
def h139 : Hint:=.z
def sp139 : Spec fam:=⟨[.v (.int .i64) [],.v (.int .i64) []],[.v (.int .i64) []],fun a => dJ a.1 a.2.1⟩
def dL (a : Vec) (bp : Int) : Option (Vec × Int) :=
 (
 (bg a).bind fun x =>
 bif ! x then
  some true
 else
  bif decide (bp < 0) then
  some true
  else
  some (decide (bp > 1000000))).bind fun q =>
 bif q then
 some ((⟨0,0⟩ : Vec),1)
 else
 (dJ a.Mem bp).bind fun x1 =>
 (dJ a.Cores bp).bind fun x2 =>
 (bg (⟨x1,x2⟩ : Vec)).bind fun x3 =>
 bif ! x3 then
  some ((⟨0,0⟩ : Vec),11)
 else
  some ((⟨x1,x2⟩ : Vec),0)
def h79 : Hint:=(.s .z (.s (.s (.j [] [(0,[(17,.v .bool [])])] .z) .z) .z))
def sp79 : Spec fam:=⟨[.v (.st 0) [],.v (.int .i64) []],[.v (.st 0) [],.v (.int .i64) []],fun a => dL a.1 a.2.1⟩
def fr (s : State) (label : Int) (least : Bool) (up : List (List UInt8)) (t : Vec × Int) : Option ((Vec × Int) ⊕ Vec) :=
 bif decide (t.2 ≥ 0) then
 (inb t.2 up.length).bind fun i1 =>
 (up[i1]?).bind fun x2 =>
 (be s.Conf x2).bind fun x3 =>
 (inb label x3.1.Caps.length).bind fun i2 =>
 (x3.1.Caps[i2]?).bind fun x4 =>
 (
  bif least then
  (inb label x3.1.Caps.length).bind fun i3 =>
  (x3.1.Caps[i3]?).bind fun x5 =>
  some x5.Least
  else
  some x4.Most).bind fun bp =>
 (dL t.1 bp).bind fun x6 =>
 some (.inl (x6.1,w64 (t.2 - 1)))
 else
 some (.inr t.1)
def eK (s : State) (path : List UInt8) (label : Int) (least : Bool) : Option Vec :=
 (be s.Conf path).bind fun x =>
 (
 bif ! x.2 then
  some true
 else
  bif decide (label < 0) then
  some true
  else
  some (decide (label ≥ (s.Conf.Labels.length : Int)))).bind fun q =>
 bif q then
 some (⟨0,0⟩ : Vec)
 else
 (aZ s label).bind fun x1 =>
 (d9 path).bind fun up =>
 let i:=w64 ((up.length : Int) - 2)
 (loop (fr s label least up) (x1,i)).bind fun v =>
 some v
def h34 : Hint:=(.s .z (.s .z (.s (.s (.j [] [(0,[(37,.v .bool [])])] .z) .z) (.s .z (.s .z (.s (.s .z (.b (.l [(11,.box (.st 0) []),(13,.v (.int .i64) [])] [11,13,14,15,16] [(2,[(11,.box (.st 0) [])])] (.s .z (.s (.b (.s .z (.s .z (.s (.j [16] [(0,[(16,.v (.int .i64) [])])] .z) .z)))) .z))))) .z))))))
def sp34 : Spec fam:=⟨[.v (.st 10) [],.v .str [],.v (.int .i64) [],.v .bool []],[.v (.st 0) []],fun a => eK a.1 a.2.1 a.2.2.1 a.2.2.2.1⟩
def a5 (s : State) (path : List UInt8) (label : Int) : Option Vec :=
 (eK s path label true).bind fun x =>
 some x
def h16 : Hint:=.z
def sp16 : Spec fam:=⟨[.v (.st 10) [],.v .str [],.v (.int .i64) []],[.v (.st 0) []],fun a => a5 a.1 a.2.1 a.2.2.1⟩
def eJ (s : State) (leaf : List UInt8) (a : Ask) : Option Bool :=
 (aG s leaf a.Label).bind fun x =>
 (ax x a.Size).bind fun x1 =>
 (a5 s leaf a.Label).bind fun x2 =>
 (aL x1 x2).bind fun x3 =>
 some x3
def h231 : Hint:=.z
def sp231 : Spec fam:=⟨[.v (.st 10) [],.v .str [],.v (.st 5) []],[.v .bool []],fun a => eJ a.1 a.2.1 a.2.2.1⟩
def dh (s : State) (path : List UInt8) (label : Int) (user : Int) : Option Vec :=
 (dK s path label false user).bind fun x =>
 some x
def h253 : Hint:=.z
def sp253 : Spec fam:=⟨[.v (.st 10) [],.v .str [],.v (.int .i64) [],.v (.int .i64) []],[.v (.st 0) []],fun a => dh a.1 a.2.1 a.2.2.1 a.2.2.2.1⟩
def hJ (s : State) (path : List UInt8) (label : Int) : Option Vec :=
 (be s.Conf path).bind fun x =>
 bif ! x.2 then
 some (⟨0,0⟩ : Vec)
 else
 (a5 s path label).bind fun x1 =>
 (dL x1 x.1.User).bind fun x2 =>
 some x2.1
def h254 : Hint:=.z
def sp254 : Spec fam:=⟨[.v (.st 10) [],.v .str [],.v (.int .i64) []],[.v (.st 0) []],fun a => hJ a.1 a.2.1 a.2.2.1⟩
def dH (s : State) (leaf : List UInt8) (label : Int) (user : Int) : Option Bool :=
 (dh s leaf label user).bind fun x =>
 (hJ s leaf label).bind fun x1 =>
 (aL x x1).bind fun x2 =>
 some x2
def h232 : Hint:=.z
def sp232 : Spec fam:=⟨[.v (.st 10) [],.v .str [],.v (.int .i64) [],.v (.int .i64) []],[.v .bool []],fun a => dH a.1 a.2.1 a.2.2.1 a.2.2.2.1⟩
def eQ (a : Vec) (b : Vec) : Option Vec :=
 some (⟨imax (w64 (a.Mem - b.Mem)) 0,imax (w64 (a.Cores - b.Cores)) 0⟩ : Vec)
def h255 : Hint:=.z
def sp255 : Spec fam:=⟨[.v (.st 0) [],.v (.st 0) []],[.v (.st 0) []],fun a => eQ a.1 a.2.1⟩
def fq (s : State) (id_ : Int) (t : Vec × Int) : Option ((Vec × Int) ⊕ Vec) :=
 bif decide (t.2 < (s.Conts.length : Int)) then
 (
  (idx s.Conts t.2).bind fun x =>
  bif x.Node == id_ then
  (idx s.Conts t.2).bind fun x1 =>
  (ax t.1 x1.Size).bind fun x2 =>
  some x2
  else
  some t.1).bind fun v =>
 some (.inl (v,w64 (t.2 + 1)))
 else
 some (.inr t.1)
def hC (s : State) (id_ : Int) : Option Vec :=
 (loop (fq s id_) ((⟨0,0⟩ : Vec),0)).bind fun v1 =>
 some v1
def h256 : Hint:=(.s .z (.s .z (.s (.s .z (.b (.l [(5,.box (.st 0) []),(6,.v (.int .i64) [])] [5,6] [(2,[(5,.box (.st 0) [])])] (.s .z (.s (.j [5] [(0,[(5,.box (.st 0) [])])] .z) .z))))) .z)))
def sp256 : Spec fam:=⟨[.v (.st 10) [],.v (.int .i64) []],[.v (.st 0) []],fun a => hC a.1 a.2.1⟩
def eN (s : State) (id_ : Int) : Option Vec :=
 (bb s id_).bind fun x =>
 (
 bif ! x.2 then
  some true
 else
  some (! x.1.Up)).bind fun q =>
 bif q then
 some (⟨0,0⟩ : Vec)
 else
 (hC s id_).bind fun x1 =>
 (eQ x.1.Cap x1).bind fun x2 =>
 some x2
def h233 : Hint:=(.s .z (.s .z (.s (.s (.j [] [(0,[(19,.v .bool [])])] .z) .z) .z)))
def sp233 : Spec fam:=⟨[.v (.st 10) [],.v (.int .i64) []],[.v (.st 0) []],fun a => eN a.1 a.2.1⟩
def eL (s : State) (path : List UInt8) (label : Int) : Option Vec :=
 (eK s path label false).bind fun x =>
 some x
def h65 : Hint:=.z
def sp65 : Spec fam:=⟨[.v (.st 10) [],.v .str [],.v (.int .i64) []],[.v (.st 0) []],fun a => eL a.1 a.2.1 a.2.2.1⟩
def fw (s : State) (label : Int) (t : Vec × Int) : Option ((Vec × Int) ⊕ Vec) :=
 bif decide (t.2 < (s.Plans.length : Int)) then
 (
  (idx s.Plans t.2).bind fun x =>
  (
  bif x.Label == label then
   bif decide (x.From ≤ s.Now) then
   some (decide (s.Now < x.Until))
   else
   some false
  else
   some false).bind fun q =>
  bif q then
  (ax t.1 x.Need).bind fun x1 =>
  some x1
  else
  some t.1).bind fun v =>
 some (.inl (v,w64 (t.2 + 1)))
 else
 some (.inr t.1)
def gV (s : State) (label : Int) : Option Vec :=
 (loop (fw s label) ((⟨0,0⟩ : Vec),0)).bind fun v1 =>
 some v1
def h257 : Hint:=(.s .z (.s .z (.s (.s .z (.b (.l [(5,.box (.st 0) []),(6,.v (.int .i64) [])] [5,6,7,38] [(2,[(5,.box (.st 0) [])])] (.s .z (.s (.j [5,7,38] [(0,[(5,.box (.st 0) [])])] (.b (.s .z (.s (.j [] [(0,[(38,.v .bool [])])] .z) .z)))) .z))))) .z)))
def sp257 : Spec fam:=⟨[.v (.st 10) [],.v (.int .i64) []],[.v (.st 0) []],fun a => gV a.1 a.2.1⟩
def bW (s : State) (label : Int) (size : Vec) (up : List (List UInt8)) (i : Int) : Option (Int ⊕ (Bool ⊕ Unit)) :=
 bif decide (i < (up.length : Int)) then
 (inb i up.length).bind fun i1 =>
 (up[i1]?).bind fun x =>
 (aG s x label).bind fun x1 =>
 (ax x1 size).bind fun x2 =>
 (inb i up.length).bind fun i2 =>
 (up[i2]?).bind fun x3 =>
 (eL s x3 label).bind fun x4 =>
 (aL x2 x4).bind fun x5 =>
 bif ! x5 then
  some (.inr (.inl false))
 else
  (
  (inb i up.length).bind fun i3 =>
  (up[i3]?).bind fun x6 =>
  bif x6 == ([114,111,111,116] : List UInt8) then
   (aZ s label).bind fun x7 =>
   (gV s label).bind fun x8 =>
   (eQ x7 x8).bind fun x9 =>
   (aL x2 x9).bind fun x10 =>
   some (! x10)
  else
   some false).bind fun q =>
  bif q then
  some (.inr (.inl false))
  else
  some (.inl (w64 (i + 1)))
 else
 some (.inr (.inr ()))
def dO (s : State) (path : List UInt8) (label : Int) (size : Vec) : Option Bool :=
 (d9 path).bind fun up =>
 (loop (bW s label size up) 0).bind fun q0 =>
 match q0 with
 | .inl q1 =>
 some q1
 | .inr _ =>
 some true
def h234 : Hint:=(.s .z (.s .z (.s (.s .z (.b (.l [(10,.v (.int .i64) [])] [8,10,11,55] [(1,[(8,.v .bool [])]),(2,[])] (.s .z (.s (.b (.s .z (.s .z (.s (.j [] [(0,[(55,.v .bool [])])] .z) .z)))) .z))))) .z)))
def sp234 : Spec fam:=⟨[.v (.st 10) [],.v .str [],.v (.int .i64) [],.v (.st 0) []],[.v .bool []],fun a => dO a.1 a.2.1 a.2.2.1 a.2.2.2.1⟩
def fx (l : List Ask) (prio : Int) (t : List Ask × Bool × Int) : Option ((List Ask × Bool × Int) ⊕ ((List Ask × Bool))) :=
 bif decide (t.2.2 < (l.length : Int)) then
 (
  (idx l t.2.2).bind fun x =>
  (
  bif x.Prio == prio then
   bif decide ((w64 (x.Count - 1)) ≤ 0) then
   some (.inr true)
   else
   some (.inl (true,(⟨x.Prio,x.Label,⟨x.Size.Mem,x.Size.Cores⟩,w64 (x.Count - 1),x.Node,x.Rack,0⟩ : Ask)))
  else
   some (.inl (t.2.1,x)) : Option ((Bool × Ask) ⊕ Bool)).bind fun q0 =>
  match q0 with
  | .inl q =>
  (app 64 t.1 [q.2]).bind fun l1 =>
  some (l1,q.1)
  | .inr is =>
  some (t.1,is)).bind fun q1 =>
 some (.inl (q1.1,q1.2,w64 (t.2.2 + 1)))
 else
 some (.inr (t.1,t.2.1))
def hG (l : List Ask) (prio : Int) : Option (List Ask × Bool) :=
 (loop (fx l prio) ([],false,0)).bind fun q2 =>
 some (q2.1,q2.2)
def h258 : Hint:=(.s .z (.s .z (.s .z (.s (.s .z (.b (.l [(6,.v (.slice (.st 5)) [0]),(7,.v .bool []),(8,.v (.int .i64) [])] [6,7,8,9] [(2,[(6,.v (.slice (.st 5)) [0]),(7,.v .bool [])])] (.s .z (.s (.j [6,7,9] [(0,[(6,.v (.slice (.st 5)) [0]),(7,.v .bool [])])] (.b (.s .z (.s (.j [7,9] [(0,[(7,.v .bool []),(9,.box (.st 5) [])]),(3,[(7,.v .bool [])])] .z) .z)))) .z))))) .z))))
def sp258 : Spec fam:=⟨[.v (.slice (.st 5)) [],.v (.int .i64) []],[.v (.slice (.st 5)) [0],.v .bool []],fun a => hG a.1 a.2.1⟩
def di (s : State) (k : Int) : Option (Int ⊕ Int) :=
 (
 bif decide (k < (s.Conts.length : Int)) then
  (idx s.Conts k).bind fun x2 =>
  some (decide (x2.Id < (w64 ((shlK .i64 s.Epoch 20) + (w64 (s.Seq + 1))))))
 else
  some false).bind fun q =>
 bif q then
 some (.inl (w64 (k + 1)))
 else
 some (.inr k)
def db (s : State) (n : Node) (a : App) (x : Ask) : Option (State × Cont) :=
 (hG a.Asks x.Prio).bind fun x1 =>
 (
 bif a.State == 1 then
  some (⟨a.Id,2,a.Queue,a.User,a.Prio,⟨a.Master.Mem,a.Master.Cores⟩,[],s.Now,0,a.Grants,a.Kills,a.Told,a.Lost⟩ : App)
 else
  (app 8 [] a.Grants).bind fun l =>
  (app 8 l [w64 ((shlK .i64 s.Epoch 20) + (w64 (s.Seq + 1)))]).bind fun l1 =>
  some (⟨a.Id,a.State,a.Queue,a.User,a.Prio,⟨a.Master.Mem,a.Master.Cores⟩,x1.1,a.Seen,a.Beat,l1,a.Kills,a.Told,a.Lost⟩ : App)).bind fun a1 =>
 (loop (di s) 0).bind fun k1 =>
 (slc s.Conts 0 k1).bind fun l2 =>
 (app 72 [] l2).bind fun l3 =>
 (app 72 l3 [(⟨w64 ((shlK .i64 s.Epoch 20) + (w64 (s.Seq + 1))),a.Id,n.Id,⟨x.Size.Mem,x.Size.Cores⟩,x.Prio,n.Label,a.State == 1,0⟩ : Cont)]).bind fun l4 =>
 (slc s.Conts k1 (s.Conts.length : Int)).bind fun l5 =>
 (app 72 l4 l5).bind fun l6 =>
 (aI (⟨⟨s.Conf.Labels,s.Conf.Queues⟩,s.Nodes,s.Apps,l6,s.Slots,s.Plans,s.Now,s.Epoch,w64 (s.Seq + 1)⟩ : State) a1).bind fun x3 =>
 some (x3,(⟨w64 ((shlK .i64 s.Epoch 20) + (w64 (s.Seq + 1))),a.Id,n.Id,⟨x.Size.Mem,x.Size.Cores⟩,x.Prio,n.Label,a.State == 1,0⟩ : Cont))
def h235 : Hint:=(.s .z (.s .z (.s .z (.s .z (.s (.j [6] [(0,[(6,.box (.st 6) [7])])] .z) (.s .z (.s (.b (.l [(11,.v (.int .i64) [])] [11,78] [(2,[(11,.v (.int .i64) [])])] (.s (.s (.j [] [(0,[(78,.v .bool [])])] .z) .z) .z))) .z)))))))
def sp235 : Spec fam:=⟨[.v (.st 10) [],.v (.st 4) [],.v (.st 6) [],.v (.st 5) []],[.v (.st 10) [3],.v (.st 7) []],fun a => db a.1 a.2.1 a.2.2.1 a.2.2.2.1⟩
def gK (s : State) (n : Node) (x : Slot) : Option (State × Int × Cont × Bool) :=
 (aH s x.App).bind fun x1 =>
 (iz x1.1.Asks x.Prio).bind fun x2 =>
 (
 bif ! x1.2 then
  some true
 else
  (aM x1.1).bind fun x3 =>
  bif ! x3 then
  some true
  else
  bif ! x2.2 then
   some true
  else
   (bI x2.1 n).bind fun x4 =>
   bif ! x4 then
   some true
   else
   (aL x2.1.Size n.Cap).bind fun x5 =>
   bif ! x5 then
    some true
   else
    (eJ s x1.1.Queue x2.1).bind fun x6 =>
    bif ! x6 then
    some true
    else
    (dH s x1.1.Queue n.Label x1.1.User).bind fun x7 =>
    some (! x7)).bind fun q =>
 bif q then
 (bA s n.Id).bind fun x8 =>
 some (x8,0,(⟨0,0,0,⟨0,0⟩,0,0,false,0⟩ : Cont),false)
 else
 (
  (eN s n.Id).bind fun x9 =>
  (aL x2.1.Size x9).bind fun x10 =>
  bif ! x10 then
  some true
  else
  (dO s x1.1.Queue n.Label x2.1.Size).bind fun x11 =>
  some (! x11)).bind fun q1 =>
 bif q1 then
  some (s,3,(⟨0,0,0,⟨0,0⟩,0,0,false,0⟩ : Cont),true)
 else
  (bA s n.Id).bind fun x12 =>
  (db x12 n x1.1 x2.1).bind fun x13 =>
  some (x13.1,1,x13.2,true)
def h201 : Hint:=(.s .z (.s .z (.s .z (.s (.s (.j [] [(0,[(74,.v .bool [])])] .z) .z) (.s (.s (.j [] [(0,[(98,.v .bool [])])] .z) .z) .z)))))
def sp201 : Spec fam:=⟨[.v (.st 10) [],.v (.st 4) [],.v (.st 8) []],[.v (.st 10) [],.v (.int .i64) [],.v (.st 7) [],.v .bool []],fun a => gK a.1 a.2.1 a.2.2.1⟩
def jy (a : Int) (b : Int) : Option (Int × Int) :=
 let mid:=w64 ((w64 ((shrK .i64 a 25) * (andK .i64 b 33554431))) + (w64 ((andK .i64 a 33554431) * (shrK .i64 b 25))))
 let low:=w64 ((w64 ((andK .i64 a 33554431) * (andK .i64 b 33554431))) + (shlK .i64 (andK .i64 mid 33554431) 25))
 some (w64 ((w64 ((w64 ((shrK .i64 a 25) * (shrK .i64 b 25))) + (shrK .i64 mid 25))) + (shrK .i64 low 50)),andK .i64 low 1125899906842623)
def h275 : Hint:=.z
def sp275 : Spec fam:=⟨[.v (.int .i64) [],.v (.int .i64) []],[.v (.int .i64) [],.v (.int .i64) []],fun a => jy a.1 a.2.1⟩
def dB (x : Frac) (y : Frac) : Option Int :=
 (
 bif x.A == 0 then
  some (⟨x.A,1⟩ : Frac)
 else
  some x).bind fun x1 =>
 (
 bif y.A == 0 then
  some (⟨y.A,1⟩ : Frac)
 else
  some y).bind fun y1 =>
 (
 bif x1.P == 0 then
  some true
 else
  some (y1.P == 0)).bind fun q =>
 bif q then
 (
  bif x1.P == 0 then
  some (y1.P == 0)
  else
  some false).bind fun q1 =>
 bif q1 then
  some 0
 else
  bif x1.P == 0 then
  some 1
  else
  some (-1)
 else
 (jy x1.A y1.P).bind fun x2 =>
 (jy y1.A x1.P).bind fun x3 =>
 (
  bif decide (x2.1 < x3.1) then
  some true
  else
  bif x2.1 == x3.1 then
   some (decide (x2.2 < x3.2))
  else
   some false).bind fun q2 =>
 bif q2 then
  some (-1)
 else
  (
  bif x2.1 == x3.1 then
   some (x2.2 == x3.2)
  else
   some false).bind fun q3 =>
  bif q3 then
  some 0
  else
  some 1
def h273 : Hint:=(.s .z (.s (.j [2] [(0,[(2,.box (.st 14) [])])] .z) (.s (.j [3] [(0,[(3,.box (.st 14) [])])] .z) (.s (.s (.j [] [(0,[(24,.v .bool [])])] .z) (.c (.s (.b (.s (.j [] [(0,[(25,.v .bool [])])] .z) .z)) .z) .z)) (.s .z (.s .z (.s (.b (.s (.j [] [(0,[(54,.v .bool [])])] .z) (.c .z (.s (.j [] [(0,[(68,.v .bool [])])] .z) .z)))) .z)))))))
def sp273 : Spec fam:=⟨[.v (.st 14) [],.v (.st 14) []],[.v (.int .i64) []],fun a => dB a.1 a.2.1⟩
def eO (a : Vec) (p : Vec) : Option Frac :=
 (dB (⟨a.Mem,p.Mem⟩ : Frac) (⟨a.Cores,p.Cores⟩ : Frac)).bind fun x =>
 bif decide (x < 0) then
 some (⟨a.Cores,p.Cores⟩ : Frac)
 else
 some (⟨a.Mem,p.Mem⟩ : Frac)
def h274 : Hint:=.z
def sp274 : Spec fam:=⟨[.v (.st 0) [],.v (.st 0) []],[.v (.st 14) []],fun a => eO a.1 a.2.1⟩
def bV (a : Vec) (p : Vec) (b : Vec) (q : Vec) : Option Int :=
 (
 (bg a).bind fun x =>
 bif ! x then
  some true
 else
  (bg p).bind fun x1 =>
  bif ! x1 then
  some true
  else
  (bg b).bind fun x2 =>
  bif ! x2 then
   some true
  else
   (bg q).bind fun x3 =>
   some (! x3)).bind fun q1 =>
 bif q1 then
 some 0
 else
 (eO a p).bind fun x4 =>
 (eO b q).bind fun x5 =>
 (dB x4 x5).bind fun x6 =>
 some x6
def h272 : Hint:=(.s .z (.s (.s (.j [] [(0,[(26,.v .bool [])])] .z) .z) .z))
def sp272 : Spec fam:=⟨[.v (.st 0) [],.v (.st 0) [],.v (.st 0) [],.v (.st 0) []],[.v (.int .i64) []],fun a => bV a.1 a.2.1 a.2.2.1 a.2.2.2.1⟩
def fV (s : State) (a : List UInt8) (b : List UInt8) (label : Int) : Option Bool :=
 (aG s a label).bind fun x =>
 (a5 s a label).bind fun x1 =>
 (aG s b label).bind fun x2 =>
 (a5 s b label).bind fun x3 =>
 (bV x x1 x2 x3).bind fun o =>
 bif decide (o < 0) then
 some true
 else
 bif o == 0 then
  some (Op.bytesLess a b)
 else
  some false
def h270 : Hint:=.z
def sp270 : Spec fam:=⟨[.v (.st 10) [],.v .str [],.v .str [],.v (.int .i64) []],[.v .bool []],fun a => fV a.1 a.2.1 a.2.2.1 a.2.2.2.1⟩
def ei (s : State) (label : Int) (l : List (List UInt8)) (t : List (List UInt8) × Int) (k : Int) : Option (Int ⊕ Int) :=
 (
 bif decide (k < (t.1.length : Int)) then
  (inb t.2 l.length).bind fun i =>
  (l[i]?).bind fun x =>
  (inb k t.1.length).bind fun i1 =>
  (t.1[i1]?).bind fun x1 =>
  (fV s x x1 label).bind fun x2 =>
  some (! x2)
 else
  some false).bind fun q =>
 bif q then
 some (.inl (w64 (k + 1)))
 else
 some (.inr k)
def eh (s : State) (label : Int) (l : List (List UInt8)) (t : List (List UInt8) × Int) : Option ((List (List UInt8) × Int) ⊕ List (List UInt8)) :=
 bif decide (t.2 < (l.length : Int)) then
 (loop (ei s label l t) 0).bind fun k1 =>
 (inS 0 k1 t.1.length).bind fun p =>
 (app 16 [] (sub t.1 p.1 p.2)).bind fun l1 =>
 (inb t.2 l.length).bind fun i2 =>
 (l[i2]?).bind fun x3 =>
 (app 16 l1 [x3]).bind fun l2 =>
 (inS k1 (t.1.length : Int) t.1.length).bind fun p1 =>
 (app 16 l2 (sub t.1 p1.1 p1.2)).bind fun l3 =>
 some (.inl (l3,w64 (t.2 + 1)))
 else
 some (.inr t.1)
def gF (s : State) (path : List UInt8) (label : Int) : Option (List (List UInt8)) :=
 (bj s.Conf path).bind fun l =>
 (loop (eh s label l) ([],0)).bind fun out =>
 some out
def h268 : Hint:=(.s .z (.s .z (.s .z (.s (.s .z (.b (.l [(8,.v (.slice (.str)) [0]),(9,.v (.int .i64) [])] [8,9,10,39] [(2,[(8,.v (.slice (.str)) [0])])] (.s .z (.s (.b (.s .z (.s (.b (.l [(10,.v (.int .i64) [])] [10,39] [(4,[(10,.v (.int .i64) [])])] (.s (.s (.j [] [(0,[(39,.v .bool [])])] .z) .z) .z))) .z))) .z))))) .z))))
def sp268 : Spec fam:=⟨[.v (.st 10) [],.v .str [],.v (.int .i64) []],[.v (.slice (.str)) [0]],fun a => gF a.1 a.2.1 a.2.2.1⟩
def co (s : State) (label : Int) (self : State → (List UInt8) → Int → Option (List (List UInt8))) (l : List (List UInt8)) (t : List (List UInt8) × Int) : Option ((List (List UInt8) × Int) ⊕ List (List UInt8)) :=
 bif decide (t.2 < (l.length : Int)) then
 (inb t.2 l.length).bind fun i =>
 (l[i]?).bind fun x =>
 (self s x label).bind fun x1 =>
 (app 16 t.1 x1).bind fun l1 =>
 some (.inl (l1,w64 (t.2 + 1)))
 else
 some (.inr t.1)
def bQ (self : State → (List UInt8) → Int → Option (List (List UInt8))) (s : State) (path : List UInt8) (label : Int) : Option (List (List UInt8)) :=
 (gF s path label).bind fun l =>
 bif (l.length : Int) == 0 then
 some [path]
 else
 (loop (co s label self l) ([],0)).bind fun out =>
 some out
def a_ : Nat → State → (List UInt8) → Int → Option (List (List UInt8))
 | 0 => fun _ _ _ => none
 | n + 1 => bQ (a_ n)
def iv (a0 : State) (a1 : List UInt8) (a2 : Int) : Option (List (List UInt8)):=a_ 64 a0 a1 a2
def h259 : Hint:=(.s .z (.s .z (.s .z (.s .z (.s (.s .z (.b (.l [(8,.v (.slice (.str)) [0]),(9,.v (.int .i64) [])] [8,9] [(2,[(8,.v (.slice (.str)) [0])])] .z))) .z)))))
def sp259 : Spec fam:=⟨[.v (.st 10) [],.v .str [],.v (.int .i64) []],[.v (.slice (.str)) [0]],fun a => iv a.1 a.2.1 a.2.2.1⟩
def yF (n : Nat) : Spec fam:=⟨[.v (.st 10) [],.v .str [],.v (.int .i64) []],[.v (.slice (.str)) [0]],fun a => a_ n a.1 a.2.1 a.2.2.1⟩
def eZ (s : State) (label : Int) : Option (List (List UInt8)) :=
 (iv s ([114,111,111,116] : List UInt8) label).bind fun x =>
 some x
def h236 : Hint:=.z
def sp236 : Spec fam:=⟨[.v (.st 10) [],.v (.int .i64) []],[.v (.slice (.str)) [0]],fun a => eZ a.1 a.2.1⟩
def bY (out1 : List App) (t1 : List Int × Int) : Option ((List Int × Int) ⊕ List Int) :=
 bif decide (t1.2 < (out1.length : Int)) then
 (inb t1.2 out1.length).bind fun i1 =>
 (out1[i1]?).bind fun x3 =>
 (app 8 t1.1 [x3.Id]).bind fun l3 =>
 some (.inl (l3,w64 (t1.2 + 1)))
 else
 some (.inr t1.1)
def d_ (t : List App × Int) (x : App) (k : Int) : Option (Int ⊕ Int) :=
 (
 bif decide (k < (t.1.length : Int)) then
  (inb k t.1.length).bind fun i =>
  (t.1[i]?).bind fun x2 =>
  some (decide (x2.Prio ≥ x.Prio))
 else
  some false).bind fun q1 =>
 bif q1 then
 some (.inl (w64 (k + 1)))
 else
 some (.inr k)
def ek (s : State) (queue : List UInt8) (t : List App × Int) : Option ((List App × Int) ⊕ List App) :=
 bif decide (t.2 < (s.Apps.length : Int)) then
 (
  (idx s.Apps t.2).bind fun x =>
  (
  (aM x).bind fun x1 =>
  bif ! x1 then
   some true
  else
   some (! (x.Queue == queue))).bind fun q =>
  bif q then
  some t.1
  else
  (loop (d_ t x) 0).bind fun k1 =>
  (inS 0 k1 t.1.length).bind fun p =>
  (app 200 [] (sub t.1 p.1 p.2)).bind fun l =>
  (app 200 l [x]).bind fun l1 =>
  (inS k1 (t.1.length : Int) t.1.length).bind fun p1 =>
  (app 200 l1 (sub t.1 p1.1 p1.2)).bind fun l2 =>
  some l2).bind fun out =>
 some (.inl (out,w64 (t.2 + 1)))
 else
 some (.inr t.1)
def gG (s : State) (queue : List UInt8) : Option (List Int) :=
 (loop (ek s queue) ([],0)).bind fun out1 =>
 (loop (bY out1) ([],0)).bind fun l4 =>
 some l4
def h237 : Hint:=(.s .z (.s .z (.s (.s .z (.b (.l [(5,.v (.slice (.st 6)) [0]),(6,.v (.int .i64) [])] [5,6,7,8,9,32,46] [(2,[(5,.v (.slice (.st 6)) [0])])] (.s .z (.s (.j [5,7,8,9,32,46] [(0,[(5,.v (.slice (.st 6)) [0])])] (.b (.s .z (.s (.s (.j [] [(0,[(32,.v .bool [])])] .z) .z) (.s .z (.s (.b (.l [(8,.v (.int .i64) [])] [8,46] [(4,[(8,.v (.int .i64) [])])] (.s (.s (.j [] [(0,[(46,.v .bool [])])] .z) .z) .z))) .z)))))) .z))))) (.s .z (.s (.s .z (.b (.l [(10,.v (.slice (.int .i64)) [0]),(11,.v (.int .i64) [])] [10,11] [(6,[(10,.v (.slice (.int .i64)) [0])])] .z))) .z)))))
def sp237 : Spec fam:=⟨[.v (.st 10) [],.v .str []],[.v (.slice (.int .i64)) [0]],fun a => gG a.1 a.2.1⟩
def ft (prio : Int) (t : List Ask × Int) : Option ((List Ask × Int) ⊕ List Ask) :=
 bif decide (t.2 < (t.1.length : Int)) then
 (
  (inb t.2 t.1.length).bind fun i =>
  (t.1[i]?).bind fun x =>
  bif x.Prio == prio then
  (inb t.2 t.1.length).bind fun i1 =>
  (t.1[i1]?).bind fun x1 =>
  (inb t.2 t.1.length).bind fun i2 =>
  (t.1[i2]?).bind fun x2 =>
  some (List.set t.1 i2 (⟨x2.Prio,x2.Label,⟨x2.Size.Mem,x2.Size.Cores⟩,x2.Count,x2.Node,x2.Rack,imin (w64 (x1.Missed + 1)) 100⟩ : Ask))
  else
  some t.1).bind fun out =>
 some (.inl (out,w64 (t.2 + 1)))
 else
 some (.inr t.1)
def gW (l : List Ask) (prio : Int) : Option (List Ask) :=
 (app 64 [] l).bind fun l1 =>
 (loop (ft prio) (l1,0)).bind fun out1 =>
 some out1
def h260 : Hint:=(.s .z (.s .z (.s (.s .z (.b (.l [(5,.row (.st 5) false),(6,.v (.int .i64) [])] [5,6] [(2,[(5,.row (.st 5) false)])] (.s .z (.s (.j [5] [(0,[(5,.row (.st 5) false)])] .z) .z))))) .z)))
def sp260 : Spec fam:=⟨[.v (.slice (.st 5)) [],.v (.int .i64) []],[.v (.slice (.st 5)) [0]],fun a => gW a.1 a.2.1⟩
def bP (s : State) (app_ : Int) (prio : Int) (i : Int) : Option (Int ⊕ (Bool ⊕ Unit)) :=
 bif decide (i < (s.Slots.length : Int)) then
 (
  (idx s.Slots i).bind fun x =>
  bif x.App == app_ then
  (idx s.Slots i).bind fun x1 =>
  some (x1.Prio == prio)
  else
  some false).bind fun q =>
 bif q then
  some (.inr (.inl true))
 else
  some (.inl (w64 (i + 1)))
 else
 some (.inr (.inr ()))
def gc (s : State) (app_ : Int) (prio : Int) : Option Bool :=
 (loop (bP s app_ prio) 0).bind fun q0 =>
 match q0 with
 | .inl q1 =>
 some q1
 | .inr _ =>
 some false
def h261 : Hint:=(.s .z (.s (.s .z (.b (.l [(7,.v (.int .i64) [])] [6,7,32] [(1,[(6,.v .bool [])]),(2,[])] (.s .z (.s (.b (.s (.j [] [(0,[(32,.v .bool [])])] .z) .z)) .z))))) .z))
def sp261 : Spec fam:=⟨[.v (.st 10) [],.v (.int .i64) [],.v (.int .i64) []],[.v .bool []],fun a => gc a.1 a.2.1 a.2.2.1⟩
def dV (s : State) (x : Slot) (k : Int) : Option (Int ⊕ Int) :=
 (
 bif decide (k < (s.Slots.length : Int)) then
  (idx s.Slots k).bind fun x1 =>
  some (decide (x1.Node < x.Node))
 else
  some false).bind fun q =>
 bif q then
 some (.inl (w64 (k + 1)))
 else
 some (.inr k)
def gE (s : State) (x : Slot) : Option State :=
 (loop (dV s x) 0).bind fun k1 =>
 (slc s.Slots 0 k1).bind fun l =>
 (app 24 [] l).bind fun l1 =>
 (app 24 l1 [x]).bind fun l2 =>
 (slc s.Slots k1 (s.Slots.length : Int)).bind fun l3 =>
 (app 24 l2 l3).bind fun l4 =>
 some (⟨⟨s.Conf.Labels,s.Conf.Queues⟩,s.Nodes,s.Apps,s.Conts,l4,s.Plans,s.Now,s.Epoch,s.Seq⟩ : State)
def h262 : Hint:=(.s .z (.s .z (.s (.b (.l [(5,.v (.int .i64) [])] [5,22] [(2,[(5,.v (.int .i64) [])])] (.s (.s (.j [] [(0,[(22,.v .bool [])])] .z) .z) .z))) .z)))
def sp262 : Spec fam:=⟨[.v (.st 10) [],.v (.st 8) []],[.v (.st 10) [5]],fun a => gE a.1 a.2.1⟩
def g8 (s : State) (n : Node) (a : App) (x : Ask) (first : Bool) : Option (State × Int × Cont) :=
 (eJ s a.Queue x).bind fun is =>
 (
 (bk x n).bind fun x1 =>
 bif x1 == 4 then
  some true
 else
  (aL x.Size n.Cap).bind fun x2 =>
  bif ! x2 then
  some true
  else
  bif first then
   some (! is)
  else
   some false).bind fun q =>
 bif q then
 some (s,0,(⟨0,0,0,⟨0,0⟩,0,0,false,0⟩ : Cont))
 else
 (bI x n).bind fun x3 =>
 bif ! x3 then
  (
  bif first == is then
   (gW a.Asks x.Prio).bind fun x4 =>
   (aI s (⟨a.Id,a.State,a.Queue,a.User,a.Prio,⟨a.Master.Mem,a.Master.Cores⟩,x4,a.Seen,a.Beat,a.Grants,a.Kills,a.Told,a.Lost⟩ : App)).bind fun x5 =>
   some x5
  else
   some s).bind fun s1 =>
  some (s1,0,(⟨0,0,0,⟨0,0⟩,0,0,false,0⟩ : Cont))
 else
  (dO s a.Queue n.Label x.Size).bind fun x6 =>
  bif ! x6 then
  some (s,0,(⟨0,0,0,⟨0,0⟩,0,0,false,0⟩ : Cont))
  else
  (eN s n.Id).bind fun x7 =>
  (aL x.Size x7).bind fun x8 =>
  bif x8 then
   (db s n a x).bind fun x9 =>
   some (x9.1,1,x9.2)
  else
   (
   bif first then
    (gc s a.Id x.Prio).bind fun x10 =>
    some (! x10)
   else
    some false).bind fun q1 =>
   bif q1 then
   (gE s (⟨n.Id,a.Id,x.Prio⟩ : Slot)).bind fun x11 =>
   some (x11,2,(⟨0,0,0,⟨0,0⟩,0,0,false,0⟩ : Cont))
   else
   some (s,0,(⟨0,0,0,⟨0,0⟩,0,0,false,0⟩ : Cont))
def h238 : Hint:=(.s .z (.s .z (.s (.s (.j [] [(0,[(39,.v .bool [])])] .z) .z) (.s (.s .z (.c (.s (.j [5,7] [(0,[(5,.box (.st 10) [])])] .z) .z) .z)) (.s .z (.s .z (.s (.s (.j [] [(0,[(97,.v .bool [])])] .z) .z) .z)))))))
def sp238 : Spec fam:=⟨[.v (.st 10) [],.v (.st 4) [],.v (.st 6) [],.v (.st 5) [],.v .bool []],[.v (.st 10) [],.v (.int .i64) [],.v (.st 7) []],fun a => g8 a.1 a.2.1 a.2.2.1 a.2.2.2.1 a.2.2.2.2.1⟩
def bO (n : Node) (first : Bool) (ids : List Int) (t1 : State × State × Cont × Int) (x2 : App × Bool) (t2 : State × State × Cont × Int) : Option ((State × State × Cont × Int) ⊕ ((State × Int × Cont) ⊕ (State × State × Cont))) :=
 bif decide (t2.2.2.2 < (x2.1.Asks.length : Int)) then
 (inb t1.2.2.2 ids.length).bind fun i3 =>
 (ids[i3]?).bind fun x5 =>
 (aH t2.1 x5).bind fun x6 =>
 (idx x2.1.Asks t2.2.2.2).bind fun x7 =>
 (g8 t2.1 n x6.1 x7 first).bind fun x8 =>
 bif x8.2.1 != 0 then
  some (.inr (.inl (x8.1,x8.2.1,x8.2.2)))
 else
  some (.inl (x8.1,t2.2.1,t2.2.2.1,w64 (t2.2.2.2 + 1)))
 else
 some (.inr (.inr (t2.1,t2.2.1,t2.2.2.1)))
def bS (n : Node) (first : Bool) (leaves : List (List UInt8)) (t : State × State × Cont × Int) (ids : List Int) (t1 : State × State × Cont × Int) : Option ((State × State × Cont × Int) ⊕ ((State × Int × Cont) ⊕ (State × State × Cont))) :=
 bif decide (t1.2.2.2 < (ids.length : Int)) then
 (
  (inb t1.2.2.2 ids.length).bind fun i1 =>
  (ids[i1]?).bind fun x1 =>
  (aH t1.1 x1).bind fun x2 =>
  (inb t.2.2.2 leaves.length).bind fun i2 =>
  (leaves[i2]?).bind fun x3 =>
  (dH t1.1 x3 n.Label x2.1.User).bind fun x4 =>
  bif ! x4 then
  some (.inl (t1.1,t1.2.1,t1.2.2.1))
  else
  (loop (bO n first ids t1 x2) (t1.1,t1.2.1,t1.2.2.1,0)).bind fun q0 =>
  match q0 with
  | .inl q =>
   some (.inr (q.1,q.2.1,q.2.2))
  | .inr q1 =>
   some (.inl (q1.1,q1.2.1,q1.2.2)) : Option ((State × State × Cont) ⊕ (State × Int × Cont))).bind fun q0 =>
 match q0 with
 | .inl q2 =>
  some (.inl (q2.1,q2.2.1,q2.2.2,w64 (t1.2.2.2 + 1)))
 | .inr q3 =>
  some (.inr (.inl (q3.1,q3.2.1,q3.2.2)))
 else
 some (.inr (.inr (t1.1,t1.2.1,t1.2.2.1)))
def dz (n : Node) (first : Bool) (leaves : List (List UInt8)) (t : State × State × Cont × Int) : Option ((State × State × Cont × Int) ⊕ ((State × Int × Cont) ⊕ (State × State × Cont))) :=
 bif decide (t.2.2.2 < (leaves.length : Int)) then
 (inb t.2.2.2 leaves.length).bind fun i =>
 (leaves[i]?).bind fun x =>
 (gG t.1 x).bind fun ids =>
 (loop (bS n first leaves t ids) (t.1,t.2.1,t.2.2.1,0)).bind fun q0 =>
 match q0 with
 | .inl q4 =>
  some (.inr (.inl (q4.1,q4.2.1,q4.2.2)))
 | .inr q5 =>
  some (.inl (q5.1,q5.2.1,q5.2.2,w64 (t.2.2.2 + 1)))
 else
 some (.inr (.inr (t.1,t.2.1,t.2.2.1)))
def c8 (s : State) (n : Node) (first : Bool) : Option (State × Int × Cont) :=
 (eZ s n.Label).bind fun leaves =>
 (loop (dz n first leaves) (s,(⟨⟨[],[]⟩,[],[],[],[],[],0,0,0⟩ : State),(⟨0,0,0,⟨0,0⟩,0,0,false,0⟩ : Cont),0)).bind fun q0 =>
 match q0 with
 | .inl q6 =>
 some (q6.1,q6.2.1,q6.2.2)
 | .inr q7 =>
 some (q7.1,0,(⟨0,0,0,⟨0,0⟩,0,0,false,0⟩ : Cont))
def h202 : Hint:=(.s .z (.s .z (.s (.s .z (.b (.l [(3,.box (.st 10) []),(6,.box (.st 10) [0,1,2,3,4,5,6]),(8,.box (.st 7) []),(10,.v (.int .i64) [])] [3,6,7,8,10,11,12,13,14,15,16,17,18,19,20] [(1,[(6,.box (.st 10) []),(7,.v (.int .i64) []),(8,.box (.st 7) [])]),(2,[(3,.box (.st 10) []),(6,.box (.st 10) [0,1,2,3,4,5,6]),(8,.box (.st 7) [])])] (.s .z (.s (.b (.s .z (.s .z (.b (.l [(3,.box (.st 10) []),(6,.box (.st 10) [0,1,2,3,4,5,6]),(8,.box (.st 7) []),(12,.v (.int .i64) [])] [3,6,7,8,12,13,14,15,16,17,18,19,20] [(1,[(6,.box (.st 10) []),(7,.v (.int .i64) []),(8,.box (.st 7) [])]),(4,[(3,.box (.st 10) []),(6,.box (.st 10) [0,1,2,3,4,5,6]),(8,.box (.st 7) [])])] (.s .z (.s (.j [3,6,7,8,13,14,15,16,17,18,19,20] [(0,[(3,.box (.st 10) []),(6,.box (.st 10) [0,1,2,3,4,5,6]),(8,.box (.st 7) [])]),(1,[(6,.box (.st 10) []),(7,.v (.int .i64) []),(8,.box (.st 7) [])])] (.b (.s .z (.s .z (.s .z (.b (.l [(3,.box (.st 10) []),(6,.box (.st 10) [0,1,2,3,4,5,6]),(8,.box (.st 7) []),(15,.v (.int .i64) [])] [3,6,7,8,15,16,17,18,19,20] [(1,[(6,.box (.st 10) []),(7,.v (.int .i64) []),(8,.box (.st 7) [])]),(6,[(3,.box (.st 10) []),(6,.box (.st 10) [0,1,2,3,4,5,6]),(8,.box (.st 7) [])])] .z))))))) .z))))))) .z))))) .z)))
def sp202 : Spec fam:=⟨[.v (.st 10) [],.v (.st 4) [],.v .bool []],[.v (.st 10) [],.v (.int .i64) [],.v (.st 7) []],fun a => c8 a.1 a.2.1 a.2.2.1⟩
def gY (s : State) (node : Int) : Option (State × Int × Cont) :=
 (bb s node).bind fun x =>
 (
 bif ! x.2 then
  some true
 else
  bif ! x.1.Up then
  some true
  else
  bif decide ((s.Conts.length : Int) ≥ 200) then
   some true
  else
   some (decide (s.Seq ≥ 1048575))).bind fun q =>
 bif q then
 some (s,0,(⟨0,0,0,⟨0,0⟩,0,0,false,0⟩ : Cont))
 else
 (gM s node).bind fun x1 =>
 (
  bif x1.2 then
  (gK s x.1 x1.1).bind fun x2 =>
  bif x2.2.2.2 then
   some (.inr (x2.1,x2.2.1,x2.2.2.1))
  else
   some (.inl (x2.1,(⟨⟨[],[]⟩,[],[],[],[],[],0,0,0⟩ : State),(⟨0,0,0,⟨0,0⟩,0,0,false,0⟩ : Cont)))
  else
  some (.inl (s,(⟨⟨[],[]⟩,[],[],[],[],[],0,0,0⟩ : State),(⟨0,0,0,⟨0,0⟩,0,0,false,0⟩ : Cont))) : Option ((State × State × Cont) ⊕ (State × Int × Cont))).bind fun q0 =>
 match q0 with
 | .inl q1 =>
  (c8 q1.1 x.1 true).bind fun x3 =>
  bif x3.2.1 != 0 then
  some (x3.1,x3.2.1,x3.2.2)
  else
  (c8 x3.1 x.1 false).bind fun x4 =>
  some (x4.1,x4.2.1,x4.2.2)
 | .inr q2 =>
  some (q2.1,q2.2.1,q2.2.2)
def h151 : Hint:=(.s .z (.s .z (.s (.s (.j [] [(0,[(40,.v .bool [])])] .z) .z) (.s .z (.s (.j [2,4,5,6,11,12,13,14] [(0,[(2,.box (.st 10) []),(4,.box (.st 10) [0,1,2,3,4,5,6]),(6,.box (.st 7) [])]),(1,[(4,.box (.st 10) []),(5,.v (.int .i64) []),(6,.box (.st 7) [])])] .z) .z)))))
def sp151 : Spec fam:=⟨[.v (.st 10) [],.v (.int .i64) []],[.v (.st 10) [],.v (.int .i64) [],.v (.st 7) []],fun a => gY a.1 a.2.1⟩
def eg (node : Int) (t : State × List Cont × Int) : Option ((State × List Cont × Int) ⊕ ((State × List Cont))) :=
 bif decide (t.2.2 < 3) then
 (gY t.1 node).bind fun x =>
 bif x.2.1 != 1 then
  some (.inr (x.1,t.2.1))
 else
  (app 72 t.2.1 [x.2.2]).bind fun l =>
  some (.inl (x.1,l,w64 (t.2.2 + 1)))
 else
 some (.inr (t.1,t.2.1))
def gn (s : State) (node : Int) : Option (State × List Cont) :=
 (loop (eg node) (s,[],0)).bind fun q =>
 some (q.1,q.2)
def h95 : Hint:=(.s .z (.s .z (.s (.s .z (.b (.l [(2,.box (.st 10) []),(6,.v (.slice (.st 7)) [0]),(7,.v (.int .i64) [])] [2,6,7,8,9,10] [(2,[(2,.box (.st 10) []),(6,.v (.slice (.st 7)) [0])])] .z))) .z)))
def sp95 : Spec fam:=⟨[.v (.st 10) [],.v (.int .i64) []],[.v (.st 10) [],.v (.slice (.st 7)) [0]],fun a => gn a.1 a.2.1⟩
def eo (x : Input) (x3 : State × Int) (t : List Int × Int) : Option ((List Int × Int) ⊕ List Int) :=
 bif decide (t.2 < (x.Ids.length : Int)) then
 (
  (idx x.Ids t.2).bind fun x5 =>
  (aS x3.1 x5).bind fun x6 =>
  (
  bif x6.2 then
   some (x6.1.Node == x.Id)
  else
   some false).bind fun q1 =>
  bif q1 then
  (app 8 t.1 [x6.1.Id]).bind fun l =>
  some l
  else
  some t.1).bind fun ids =>
 some (.inl (ids,w64 (t.2 + 1)))
 else
 some (.inr t.1)
def gj (s : State) (x : Input) : Option (State × Output) :=
 (bb s x.Id).bind fun x1 =>
 (
 bif x1.2 then
  bif x1.1.Up then
  some (x1.1.Beat == x.Beat)
  else
  some false
 else
  some false).bind fun q =>
 bif q then
 (df s x.Id).bind fun x2 =>
 some (s,(⟨0,[],x2,[],0⟩ : Output))
 else
 (gZ s x.Id x.Beat).bind fun x3 =>
 bif x3.2 != 0 then
  (aB s x3.2).bind fun x4 =>
  some (x4.1,x4.2)
 else
  (loop (eo x x3) ([],0)).bind fun ids1 =>
  (bw x3.1 ids1).bind fun x7 =>
  (gn x7 x.Id).bind fun x8 =>
  (df x8.1 x.Id).bind fun x9 =>
  some (x8.1,(⟨0,[],x9,[],0⟩ : Output))
def h43 : Hint:=(.s .z (.s .z (.s (.s (.j [] [(0,[(32,.v .bool [])])] .z) .z) (.s .z (.s .z (.s .z (.s (.s .z (.b (.l [(10,.v (.slice (.int .i64)) [0]),(11,.v (.int .i64) [])] [10,11,12,79] [(2,[(10,.v (.slice (.int .i64)) [0])])] (.s .z (.s (.j [10,12,79] [(0,[(10,.v (.slice (.int .i64)) [0])])] (.b (.s .z (.s (.j [] [(0,[(79,.v .bool [])])] .z) .z)))) .z))))) .z)))))))
def sp43 : Spec fam:=⟨[.v (.st 10) [],.v (.st 15) []],[.v (.st 10) [],.v (.st 13) [1,2,3]],fun a => gj a.1 a.2.1⟩
def dP (n : Int) : Option Bool :=
 bif decide (n ≥ 1) then
 some (decide (n ≤ 1073741824))
 else
 some false
def h96 : Hint:=.z
def sp96 : Spec fam:=⟨[.v (.int .i64) []],[.v .bool []],fun a => dP a.1⟩
def cW (s : State) (t : List App × Bool × Int) : Option ((List App × Bool × Int) ⊕ List App) :=
 bif decide (t.2.2 < (s.Apps.length : Int)) then
 (
  (
  bif ! t.2.1 then
   (idx s.Apps t.2.2).bind fun x =>
   (aM x).bind fun x1 =>
   some (! x1)
  else
   some false).bind fun q =>
  bif q then
  some (t.1,true)
  else
  (idx s.Apps t.2.2).bind fun x2 =>
  (app 200 t.1 [x2]).bind fun l =>
  some (l,t.2.1)).bind fun q1 =>
 some (.inl (q1.1,q1.2,w64 (t.2.2 + 1)))
 else
 some (.inr t.1)
def fb (s : State) : Option State :=
 (loop (cW s) ([],false,0)).bind fun l1 =>
 some (⟨⟨s.Conf.Labels,s.Conf.Queues⟩,s.Nodes,l1,s.Conts,s.Slots,s.Plans,s.Now,s.Epoch,s.Seq⟩ : State)
def h97 : Hint:=(.s .z (.s .z (.s .z (.s (.s .z (.b (.l [(3,.v (.slice (.st 6)) [0]),(4,.v .bool []),(5,.v (.int .i64) [])] [3,4,5,23] [(2,[(3,.v (.slice (.st 6)) [0])])] (.s .z (.s (.j [3,4,23] [(0,[(3,.v (.slice (.st 6)) [0]),(4,.v .bool [])])] (.b (.s (.s (.j [] [(0,[(23,.v .bool [])])] .z) .z) .z))) .z))))) .z))))
def sp97 : Spec fam:=⟨[.v (.st 10) []],[.v (.st 10) [3]],fun a => fb a.1⟩
def bD (s : State) (t : Int × Int) : Option ((Int × Int) ⊕ Int) :=
 bif decide (t.2 < (s.Apps.length : Int)) then
 (
  (idx s.Apps t.2).bind fun x3 =>
  (aM x3).bind fun x4 =>
  bif x4 then
  some (w64 (t.1 + 1))
  else
  some t.1).bind fun live =>
 some (.inl (live,w64 (t.2 + 1)))
 else
 some (.inr t.1)
def fd (s : State) (a : App) : Option (State × Int) :=
 (
 bif decide (a.Id < 0) then
  some true
 else
  bif decide (a.Id > 9999) then
  some true
  else
  bif decide (a.User < 0) then
   some true
  else
   bif decide (a.User > 99) then
   some true
   else
   bif decide (a.Prio < 0) then
    some true
   else
    bif decide (a.Prio > 9) then
    some true
    else
    (dP a.Master.Mem).bind fun x =>
    bif ! x then
     some true
    else
     (dP a.Master.Cores).bind fun x1 =>
     some (! x1)).bind fun q =>
 bif q then
 some (s,1)
 else
 (aH s a.Id).bind fun x2 =>
 bif x2.2 then
  some (s,7)
 else
  (loop (bD s) (0,0)).bind fun live1 =>
  bif decide (live1 ≥ 16) then
  some (s,4)
  else
  (cI s.Conf a.Queue).bind fun x5 =>
  bif ! x5 then
   some (s,19)
  else
   (
   bif decide ((s.Apps.length : Int) ≥ 16) then
    (fb s).bind fun x6 =>
    some x6
   else
    some s).bind fun s1 =>
   (f_ a).bind fun x7 =>
   (aI s1 (⟨a.Id,1,a.Queue,a.User,a.Prio,⟨a.Master.Mem,a.Master.Cores⟩,x7,s1.Now,0,[],[],[],[]⟩ : App)).bind fun x8 =>
   some (x8,0)
def h44 : Hint:=(.s .z (.s (.s (.j [] [(0,[(51,.v .bool [])])] .z) .z) (.s .z (.s .z (.s .z (.s (.s .z (.b (.l [(8,.v (.int .i64) []),(9,.v (.int .i64) [])] [8,9] [(2,[(8,.v (.int .i64) [])])] (.s .z (.s (.j [8] [(0,[(8,.v (.int .i64) [])])] .z) .z))))) (.s .z (.s .z (.s (.j [2] [(0,[(2,.box (.st 10) [])])] .z) .z)))))))))
def sp44 : Spec fam:=⟨[.v (.st 10) [],.v (.st 6) []],[.v (.st 10) [],.v (.int .i64) []],fun a => fd a.1 a.2.1⟩
def dq (s : State) (ids : List Int) (t : List Cont × Int) : Option ((List Cont × Int) ⊕ List Cont) :=
 bif decide (t.2 < (ids.length : Int)) then
 (
  (idx ids t.2).bind fun x =>
  (aS s x).bind fun x1 =>
  bif x1.2 then
  (app 72 t.1 [x1.1]).bind fun l =>
  some l
  else
  some t.1).bind fun l1 =>
 some (.inl (l1,w64 (t.2 + 1)))
 else
 some (.inr t.1)
def da (s : State) (ids : List Int) : Option (List Cont) :=
 (loop (dq s ids) ([],0)).bind fun l2 =>
 some l2
def h100 : Hint:=(.s .z (.s .z (.s (.s .z (.b (.l [(5,.v (.slice (.st 7)) [0]),(6,.v (.int .i64) [])] [5,6,7] [(2,[(5,.v (.slice (.st 7)) [0])])] (.s .z (.s (.j [5,7] [(0,[(5,.v (.slice (.st 7)) [0])])] .z) .z))))) .z)))
def sp100 : Spec fam:=⟨[.v (.st 10) [],.v (.slice (.int .i64)) []],[.v (.slice (.st 7)) [0]],fun a => da a.1 a.2.1⟩
def ct (s : State) (app_ : Int) (t : List Int × Int) : Option ((List Int × Int) ⊕ List Int) :=
 bif decide (t.2 < (s.Conts.length : Int)) then
 (
  (
  (idx s.Conts t.2).bind fun x =>
  bif x.App == app_ then
   (idx s.Conts t.2).bind fun x1 =>
   some (x1.Notice != 0)
  else
   some false).bind fun q =>
  bif q then
  (idx s.Conts t.2).bind fun x2 =>
  (app 8 t.1 [x2.Id]).bind fun l =>
  some l
  else
  some t.1).bind fun l1 =>
 some (.inl (l1,w64 (t.2 + 1)))
 else
 some (.inr t.1)
def ca (s : State) (app_ : Int) : Option (List Int) :=
 (loop (ct s app_) ([],0)).bind fun l2 =>
 some l2
def h101 : Hint:=(.s .z (.s .z (.s (.s .z (.b (.l [(5,.v (.slice (.int .i64)) [0]),(6,.v (.int .i64) [])] [5,6,30] [(2,[(5,.v (.slice (.int .i64)) [0])])] (.s .z (.s (.j [5,30] [(0,[(5,.v (.slice (.int .i64)) [0])])] (.b (.s (.j [] [(0,[(30,.v .bool [])])] .z) .z))) .z))))) .z)))
def sp101 : Spec fam:=⟨[.v (.st 10) [],.v (.int .i64) []],[.v (.slice (.int .i64)) [0]],fun a => ca a.1 a.2.1⟩
def g7 (n : Int) : Option Bool :=
 bif decide (n ≥ 1) then
 some (decide (n ≤ 1073741824))
 else
 some false
def h203 : Hint:=.z
def sp203 : Spec fam:=⟨[.v (.int .i64) []],[.v .bool []],fun a => g7 a.1⟩
def gp (a : Ask) (labels : Int) : Option Int :=
 (
 bif decide (a.Prio < 0) then
  some true
 else
  bif decide (a.Prio > 9) then
  some true
  else
  bif decide (a.Label < 0) then
   some true
  else
   bif decide (a.Label ≥ labels) then
   some true
   else
   (g7 a.Size.Mem).bind fun x =>
   bif ! x then
    some true
   else
    (g7 a.Size.Cores).bind fun x1 =>
    bif ! x1 then
    some true
    else
    bif decide (a.Node < (-1)) then
     some true
    else
     bif decide (a.Node > 999) then
     some true
     else
     bif decide (a.Rack < (-1)) then
      some true
     else
      bif decide (a.Rack > 99) then
      some true
      else
      bif decide (a.Node ≥ 0) then
       some (decide (a.Rack < 0))
      else
       some false).bind fun q =>
 bif q then
 some 1
 else
 (
  bif decide (a.Count < 0) then
  some true
  else
  some (decide (a.Count > 50))).bind fun q1 =>
 bif q1 then
  some 4
 else
  some 0
def h152 : Hint:=(.s .z (.s (.s (.j [] [(0,[(67,.v .bool [])])] .z) .z) (.s (.s (.j [] [(0,[(75,.v .bool [])])] .z) .z) .z)))
def sp152 : Spec fam:=⟨[.v (.st 5) [],.v (.int .i64) []],[.v (.int .i64) []],fun a => gp a.1 a.2.1⟩
def fU (l : List Ask) (a : Ask) (t : List Ask × Bool × Int) : Option ((List Ask × Bool × Int) ⊕ ((List Ask × Bool))) :=
 bif decide (t.2.2 < (l.length : Int)) then
 (
  (
  (
   bif ! t.2.1 then
   (idx l t.2.2).bind fun x =>
   some (decide (x.Prio > a.Prio))
   else
   some false).bind fun q =>
  bif q then
   (app 64 t.1 [(⟨a.Prio,a.Label,⟨a.Size.Mem,a.Size.Cores⟩,a.Count,a.Node,a.Rack,0⟩ : Ask)]).bind fun l1 =>
   some (l1,true)
  else
   some (t.1,t.2.1)).bind fun q1 =>
  (idx l t.2.2).bind fun x1 =>
  bif x1.Prio != a.Prio then
  (idx l t.2.2).bind fun x2 =>
  (app 64 q1.1 [x2]).bind fun l2 =>
  some (l2,q1.2)
  else
  some (q1.1,q1.2)).bind fun q2 =>
 some (.inl (q2.1,q2.2,w64 (t.2.2 + 1)))
 else
 some (.inr (t.1,t.2.1))
def iE (l : List Ask) (a : Ask) : Option (List Ask × Int) :=
 (loop (fU l a) ([],a.Count == 0,0)).bind fun q3 =>
 (
 bif ! q3.2 then
  (app 64 q3.1 [(⟨a.Prio,a.Label,⟨a.Size.Mem,a.Size.Cores⟩,a.Count,a.Node,a.Rack,0⟩ : Ask)]).bind fun l3 =>
  some l3
 else
  some q3.1).bind fun out =>
 bif decide ((out.length : Int) > 8) then
 some ([],4)
 else
 some (out,0)
def h153 : Hint:=(.s .z (.s .z (.s .z (.s .z (.s (.s .z (.b (.l [(6,.v (.slice (.st 5)) [0]),(7,.v .bool []),(8,.v (.int .i64) [])] [6,7,8,30] [(2,[(6,.v (.slice (.st 5)) [0]),(7,.v .bool [])])] (.s .z (.s (.j [6,7,30] [(0,[(6,.v (.slice (.st 5)) [0]),(7,.v .bool [])])] (.b (.s (.j [6,7,30] [(0,[(6,.v (.slice (.st 5)) [0]),(7,.v .bool [])])] (.s (.j [] [(0,[(30,.v .bool [])])] .z) .z)) .z))) .z))))) (.s (.j [6] [(0,[(6,.v (.slice (.st 5)) [0])])] .z) .z))))))
def sp153 : Spec fam:=⟨[.v (.slice (.st 5)) [],.v (.st 5) []],[.v (.slice (.st 5)) [0],.v (.int .i64) []],fun a => iE a.1 a.2.1⟩
def dv (s : State) (more : List Ask) (t : List Ask × Int) : Option ((List Ask × Int) ⊕ ((List Ask × Int) ⊕ List Ask)) :=
 bif decide (t.2 < (more.length : Int)) then
 (idx more t.2).bind fun x =>
 (gp x (s.Conf.Labels.length : Int)).bind fun e =>
 bif e != 0 then
  some (.inr (.inl ([],e)))
 else
  (idx more t.2).bind fun x1 =>
  (iE t.1 x1).bind fun x2 =>
  bif x2.2 != 0 then
  some (.inr (.inl ([],x2.2)))
  else
  some (.inl (x2.1,w64 (t.2 + 1)))
 else
 some (.inr (.inr (t.1)))
def gd (s : State) (l : List Ask) (more : List Ask) : Option (List Ask × Int) :=
 (loop (dv s more) (l,0)).bind fun q0 =>
 match q0 with
 | .inl q =>
 some (q.1,q.2)
 | .inr l1 =>
 some (l1,0)
def h102 : Hint:=(.s .z (.s (.s .z (.b (.l [(1,.v (.slice (.st 5)) []),(8,.v (.int .i64) [])] [1,6,7,8,9] [(1,[(6,.v (.slice (.st 5)) [0]),(7,.v (.int .i64) [])]),(2,[(1,.v (.slice (.st 5)) [])])] .z))) .z))
def sp102 : Spec fam:=⟨[.v (.st 10) [],.v (.slice (.st 5)) [],.v (.slice (.st 5)) []],[.v (.slice (.st 5)) [],.v (.int .i64) []],fun a => gd a.1 a.2.1 a.2.2.1⟩
def cP (x : Input) (t : State × App × Int) : Option ((State × App × Int) ⊕ ((State × App))) :=
 bif decide (t.2.2 < (x.Ids.length : Int)) then
 (
  (idx x.Ids t.2.2).bind fun x10 =>
  (aS t.1 x10).bind fun x11 =>
  (
  bif x11.2 then
   bif x11.1.App == t.2.1.Id then
   some (! x11.1.Master)
   else
   some false
  else
   some false).bind fun q =>
  bif q then
  (b7 t.1 x11.1.Id).bind fun x12 =>
  (bo t.2.1.Grants x11.1.Id).bind fun x13 =>
  some (x12,(⟨t.2.1.Id,t.2.1.State,t.2.1.Queue,t.2.1.User,t.2.1.Prio,⟨t.2.1.Master.Mem,t.2.1.Master.Cores⟩,t.2.1.Asks,t.2.1.Seen,t.2.1.Beat,x13.1,t.2.1.Kills,t.2.1.Told,t.2.1.Lost⟩ : App))
  else
  some (t.1,t.2.1)).bind fun q1 =>
 some (.inl (q1.1,q1.2,w64 (t.2.2 + 1)))
 else
 some (.inr (t.1,t.2.1))
def fa (s : State) (x : Input) : Option (State × Output) :=
 (aH s x.Id).bind fun x1 =>
 bif ! x1.2 then
 (aB s 2).bind fun x2 =>
 some (x2.1,x2.2)
 else
 bif x1.1.State != 2 then
  (aB s 14).bind fun x3 =>
  some (x3.1,x3.2)
 else
  bif decide (x.Beat < x1.1.Beat) then
  (aB s 15).bind fun x4 =>
  some (x4.1,x4.2)
  else
  bif x.Beat == x1.1.Beat then
   (da s x1.1.Told).bind fun x5 =>
   (ca s x1.1.Id).bind fun x6 =>
   (app 8 [] x1.1.Lost).bind fun l =>
   some (s,(⟨0,x5,x6,l,0⟩ : Output))
  else
   bif decide ((w64 (x.Beat - 1)) > x1.1.Beat) then
   (aB s 1).bind fun x7 =>
   some (x7.1,x7.2)
   else
   (gd s x1.1.Asks x.Asks).bind fun x8 =>
   bif x8.2 != 0 then
    (aB s x8.2).bind fun x9 =>
    some (x9.1,x9.2)
   else
    (loop (cP x) (s,x1.1,0)).bind fun q2 =>
    (da q2.1 q2.2.Grants).bind fun x14 =>
    (ca q2.1 q2.2.Id).bind fun x15 =>
    (app 8 [] q2.2.Kills).bind fun l1 =>
    (aI q2.1 (⟨q2.2.Id,q2.2.State,q2.2.Queue,q2.2.User,q2.2.Prio,⟨q2.2.Master.Mem,q2.2.Master.Cores⟩,x8.1,q2.1.Now,x.Beat,[],[],q2.2.Grants,q2.2.Kills⟩ : App)).bind fun x16 =>
    some (x16,(⟨0,x14,x15,l1,0⟩ : Output))
def h45 : Hint:=(.s .z (.s .z (.s .z (.s .z (.s .z (.s (.s .z (.b (.l [(2,.box (.st 10) []),(6,.box (.st 6) []),(10,.v (.int .i64) [])] [2,6,10,11,12,122] [(3,[(2,.box (.st 10) []),(6,.box (.st 6) [])])] (.s .z (.s (.j [2,6,11,12,122] [(0,[(2,.box (.st 10) []),(6,.box (.st 6) [])])] (.b (.s .z (.s (.j [] [(0,[(122,.v .bool [])])] .z) .z)))) .z))))) .z))))))
def sp45 : Spec fam:=⟨[.v (.st 10) [],.v (.st 15) []],[.v (.st 10) [],.v (.st 13) [1,2,3]],fun a => fa a.1 a.2.1⟩
def hS (s : State) (id_ : Int) (state : Int) : Option (State × List Int) :=
 (aH s id_).bind fun x =>
 (
 bif ! x.2 then
  some true
 else
  (aM x.1).bind fun x1 =>
  some (! x1)).bind fun q =>
 bif q then
 some (s,[])
 else
 (aI s (⟨x.1.Id,state,x.1.Queue,x.1.User,x.1.Prio,⟨x.1.Master.Mem,x.1.Master.Cores⟩,[],x.1.Seen,x.1.Beat,[],[],[],[]⟩ : App)).bind fun x2 =>
 (b8 x2 id_).bind fun x3 =>
 some (x3.1,x3.2)
def h105 : Hint:=(.s .z (.s .z (.s (.s (.j [] [(0,[(22,.v .bool [])])] .z) .z) .z)))
def sp105 : Spec fam:=⟨[.v (.st 10) [],.v (.int .i64) [],.v (.int .i64) []],[.v (.st 10) [],.v (.slice (.int .i64)) [0]],fun a => hS a.1 a.2.1 a.2.2.1⟩
def eS (s : State) (id_ : Int) (state : Int) : Option (State × Output) :=
 (aH s id_).bind fun x =>
 bif ! x.2 then
 (aB s 2).bind fun x1 =>
 some (x1.1,x1.2)
 else
 (aM x.1).bind fun x2 =>
 bif ! x2 then
  (aB s 14).bind fun x3 =>
  some (x3.1,x3.2)
 else
  (hS s id_ state).bind fun x4 =>
  some (x4.1,(⟨0,[],[],x4.2,0⟩ : Output))
def h46 : Hint:=.z
def sp46 : Spec fam:=⟨[.v (.st 10) [],.v (.int .i64) [],.v (.int .i64) []],[.v (.st 10) [],.v (.st 13) [1,2,3]],fun a => eS a.1 a.2.1 a.2.2.1⟩
def dm (s : State) (t : List Int × Int) : Option ((List Int × Int) ⊕ List Int) :=
 bif decide (t.2 < (s.Nodes.length : Int)) then
 (
  (
  (idx s.Nodes t.2).bind fun x =>
  bif x.Up then
   (idx s.Nodes t.2).bind fun x1 =>
   some (decide ((w64 (s.Now - x1.Seen)) ≥ 10))
  else
   some false).bind fun q =>
  bif q then
  (idx s.Nodes t.2).bind fun x2 =>
  (app 8 t.1 [x2.Id]).bind fun l =>
  some l
  else
  some t.1).bind fun l1 =>
 some (.inl (l1,w64 (t.2 + 1)))
 else
 some (.inr t.1)
def gf (s : State) : Option (List Int) :=
 (loop (dm s) ([],0)).bind fun l2 =>
 some l2
def h106 : Hint:=(.s .z (.s .z (.s (.s .z (.b (.l [(3,.v (.slice (.int .i64)) [0]),(4,.v (.int .i64) [])] [3,4,29] [(2,[(3,.v (.slice (.int .i64)) [0])])] (.s .z (.s (.j [3,29] [(0,[(3,.v (.slice (.int .i64)) [0])])] (.b (.s (.j [] [(0,[(29,.v .bool [])])] .z) .z))) .z))))) .z)))
def sp106 : Spec fam:=⟨[.v (.st 10) []],[.v (.slice (.int .i64)) [0]],fun a => gf a.1⟩
def g9 (s : State) (id_ : Int) : Option State :=
 (bb s id_).bind fun x =>
 bif ! x.2 then
 some s
 else
 (dc s (⟨x.1.Id,x.1.Label,x.1.Rack,⟨x.1.Cap.Mem,x.1.Cap.Cores⟩,x.1.Seen,x.1.Beat,false⟩ : Node)).bind fun x1 =>
 some x1
def h108 : Hint:=.z
def sp108 : Spec fam:=⟨[.v (.st 10) [],.v (.int .i64) []],[.v (.st 10) []],fun a => g9 a.1 a.2.1⟩
def cT (s : State) (t : List Int × Int) : Option ((List Int × Int) ⊕ List Int) :=
 bif decide (t.2 < (s.Apps.length : Int)) then
 (
  (
  (idx s.Apps t.2).bind fun x =>
  bif x.State == 2 then
   (idx s.Apps t.2).bind fun x1 =>
   some (decide ((w64 (s.Now - x1.Seen)) ≥ 15))
  else
   some false).bind fun q =>
  bif q then
  (idx s.Apps t.2).bind fun x2 =>
  (app 8 t.1 [x2.Id]).bind fun l =>
  some l
  else
  some t.1).bind fun l1 =>
 some (.inl (l1,w64 (t.2 + 1)))
 else
 some (.inr t.1)
def fu (s : State) : Option (List Int) :=
 (loop (cT s) ([],0)).bind fun l2 =>
 some l2
def h109 : Hint:=(.s .z (.s .z (.s (.s .z (.b (.l [(3,.v (.slice (.int .i64)) [0]),(4,.v (.int .i64) [])] [3,4,30] [(2,[(3,.v (.slice (.int .i64)) [0])])] (.s .z (.s (.j [3,30] [(0,[(3,.v (.slice (.int .i64)) [0])])] (.b (.s (.j [] [(0,[(30,.v .bool [])])] .z) .z))) .z))))) .z)))
def sp109 : Spec fam:=⟨[.v (.st 10) []],[.v (.slice (.int .i64)) [0]],fun a => fu a.1⟩
def dU (s : State) (app_ : Int) (i : Int) : Option (Int ⊕ (Int ⊕ Unit)) :=
 bif decide (i < (s.Conts.length : Int)) then
 (
  (idx s.Conts i).bind fun x =>
  bif x.App == app_ then
  (idx s.Conts i).bind fun x1 =>
  some x1.Master
  else
  some false).bind fun q =>
 bif q then
  (idx s.Conts i).bind fun x2 =>
  some (.inr (.inl (x2.Id)))
 else
  some (.inl (w64 (i + 1)))
 else
 some (.inr (.inr ()))
def gz (s : State) (app_ : Int) : Option Int :=
 (loop (dU s app_) 0).bind fun q0 =>
 match q0 with
 | .inl q1 =>
 some q1
 | .inr _ =>
 some (-1)
def h110 : Hint:=(.s .z (.s (.s .z (.b (.l [(5,.v (.int .i64) [])] [4,5,28] [(1,[(4,.v (.int .i64) [])]),(2,[])] (.s .z (.s (.b (.s (.j [] [(0,[(28,.v .bool [])])] .z) .z)) .z))))) .z))
def sp110 : Spec fam:=⟨[.v (.st 10) [],.v (.int .i64) []],[.v (.int .i64) []],fun a => gz a.1 a.2.1⟩
def eF (was : State) (now : State) (t : List Int × Int) : Option ((List Int × Int) ⊕ List Int) :=
 bif decide (t.2 < (was.Conts.length : Int)) then
 (
  (idx was.Conts t.2).bind fun x =>
  (aS now x.Id).bind fun x1 =>
  bif ! x1.2 then
  (idx was.Conts t.2).bind fun x2 =>
  (app 8 t.1 [x2.Id]).bind fun l =>
  some l
  else
  some t.1).bind fun l1 =>
 some (.inl (l1,w64 (t.2 + 1)))
 else
 some (.inr t.1)
def dS (was : State) (now : State) : Option (List Int) :=
 (loop (eF was now) ([],0)).bind fun l2 =>
 some l2
def h112 : Hint:=(.s .z (.s .z (.s (.s .z (.b (.l [(5,.v (.slice (.int .i64)) [0]),(6,.v (.int .i64) [])] [5,6] [(2,[(5,.v (.slice (.int .i64)) [0])])] (.s .z (.s (.j [5] [(0,[(5,.v (.slice (.int .i64)) [0])])] .z) .z))))) .z)))
def sp112 : Spec fam:=⟨[.v (.st 10) [],.v (.st 10) []],[.v (.slice (.int .i64)) [0]],fun a => dS a.1 a.2.1⟩
def ez (id_ : Int) (t : Int) (t1 : List Cont × Int) : Option ((List Cont × Int) ⊕ List Cont) :=
 bif decide (t1.2 < (t1.1.length : Int)) then
 (
  (inb t1.2 t1.1.length).bind fun i =>
  (t1.1[i]?).bind fun x =>
  bif x.Id == id_ then
  (inb t1.2 t1.1.length).bind fun i1 =>
  (t1.1[i1]?).bind fun x1 =>
  some (List.set t1.1 i1 (⟨x1.Id,x1.App,x1.Node,⟨x1.Size.Mem,x1.Size.Cores⟩,x1.Prio,x1.Label,x1.Master,t⟩ : Cont))
  else
  some t1.1).bind fun l1 =>
 some (.inl (l1,w64 (t1.2 + 1)))
 else
 some (.inr t1.1)
def dC (s : State) (id_ : Int) (t : Int) : Option State :=
 (app 72 [] s.Conts).bind fun l =>
 (loop (ez id_ t) (l,0)).bind fun l2 =>
 some (⟨⟨s.Conf.Labels,s.Conf.Queues⟩,s.Nodes,s.Apps,l2,s.Slots,s.Plans,s.Now,s.Epoch,s.Seq⟩ : State)
def h156 : Hint:=(.s .z (.s .z (.s (.s .z (.b (.l [(7,.row (.st 7) false),(8,.v (.int .i64) [])] [7,8] [(2,[(7,.row (.st 7) false)])] (.s .z (.s (.j [7] [(0,[(7,.row (.st 7) false)])] .z) .z))))) .z)))
def sp156 : Spec fam:=⟨[.v (.st 10) [],.v (.int .i64) [],.v (.int .i64) []],[.v (.st 10) [4]],fun a => dC a.1 a.2.1 a.2.2.1⟩
def br (s : State) (c : Cont) : Option (List UInt8) :=
 (aH s c.App).bind fun x =>
 some x.1.Queue
def h204 : Hint:=.z
def sp204 : Spec fam:=⟨[.v (.st 10) [],.v (.st 7) []],[.v .str []],fun a => br a.1 a.2.1⟩
def cU (s : State) (c : Cont) (t : Int × Int) : Option ((Int × Int) ⊕ Int) :=
 (
 bif decide (t.2 < (s.Conts.length : Int)) then
  some c.Master
 else
  some false).bind fun q =>
 bif q then
 (
  (
  (idx s.Conts t.2).bind fun x =>
  bif x.App == c.App then
   (idx s.Conts t.2).bind fun x1 =>
   bif x1.Id != c.Id then
   (idx s.Conts t.2).bind fun x2 =>
   some (x2.Label == c.Label)
   else
   some false
  else
   some false).bind fun q1 =>
  bif q1 then
  (idx s.Conts t.2).bind fun x3 =>
  let n:=w64 (t.1 + x3.Size.Mem)
  some n
  else
  some t.1).bind fun n1 =>
 some (.inl (n1,w64 (t.2 + 1)))
 else
 some (.inr t.1)
def fy (s : State) (c : Cont) : Option Int :=
 (loop (cU s c) (0,0)).bind fun n2 =>
 some n2
def h205 : Hint:=(.s .z (.s .z (.s (.s .z (.b (.l [(5,.v (.int .i64) []),(6,.v (.int .i64) [])] [5,6,15,48] [(2,[(5,.v (.int .i64) [])])] (.s (.s (.j [] [(0,[(15,.v .bool [])])] .z) .z) (.s (.j [5,48] [(0,[(5,.v (.int .i64) [])])] (.b (.s (.j [] [(0,[(48,.v .bool [])])] .z) .z))) .z))))) .z)))
def sp205 : Spec fam:=⟨[.v (.st 10) [],.v (.st 7) []],[.v (.int .i64) []],fun a => fy a.1 a.2.1⟩
def cX (l : List Ask) (label : Int) (t : Vec × Int) : Option ((Vec × Int) ⊕ Vec) :=
 bif decide (t.2 < (l.length : Int)) then
 (
  (idx l t.2).bind fun x =>
  bif x.Label == label then
  (idx l t.2).bind fun x1 =>
  (idx l t.2).bind fun x2 =>
  (idx l t.2).bind fun x3 =>
  (idx l t.2).bind fun x4 =>
  (ax t.1 (⟨w64 (x1.Size.Mem * x2.Count),w64 (x3.Size.Cores * x4.Count)⟩ : Vec)).bind fun x5 =>
  some x5
  else
  some t.1).bind fun v =>
 some (.inl (v,w64 (t.2 + 1)))
 else
 some (.inr t.1)
def fe (l : List Ask) (label : Int) : Option Vec :=
 (loop (cX l label) ((⟨0,0⟩ : Vec),0)).bind fun v1 =>
 some v1
def h31 : Hint:=(.s .z (.s .z (.s (.s .z (.b (.l [(5,.box (.st 0) []),(6,.v (.int .i64) [])] [5,6] [(2,[(5,.box (.st 0) [])])] (.s .z (.s (.j [5] [(0,[(5,.box (.st 0) [])])] .z) .z))))) .z)))
def sp31 : Spec fam:=⟨[.v (.slice (.st 5)) [],.v (.int .i64) []],[.v (.st 0) []],fun a => fe a.1 a.2.1⟩
def cC (s : State) (path : List UInt8) (label : Int) (t : Vec × Int) : Option ((Vec × Int) ⊕ Vec) :=
 bif decide (t.2 < (s.Apps.length : Int)) then
 (
  (
  (idx s.Apps t.2).bind fun x =>
  (aM x).bind fun x1 =>
  bif x1 then
   (idx s.Apps t.2).bind fun x2 =>
   (c6 x2.Queue path).bind fun x3 =>
   some x3
  else
   some false).bind fun q =>
  bif q then
  (idx s.Apps t.2).bind fun x4 =>
  (fe x4.Asks label).bind fun x5 =>
  (ax t.1 x5).bind fun x6 =>
  some x6
  else
  some t.1).bind fun v =>
 some (.inl (v,w64 (t.2 + 1)))
 else
 some (.inr t.1)
def bf (s : State) (path : List UInt8) (label : Int) : Option Vec :=
 (loop (cC s path label) ((⟨0,0⟩ : Vec),0)).bind fun v1 =>
 some v1
def h11 : Hint:=(.s .z (.s .z (.s (.s .z (.b (.l [(7,.box (.st 0) []),(8,.v (.int .i64) [])] [7,8,32] [(2,[(7,.box (.st 0) [])])] (.s .z (.s (.j [7,32] [(0,[(7,.box (.st 0) [])])] (.b (.s (.j [] [(0,[(32,.v .bool [])])] .z) .z))) .z))))) .z)))
def sp11 : Spec fam:=⟨[.v (.st 10) [],.v .str [],.v (.int .i64) []],[.v (.st 0) []],fun a => bf a.1 a.2.1 a.2.2.1⟩
def a7 (n : Int) : Option Int :=
 (
 bif decide (n < 0) then
  some true
 else
  some (decide (n > 1125899906842624))).bind fun q =>
 bif q then
 some 0
 else
 some n
def h122 : Hint:=(.s .z (.s (.s (.j [] [(0,[(8,.v .bool [])])] .z) .z) .z))
def sp122 : Spec fam:=⟨[.v (.int .i64) []],[.v (.int .i64) []],fun a => a7 a.1⟩
def a8 (want : List Int) (most : List Int) (n : Int) (t1 : Int × List Int × Int) : Option ((Int × List Int × Int) ⊕ List Int) :=
 bif decide (t1.2.2 < n) then
 (idx want t1.2.2).bind fun x7 =>
 (a7 x7).bind fun x8 =>
 (idx most t1.2.2).bind fun x9 =>
 (a7 x9).bind fun x10 =>
 (inb t1.2.2 t1.2.1.length).bind fun i =>
 (t1.2.1[i]?).bind fun x11 =>
 let x12:=imin (imax (w64 ((imin x8 x10) - x11)) 0) t1.1
 (inb t1.2.2 t1.2.1.length).bind fun i1 =>
 (t1.2.1[i1]?).bind fun x13 =>
 (inb t1.2.2 t1.2.1.length).bind fun i2 =>
 (t1.2.1[i2]?).bind fun x14 =>
 some (.inl (w64 (t1.1 - x12),List.set t1.2.1 i2 (w64 (x13 + x12)),w64 (t1.2.2 + 1)))
 else
 some (.inr t1.2.1)
def a9 (least : List Int) (want : List Int) (most : List Int) (n : Int) (t : Int × List Int × Int) : Option ((Int × List Int × Int) ⊕ ((Int × List Int))) :=
 bif decide (t.2.2 < n) then
 (idx least t.2.2).bind fun x =>
 (a7 x).bind fun x1 =>
 (idx want t.2.2).bind fun x2 =>
 (a7 x2).bind fun x3 =>
 (idx most t.2.2).bind fun x4 =>
 (a7 x4).bind fun x5 =>
 let x6:=imin (imin (imin x1 x3) x5) t.1
 (app 8 t.2.1 [x6]).bind fun l =>
 some (.inl (w64 (t.1 - x6),l,w64 (t.2.2 + 1)))
 else
 some (.inr (t.1,t.2.1))
def bL (total : Int) (least : List Int) (want : List Int) (most : List Int) : Option (List Int) :=
 let n:=imin (imin (least.length : Int) (want.length : Int)) (most.length : Int)
 (a7 total).bind fun left =>
 (loop (a9 least want most n) (left,[],0)).bind fun q =>
 (loop (a8 want most n) (q.1,q.2,0)).bind fun out =>
 some out
def h66 : Hint:=(.s .z (.s .z (.s .z (.s .z (.s (.s .z (.b (.l [(10,.v (.int .i64) []),(11,.v (.slice (.int .i64)) [0]),(12,.v (.int .i64) [])] [10,11,12,13] [(2,[(10,.v (.int .i64) []),(11,.v (.slice (.int .i64)) [0])])] .z))) (.s (.s .z (.b (.l [(10,.v (.int .i64) []),(11,.row (.int .i64) false),(14,.v (.int .i64) [])] [10,11,14,15] [(4,[(11,.row (.int .i64) false)])] .z))) .z))))))
def sp66 : Spec fam:=⟨[.v (.int .i64) [],.v (.slice (.int .i64)) [],.v (.slice (.int .i64)) [],.v (.slice (.int .i64)) []],[.v (.slice (.int .i64)) [0]],fun a => bL a.1 a.2.1 a.2.2.1 a.2.2.2.1⟩
def aP (s : State) (label : Int) (self : State → (List UInt8) → Int → Int → Option (List Share)) (kids : List (List UInt8)) (x8 : List Int) (t1 : List Share × Int) : Option ((List Share × Int) ⊕ List Share) :=
 bif decide (t1.2 < (kids.length : Int)) then
 (inb t1.2 kids.length).bind fun i4 =>
 (kids[i4]?).bind fun x9 =>
 (inb t1.2 x8.length).bind fun i5 =>
 (x8[i5]?).bind fun x10 =>
 (self s x9 label x10).bind fun x11 =>
 (app 24 t1.1 x11).bind fun l3 =>
 some (.inl (l3,w64 (t1.2 + 1)))
 else
 some (.inr t1.1)
def aV (s : State) (label : Int) (kids : List (List UInt8)) (t : List Int × List Int × List Int × Int) : Option ((List Int × List Int × List Int × Int) ⊕ ((List Int × List Int × List Int))) :=
 bif decide (t.2.2.2 < (kids.length : Int)) then
 (inb t.2.2.2 kids.length).bind fun i =>
 (kids[i]?).bind fun x =>
 (a5 s x label).bind fun x1 =>
 (app 8 t.1 [x1.Mem]).bind fun l =>
 (inb t.2.2.2 kids.length).bind fun i1 =>
 (kids[i1]?).bind fun x2 =>
 (eL s x2 label).bind fun x3 =>
 (app 8 t.2.2.1 [x3.Mem]).bind fun l1 =>
 (inb t.2.2.2 kids.length).bind fun i2 =>
 (kids[i2]?).bind fun x4 =>
 (aG s x4 label).bind fun x5 =>
 (inb t.2.2.2 kids.length).bind fun i3 =>
 (kids[i3]?).bind fun x6 =>
 (bf s x6 label).bind fun x7 =>
 (app 8 t.2.1 [w64 (x5.Mem + x7.Mem)]).bind fun l2 =>
 some (.inl (l,l2,l1,w64 (t.2.2.2 + 1)))
 else
 some (.inr (t.1,t.2.1,t.2.2.1))
def aQ (self : State → (List UInt8) → Int → Int → Option (List Share)) (s : State) (path : List UInt8) (label : Int) (mem : Int) : Option (List Share) :=
 (bj s.Conf path).bind fun kids =>
 bif (kids.length : Int) == 0 then
 some [(⟨path,mem⟩ : Share)]
 else
 (loop (aV s label kids) ([],[],[],0)).bind fun q =>
 (bL mem q.1 q.2.1 q.2.2).bind fun x8 =>
 (loop (aP s label self kids x8) ([],0)).bind fun out =>
 some out
def aJ : Nat → State → (List UInt8) → Int → Int → Option (List Share)
 | 0 => fun _ _ _ _ => none
 | n + 1 => aQ (aJ n)
def gI (a0 : State) (a1 : List UInt8) (a2 : Int) (a3 : Int) : Option (List Share):=aJ 64 a0 a1 a2 a3
def h26 : Hint:=(.s .z (.s .z (.s .z (.s .z (.s (.s .z (.b (.l [(10,.v (.slice (.int .i64)) [0]),(11,.v (.slice (.int .i64)) [0]),(12,.v (.slice (.int .i64)) [0]),(13,.v (.int .i64) [])] [10,11,12,13] [(2,[(10,.v (.slice (.int .i64)) [0]),(11,.v (.slice (.int .i64)) [0]),(12,.v (.slice (.int .i64)) [0])])] .z))) (.s .z (.s .z (.s (.s .z (.b (.l [(15,.v (.slice (.st 16)) [0]),(16,.v (.int .i64) [])] [15,16] [(4,[(15,.v (.slice (.st 16)) [0])])] .z))) .z))))))))
def sp26 : Spec fam:=⟨[.v (.st 10) [],.v .str [],.v (.int .i64) [],.v (.int .i64) []],[.v (.slice (.st 16)) [0]],fun a => gI a.1 a.2.1 a.2.2.1 a.2.2.2.1⟩
def Ai (n : Nat) : Spec fam:=⟨[.v (.st 10) [],.v .str [],.v (.int .i64) [],.v (.int .i64) []],[.v (.slice (.st 16)) [0]],fun a => aJ n a.1 a.2.1 a.2.2.1 a.2.2.2.1⟩
def aW (l : List Share) (t : List Share × Int) (k : Int) : Option (Int ⊕ Int) :=
 (
 bif decide (k < (t.1.length : Int)) then
  (inb k t.1.length).bind fun i =>
  (t.1[i]?).bind fun x1 =>
  (inb t.2 l.length).bind fun i1 =>
  (l[i1]?).bind fun x2 =>
  some (Op.bytesLess x1.Path x2.Path)
 else
  some false).bind fun q =>
 bif q then
 some (.inl (w64 (k + 1)))
 else
 some (.inr k)
def aO (l : List Share) (t : List Share × Int) : Option ((List Share × Int) ⊕ List Share) :=
 bif decide (t.2 < (l.length : Int)) then
 (loop (aW l t) 0).bind fun k1 =>
 (inS 0 k1 t.1.length).bind fun p =>
 (app 24 [] (sub t.1 p.1 p.2)).bind fun l1 =>
 (inb t.2 l.length).bind fun i2 =>
 (l[i2]?).bind fun x3 =>
 (app 24 l1 [x3]).bind fun l2 =>
 (inS k1 (t.1.length : Int) t.1.length).bind fun p1 =>
 (app 24 l2 (sub t.1 p1.1 p1.2)).bind fun l3 =>
 some (.inl (l3,w64 (t.2 + 1)))
 else
 some (.inr t.1)
def aX (s : State) (label : Int) : Option (List Share) :=
 (aZ s label).bind fun x =>
 (gI s ([114,111,111,116] : List UInt8) label x.Mem).bind fun l =>
 (loop (aO l) ([],0)).bind fun out =>
 some out
def h9 : Hint:=(.s .z (.s .z (.s .z (.s (.s .z (.b (.l [(5,.v (.slice (.st 16)) [0]),(7,.v (.int .i64) [])] [5,7,8,39] [(2,[(5,.v (.slice (.st 16)) [0])])] (.s .z (.s (.b (.s .z (.s (.b (.l [(8,.v (.int .i64) [])] [8,39] [(4,[(8,.v (.int .i64) [])])] (.s (.s (.j [] [(0,[(39,.v .bool [])])] .z) .z) .z))) .z))) .z))))) .z))))
def sp9 : Spec fam:=⟨[.v (.st 10) [],.v (.int .i64) []],[.v (.slice (.st 16)) [0]],fun a => aX a.1 a.2.1⟩
def fB (path : List UInt8) (l : List Share) (i : Int) : Option (Int ⊕ (Int ⊕ Unit)) :=
 bif decide (i < (l.length : Int)) then
 (inb i l.length).bind fun i1 =>
 (l[i1]?).bind fun x =>
 bif x.Path == path then
  (inb i l.length).bind fun i2 =>
  (l[i2]?).bind fun x1 =>
  some (.inr (.inl (x1.Mem)))
 else
  some (.inl (w64 (i + 1)))
 else
 some (.inr (.inr ()))
def gX (s : State) (label : Int) (path : List UInt8) : Option Int :=
 (aX s label).bind fun l =>
 (loop (fB path l) 0).bind fun q0 =>
 match q0 with
 | .inl q =>
 some q
 | .inr _ =>
 some 0
def h206 : Hint:=(.s .z (.s .z (.s (.s .z (.b (.l [(8,.v (.int .i64) [])] [6,8] [(1,[(6,.v (.int .i64) [])]),(2,[])] .z))) .z)))
def sp206 : Spec fam:=⟨[.v (.st 10) [],.v (.int .i64) [],.v .str []],[.v (.int .i64) []],fun a => gX a.1 a.2.1 a.2.2.1⟩
def dZ (label : Int) (l2 : List Cont) (t1 : State × Int) : Option ((State × Int) ⊕ State) :=
 bif decide (t1.2 < (l2.length : Int)) then
 (
  (inb t1.2 l2.length).bind fun i1 =>
  (l2[i1]?).bind fun x1 =>
  (aS t1.1 x1.Id).bind fun x2 =>
  bif ! x2.2 then
  some t1.1
  else
  (br t1.1 x2.1).bind fun x3 =>
  (aG t1.1 x3 label).bind fun x4 =>
  (fy t1.1 x2.1).bind fun x5 =>
  (br t1.1 x2.1).bind fun x6 =>
  (gX t1.1 label x6).bind fun x7 =>
  bif decide ((w64 (x4.Mem - x5)) > x7) then
   (bw t1.1 [x2.1.Id]).bind fun x8 =>
   some x8
  else
   (dC t1.1 x2.1.Id 0).bind fun x9 =>
   some x9).bind fun s1 =>
 some (.inl (s1,w64 (t1.2 + 1)))
 else
 some (.inr t1.1)
def jU (s : State) (label : Int) (t : List Cont × Int) : Option ((List Cont × Int) ⊕ List Cont) :=
 bif decide (t.2 ≥ 0) then
 (
  (idx s.Conts t.2).bind fun x =>
  (
  bif x.Label == label then
   bif x.Notice != 0 then
   some (decide ((w64 (x.Notice + 3)) ≤ s.Now))
   else
   some false
  else
   some false).bind fun q =>
  bif q then
  (app 72 t.1 [x]).bind fun l =>
  some l
  else
  some t.1).bind fun l1 =>
 some (.inl (l1,w64 (t.2 - 1)))
 else
 some (.inr t.1)
def gC (s : State) (label : Int) : Option State :=
 let i:=w64 ((s.Conts.length : Int) - 1)
 (loop (jU s label) ([],i)).bind fun l2 =>
 (loop (dZ label l2) (s,0)).bind fun s2 =>
 some s2
def h154 : Hint:=(.s .z (.s .z (.s (.s .z (.b (.l [(5,.v (.slice (.st 7)) [0]),(6,.v (.int .i64) [])] [5,6,7,40] [(2,[(5,.v (.slice (.st 7)) [0])])] (.s .z (.s (.j [5,7,40] [(0,[(5,.v (.slice (.st 7)) [0])])] (.b (.s .z (.s (.j [] [(0,[(40,.v .bool [])])] .z) .z)))) .z))))) (.s (.s .z (.b (.l [(2,.box (.st 10) []),(8,.v (.int .i64) [])] [2,8,9] [(4,[(2,.box (.st 10) [])])] (.s .z (.s (.j [2,9] [(0,[(2,.box (.st 10) [])])] .z) .z))))) .z))))
def sp154 : Spec fam:=⟨[.v (.st 10) [],.v (.int .i64) []],[.v (.st 10) []],fun a => gC a.1 a.2.1⟩
def dj (s : State) (path : List UInt8) (label : Int) (x : Vec) (x1 : Vec) (x2 : App) (k : Int) : Option (Int ⊕ (Int ⊕ Unit)) :=
 (
 bif decide (k < (x2.Asks.length : Int)) then
  (aM x2).bind fun x3 =>
  bif x3 then
  some (x2.Queue == path)
  else
  some false
 else
  some false).bind fun q =>
 bif q then
 (
  (idx x2.Asks k).bind fun x4 =>
  bif x4.Label == label then
  (idx x2.Asks k).bind fun x5 =>
  some (decide ((w64 (x5.Size.Mem + x.Mem)) ≤ x1.Mem))
  else
  some false).bind fun q1 =>
 bif q1 then
  (bf s path label).bind fun x6 =>
  some (.inr (.inl (imin x6.Mem (w64 (x1.Mem - x.Mem)))))
 else
  some (.inl (w64 (k + 1)))
 else
 some (.inr (.inr ()))
def dn (s : State) (path : List UInt8) (label : Int) (x : Vec) (x1 : Vec) (i : Int) : Option (Int ⊕ (Int ⊕ Unit)) :=
 bif decide (i < (s.Apps.length : Int)) then
 (idx s.Apps i).bind fun x2 =>
 (loop (dj s path label x x1 x2) 0).bind fun q0 =>
 match q0 with
 | .inl q2 =>
  some (.inr (.inl q2))
 | .inr _ =>
  some (.inl (w64 (i + 1)))
 else
 some (.inr (.inr ()))
def gg (s : State) (path : List UInt8) (label : Int) : Option Int :=
 (aG s path label).bind fun x =>
 (a5 s path label).bind fun x1 =>
 (loop (dn s path label x x1) 0).bind fun q0 =>
 match q0 with
 | .inl q3 =>
 some q3
 | .inr _ =>
 some 0
def h207 : Hint:=(.s .z (.s .z (.s (.s .z (.b (.l [(9,.v (.int .i64) [])] [6,9,10,11,48,71] [(1,[(6,.v (.int .i64) [])]),(2,[])] (.s .z (.s (.b (.s .z (.s .z (.b (.l [(11,.v (.int .i64) [])] [6,11,48,71] [(1,[(6,.v (.int .i64) [])]),(4,[])] (.s (.s (.j [] [(0,[(48,.v .bool [])])] .z) .z) (.s (.b (.s (.j [] [(0,[(71,.v .bool [])])] .z) .z)) .z))))))) .z))))) .z)))
def sp207 : Spec fam:=⟨[.v (.st 10) [],.v .str [],.v (.int .i64) []],[.v (.int .i64) []],fun a => gg a.1 a.2.1 a.2.2.1⟩
def c7 (l : List Int) (n : Int) (i : Int) : Option (Int ⊕ (Bool ⊕ Unit)) :=
 bif decide (i < (l.length : Int)) then
 (idx l i).bind fun x =>
 bif x == n then
  some (.inr (.inl true))
 else
  some (.inl (w64 (i + 1)))
 else
 some (.inr (.inr ()))
def de (l : List Int) (n : Int) : Option Bool :=
 (loop (c7 l n) 0).bind fun q0 =>
 match q0 with
 | .inl q =>
 some q
 | .inr _ =>
 some false
def h239 : Hint:=(.s .z (.s (.s .z (.b (.l [(5,.v (.int .i64) [])] [4,5] [(1,[(4,.v .bool [])]),(2,[])] .z))) .z))
def sp239 : Spec fam:=⟨[.v (.slice (.int .i64)) [],.v (.int .i64) []],[.v .bool []],fun a => de a.1 a.2.1⟩
def cV (s : State) (path : List UInt8) (label : Int) (l : List Int) (t : Int × Int) : Option ((Int × Int) ⊕ Int) :=
 bif decide (t.2 < (s.Conts.length : Int)) then
 (
  (idx s.Conts t.2).bind fun x =>
  (
  bif x.Label == label then
   bif path == ([] : List UInt8) then
   bif x.Notice != 0 then
    some true
   else
    (de l x.Id).bind fun x1 =>
    some x1
   else
   (br s x).bind fun x2 =>
   bif x2 == path then
    bif x.Notice != 0 then
    some true
    else
    (de l x.Id).bind fun x3 =>
    some x3
   else
    some false
  else
   some false).bind fun q =>
  bif q then
  let n:=w64 (t.1 + x.Size.Mem)
  some n
  else
  some t.1).bind fun n1 =>
 some (.inl (n1,w64 (t.2 + 1)))
 else
 some (.inr t.1)
def cE (s : State) (path : List UInt8) (label : Int) (l : List Int) : Option Int :=
 (loop (cV s path label l) (0,0)).bind fun n2 =>
 some n2
def h208 : Hint:=(.s .z (.s .z (.s (.s .z (.b (.l [(9,.v (.int .i64) []),(10,.v (.int .i64) [])] [9,10,11,49] [(2,[(9,.v (.int .i64) [])])] (.s .z (.s (.j [9,11,49] [(0,[(9,.v (.int .i64) [])])] (.b (.s .z (.s (.j [] [(0,[(49,.v .bool [])])] .z) .z)))) .z))))) .z)))
def sp208 : Spec fam:=⟨[.v (.st 10) [],.v .str [],.v (.int .i64) [],.v (.slice (.int .i64)) []],[.v (.int .i64) []],fun a => cE a.1 a.2.1 a.2.2.1 a.2.2.2.1⟩
def cR (s : State) (path : List UInt8) (label : Int) (l : List Int) (t : Cont × Bool × Int) : Option ((Cont × Bool × Int) ⊕ ((Cont × Bool))) :=
 bif decide (t.2.2 < (s.Conts.length : Int)) then
 (
  (idx s.Conts t.2.2).bind fun x =>
  (
  bif x.Label != label then
   some true
  else
   (br s x).bind fun x1 =>
   bif ! (x1 == path) then
   some true
   else
   bif x.Notice != 0 then
    some true
   else
    (de l x.Id).bind fun x2 =>
    some x2).bind fun q =>
  bif q then
  some (t.1,t.2.1)
  else
  (
   bif ! t.2.1 then
   some true
   else
   bif t.1.Master then
    bif ! x.Master then
    some true
    else
    bif t.1.Master == x.Master then
     some (decide (x.Id > t.1.Id))
    else
     some false
   else
    bif t.1.Master == x.Master then
    some (decide (x.Id > t.1.Id))
    else
    some false).bind fun q1 =>
  bif q1 then
   some (x,true)
  else
   some (t.1,t.2.1)).bind fun q2 =>
 some (.inl (q2.1,q2.2,w64 (t.2.2 + 1)))
 else
 some (.inr (t.1,t.2.1))
def fc (s : State) (path : List UInt8) (label : Int) (l : List Int) : Option (Cont × Bool) :=
 (loop (cR s path label l) ((⟨0,0,0,⟨0,0⟩,0,0,false,0⟩ : Cont),false,0)).bind fun q3 =>
 some (q3.1,q3.2)
def h209 : Hint:=(.s .z (.s .z (.s (.s .z (.b (.l [(10,.box (.st 7) []),(11,.v .bool []),(12,.v (.int .i64) [])] [10,11,12,13,48,73] [(2,[(10,.box (.st 7) []),(11,.v .bool [])])] (.s .z (.s (.j [10,11,13,48,73] [(0,[(10,.box (.st 7) []),(11,.v .bool [])])] (.b (.s .z (.s (.s (.j [] [(0,[(48,.v .bool [])])] .z) .z) (.s (.j [] [(0,[(73,.v .bool [])])] .z) .z))))) .z))))) .z)))
def sp209 : Spec fam:=⟨[.v (.st 10) [],.v .str [],.v (.int .i64) [],.v (.slice (.int .i64)) []],[.v (.st 7) [],.v .bool []],fun a => fc a.1 a.2.1 a.2.2.1 a.2.2.2.1⟩
def eu (s : State) (label : Int) (shares : List Share) (l : List Int) (t1 : Int × Cont × Int) : Option ((Int × Cont × Int) ⊕ ((Int × Cont))) :=
 bif decide (t1.2.2 < (shares.length : Int)) then
 (
  (inb t1.2.2 shares.length).bind fun i1 =>
  (shares[i1]?).bind fun x5 =>
  (aG s x5.Path label).bind fun x6 =>
  (inb t1.2.2 shares.length).bind fun i2 =>
  (shares[i2]?).bind fun x7 =>
  (cE s x5.Path label l).bind fun x8 =>
  let over:=w64 ((w64 (x6.Mem - x7.Mem)) - x8)
  (fc s x5.Path label l).bind fun x9 =>
  (
  bif x9.2 then
   some (decide (over > t1.1))
  else
   some false).bind fun q =>
  bif q then
  some (over,x9.1)
  else
  some (t1.1,t1.2.1)).bind fun q1 =>
 some (.inl (q1.1,q1.2,w64 (t1.2.2 + 1)))
 else
 some (.inr (t1.1,t1.2.1))
def j1 (s : State) (label : Int) (shares : List Share) (need1 : Int) (l : List Int) : Option (List Int ⊕ (List Int ⊕ List Int)) :=
 (cE s ([] : List UInt8) label l).bind fun x4 =>
 bif decide (x4 < need1) then
 (loop (eu s label shares l) (0,(⟨0,0,0,⟨0,0⟩,0,0,false,0⟩ : Cont),0)).bind fun q2 =>
 bif q2.1 == 0 then
  some (.inr (.inl l))
 else
  (app 8 l [q2.2.Id]).bind fun l1 =>
  some (.inl l1)
 else
 some (.inr (.inr l))
def d5 (s : State) (label : Int) (shares : List Share) (t : Int × Int) : Option ((Int × Int) ⊕ Int) :=
 bif decide (t.2 < (shares.length : Int)) then
 (inb t.2 shares.length).bind fun i =>
 (shares[i]?).bind fun x2 =>
 (gg s x2.Path label).bind fun x3 =>
 some (.inl (w64 (t.1 + x3),w64 (t.2 + 1)))
 else
 some (.inr t.1)
def gA (s : State) (label : Int) : Option (List Int) :=
 (aX s label).bind fun shares =>
 (aZ s label).bind fun x =>
 (aG s ([114,111,111,116] : List UInt8) label).bind fun x1 =>
 let need:=w64 (0 - (imax (w64 (x.Mem - x1.Mem)) 0))
 (loop (d5 s label shares) (need,0)).bind fun need1 =>
 (loop (j1 s label shares need1) []).bind fun q0 =>
 match q0 with
 | .inl q3 =>
 some q3
 | .inr l2 =>
 some l2
def h155 : Hint:=(.s .z (.s .z (.s .z (.s (.s .z (.b (.l [(6,.v (.int .i64) []),(7,.v (.int .i64) [])] [6,7] [(2,[(6,.v (.int .i64) [])])] .z))) (.s .z (.s (.b (.l [(8,.v (.slice (.int .i64)) [0])] [4,8,9,10,11,12,13,14,94] [(1,[(4,.v (.slice (.int .i64)) [0])]),(4,[(8,.v (.slice (.int .i64)) [0])])] (.s .z (.b (.s .z (.s (.s .z (.b (.l [(9,.v (.int .i64) []),(10,.box (.st 7) []),(11,.v (.int .i64) [])] [9,10,11,12,13,14,94] [(6,[(9,.v (.int .i64) []),(10,.box (.st 7) [])])] (.s .z (.s (.j [9,10,12,13,14,94] [(0,[(9,.v (.int .i64) []),(10,.box (.st 7) [])])] (.b (.s .z (.s .z (.s .z (.s (.j [] [(0,[(94,.v .bool [])])] .z) .z)))))) .z))))) .z)))))) .z))))))
def sp155 : Spec fam:=⟨[.v (.st 10) [],.v (.int .i64) []],[.v (.slice (.int .i64)) [0]],fun a => gA a.1 a.2.1⟩
def dk (l : List Int) (t1 : State × Int) : Option ((State × Int) ⊕ State) :=
 bif decide (t1.2 < (l.length : Int)) then
 (inb t1.2 l.length).bind fun i =>
 (l[i]?).bind fun x1 =>
 (dC t1.1 x1 (imax t1.1.Now 1)).bind fun x2 =>
 some (.inl (x2,w64 (t1.2 + 1)))
 else
 some (.inr t1.1)
def jA (t : State × Int) : Option ((State × Int) ⊕ State) :=
 bif decide (t.2 < (t.1.Conf.Labels.length : Int)) then
 (gC t.1 t.2).bind fun x =>
 (gA x t.2).bind fun l =>
 (loop (dk l) (x,0)).bind fun s1 =>
 some (.inl (s1,w64 (t.2 + 1)))
 else
 some (.inr t.1)
def gb (s : State) : Option (State × List Int) :=
 (loop jA (s,0)).bind fun s2 =>
 (dS s s2).bind fun x3 =>
 some (s2,x3)
def h111 : Hint:=(.s .z (.s .z (.s (.s .z (.b (.l [(1,.box (.st 10) []),(5,.v (.int .i64) [])] [1,5,6,7] [(2,[(1,.box (.st 10) [])])] (.s .z (.s (.b (.s .z (.s .z (.s .z (.b (.l [(1,.box (.st 10) []),(7,.v (.int .i64) [])] [1,7] [(4,[(1,.box (.st 10) [])])] .z)))))) .z))))) .z)))
def sp111 : Spec fam:=⟨[.v (.st 10) []],[.v (.st 10) [],.v (.slice (.int .i64)) [0]],fun a => gb a.1⟩
def dY (s2 : State) (t2 : List Plan × Int) : Option ((List Plan × Int) ⊕ List Plan) :=
 bif decide (t2.2 < (s2.Plans.length : Int)) then
 (
  (idx s2.Plans t2.2).bind fun x12 =>
  bif decide (x12.Until > s2.Now) then
  (idx s2.Plans t2.2).bind fun x13 =>
  (app 48 t2.1 [x13]).bind fun l2 =>
  some l2
  else
  some t2.1).bind fun ps =>
 some (.inl (ps,w64 (t2.2 + 1)))
 else
 some (.inr t2.1)
def eA (l1 : List Int) (t1 : State × Int) : Option ((State × Int) ⊕ State) :=
 bif decide (t1.2 < (l1.length : Int)) then
 (inb t1.2 l1.length).bind fun i3 =>
 (l1[i3]?).bind fun x9 =>
 (gz t1.1 x9).bind fun x10 =>
 (bw t1.1 [x10]).bind fun x11 =>
 some (.inl (x11,w64 (t1.2 + 1)))
 else
 some (.inr t1.1)
def ee (l : List Int) (t : State × Int) : Option ((State × Int) ⊕ State) :=
 bif decide (t.2 < (l.length : Int)) then
 (inb t.2 l.length).bind fun i =>
 (l[i]?).bind fun x2 =>
 (g9 t.1 x2).bind fun x3 =>
 (inb t.2 l.length).bind fun i1 =>
 (l[i1]?).bind fun x4 =>
 (bA x3 x4).bind fun x5 =>
 (inb t.2 l.length).bind fun i2 =>
 (l[i2]?).bind fun x6 =>
 (df x5 x6).bind fun x7 =>
 (bw x5 x7).bind fun x8 =>
 some (.inl (x8,w64 (t.2 + 1)))
 else
 some (.inr t.1)
def gv (s : State) (n : Int) : Option (State × Output) :=
 (
 bif decide (n < 1) then
  some true
 else
  some (decide (n > 100))).bind fun q =>
 bif q then
 (aB s 1).bind fun x =>
 some (x.1,x.2)
 else
 bif decide ((w64 (s.Now + n)) > 1000000000) then
  (aB s 11).bind fun x1 =>
  some (x1.1,x1.2)
 else
  (gf (⟨⟨s.Conf.Labels,s.Conf.Queues⟩,s.Nodes,s.Apps,s.Conts,s.Slots,s.Plans,w64 (s.Now + n),s.Epoch,s.Seq⟩ : State)).bind fun l =>
  (loop (ee l) ((⟨⟨s.Conf.Labels,s.Conf.Queues⟩,s.Nodes,s.Apps,s.Conts,s.Slots,s.Plans,w64 (s.Now + n),s.Epoch,s.Seq⟩ : State),0)).bind fun s1 =>
  (fu s1).bind fun l1 =>
  (loop (eA l1) (s1,0)).bind fun s2 =>
  (loop (dY s2) ([],0)).bind fun ps1 =>
  (gb (⟨⟨s2.Conf.Labels,s2.Conf.Queues⟩,s2.Nodes,s2.Apps,s2.Conts,s2.Slots,ps1,s2.Now,s2.Epoch,s2.Seq⟩ : State)).bind fun x14 =>
  (dS s x14.1).bind fun x15 =>
  some (x14.1,(⟨0,[],[],x15,0⟩ : Output))
def h47 : Hint:=(.s .z (.s (.s (.j [] [(0,[(17,.v .bool [])])] .z) .z) (.s .z (.s .z (.s .z (.s .z (.s (.s .z (.b (.l [(2,.box (.st 10) []),(8,.v (.int .i64) [])] [2,8] [(2,[(2,.box (.st 10) [])])] .z))) (.s .z (.s (.s .z (.b (.l [(2,.box (.st 10) []),(9,.v (.int .i64) [])] [2,9] [(4,[(2,.box (.st 10) [])])] .z))) (.s .z (.s (.s .z (.b (.l [(10,.v (.slice (.st 9)) [0]),(11,.v (.int .i64) [])] [10,11] [(6,[(10,.v (.slice (.st 9)) [0])])] (.s .z (.s (.j [10] [(0,[(10,.v (.slice (.st 9)) [0])])] .z) .z))))) .z)))))))))))
def sp47 : Spec fam:=⟨[.v (.st 10) [],.v (.int .i64) []],[.v (.st 10) [],.v (.st 13) [1,2,3]],fun a => gv a.1 a.2.1⟩
def gH (n : Int) : Option Bool :=
 bif decide (n ≥ 0) then
 some (decide (n ≤ 1073741824))
 else
 some false
def h157 : Hint:=.z
def sp157 : Spec fam:=⟨[.v (.int .i64) []],[.v .bool []],fun a => gH a.1⟩
def ga (l : List Plan) (label : Int) (t : Int) (t1 : Vec × Int) : Option ((Vec × Int) ⊕ Vec) :=
 bif decide (t1.2 < (l.length : Int)) then
 (
  (
  (idx l t1.2).bind fun x =>
  bif x.Label == label then
   (idx l t1.2).bind fun x1 =>
   bif decide (x1.From ≤ t) then
   (idx l t1.2).bind fun x2 =>
   some (decide (t < x2.Until))
   else
   some false
  else
   some false).bind fun q =>
  bif q then
  (idx l t1.2).bind fun x3 =>
  (ax t1.1 x3.Need).bind fun x4 =>
  some x4
  else
  some t1.1).bind fun v =>
 some (.inl (v,w64 (t1.2 + 1)))
 else
 some (.inr t1.1)
def fP (l : List Plan) (label : Int) (t : Int) : Option Vec :=
 (loop (ga l label t) ((⟨0,0⟩ : Vec),0)).bind fun v1 =>
 some v1
def h211 : Hint:=(.s .z (.s .z (.s (.s .z (.b (.l [(7,.box (.st 0) []),(8,.v (.int .i64) [])] [7,8,40] [(2,[(7,.box (.st 0) [])])] (.s .z (.s (.j [7,40] [(0,[(7,.box (.st 0) [])])] (.b (.s (.j [] [(0,[(40,.v .bool [])])] .z) .z))) .z))))) .z)))
def sp211 : Spec fam:=⟨[.v (.slice (.st 9)) [],.v (.int .i64) [],.v (.int .i64) []],[.v (.st 0) []],fun a => fP a.1 a.2.1 a.2.2.1⟩
def d8 (l : List Plan) (total : Vec) (p : Plan) (t : Int) (long : Int) (i : Int) : Option (Int ⊕ (Bool ⊕ Unit)) :=
 bif decide (i < (l.length : Int)) then
 (idx l i).bind fun x3 =>
 (
  bif decide (x3.From > t) then
  bif decide ((w64 (x3.From - t)) < long) then
   (fP l p.Label x3.From).bind fun x4 =>
   (ax x4 p.Need).bind fun x5 =>
   (aL x5 total).bind fun x6 =>
   some (! x6)
  else
   some false
  else
  some false).bind fun q =>
 bif q then
  some (.inr (.inl false))
 else
  some (.inl (w64 (i + 1)))
 else
 some (.inr (.inr ()))
def dG (l : List Plan) (total : Vec) (p : Plan) (t : Int) (long : Int) : Option Bool :=
 (fP l p.Label t).bind fun x =>
 (ax x p.Need).bind fun x1 =>
 (aL x1 total).bind fun x2 =>
 bif ! x2 then
 some false
 else
 (loop (d8 l total p t long) 0).bind fun q0 =>
 match q0 with
 | .inl q1 =>
  some q1
 | .inr _ =>
  some true
def h158 : Hint:=(.s .z (.s .z (.s (.s .z (.b (.l [(11,.v (.int .i64) [])] [10,11,57] [(1,[(10,.v .bool [])]),(2,[])] (.s .z (.s (.b (.s .z (.s (.j [] [(0,[(57,.v .bool [])])] .z) .z))) .z))))) .z)))
def sp158 : Spec fam:=⟨[.v (.slice (.st 9)) [],.v (.st 0) [],.v (.st 9) [],.v (.int .i64) [],.v (.int .i64) []],[.v .bool []],fun a => dG a.1 a.2.1 a.2.2.1 a.2.2.2.1 a.2.2.2.2.1⟩
def jB (l : List Plan) (total : Vec) (p : Plan) (long : Int) (t : Int × Int) : Option ((Int × Int) ⊕ Int) :=
 bif decide (t.2 < (l.length : Int)) then
 (
  (
  bif decide (t.2 ≥ 0) then
   (idx l t.2).bind fun x2 =>
   some x2.Until
  else
   some p.From).bind fun t1 =>
  (
  bif decide (t1 ≥ p.From) then
   bif decide (t1 ≤ 1000000) then
   bif decide ((w64 (t1 + long)) ≤ p.Until) then
    bif decide (t.1 < 0) then
    (dG l total p t1 long).bind fun x3 =>
    some x3
    else
    bif decide (t1 < t.1) then
     (dG l total p t1 long).bind fun x4 =>
     some x4
    else
     some false
   else
    some false
   else
   some false
  else
   some false).bind fun q1 =>
  bif q1 then
  some t1
  else
  some t.1).bind fun best =>
 some (.inl (best,w64 (t.2 + 1)))
 else
 some (.inr t.1)
def fS (l : List Plan) (total : Vec) (p : Plan) (long : Int) : Option (Int × Int) :=
 (
 bif decide (long < 1) then
  some true
 else
  bif decide (long > 1000) then
  some true
  else
  bif decide (p.From < 0) then
   some true
  else
   bif decide (p.From > 1000000) then
   some true
   else
   bif decide (p.Until < 0) then
    some true
   else
    bif decide (p.Until > 1000000) then
    some true
    else
    (gH p.Need.Mem).bind fun x =>
    bif ! x then
     some true
    else
     (gH p.Need.Cores).bind fun x1 =>
     some (! x1)).bind fun q =>
 bif q then
 some (0,1)
 else
 (loop (jB l total p long) ((-1),(-1))).bind fun best1 =>
 bif decide (best1 < 0) then
  some (0,16)
 else
  some (best1,0)
def h113 : Hint:=(.s .z (.s (.s (.j [] [(0,[(52,.v .bool [])])] .z) .z) (.s .z (.s (.s .z (.b (.l [(10,.v (.int .i64) []),(11,.v (.int .i64) [])] [10,11,12,100] [(2,[(10,.v (.int .i64) [])])] (.s .z (.s (.j [10,12,100] [(0,[(10,.v (.int .i64) [])])] (.b (.s .z (.s (.j [12] [(0,[(12,.v (.int .i64) [])])] .z) (.s (.j [] [(0,[(100,.v .bool [])])] .z) .z))))) .z))))) .z))))
def sp113 : Spec fam:=⟨[.v (.slice (.st 9)) [],.v (.st 0) [],.v (.st 9) [],.v (.int .i64) []],[.v (.int .i64) [],.v (.int .i64) []],fun a => fS a.1 a.2.1 a.2.2.1 a.2.2.2.1⟩
def fg (s : State) (p : Plan) (t : State × Int × Int) : Option ((State × Int × Int) ⊕ ((State × Int × Int) ⊕ (State × Int))) :=
 bif decide (t.2.2 < (s.Plans.length : Int)) then
 (
  (idx s.Plans t.2.2).bind fun x =>
  bif x.Id == p.Id then
  some (.inr (s,0,7))
  else
  (idx s.Plans t.2.2).bind fun x1 =>
  bif decide (x1.Id < p.Id) then
   some (.inl (t.1,w64 (t.2.2 + 1)))
  else
   some (.inl (t.1,t.2.1)) : Option ((State × Int) ⊕ (State × Int × Int))).bind fun q0 =>
 match q0 with
 | .inl q1 =>
  some (.inl (q1.1,q1.2,w64 (t.2.2 + 1)))
 | .inr q2 =>
  some (.inr (.inl (q2.1,q2.2.1,q2.2.2)))
 else
 some (.inr (.inr (t.1,t.2.1)))
def hP (s : State) (p : Plan) (long : Int) : Option (State × Int × Int) :=
 (
 bif decide (p.Id < 0) then
  some true
 else
  bif decide (p.Id > 999) then
  some true
  else
  bif decide (p.Label < 0) then
   some true
  else
   bif decide (p.Label ≥ (s.Conf.Labels.length : Int)) then
   some true
   else
   some ((p.Need.Mem == 0) && (p.Need.Cores == 0))).bind fun q =>
 bif q then
 some (s,0,1)
 else
 (loop (fg s p) ((⟨⟨[],[]⟩,[],[],[],[],[],0,0,0⟩ : State),0,0)).bind fun q0 =>
 match q0 with
 | .inl q3 =>
  some (q3.1,q3.2.1,q3.2.2)
 | .inr q4 =>
  bif decide ((s.Plans.length : Int) ≥ 12) then
  some (s,0,4)
  else
  bif decide (p.From < s.Now) then
   some (s,0,15)
  else
   (aZ s p.Label).bind fun x2 =>
   (fS s.Plans x2 p long).bind fun x3 =>
   bif x3.2 != 0 then
   some (s,0,x3.2)
   else
   (slc s.Plans 0 q4.2).bind fun l =>
   (app 48 [] l).bind fun l1 =>
   (app 48 l1 [(⟨p.Id,p.Label,x3.1,w64 (x3.1 + long),⟨p.Need.Mem,p.Need.Cores⟩⟩ : Plan)]).bind fun l2 =>
   (slc s.Plans q4.2 (s.Plans.length : Int)).bind fun l3 =>
   (app 48 l2 l3).bind fun l4 =>
   some ((⟨⟨s.Conf.Labels,s.Conf.Queues⟩,s.Nodes,s.Apps,s.Conts,s.Slots,l4,s.Now,s.Epoch,s.Seq⟩ : State),x3.1,0)
def h48 : Hint:=(.s .z (.s (.s (.j [] [(0,[(41,.v .bool [])])] .z) .z) (.s .z (.s (.s .z (.b (.l [(6,.box (.st 10) [0,1,2,3,4,5,6]),(9,.v (.int .i64) []),(10,.v (.int .i64) [])] [6,7,8,9,10] [(1,[(6,.box (.st 10) []),(7,.v (.int .i64) []),(8,.v (.int .i64) [])]),(2,[(6,.box (.st 10) [0,1,2,3,4,5,6]),(9,.v (.int .i64) [])])] (.s .z (.s (.j [6,7,8,9] [(0,[(6,.box (.st 10) [0,1,2,3,4,5,6]),(9,.v (.int .i64) [])]),(1,[(6,.box (.st 10) []),(7,.v (.int .i64) []),(8,.v (.int .i64) [])])] .z) .z))))) .z))))
def sp48 : Spec fam:=⟨[.v (.st 10) [],.v (.st 9) [],.v (.int .i64) []],[.v (.st 10) [],.v (.int .i64) [],.v (.int .i64) []],fun a => hP a.1 a.2.1 a.2.2.1⟩
def eB (s : State) (id_ : Int) (t : List Plan × Int) : Option ((List Plan × Int) ⊕ List Plan) :=
 bif decide (t.2 < (s.Plans.length : Int)) then
 (
  (idx s.Plans t.2).bind fun x =>
  bif x.Id != id_ then
  (idx s.Plans t.2).bind fun x1 =>
  (app 48 t.1 [x1]).bind fun l =>
  some l
  else
  some t.1).bind fun l1 =>
 some (.inl (l1,w64 (t.2 + 1)))
 else
 some (.inr t.1)
def gu (s : State) (id_ : Int) : Option (State × Int) :=
 (loop (eB s id_) ([],0)).bind fun l2 =>
 bif (l2.length : Int) == (s.Plans.length : Int) then
 some (s,2)
 else
 some ((⟨⟨s.Conf.Labels,s.Conf.Queues⟩,s.Nodes,s.Apps,s.Conts,s.Slots,l2,s.Now,s.Epoch,s.Seq⟩ : State),0)
def h49 : Hint:=(.s .z (.s .z (.s (.s .z (.b (.l [(6,.v (.slice (.st 9)) [0]),(7,.v (.int .i64) [])] [6,7] [(2,[(6,.v (.slice (.st 9)) [0])])] (.s .z (.s (.j [6] [(0,[(6,.v (.slice (.st 9)) [0])])] .z) .z))))) .z)))
def sp49 : Spec fam:=⟨[.v (.st 10) [],.v (.int .i64) []],[.v (.st 10) [],.v (.int .i64) []],fun a => gu a.1 a.2.1⟩
def dR (s : State) (x : Input) : Option (State × Output) :=
 bif x.Kind == 1 then
 (fj s x.Text).bind fun x1 =>
 some (x1.1,x1.2)
 else
 bif x.Kind == 2 then
  (et s x.Node).bind fun x2 =>
  some (x2.1,(⟨x2.2,[],[],[],0⟩ : Output))
 else
  bif x.Kind == 3 then
  (gj s x).bind fun x3 =>
  some (x3.1,x3.2)
  else
  bif x.Kind == 4 then
   (fd s x.App).bind fun x4 =>
   some (x4.1,(⟨x4.2,[],[],[],0⟩ : Output))
  else
   bif x.Kind == 5 then
   (fa s x).bind fun x5 =>
   some (x5.1,x5.2)
   else
   bif x.Kind == 6 then
    (eS s x.Id 3).bind fun x6 =>
    some (x6.1,x6.2)
   else
    bif x.Kind == 7 then
    (eS s x.Id 4).bind fun x7 =>
    some (x7.1,x7.2)
    else
    bif x.Kind == 8 then
     (gv s x.N).bind fun x8 =>
     some (x8.1,x8.2)
    else
     bif x.Kind == 9 then
     (hP s x.Plan x.N).bind fun x9 =>
     some (x9.1,(⟨x9.2.2,[],[],[],x9.2.1⟩ : Output))
     else
     bif x.Kind == 10 then
      (gu s x.Id).bind fun x10 =>
      some (x10.1,(⟨x10.2,[],[],[],0⟩ : Output))
     else
      bif x.Kind == 11 then
      bif decide (s.Epoch ≥ 1048576) then
       (aB s 11).bind fun x11 =>
       some (x11.1,x11.2)
      else
       some ((⟨⟨s.Conf.Labels,s.Conf.Queues⟩,s.Nodes,s.Apps,s.Conts,s.Slots,s.Plans,s.Now,w64 (s.Epoch + 1),0⟩ : State),(⟨0,[],[],[],0⟩ : Output))
      else
      (aB s 3).bind fun x12 =>
      some (x12.1,x12.2)
def h20 : Hint:=.z
def sp20 : Spec fam:=⟨[.v (.st 10) [],.v (.st 15) []],[.v (.st 10) [],.v (.st 13) [1,2,3]],fun a => dR a.1 a.2.1⟩
def bN (self : Int → Option (List UInt8)) (n : Int) : Option (List UInt8) :=
 bif decide (n < 0) then
 bif n == (-9223372036854775808) then
  some ([45,57,50,50,51,51,55,50,48,51,54,56,53,52,55,55,53,56,48,56] : List UInt8)
 else
  (self (w64 (0 - n))).bind fun x =>
  (cat ([45] : List UInt8) x).bind fun s =>
  some s
 else
 bif decide (n ≥ 10) then
  (self (w64 (Int.tdiv n 10))).bind fun x1 =>
  (self (Int.tmod n 10)).bind fun x2 =>
  (cat x1 x2).bind fun s1 =>
  some s1
 else
  some (List.map toB [IntKind.u8.wrap (w64 (48 + n))])
def bh : Nat → Int → Option (List UInt8)
 | 0 => fun _ => none
 | n + 1 => bN (bh n)
def bz (a0 : Int) : Option (List UInt8):=bh 64 a0
def h51 : Hint:=.z
def sp51 : Spec fam:=⟨[.v (.int .i64) []],[.v .str []],fun a => bz a.1⟩
def An (n : Nat) : Spec fam:=⟨[.v (.int .i64) []],[.v .str []],fun a => bh n a.1⟩
def fm (x1 : Queue) (t2 : List UInt8 × Int) : Option ((List UInt8 × Int) ⊕ List UInt8) :=
 bif decide (t2.2 < (x1.Caps.length : Int)) then
 (cat t2.1 ([32] : List UInt8)).bind fun s7 =>
 (idx x1.Caps t2.2).bind fun x3 =>
 (bz x3.Least).bind fun x4 =>
 (cat s7 x4).bind fun s8 =>
 (cat s8 ([47] : List UInt8)).bind fun s9 =>
 (idx x1.Caps t2.2).bind fun x5 =>
 (bz x5.Most).bind fun x6 =>
 (cat s9 x6).bind fun s10 =>
 some (.inl (s10,w64 (t2.2 + 1)))
 else
 some (.inr t2.1)
def fk (c : Conf) (t1 : List UInt8 × Int) : Option ((List UInt8 × Int) ⊕ List UInt8) :=
 bif decide (t1.2 < (c.Queues.length : Int)) then
 (idx c.Queues t1.2).bind fun x1 =>
 (cat t1.1 ([113,117,101,117,101,32] : List UInt8)).bind fun s3 =>
 (cat s3 x1.Path).bind fun s4 =>
 (cat s4 ([32] : List UInt8)).bind fun s5 =>
 (bz x1.User).bind fun x2 =>
 (cat s5 x2).bind fun s6 =>
 (loop (fm x1) (s6,0)).bind fun out1 =>
 (cat out1 ([10] : List UInt8)).bind fun s11 =>
 some (.inl (s11,w64 (t1.2 + 1)))
 else
 some (.inr t1.1)
def kq (c : Conf) (t : List UInt8 × Int) : Option ((List UInt8 × Int) ⊕ List UInt8) :=
 bif decide (t.2 < (c.Labels.length : Int)) then
 (cat t.1 ([32] : List UInt8)).bind fun s =>
 (idx c.Labels t.2).bind fun x =>
 (cat s x).bind fun s1 =>
 some (.inl (s1,w64 (t.2 + 1)))
 else
 some (.inr t.1)
def eT (c : Conf) : Option (List UInt8) :=
 (loop (kq c) (([108,97,98,101,108,115] : List UInt8),1)).bind fun out =>
 (cat out ([10] : List UInt8)).bind fun s2 =>
 (loop (fk c) (s2,0)).bind fun out2 =>
 some out2
def h21 : Hint:=(.s .z (.s .z (.s (.s .z (.b (.l [(3,.v .str []),(4,.v (.int .i64) [])] [3,4] [(2,[(3,.v .str [])])] .z))) (.s .z (.s (.s .z (.b (.l [(3,.v .str []),(5,.v (.int .i64) [])] [3,5,6,7] [(4,[(3,.v .str [])])] (.s .z (.s (.b (.s .z (.s .z (.s (.s .z (.b (.l [(3,.v .str []),(7,.v (.int .i64) [])] [3,7] [(6,[(3,.v .str [])])] .z))) .z)))) .z))))) .z)))))
def sp21 : Spec fam:=⟨[.v (.st 3) []],[.v .str []],fun a => eT a.1⟩
def aN (at_ : Int) (n : Int) : Option Int :=
 (nz n).bind fun _ =>
 (
 bif decide ((Int.tmod at_ n) < 0) then
  let k:=w64 ((Int.tmod at_ n) + n)
  some k
 else
  some (Int.tmod at_ n)).bind fun k1 =>
 some k1
def h52 : Hint:=(.s .z (.s .z (.s (.j [5] [(0,[(5,.v (.int .i64) [])])] .z) .z)))
def sp52 : Spec fam:=⟨[.v (.int .i64) [],.v (.int .i64) []],[.v (.int .i64) []],fun a => aN a.1 a.2.1⟩
def bH (ns : List Int) (i : Int) : Option Int :=
 bif (ns.length : Int) == 0 then
 some i
 else
 (nz (ns.length : Int)).bind fun _ =>
 (idx ns (Int.tmod i (ns.length : Int))).bind fun x =>
 some x
def h54 : Hint:=.z
def sp54 : Spec fam:=⟨[.v (.slice (.int .i64)) [],.v (.int .i64) []],[.v (.int .i64) []],fun a => bH a.1 a.2.1⟩
def cv (kids : List (List UInt8)) (t3 : Conf × Int) (t4 : Conf × Int × Int) (n : Int) (x17 : Int) (t5 : Conf × Int) : Option ((Conf × Int) ⊕ Conf) :=
 bif decide (t5.2 < (t5.1.Queues.length : Int)) then
 (
  (inb t5.2 t5.1.Queues.length).bind fun i3 =>
  (t5.1.Queues[i3]?).bind fun x18 =>
  (inb t4.2.2 kids.length).bind fun i4 =>
  (kids[i4]?).bind fun x19 =>
  bif x18.Path == x19 then
  (inb t5.2 t5.1.Queues.length).bind fun i5 =>
  (t5.1.Queues[i5]?).bind fun x20 =>
  (t5.1.Queues[i5]?).bind fun x21 =>
  (inb t3.2 x21.Caps.length).bind fun i6 =>
  (t5.1.Queues[i5]?).bind fun x22 =>
  (x22.Caps[i6]?).bind fun y =>
  some (⟨t5.1.Labels,List.set t5.1.Queues i5 (⟨x22.Path,List.set x22.Caps i6 (⟨n,x17⟩ : Cap),x22.User⟩ : Queue)⟩ : Conf)
  else
  some t5.1).bind fun c1 =>
 some (.inl (c1,w64 (t5.2 + 1)))
 else
 some (.inr t5.1)
def cF (ns : List Int) (t2 : Conf × Int) (kids : List (List UInt8)) (t3 : Conf × Int) (t4 : Conf × Int × Int) : Option ((Conf × Int × Int) ⊕ Conf) :=
 bif decide (t4.2.2 < (kids.length : Int)) then
 (
  bif decide (t4.2.2 < (w64 ((kids.length : Int) - 1))) then
  (bH ns (w64 ((w64 (t2.2 + t4.2.2)) + t3.2))).bind fun x8 =>
  (aN x8 (w64 (t4.2.1 + 1))).bind fun x9 =>
  (bH ns (w64 ((w64 (t2.2 * t4.2.2)) + t3.2))).bind fun x10 =>
  (aN x10 4).bind fun x11 =>
  (inb x11 [0,w64 (Int.tdiv t4.2.1 2),t4.2.1,x9].length).bind fun i1 =>
  ([0,w64 (Int.tdiv t4.2.1 2),t4.2.1,x9][i1]?).bind fun x12 =>
  some x12
  else
  some t4.2.1).bind fun n =>
 (bH ns (w64 (t4.2.2 + t3.2))).bind fun x13 =>
 (aN x13 (w64 ((w64 (10000 - n)) + 1))).bind fun x14 =>
 (bH ns (w64 (t2.2 + (w64 (2 * t4.2.2))))).bind fun x15 =>
 (aN x15 3).bind fun x16 =>
 (inb x16 [10000,n,w64 (n + x14)].length).bind fun i2 =>
 ([10000,n,w64 (n + x14)][i2]?).bind fun x17 =>
 (loop (cv kids t3 t4 n x17) (t4.1,0)).bind fun c2 =>
 some (.inl (c2,w64 (t4.2.1 - n),w64 (t4.2.2 + 1)))
 else
 some (.inr t4.1)
def fp (ns : List Int) (t2 : Conf × Int) (kids : List (List UInt8)) (t3 : Conf × Int) : Option ((Conf × Int) ⊕ Conf) :=
 bif decide (t3.2 < (t3.1.Labels.length : Int)) then
 (loop (cF ns t2 kids t3) (t3.1,10000,0)).bind fun c3 =>
 some (.inl (c3,w64 (t3.2 + 1)))
 else
 some (.inr t3.1)
def cz (ns : List Int) (x2 : List (List UInt8)) (t2 : Conf × Int) : Option ((Conf × Int) ⊕ Conf) :=
 bif decide (t2.2 < (x2.length : Int)) then
 (idx x2 t2.2).bind fun x7 =>
 (bj t2.1 x7).bind fun kids =>
 (loop (fp ns t2 kids) (t2.1,0)).bind fun c4 =>
 some (.inl (c4,w64 (t2.2 + 1)))
 else
 some (.inr t2.1)
def ff (t : Conf × Int) (t1 : Queue × Int) : Option ((Queue × Int) ⊕ Queue) :=
 bif decide (t1.2 < (t.1.Labels.length : Int)) then
 (app 16 t1.1.Caps [(⟨10000,10000⟩ : Cap)]).bind fun l =>
 some (.inl ((⟨t1.1.Path,l,t1.1.User⟩ : Queue),w64 (t1.2 + 1)))
 else
 some (.inr t1.1)
def cD (ns : List Int) (x2 : List (List UInt8)) (t : Conf × Int) : Option ((Conf × Int) ⊕ Conf) :=
 bif decide (t.2 < (x2.length : Int)) then
 (idx x2 t.2).bind fun x3 =>
 (
  (
  bif decide (t.2 < (ns.length : Int)) then
   (idx ns t.2).bind fun x4 =>
   some ((Int.tmod x4 3) == 0)
  else
   some false).bind fun q =>
  bif q then
  (idx ns t.2).bind fun x5 =>
  (aN x5 20000).bind fun x6 =>
  some (⟨x3,[],w64 (1 + x6)⟩ : Queue)
  else
  some (⟨x3,[],1000000⟩ : Queue)).bind fun q1 =>
 (loop (ff t) (q1,0)).bind fun q2 =>
 (app 48 t.1.Queues [q2]).bind fun l1 =>
 some (.inl ((⟨t.1.Labels,l1⟩ : Conf),w64 (t.2 + 1)))
 else
 some (.inr t.1)
def eP (shape : Int) (ns : List Int) : Option Conf :=
 (aN (w64 (Int.tdiv shape 5)) 2).bind fun x =>
 (inS 0 (w64 (1 + x)) [([] : List UInt8),([103,112,117] : List UInt8)].length).bind fun p =>
 (aN shape 5).bind fun x1 =>
 (inb x1 [[([114,111,111,116] : List UInt8)],[([114,111,111,116] : List UInt8),([114,111,111,116,46,97] : List UInt8),([114,111,111,116,46,98] : List UInt8)],[([114,111,111,116] : List UInt8),([114,111,111,116,46,97] : List UInt8),([114,111,111,116,46,97,46,120] : List UInt8),([114,111,111,116,46,97,46,121] : List UInt8),([114,111,111,116,46,98] : List UInt8)],[([114,111,111,116] : List UInt8),([114,111,111,116,46,97] : List UInt8),([114,111,111,116,46,98] : List UInt8),([114,111,111,116,46,98,46,120] : List UInt8),([114,111,111,116,46,98,46,120,46,112] : List UInt8),([114,111,111,116,46,98,46,120,46,113] : List UInt8),([114,111,111,116,46,99] : List UInt8)],[([114,111,111,116] : List UInt8),([114,111,111,116,46,97] : List UInt8)]].length).bind fun i =>
 ([[([114,111,111,116] : List UInt8)],[([114,111,111,116] : List UInt8),([114,111,111,116,46,97] : List UInt8),([114,111,111,116,46,98] : List UInt8)],[([114,111,111,116] : List UInt8),([114,111,111,116,46,97] : List UInt8),([114,111,111,116,46,97,46,120] : List UInt8),([114,111,111,116,46,97,46,121] : List UInt8),([114,111,111,116,46,98] : List UInt8)],[([114,111,111,116] : List UInt8),([114,111,111,116,46,97] : List UInt8),([114,111,111,116,46,98] : List UInt8),([114,111,111,116,46,98,46,120] : List UInt8),([114,111,111,116,46,98,46,120,46,112] : List UInt8),([114,111,111,116,46,98,46,120,46,113] : List UInt8),([114,111,111,116,46,99] : List UInt8)],[([114,111,111,116] : List UInt8),([114,111,111,116,46,97] : List UInt8)]][i]?).bind fun x2 =>
 (loop (cD ns x2) ((⟨sub [([] : List UInt8),([103,112,117] : List UInt8)] p.1 p.2,[]⟩ : Conf),0)).bind fun c =>
 (loop (cz ns x2) (c,0)).bind fun c5 =>
 some c5
def h22 : Hint:=(.s .z (.s .z (.s .z (.s .z (.s (.s .z (.b (.l [(6,.box (.st 3) [1001]),(8,.v (.int .i64) [])] [6,8,9,10,59] [(2,[(6,.box (.st 3) [1001])])] (.s .z (.s (.b (.s .z (.s (.j [9,59] [(0,[(9,.box (.st 2) [1])])] (.s (.j [] [(0,[(59,.v .bool [])])] .z) .z)) (.s (.s .z (.b (.l [(9,.box (.st 2) [1]),(10,.v (.int .i64) [])] [9,10] [(4,[(9,.box (.st 2) [1])])] .z))) .z)))) .z))))) (.s (.s .z (.b (.l [(6,.box (.st 3) [1001]),(11,.v (.int .i64) [])] [6,11,12,13,14,15,16,17,18] [(6,[(6,.box (.st 3) [1001])])] (.s .z (.s (.b (.s .z (.s .z (.b (.l [(6,.box (.st 3) [1001]),(13,.v (.int .i64) [])] [6,13,14,15,16,17,18] [(8,[(6,.box (.st 3) [1001])])] (.s .z (.s (.b (.s .z (.s .z (.b (.l [(6,.box (.st 3) [1001]),(14,.v (.int .i64) []),(15,.v (.int .i64) [])] [6,14,15,16,17,18] [(10,[(6,.box (.st 3) [1001])])] (.s .z (.s (.b (.s .z (.s (.j [16] [(0,[(16,.v (.int .i64) [])])] .z) (.s .z (.s .z (.s .z (.b (.l [(6,.box (.st 3) [1001]),(18,.v (.int .i64) [])] [6,18] [(12,[(6,.box (.st 3) [1001])])] (.s .z (.s (.j [6] [(0,[(6,.box (.st 3) [1001])])] .z) .z)))))))))) .z))))))) .z))))))) .z))))) .z))))))
def sp22 : Spec fam:=⟨[.v (.int .i64) [],.v (.slice (.int .i64)) []],[.v (.st 3) [1001]],fun a => eP a.1 a.2.1⟩
def am (at_ : Int) (n : Int) : Option Int :=
 (nz n).bind fun _ =>
 (
 bif decide ((Int.tmod at_ n) < 0) then
  let k:=w64 ((Int.tmod at_ n) + n)
  some k
 else
  some (Int.tmod at_ n)).bind fun k1 =>
 some k1
def h55 : Hint:=(.s .z (.s .z (.s (.j [5] [(0,[(5,.v (.int .i64) [])])] .z) .z)))
def sp55 : Spec fam:=⟨[.v (.int .i64) [],.v (.int .i64) []],[.v (.int .i64) []],fun a => am a.1 a.2.1⟩
def dw (c : Conf) (t : List (List UInt8) × Int) : Option ((List (List UInt8) × Int) ⊕ List (List UInt8)) :=
 bif decide (t.2 < (c.Queues.length : Int)) then
 (
  (idx c.Queues t.2).bind fun x =>
  (cI c x.Path).bind fun x1 =>
  bif x1 then
  (idx c.Queues t.2).bind fun x2 =>
  (app 16 t.1 [x2.Path]).bind fun l =>
  some l
  else
  some t.1).bind fun l1 =>
 some (.inl (l1,w64 (t.2 + 1)))
 else
 some (.inr t.1)
def fT (c : Conf) : Option (List (List UInt8)) :=
 (loop (dw c) ([],0)).bind fun l2 =>
 some l2
def h56 : Hint:=(.s .z (.s .z (.s (.s .z (.b (.l [(3,.v (.slice (.str)) [0]),(4,.v (.int .i64) [])] [3,4] [(2,[(3,.v (.slice (.str)) [0])])] (.s .z (.s (.j [3] [(0,[(3,.v (.slice (.str)) [0])])] .z) .z))))) .z)))
def sp56 : Spec fam:=⟨[.v (.st 3) []],[.v (.slice (.str)) [0]],fun a => fT a.1⟩
def cJ (n : Int) : Option Vec :=
 (am n 5).bind fun x =>
 (inb x [(⟨1,1⟩ : Vec),(⟨2,1⟩ : Vec),(⟨4,4⟩ : Vec),(⟨3,2⟩ : Vec),(⟨1,3⟩ : Vec)].length).bind fun i =>
 ([(⟨1,1⟩ : Vec),(⟨2,1⟩ : Vec),(⟨4,4⟩ : Vec),(⟨3,2⟩ : Vec),(⟨1,3⟩ : Vec)][i]?).bind fun x1 =>
 some x1
def h57 : Hint:=.z
def sp57 : Spec fam:=⟨[.v (.int .i64) []],[.v (.st 0) []],fun a => cJ a.1⟩
def bU (a : Act) (s : State) (x1 : App) (t : Input × Int) : Option ((Input × Int) ⊕ Input) :=
 bif decide (t.2 < (s.Conts.length : Int)) then
 (
  (
  (idx s.Conts t.2).bind fun x11 =>
  bif x11.App == x1.Id then
   (am (w64 (a.D + t.2)) 11).bind fun x12 =>
   some (x12 == 10)
  else
   some false).bind fun q =>
  bif q then
  (idx s.Conts t.2).bind fun x13 =>
  (app 8 t.1.Ids [x13.Id]).bind fun l =>
  some (⟨t.1.Kind,t.1.Id,t.1.Beat,t.1.N,t.1.Text,⟨t.1.Node.Id,t.1.Node.Label,t.1.Node.Rack,⟨t.1.Node.Cap.Mem,t.1.Node.Cap.Cores⟩,t.1.Node.Seen,t.1.Node.Beat,t.1.Node.Up⟩,⟨t.1.App.Id,t.1.App.State,t.1.App.Queue,t.1.App.User,t.1.App.Prio,⟨t.1.App.Master.Mem,t.1.App.Master.Cores⟩,t.1.App.Asks,t.1.App.Seen,t.1.App.Beat,t.1.App.Grants,t.1.App.Kills,t.1.App.Told,t.1.App.Lost⟩,t.1.Asks,l,⟨t.1.Plan.Id,t.1.Plan.Label,t.1.Plan.From,t.1.Plan.Until,⟨t.1.Plan.Need.Mem,t.1.Plan.Need.Cores⟩⟩⟩ : Input)
  else
  some t.1).bind fun x14 =>
 some (.inl (x14,w64 (t.2 + 1)))
 else
 some (.inr t.1)
def cY (a : Act) (s : State) : Option Input :=
 bif (s.Apps.length : Int) == 0 then
 some (⟨5,0,0,0,[],⟨0,0,0,⟨0,0⟩,0,0,false⟩,⟨0,0,[],0,0,⟨0,0⟩,[],0,0,[],[],[],[]⟩,[],[],⟨0,0,0,0,⟨0,0⟩⟩⟩ : Input)
 else
 (am a.A (s.Apps.length : Int)).bind fun x =>
 (idx s.Apps x).bind fun x1 =>
 (am a.B 8).bind fun x2 =>
 (
  bif decide ((Int.tmod a.C 3) > 0) then
  (am a.B 5).bind fun x3 =>
  (am a.C (s.Conf.Labels.length : Int)).bind fun x4 =>
  (cJ a.D).bind fun x5 =>
  (am a.D 7).bind fun x6 =>
  (
   bif (Int.tmod a.D 4) == 1 then
   (am a.C 3).bind fun x7 =>
   some (⟨x3,x4,⟨x5.Mem,x5.Cores⟩,x6,(-1),x7,0⟩ : Ask)
   else
   some (⟨x3,x4,⟨x5.Mem,x5.Cores⟩,x6,(-1),(-1),0⟩ : Ask)).bind fun k =>
  (
   bif (Int.tmod a.D 4) == 2 then
   (am a.C 3).bind fun x8 =>
   (am a.B 6).bind fun x9 =>
   some (⟨k.Prio,k.Label,⟨k.Size.Mem,k.Size.Cores⟩,k.Count,x9,x8,k.Missed⟩ : Ask)
   else
   some k).bind fun k1 =>
  some (⟨5,x1.Id,w64 ((w64 (x1.Beat + 1)) - (w64 (Int.tdiv x2 6))),0,[],⟨0,0,0,⟨0,0⟩,0,0,false⟩,⟨0,0,[],0,0,⟨0,0⟩,[],0,0,[],[],[],[]⟩,[k1],[],⟨0,0,0,0,⟨0,0⟩⟩⟩ : Input)
  else
  some (⟨5,x1.Id,w64 ((w64 (x1.Beat + 1)) - (w64 (Int.tdiv x2 6))),0,[],⟨0,0,0,⟨0,0⟩,0,0,false⟩,⟨0,0,[],0,0,⟨0,0⟩,[],0,0,[],[],[],[]⟩,[],[],⟨0,0,0,0,⟨0,0⟩⟩⟩ : Input)).bind fun x10 =>
 (loop (bU a s x1) (x10,0)).bind fun x15 =>
 some x15
def h58 : Hint:=(.s .z (.s .z (.s .z (.s .z (.s .z (.s (.j [5,7] [(0,[(5,.box (.st 15) [20,23,24,25,26,27,28])])] (.s .z (.c (.s .z (.s (.j [7] [(0,[(7,.box (.st 5) [])])] .z) (.s (.j [7] [(0,[(7,.box (.st 5) [])])] .z) .z))) .z))) (.s (.s .z (.b (.l [(5,.box (.st 15) [20,23,24,25,26,27,28]),(8,.v (.int .i64) [])] [5,8,104] [(2,[(5,.box (.st 15) [20,23,24,25,26,27,28])])] (.s .z (.s (.j [5,104] [(0,[(5,.box (.st 15) [20,23,24,25,26,27,28])])] (.b (.s (.j [] [(0,[(104,.v .bool [])])] .z) .z))) .z))))) .z)))))))
def sp58 : Spec fam:=⟨[.v (.st 11) [],.v (.st 10) []],[.v (.st 15) [20,23,24,25,26,27,28]],fun a => cY a.1 a.2.1⟩
def ci (a : Act) (s : State) (id_ : Int) (t1 : Input × Int) : Option ((Input × Int) ⊕ Input) :=
 bif decide (t1.2 < (s.Conts.length : Int)) then
 (
  (
  (idx s.Conts t1.2).bind fun x11 =>
  bif x11.Node == id_ then
   (am (w64 (a.C + t1.2)) 9).bind fun x12 =>
   some (x12 == 8)
  else
   some false).bind fun q2 =>
  bif q2 then
  (idx s.Conts t1.2).bind fun x13 =>
  (app 8 t1.1.Ids [x13.Id]).bind fun l =>
  some (⟨t1.1.Kind,t1.1.Id,t1.1.Beat,t1.1.N,t1.1.Text,⟨t1.1.Node.Id,t1.1.Node.Label,t1.1.Node.Rack,⟨t1.1.Node.Cap.Mem,t1.1.Node.Cap.Cores⟩,t1.1.Node.Seen,t1.1.Node.Beat,t1.1.Node.Up⟩,⟨t1.1.App.Id,t1.1.App.State,t1.1.App.Queue,t1.1.App.User,t1.1.App.Prio,⟨t1.1.App.Master.Mem,t1.1.App.Master.Cores⟩,t1.1.App.Asks,t1.1.App.Seen,t1.1.App.Beat,t1.1.App.Grants,t1.1.App.Kills,t1.1.App.Told,t1.1.App.Lost⟩,t1.1.Asks,l,⟨t1.1.Plan.Id,t1.1.Plan.Label,t1.1.Plan.From,t1.1.Plan.Until,⟨t1.1.Plan.Need.Mem,t1.1.Plan.Need.Cores⟩⟩⟩ : Input)
  else
  some t1.1).bind fun x14 =>
 some (.inl (x14,w64 (t1.2 + 1)))
 else
 some (.inr t1.1)
def cj (a : Act) (s : State) (id_ : Int) (t : Input × Int) : Option ((Input × Int) ⊕ Input) :=
 bif decide (t.2 < (s.Nodes.length : Int)) then
 (
  (idx s.Nodes t.2).bind fun x6 =>
  bif x6.Id == id_ then
  (idx s.Nodes t.2).bind fun x7 =>
  (am a.B 8).bind fun x8 =>
  some (⟨t.1.Kind,t.1.Id,w64 ((w64 (x7.Beat + 1)) - (w64 (Int.tdiv x8 6))),t.1.N,t.1.Text,⟨t.1.Node.Id,t.1.Node.Label,t.1.Node.Rack,⟨t.1.Node.Cap.Mem,t.1.Node.Cap.Cores⟩,t.1.Node.Seen,t.1.Node.Beat,t.1.Node.Up⟩,⟨t.1.App.Id,t.1.App.State,t.1.App.Queue,t.1.App.User,t.1.App.Prio,⟨t.1.App.Master.Mem,t.1.App.Master.Cores⟩,t.1.App.Asks,t.1.App.Seen,t.1.App.Beat,t.1.App.Grants,t.1.App.Kills,t.1.App.Told,t.1.App.Lost⟩,t.1.Asks,t.1.Ids,⟨t.1.Plan.Id,t.1.Plan.Label,t.1.Plan.From,t.1.Plan.Until,⟨t.1.Plan.Need.Mem,t.1.Plan.Need.Cores⟩⟩⟩ : Input)
  else
  some t.1).bind fun x9 =>
 some (.inl (x9,w64 (t.2 + 1)))
 else
 some (.inr t.1)
def dA (a : Act) (s : State) : Option Input :=
 (am a.A 6).bind fun id_ =>
 (fT s.Conf).bind fun leaves =>
 (am a.B 4).bind fun x =>
 (
 (am a.Kind 16).bind fun x1 =>
 (
  bif x1 == 0 then
  some (x1 == 0)
  else
  some (x1 == 1)).bind fun q =>
 bif q then
  (am a.B (s.Conf.Labels.length : Int)).bind fun x2 =>
  (am a.C 3).bind fun x3 =>
  (am a.D 12).bind fun x4 =>
  (am a.D 8).bind fun x5 =>
  some (⟨2,id_,0,w64 (1 + x),[],⟨id_,x2,x3,⟨w64 (4 + x4),w64 (4 + x5)⟩,0,0,false⟩,⟨0,0,[],0,0,⟨0,0⟩,[],0,0,[],[],[],[]⟩,[],[],⟨0,0,0,0,⟨0,0⟩⟩⟩ : Input)
 else
  (
  bif x1 == 2 then
   some (x1 == 2)
  else
   bif x1 == 3 then
   some (x1 == 3)
   else
   bif x1 == 4 then
    some (x1 == 4)
   else
    some (x1 == 5)).bind fun q1 =>
  bif q1 then
  (loop (cj a s id_) ((⟨3,id_,0,w64 (1 + x),[],⟨0,0,0,⟨0,0⟩,0,0,false⟩,⟨0,0,[],0,0,⟨0,0⟩,[],0,0,[],[],[],[]⟩,[],[],⟨0,0,0,0,⟨0,0⟩⟩⟩ : Input),0)).bind fun x10 =>
  (loop (ci a s id_) (x10,0)).bind fun x15 =>
  some x15
  else
  (
   bif x1 == 6 then
   some (x1 == 6)
   else
   some (x1 == 7)).bind fun q3 =>
  bif q3 then
   (am a.A 20).bind fun x16 =>
   (am a.B (leaves.length : Int)).bind fun x17 =>
   (inb x17 leaves.length).bind fun i =>
   (leaves[i]?).bind fun x18 =>
   (am a.C 3).bind fun x19 =>
   (am a.D 3).bind fun x20 =>
   (cJ (w64 (Int.tdiv a.D 3))).bind fun x21 =>
   some (⟨4,id_,0,w64 (1 + x),[],⟨0,0,0,⟨0,0⟩,0,0,false⟩,⟨x16,0,x18,x19,x20,⟨x21.Mem,x21.Cores⟩,[],0,0,[],[],[],[]⟩,[],[],⟨0,0,0,0,⟨0,0⟩⟩⟩ : Input)
  else
   (
   bif x1 == 8 then
    some (x1 == 8)
   else
    bif x1 == 9 then
    some (x1 == 9)
    else
    some (x1 == 10)).bind fun q4 =>
   bif q4 then
   (cY a s).bind fun x22 =>
   some x22
   else
   bif x1 == 11 then
    (am a.B 2).bind fun x23 =>
    (inb x23 [6,7].length).bind fun i1 =>
    ([6,7][i1]?).bind fun x24 =>
    (am a.A 20).bind fun x25 =>
    some (⟨x24,x25,0,w64 (1 + x),[],⟨0,0,0,⟨0,0⟩,0,0,false⟩,⟨0,0,[],0,0,⟨0,0⟩,[],0,0,[],[],[],[]⟩,[],[],⟨0,0,0,0,⟨0,0⟩⟩⟩ : Input)
   else
    (
    bif x1 == 12 then
     some (x1 == 12)
    else
     some (x1 == 13)).bind fun q5 =>
    bif q5 then
    (am a.A 5).bind fun x26 =>
    some (⟨8,id_,0,w64 (1 + x26),[],⟨0,0,0,⟨0,0⟩,0,0,false⟩,⟨0,0,[],0,0,⟨0,0⟩,[],0,0,[],[],[],[]⟩,[],[],⟨0,0,0,0,⟨0,0⟩⟩⟩ : Input)
    else
    bif x1 == 14 then
     (am a.D 3).bind fun x27 =>
     (inb x27 [9,9,10].length).bind fun i2 =>
     ([9,9,10][i2]?).bind fun x28 =>
     (am a.B (s.Conf.Labels.length : Int)).bind fun x29 =>
     (am a.C 5).bind fun x30 =>
     (cJ a.D).bind fun x31 =>
     (am a.C 12).bind fun x32 =>
     some (⟨x28,id_,0,w64 (1 + x32),[],⟨0,0,0,⟨0,0⟩,0,0,false⟩,⟨0,0,[],0,0,⟨0,0⟩,[],0,0,[],[],[],[]⟩,[],[],⟨id_,x29,w64 (s.Now + x30),w64 (s.Now + 20),⟨x31.Mem,x31.Cores⟩⟩⟩ : Input)
    else
     bif x1 == 15 then
     (am a.A 3).bind fun x33 =>
     (inb x33 [11,1,1].length).bind fun i3 =>
     ([11,1,1][i3]?).bind fun x34 =>
     (eP a.B [a.C,a.D]).bind fun x35 =>
     (eT x35).bind fun x36 =>
     some (⟨x34,id_,0,w64 (1 + x),x36,⟨0,0,0,⟨0,0⟩,0,0,false⟩,⟨0,0,[],0,0,⟨0,0⟩,[],0,0,[],[],[],[]⟩,[],[],⟨0,0,0,0,⟨0,0⟩⟩⟩ : Input)
     else
     some (⟨0,id_,0,w64 (1 + x),[],⟨0,0,0,⟨0,0⟩,0,0,false⟩,⟨0,0,[],0,0,⟨0,0⟩,[],0,0,[],[],[],[]⟩,[],[],⟨0,0,0,0,⟨0,0⟩⟩⟩ : Input)).bind fun x37 =>
 some x37
def h23 : Hint:=(.s .z (.s .z (.s .z (.s .z (.s (.j [8,9,10,27,28,29,30,53,109,121,148,168] [(0,[(8,.box (.st 15) [20,23,24,25,26,27,28])])] (.s .z (.b (.s (.j [] [(0,[(30,.v .bool [])])] .z) (.c .z (.s (.j [] [(0,[(53,.v .bool [])])] .z) (.c (.s .z (.s (.s .z (.b (.l [(8,.box (.st 15) [20,23,24,25,26,27,28]),(9,.v (.int .i64) [])] [8,9] [(3,[(8,.box (.st 15) [20,23,24,25,26,27,28])])] (.s .z (.s (.j [8] [(0,[(8,.box (.st 15) [20,23,24,25,26,27,28])])] .z) .z))))) (.s .z (.b (.l [(8,.box (.st 15) [20,23,24,25,26,27,28]),(10,.v (.int .i64) [])] [8,10,109] [(5,[(8,.box (.st 15) [20,23,24,25,26,27,28])])] (.s .z (.s (.j [8,109] [(0,[(8,.box (.st 15) [20,23,24,25,26,27,28])])] (.b (.s (.j [] [(0,[(109,.v .bool [])])] .z) .z))) .z))))))) (.s (.j [] [(0,[(121,.v .bool [])])] .z) (.c .z (.s (.j [] [(0,[(148,.v .bool [])])] .z) (.c .z (.s .z (.c .z (.s (.j [] [(0,[(168,.v .bool [])])] .z) .z)))))))))))))) .z)))))
def sp23 : Spec fam:=⟨[.v (.st 11) [],.v (.st 10) []],[.v (.st 15) [20,23,24,25,26,27,28]],fun a => dA a.1 a.2.1⟩
def bC (x : Script) (t : State × Int) : Option ((State × Int) ⊕ State) :=
 bif decide (t.2 < (x.Acts.length : Int)) then
 (idx x.Acts t.2).bind fun x5 =>
 (dA x5 t.1).bind fun x6 =>
 (dR t.1 x6).bind fun x7 =>
 some (.inl (x7.1,w64 (t.2 + 1)))
 else
 some (.inr t.1)
def bn (x : Script) : Option State :=
 (jx).bind fun x1 =>
 (eP x.Shape x.Ns).bind fun x2 =>
 (eT x2).bind fun x3 =>
 (dR x1 (⟨1,0,0,0,x3,⟨0,0,0,⟨0,0⟩,0,0,false⟩,⟨0,0,[],0,0,⟨0,0⟩,[],0,0,[],[],[],[]⟩,[],[],⟨0,0,0,0,⟨0,0⟩⟩⟩ : Input)).bind fun x4 =>
 (
 bif x4.2.Err == 0 then
  some x4.1
 else
  some x1).bind fun s =>
 (loop (bC x) (s,0)).bind fun s1 =>
 some s1
def h7 : Hint:=(.s .z (.s .z (.s .z (.s (.j [3] [(0,[(3,.box (.st 10) [])])] .z) (.s (.s .z (.b (.l [(3,.box (.st 10) []),(6,.v (.int .i64) [])] [3,6] [(2,[(3,.box (.st 10) [])])] .z))) .z)))))
def sp7 : Spec fam:=⟨[.v (.st 12) []],[.v (.st 10) []],fun a => bn a.1⟩
def cy (s : List UInt8) (c : Int) (i1 : Int) : Option (Int ⊕ (Int ⊕ Unit)) :=
 bif decide (i1 ≥ 0) then
 (idx s i1).bind fun ch =>
 bif (ch.toNat : Int) == c then
  some (.inr (.inl i1))
 else
  some (.inl (w64 (i1 - 1)))
 else
 some (.inr (.inr ()))
def aD (s : List UInt8) (c : Int) : Option Int :=
 let i:=w64 ((s.length : Int) - 1)
 (loop (cy s c) i).bind fun q0 =>
 match q0 with
 | .inl q =>
 some q
 | .inr _ =>
 some (-1)
def h212 : Hint:=(.s .z (.s (.s .z (.b (.l [(5,.v (.int .i64) [])] [4,5] [(1,[(4,.v (.int .i64) [])]),(2,[])] .z))) .z))
def sp212 : Spec fam:=⟨[.v .str [],.v (.int .u8) []],[.v (.int .i64) []],fun a => aD a.1 a.2.1⟩
def kx (t1 : Int × Int × Int) : Option ((Int × Int × Int) ⊕ Int) :=
 bif decide (t1.2.2 > 0) then
 (
  bif (andK .i64 t1.2.2 1) != 0 then
  let pow:=IntKind.u32.wrap (t1.1 * t1.2.1)
  some pow
  else
  some t1.1).bind fun pow1 =>
 let sq:=IntKind.u32.wrap (t1.2.1 * t1.2.1)
 some (.inl (pow1,sq,shrK .i64 t1.2.2 1))
 else
 some (.inr t1.1)
def kw (sep : List UInt8) (t : Int × Int) : Option ((Int × Int) ⊕ Int) :=
 bif decide (t.2 ≥ 0) then
 (idx sep t.2).bind fun ch =>
 let hash:=IntKind.u32.wrap ((IntKind.u32.wrap (t.1 * 16777619)) + (IntKind.u32.wrap (ch.toNat : Int)))
 some (.inl (hash,w64 (t.2 - 1)))
 else
 some (.inr t.1)
def iI (sep : List UInt8) : Option (Int × Int) :=
 let i:=w64 ((sep.length : Int) - 1)
 (loop (kw sep) (0,i)).bind fun hash1 =>
 (loop kx (1,16777619,(sep.length : Int))).bind fun pow2 =>
 some (hash1,pow2)
def h240 : Hint:=(.s .z (.s .z (.s (.s .z (.b (.l [(4,.v (.int .u32) []),(5,.v (.int .i64) [])] [4,5] [(2,[(4,.v (.int .u32) [])])] .z))) (.s .z (.s (.s .z (.b (.l [(6,.v (.int .u32) []),(7,.v (.int .u32) []),(8,.v (.int .i64) [])] [6,7,8] [(4,[(6,.v (.int .u32) [])])] (.s .z (.s (.b (.s (.j [6] [(0,[(6,.v (.int .u32) [])])] .z) .z)) .z))))) .z)))))
def sp240 : Spec fam:=⟨[.v .str []],[.v (.int .u32) [],.v (.int .u32) []],fun a => iI a.1⟩
def jc (s : List UInt8) (sep : List UInt8) (x : Int × Int) (t1 : Int × Int) : Option ((Int × Int) ⊕ (Int ⊕ Unit)) :=
 bif decide (t1.2 ≥ 0) then
 (idx s t1.2).bind fun ch1 =>
 let h2:=IntKind.u32.wrap ((IntKind.u32.wrap (t1.1 * 16777619)) + (IntKind.u32.wrap (ch1.toNat : Int)))
 (idx s (w64 (t1.2 + (sep.length : Int)))).bind fun ch2 =>
 let h3:=IntKind.u32.wrap (h2 - (IntKind.u32.wrap (x.2 * (IntKind.u32.wrap (ch2.toNat : Int)))))
 (
  bif h3 == x.1 then
  (slc s t1.2 (w64 (t1.2 + (sep.length : Int)))).bind fun s2 =>
  some (s2 == sep)
  else
  some false).bind fun q1 =>
 bif q1 then
  some (.inr (.inl (t1.2)))
 else
  some (.inl (h3,w64 (t1.2 - 1)))
 else
 some (.inr (.inr ()))
def jb (s : List UInt8) (last : Int) (t : Int × Int) : Option ((Int × Int) ⊕ Int) :=
 bif decide (t.2 ≥ last) then
 (idx s t.2).bind fun ch =>
 let h:=IntKind.u32.wrap ((IntKind.u32.wrap (t.1 * 16777619)) + (IntKind.u32.wrap (ch.toNat : Int)))
 some (.inl (h,w64 (t.2 - 1)))
 else
 some (.inr t.1)
def eU (s : List UInt8) (sep : List UInt8) : Option Int :=
 (iI sep).bind fun x =>
 let last:=w64 ((s.length : Int) - (sep.length : Int))
 let i:=w64 ((s.length : Int) - 1)
 (loop (jb s last) (0,i)).bind fun h1 =>
 (
 bif h1 == x.1 then
  (slc s last (s.length : Int)).bind fun s1 =>
  some (s1 == sep)
 else
  some false).bind fun q =>
 bif q then
 some last
 else
 (loop (jc s sep x) (h1,w64 (last - 1))).bind fun q0 =>
 match q0 with
 | .inl q2 =>
  some q2
 | .inr _ =>
  some (-1)
def h213 : Hint:=(.s .z (.s .z (.s .z (.s .z (.s .z (.s (.s .z (.b (.l [(9,.v (.int .u32) []),(10,.v (.int .i64) [])] [9,10] [(2,[(9,.v (.int .u32) [])])] .z))) (.s (.s (.j [] [(0,[(47,.v .bool [])])] .z) .z) (.s (.s .z (.b (.l [(9,.v (.int .u32) []),(11,.v (.int .i64) [])] [4,9,11,85] [(1,[(4,.v (.int .i64) [])]),(4,[])] (.s .z (.s (.b (.s .z (.s .z (.s .z (.s (.j [] [(0,[(85,.v .bool [])])] .z) .z))))) .z))))) .z))))))))
def sp213 : Spec fam:=⟨[.v .str [],.v .str []],[.v (.int .i64) []],fun a => eU a.1 a.2.1⟩
def cK (s : List UInt8) (substr : List UInt8) : Option Int :=
 bif (substr.length : Int) == 0 then
 some (s.length : Int)
 else
 bif (substr.length : Int) == 1 then
  (idx substr 0).bind fun ch =>
  (aD s (ch.toNat : Int)).bind fun x =>
  some x
 else
  bif (substr.length : Int) == (s.length : Int) then
  bif substr == s then
   some 0
  else
   some (-1)
  else
  bif decide ((substr.length : Int) > (s.length : Int)) then
   some (-1)
  else
   (eU s substr).bind fun x1 =>
   some x1
def h159 : Hint:=.z
def sp159 : Spec fam:=⟨[.v .str [],.v .str []],[.v (.int .i64) []],fun a => cK a.1 a.2.1⟩
def iy (path : List UInt8) : Option (List UInt8 × Bool) :=
 (cK path ([46] : List UInt8)).bind fun i =>
 bif decide (i < 0) then
 some (([] : List UInt8),false)
 else
 (slc path 0 i).bind fun s =>
 some (s,true)
def h115 : Hint:=.z
def sp115 : Spec fam:=⟨[.v .str []],[.v .str [],.v .bool []],fun a => iy a.1⟩
def km (c : Conf) (path : List UInt8) (t : List (List UInt8) × Int) : Option ((List (List UInt8) × Int) ⊕ List (List UInt8)) :=
 bif decide (t.2 < (c.Queues.length : Int)) then
 (
  (idx c.Queues t.2).bind fun x =>
  (iy x.Path).bind fun x1 =>
  (
  bif x1.2 then
   some (x1.1 == path)
  else
   some false).bind fun q =>
  bif q then
  (app 16 t.1 [x.Path]).bind fun l =>
  some l
  else
  some t.1).bind fun out =>
 some (.inl (out,w64 (t.2 + 1)))
 else
 some (.inr t.1)
def lT (c : Conf) (path : List UInt8) : Option (List (List UInt8)) :=
 (loop (km c path) ([],0)).bind fun out1 =>
 some out1
def h59 : Hint:=(.s .z (.s .z (.s (.s .z (.b (.l [(5,.v (.slice (.str)) [0]),(13,.v (.int .i64) [])] [5,7,8,9,13,28] [(2,[(5,.v (.slice (.str)) [0])])] (.s .z (.s .z (.s (.j [5,7,8,9,28] [(0,[(5,.v (.slice (.str)) [0])])] (.b (.s .z (.s .z (.s (.j [] [(0,[(28,.v .bool [])])] .z) .z))))) .z)))))) .z)))
def sp59 : Spec fam:=⟨[.v (.st 3) [],.v .str []],[.v (.slice (.str)) [0]],fun a => lT a.1 a.2.1⟩
def eI (v : Vec) : Option Bool :=
 bif decide (v.Mem ≥ 0) then
 bif decide (v.Mem ≤ 1125899906842624) then
  bif decide (v.Cores ≥ 0) then
  some (decide (v.Cores ≤ 1125899906842624))
  else
  some false
 else
  some false
 else
 some false
def h166 : Hint:=.z
def sp166 : Spec fam:=⟨[.v (.st 0) []],[.v .bool []],fun a => eI a.1⟩
def kX (v : Vec) : Option (Vec × Int) :=
 (eI v).bind fun x =>
 bif ! x then
 some ((⟨0,0⟩ : Vec),11)
 else
 some (v,0)
def h167 : Hint:=.z
def sp167 : Spec fam:=⟨[.v (.st 0) []],[.v (.st 0) [],.v (.int .i64) []],fun a => kX a.1⟩
def kD (a : Vec) (b : Vec) : Option (Vec × Int) :=
 (
 (eI a).bind fun x =>
 bif ! x then
  some true
 else
  (eI b).bind fun x1 =>
  some (! x1)).bind fun q =>
 bif q then
 some ((⟨0,0⟩ : Vec),1)
 else
 (kX (⟨w64 (a.Mem + b.Mem),w64 (a.Cores + b.Cores)⟩ : Vec)).bind fun x2 =>
 some (x2.1,x2.2)
def h121 : Hint:=(.s .z (.s (.s (.j [] [(0,[(13,.v .bool [])])] .z) .z) .z))
def sp121 : Spec fam:=⟨[.v (.st 0) [],.v (.st 0) []],[.v (.st 0) [],.v (.int .i64) []],fun a => kD a.1 a.2.1⟩
def kt (l : List Vec) (t : Vec × Int) : Option ((Vec × Int) ⊕ Vec) :=
 bif decide (t.2 < (l.length : Int)) then
 (idx l t.2).bind fun x =>
 (kD t.1 x).bind fun x1 =>
 some (.inl (x1.1,w64 (t.2 + 1)))
 else
 some (.inr t.1)
def l9 (l : List Vec) : Option Vec :=
 (loop (kt l) ((⟨0,0⟩ : Vec),0)).bind fun out =>
 some out
def h64 : Hint:=(.s .z (.s .z (.s (.s .z (.b (.l [(3,.box (.st 0) []),(8,.v (.int .i64) [])] [3,5,8] [(2,[(3,.box (.st 0) [])])] .z))) .z)))
def sp64 : Spec fam:=⟨[.v (.slice (.st 0)) []],[.v (.st 0) []],fun a => l9 a.1⟩
def jv (s : State) (label : Int) (t : List Vec × Int) : Option ((List Vec × Int) ⊕ List Vec) :=
 bif decide (t.2 < (s.Nodes.length : Int)) then
 (
  (idx s.Nodes t.2).bind fun x =>
  (
  bif x.Up then
   some (x.Label == label)
  else
   some false).bind fun q =>
  bif q then
  (app 16 t.1 [x.Cap]).bind fun l =>
  some l
  else
  some t.1).bind fun l1 =>
 some (.inl (l1,w64 (t.2 + 1)))
 else
 some (.inr t.1)
def jD (s : State) (label : Int) : Option Vec :=
 (loop (jv s label) ([],0)).bind fun l2 =>
 (l9 l2).bind fun x1 =>
 some x1
def h25 : Hint:=(.s .z (.s .z (.s (.s .z (.b (.l [(5,.v (.slice (.st 0)) [0]),(11,.v (.int .i64) [])] [5,7,11,22] [(2,[(5,.v (.slice (.st 0)) [0])])] (.s .z (.s .z (.s (.j [5,7,22] [(0,[(5,.v (.slice (.st 0)) [0])])] (.b (.s .z (.s (.j [] [(0,[(22,.v .bool [])])] .z) .z)))) .z)))))) .z)))
def sp25 : Spec fam:=⟨[.v (.st 10) [],.v (.int .i64) []],[.v (.st 0) []],fun a => jD a.1 a.2.1⟩
def kj (t : List UInt8 × List (List UInt8)) : Option ((List UInt8 × List (List UInt8)) ⊕ List (List UInt8)) :=
 bif ! (t.1 == ([] : List UInt8)) then
 (app 16 t.2 [t.1]).bind fun l =>
 (iy t.1).bind fun x =>
 some (.inl (x.1,l))
 else
 some (.inr t.2)
def oo (path : List UInt8) : Option (List (List UInt8)) :=
 (loop kj (path,[])).bind fun out =>
 some out
def h160 : Hint:=(.s .z (.s .z (.s (.b (.l [(0,.v .str []),(3,.v (.slice (.str)) [0])] [0,3] [(2,[(3,.v (.slice (.str)) [0])])] .z)) .z)))
def sp160 : Spec fam:=⟨[.v .str []],[.v (.slice (.str)) [0]],fun a => oo a.1⟩
def s_ (s : List Cap) : Option (List Cap) :=
 bif s.isEmpty then
 none
 else
 (app 16 [] s).bind fun l =>
 some l
def oP (s : List Cap) : Option (List Cap):=app 16 [] s
def h170 : Hint:=.z
def sp170 : Spec fam:=⟨[.v (.slice (.st 1)) []],[.v (.slice (.st 1)) [0]],fun a => oP a.1⟩
def xD : Spec fam:=⟨[.v (.slice (.st 1)) []],[.v (.slice (.st 1)) [0]],fun a => s_ a.1⟩
def iK (s : List Queue) (f : (TupT fam [.st 2] → Option Bool)) (t : Int) : Option (Int ⊕ (Int ⊕ Unit)) :=
 bif decide (t < (s.length : Int)) then
 (idx s t).bind fun x =>
 (f (x,())).bind fun r =>
 bif r then
  some (.inr (.inl t))
 else
  some (.inl (w64 (t + 1)))
 else
 some (.inr (.inr ()))
def mS (s : List Queue) (f : (TupT fam [.st 2] → Option Bool)) : Option Int :=
 (loop (iK s f) 0).bind fun q0 =>
 match q0 with
 | .inl q =>
 some q
 | .inr _ =>
 some (-1)
def h214 : Hint:=(.s .z (.s (.s .z (.b (.l [(8,.v (.int .i64) [])] [4,5,8] [(1,[(4,.v (.int .i64) [])]),(2,[])] .z))) .z))
def sp214 : Spec fam:=⟨[.v (.slice (.st 2)) [],.fn [.st 2] .bool],[.v (.int .i64) []],fun a => mS a.1 a.2.1⟩
def jC (q : Queue) (p : List UInt8) : Option Bool :=
 some (q.Path == p)
def h215 : Hint:=.z
def sp215 : Spec fam:=⟨[.v (.st 2) [],.rp .str],[.v .bool []],fun a => jC a.1 a.2.1⟩
def kZ (c : Conf) (path : List UInt8) : Option (Queue × Bool) :=
 (mS c.Queues (fun a' => jC a'.1 path)).bind fun i =>
 bif decide (i < 0) then
 some ((⟨[],[],0⟩ : Queue),false)
 else
 (idx c.Queues i).bind fun x =>
 (oP x.Caps).bind fun x1 =>
 some ((⟨x.Path,x1,x.User⟩ : Queue),true)
def h161 : Hint:=.z
def sp161 : Spec fam:=⟨[.v (.st 3) [],.v .str []],[.v (.st 2) [1],.v .bool []],fun a => kZ a.1 a.2.1⟩
def la (x : Int) (y : Int) : Option (Int × Int) :=
 let w0:=IntKind.u64.wrap ((andK .u64 x 4294967295) * (andK .u64 y 4294967295))
 let t:=IntKind.u64.wrap ((IntKind.u64.wrap ((shrK .u64 x 32) * (andK .u64 y 4294967295))) + (shrK .u64 w0 32))
 let w1:=IntKind.u64.wrap ((andK .u64 t 4294967295) + (IntKind.u64.wrap ((andK .u64 x 4294967295) * (shrK .u64 y 32))))
 let hi:=IntKind.u64.wrap ((IntKind.u64.wrap ((IntKind.u64.wrap ((shrK .u64 x 32) * (shrK .u64 y 32))) + (shrK .u64 t 32))) + (shrK .u64 w1 32))
 some (hi,IntKind.u64.wrap (x * y))
def h241 : Hint:=.z
def sp241 : Spec fam:=⟨[.v (.int .u64) [],.v (.int .u64) []],[.v (.int .u64) [],.v (.int .u64) []],fun a => la a.1 a.2.1⟩
def pd (x : Int) : Option Int :=
 (
 bif decide (x ≥ 4294967296) then
  some (shrK .u64 x 32,32)
 else
  some (x,0)).bind fun q =>
 (
 bif decide (q.1 ≥ 65536) then
  some (shrK .u64 q.1 16,w64 (q.2 + 16))
 else
  some (q.1,q.2)).bind fun q1 =>
 (
 bif decide (q1.1 ≥ 256) then
  some (shrK .u64 q1.1 8,w64 (q1.2 + 8))
 else
  some (q1.1,q1.2)).bind fun q2 =>
 (idx ([0,1,2,2,3,3,3,3,4,4,4,4,4,4,4,4,5,5,5,5,5,5,5,5,5,5,5,5,5,5,5,5,6,6,6,6,6,6,6,6,6,6,6,6,6,6,6,6,6,6,6,6,6,6,6,6,6,6,6,6,6,6,6,6,7,7,7,7,7,7,7,7,7,7,7,7,7,7,7,7,7,7,7,7,7,7,7,7,7,7,7,7,7,7,7,7,7,7,7,7,7,7,7,7,7,7,7,7,7,7,7,7,7,7,7,7,7,7,7,7,7,7,7,7,7,7,7,7,8,8,8,8,8,8,8,8,8,8,8,8,8,8,8,8,8,8,8,8,8,8,8,8,8,8,8,8,8,8,8,8,8,8,8,8,8,8,8,8,8,8,8,8,8,8,8,8,8,8,8,8,8,8,8,8,8,8,8,8,8,8,8,8,8,8,8,8,8,8,8,8,8,8,8,8,8,8,8,8,8,8,8,8,8,8,8,8,8,8,8,8,8,8,8,8,8,8,8,8,8,8,8,8,8,8,8,8,8,8,8,8,8,8,8,8,8,8,8,8,8,8,8,8,8,8,8,8] : List UInt8) (IntKind.u8.wrap q2.1)).bind fun ch =>
 let n:=w64 (q2.2 + (w64 (ch.toNat : Int)))
 some n
def h192 : Hint:=(.s .z (.s (.j [0,2] [(0,[(0,.v (.int .u64) []),(2,.v (.int .i64) [])])] .z) (.s (.j [0,2] [(0,[(0,.v (.int .u64) []),(2,.v (.int .i64) [])])] .z) (.s (.j [0,2] [(0,[(0,.v (.int .u64) []),(2,.v (.int .i64) [])])] .z) .z))))
def sp192 : Spec fam:=⟨[.v (.int .u64) []],[.v (.int .i64) []],fun a => pd a.1⟩
def kz (x : Int) : Option Int :=
 (pd x).bind fun x1 =>
 some (w64 (64 - x1))
def h263 : Hint:=.z
def sp263 : Spec fam:=⟨[.v (.int .u64) []],[.v (.int .i64) []],fun a => kz a.1⟩
def qT (yn1 : Int) (yn0 : Int) (un0 : Int) (t1 : Int × Int) : Option ((Int × Int) ⊕ Int) :=
 (
 bif decide (t1.2 ≥ 4294967296) then
  some true
 else
  some (decide ((IntKind.u64.wrap (t1.2 * yn0)) > (IntKind.u64.wrap ((IntKind.u64.wrap (4294967296 * t1.1)) + un0))))).bind fun q2 =>
 bif q2 then
 bif decide ((IntKind.u64.wrap (t1.1 + yn1)) ≥ 4294967296) then
  some (.inr (IntKind.u64.wrap (t1.2 - 1)))
 else
  some (.inl (IntKind.u64.wrap (t1.1 + yn1),IntKind.u64.wrap (t1.2 - 1)))
 else
 some (.inr t1.2)
def qR (yn1 : Int) (yn0 : Int) (un1 : Int) (t : Int × Int) : Option ((Int × Int) ⊕ Int) :=
 (
 bif decide (t.1 ≥ 4294967296) then
  some true
 else
  some (decide ((IntKind.u64.wrap (t.1 * yn0)) > (IntKind.u64.wrap ((IntKind.u64.wrap (4294967296 * t.2)) + un1))))).bind fun q =>
 bif q then
 bif decide ((IntKind.u64.wrap (t.2 + yn1)) ≥ 4294967296) then
  some (.inr (IntKind.u64.wrap (t.1 - 1)))
 else
  some (.inl (IntKind.u64.wrap (t.1 - 1),IntKind.u64.wrap (t.2 + yn1)))
 else
 some (.inr t.1)
def mR (hi : Int) (lo : Int) (y : Int) : Option (Int × Int) :=
 bif y == 0 then
 none
 else
 bif decide (y ≤ hi) then
  none
 else
  bif hi == 0 then
  (nz y).bind fun _ =>
  (nz y).bind fun _ =>
  some (IntKind.u64.wrap (Int.tdiv lo y),Int.tmod lo y)
  else
  (kz y).bind fun x =>
  (nn (IntKind.u64.wrap x)).bind fun _ =>
  let yn1:=shrK .u64 (shlK .u64 y (IntKind.u64.wrap x)) 32
  let yn0:=andK .u64 (shlK .u64 y (IntKind.u64.wrap x)) 4294967295
  (nn (IntKind.u64.wrap x)).bind fun _ =>
  (nn (IntKind.u64.wrap (64 - (IntKind.u64.wrap x)))).bind fun _ =>
  let un32:=orK .u64 (shlK .u64 hi (IntKind.u64.wrap x)) (shrK .u64 lo (IntKind.u64.wrap (64 - (IntKind.u64.wrap x))))
  (nn (IntKind.u64.wrap x)).bind fun _ =>
  let un1:=shrK .u64 (shlK .u64 lo (IntKind.u64.wrap x)) 32
  let un0:=andK .u64 (shlK .u64 lo (IntKind.u64.wrap x)) 4294967295
  (nz yn1).bind fun _ =>
  let rhat:=IntKind.u64.wrap (un32 - (IntKind.u64.wrap ((IntKind.u64.wrap (Int.tdiv un32 yn1)) * yn1)))
  (loop (qR yn1 yn0 un1) (IntKind.u64.wrap (Int.tdiv un32 yn1),rhat)).bind fun q1 =>
  let un21:=IntKind.u64.wrap ((IntKind.u64.wrap ((IntKind.u64.wrap (un32 * 4294967296)) + un1)) - (IntKind.u64.wrap (q1 * (shlK .u64 y (IntKind.u64.wrap x)))))
  (nz yn1).bind fun _ =>
  let rhat1:=IntKind.u64.wrap (un21 - (IntKind.u64.wrap ((IntKind.u64.wrap (Int.tdiv un21 yn1)) * yn1)))
  (loop (qT yn1 yn0 un0) (rhat1,IntKind.u64.wrap (Int.tdiv un21 yn1))).bind fun q0 =>
  (nn (IntKind.u64.wrap x)).bind fun _ =>
  let quo:=IntKind.u64.wrap ((IntKind.u64.wrap (q1 * 4294967296)) + q0)
  let rem:=shrK .u64 (IntKind.u64.wrap ((IntKind.u64.wrap ((IntKind.u64.wrap (un21 * 4294967296)) + un0)) - (IntKind.u64.wrap (q0 * (shlK .u64 y (IntKind.u64.wrap x)))))) (IntKind.u64.wrap x)
  some (quo,rem)
def h242 : Hint:=(.s .z (.s .z (.s .z (.s .z (.s .z (.s .z (.s .z (.s .z (.s .z (.s .z (.s .z (.s .z (.s .z (.s .z (.s (.b (.l [(15,.v (.int .u64) []),(16,.v (.int .u64) [])] [15,16,78] [(2,[(15,.v (.int .u64) [])])] (.s (.s (.j [] [(0,[(78,.v .bool [])])] .z) .z) .z))) (.s .z (.s .z (.s .z (.s (.b (.l [(16,.v (.int .u64) []),(18,.v (.int .u64) [])] [16,18,113] [(4,[(18,.v (.int .u64) [])])] (.s (.s (.j [] [(0,[(113,.v .bool [])])] .z) .z) .z))) .z)))))))))))))))))))
def sp242 : Spec fam:=⟨[.v (.int .u64) [],.v (.int .u64) [],.v (.int .u64) []],[.v (.int .u64) [],.v (.int .u64) []],fun a => mR a.1 a.2.1 a.2.2.1⟩
def k9 (n : Int) (bp : Int) : Option Int :=
 (la (IntKind.u64.wrap n) (IntKind.u64.wrap bp)).bind fun x =>
 (mR x.1 x.2 10000).bind fun x1 =>
 some (w64 x1.1)
def h216 : Hint:=.z
def sp216 : Spec fam:=⟨[.v (.int .i64) [],.v (.int .i64) []],[.v (.int .i64) []],fun a => k9 a.1 a.2.1⟩
def lg (a : Vec) (bp : Int) : Option (Vec × Int) :=
 (
 (eI a).bind fun x =>
 bif ! x then
  some true
 else
  bif decide (bp < 0) then
  some true
  else
  some (decide (bp > 1000000))).bind fun q =>
 bif q then
 some ((⟨0,0⟩ : Vec),1)
 else
 (k9 a.Mem bp).bind fun x1 =>
 (k9 a.Cores bp).bind fun x2 =>
 (kX (⟨x1,x2⟩ : Vec)).bind fun x3 =>
 some (x3.1,x3.2)
def h162 : Hint:=(.s .z (.s (.s (.j [] [(0,[(16,.v .bool [])])] .z) .z) .z))
def sp162 : Spec fam:=⟨[.v (.st 0) [],.v (.int .i64) []],[.v (.st 0) [],.v (.int .i64) []],fun a => lg a.1 a.2.1⟩
def jN (s : State) (label : Int) (part : (TupT fam [.st 1] → Option Int)) (up : List (List UInt8)) (t : Vec × Vec × Int) : Option ((Vec × Vec × Int) ⊕ (Vec ⊕ (Vec × Vec))) :=
 bif decide (t.2.2 ≥ 0) then
 (inb t.2.2 up.length).bind fun i1 =>
 (up[i1]?).bind fun x2 =>
 (kZ s.Conf x2).bind fun x3 =>
 (
  bif ! x3.2 then
  some true
  else
  bif decide (label < 0) then
   some true
  else
   some (decide (label ≥ (x3.1.Caps.length : Int)))).bind fun q =>
 bif q then
  some (.inr (.inl (⟨0,0⟩ : Vec)))
 else
  (inb label x3.1.Caps.length).bind fun i2 =>
  (x3.1.Caps[i2]?).bind fun x4 =>
  (part (x4,())).bind fun r =>
  (lg t.2.1 r).bind fun x5 =>
  some (.inl (t.1,x5.1,w64 (t.2.2 - 1)))
 else
 some (.inr (.inr (t.1,t.2.1)))
def ko (s : State) (path : List UInt8) (label : Int) (part : (TupT fam [.st 1] → Option Int)) : Option Vec :=
 (oo path).bind fun up =>
 (kZ s.Conf path).bind fun x =>
 bif ! x.2 then
 some (⟨0,0⟩ : Vec)
 else
 (jD s label).bind fun x1 =>
 let i:=w64 ((up.length : Int) - 2)
 (loop (jN s label part up) ((⟨0,0⟩ : Vec),x1,i)).bind fun q0 =>
 match q0 with
 | .inl q1 =>
  some q1
 | .inr q2 =>
  some q2.2
def h116 : Hint:=(.s .z (.s .z (.s .z (.s .z (.s (.s .z (.b (.l [(8,.box (.st 0) []),(12,.box (.st 0) []),(13,.v (.int .i64) [])] [8,12,13,14,60] [(1,[(8,.box (.st 0) [])]),(2,[(8,.box (.st 0) []),(12,.box (.st 0) [])])] (.s .z (.s (.b (.s .z (.s (.s (.j [] [(0,[(60,.v .bool [])])] .z) .z) .z))) .z))))) .z)))))
def sp116 : Spec fam:=⟨[.v (.st 10) [],.v .str [],.v (.int .i64) [],.fn [.st 1] (.int .i64)],[.v (.st 0) []],fun a => ko a.1 a.2.1 a.2.2.1 a.2.2.2.1⟩
def ku (c : Cap) : Option Int :=
 some c.Least
def h117 : Hint:=.z
def sp117 : Spec fam:=⟨[.v (.st 1) []],[.v (.int .i64) []],fun a => ku a.1⟩
def kO (s : State) (path : List UInt8) (label : Int) : Option Vec :=
 (ko s path label (fun a' => ku a'.1)).bind fun x =>
 some x
def h60 : Hint:=.z
def sp60 : Spec fam:=⟨[.v (.st 10) [],.v .str [],.v (.int .i64) []],[.v (.st 0) []],fun a => kO a.1 a.2.1 a.2.2.1⟩
def cZ (v : View) (c : Cont) (t : App × Int) : Option ((App × Int) ⊕ ((App × Bool) ⊕ App)) :=
 bif decide (t.2 < (v.s.Apps.length : Int)) then
 (idx v.s.Apps t.2).bind fun x =>
 bif x.Id == c.App then
  some (.inr (.inl (x,true)))
 else
  some (.inl (t.1,w64 (t.2 + 1)))
 else
 some (.inr (.inr (t.1)))
def iF (v : View) (c : Cont) : Option (App × Bool) :=
 (loop (cZ v c) ((⟨0,0,[],0,0,⟨0,0⟩,[],0,0,[],[],[],[]⟩ : App),0)).bind fun q0 =>
 match q0 with
 | .inl q =>
 some (q.1,q.2)
 | .inr q1 =>
 some ((⟨0,0,[],0,0,⟨0,0⟩,[],0,0,[],[],[],[]⟩ : App),false)
def h163 : Hint:=(.s .z (.s (.s .z (.b (.l [(4,.box (.st 6) [7,10,11,12,13]),(12,.v (.int .i64) [])] [4,5,7,12] [(1,[(4,.box (.st 6) []),(5,.v .bool [])]),(2,[(4,.box (.st 6) [7,10,11,12,13])])] .z))) .z))
def sp163 : Spec fam:=⟨[.v (.st 17) [],.v (.st 7) []],[.v (.st 6) [],.v .bool []],fun a => iF a.1 a.2.1⟩
def ii (s : List UInt8) (prefix_ : List UInt8) : Option Bool :=
 bif decide ((s.length : Int) ≥ (prefix_.length : Int)) then
 (slc s 0 (prefix_.length : Int)).bind fun s1 =>
 some (s1 == prefix_)
 else
 some false
def h243 : Hint:=.z
def sp243 : Spec fam:=⟨[.v .str [],.v .str []],[.v .bool []],fun a => ii a.1 a.2.1⟩
def hF (s : List UInt8) (prefix_ : List UInt8) : Option Bool :=
 (ii s prefix_).bind fun x =>
 some x
def h217 : Hint:=.z
def sp217 : Spec fam:=⟨[.v .str [],.v .str []],[.v .bool []],fun a => hF a.1 a.2.1⟩
def ic (v : View) (a : App) : Option Bool :=
 (
 bif a.Queue == v.path then
  some true
 else
  (cat v.path ([46] : List UInt8)).bind fun s =>
  (hF a.Queue s).bind fun x =>
  some x).bind fun below =>
 bif below then
 bif v.user == (-1) then
  some true
 else
  some (a.User == v.user)
 else
 some false
def h164 : Hint:=(.s .z (.s (.j [] [(0,[(5,.v .bool [])])] .z) .z))
def sp164 : Spec fam:=⟨[.v (.st 17) [],.v (.st 6) []],[.v .bool []],fun a => ic a.1 a.2.1⟩
def gi (v : View) (t : Vec × Int) : Option ((Vec × Int) ⊕ Vec) :=
 bif decide (t.2 < (v.s.Conts.length : Int)) then
 (
  (idx v.s.Conts t.2).bind fun x =>
  (iF v x).bind fun x1 =>
  (
  bif x1.2 then
   bif x.Label == v.label then
   (ic v x1.1).bind fun x2 =>
   some x2
   else
   some false
  else
   some false).bind fun q =>
  bif q then
  (kD t.1 x.Size).bind fun x3 =>
  some x3.1
  else
  some t.1).bind fun out =>
 some (.inl (out,w64 (t.2 + 1)))
 else
 some (.inr t.1)
def iZ (v : View) : Option Vec :=
 (loop (gi v) ((⟨0,0⟩ : Vec),0)).bind fun out1 =>
 some out1
def h118 : Hint:=(.s .z (.s .z (.s .z (.s (.s .z (.b (.l [(3,.box (.st 0) []),(15,.v (.int .i64) [])] [3,6,7,8,15,37] [(2,[(3,.box (.st 0) [])])] (.s .z (.s .z (.s (.j [3,6,7,8,37] [(0,[(3,.box (.st 0) [])])] (.b (.s .z (.s .z (.s (.j [] [(0,[(37,.v .bool [])])] .z) .z))))) .z)))))) .z))))
def sp118 : Spec fam:=⟨[.v (.st 17) []],[.v (.st 0) []],fun a => iZ a.1⟩
def lb (s : State) (path : List UInt8) (label : Int) : Option Vec :=
 (iZ (⟨⟨⟨s.Conf.Labels,s.Conf.Queues⟩,s.Nodes,s.Apps,s.Conts,s.Slots,s.Plans,s.Now,s.Epoch,s.Seq⟩,path,label,(-1)⟩ : View)).bind fun x =>
 some x
def h61 : Hint:=.z
def sp61 : Spec fam:=⟨[.v (.st 10) [],.v .str [],.v (.int .i64) []],[.v (.st 0) []],fun a => lb a.1 a.2.1 a.2.2.1⟩
def nA (a : App) : Option Bool :=
 bif a.State == 1 then
 some true
 else
 some (a.State == 2)
def h141 : Hint:=.z
def sp141 : Spec fam:=⟨[.v (.st 6) []],[.v .bool []],fun a => nA a.1⟩
def a6 (s : List Int) (f : (TupT fam [.int .i64] → Option Bool)) (t : Int) : Option (Int ⊕ (Int ⊕ Unit)) :=
 bif decide (t < (s.length : Int)) then
 (idx s t).bind fun x =>
 (f (x,())).bind fun r =>
 bif r then
  some (.inr (.inl t))
 else
  some (.inl (w64 (t + 1)))
 else
 some (.inr (.inr ()))
def dD (s : List Int) (f : (TupT fam [.int .i64] → Option Bool)) : Option Int :=
 (loop (a6 s f) 0).bind fun q0 =>
 match q0 with
 | .inl q =>
 some q
 | .inr _ =>
 some (-1)
def h264 : Hint:=(.s .z (.s (.s .z (.b (.l [(8,.v (.int .i64) [])] [4,5,8] [(1,[(4,.v (.int .i64) [])]),(2,[])] .z))) .z))
def sp264 : Spec fam:=⟨[.v (.slice (.int .i64)) [],.fn [.int .i64] .bool],[.v (.int .i64) []],fun a => dD a.1 a.2.1⟩
def cx (s : List Int) (f : (TupT fam [.int .i64] → Option Bool)) : Option Bool :=
 (dD s f).bind fun x =>
 some (decide (x ≥ 0))
def h244 : Hint:=.z
def sp244 : Spec fam:=⟨[.v (.slice (.int .i64)) [],.fn [.int .i64] .bool],[.v .bool []],fun a => cx a.1 a.2.1⟩
def kf (n : Int) (p : Int) (p1 : Int) : Option Bool :=
 bif decide (n < p) then
 some true
 else
 some (decide (n > p1))
def h245 : Hint:=.z
def sp245 : Spec fam:=⟨[.v (.int .i64) [],.rp (.int .i64),.rp (.int .i64)],[.v .bool []],fun a => kf a.1 a.2.1 a.2.2.1⟩
def lJ (least : Int) (most : Int) (l : List Int) : Option Bool :=
 (cx l (fun a' => kf a'.1 least most)).bind fun x =>
 some (! x)
def h218 : Hint:=.z
def sp218 : Spec fam:=⟨[.v (.int .i64) [],.v (.int .i64) [],.v (.slice (.int .i64)) []],[.v .bool []],fun a => lJ a.1 a.2.1 a.2.2.1⟩
def iY (l : List Ask) (label : Int) (t : Vec × Int) : Option ((Vec × Int) ⊕ Vec) :=
 bif decide (t.2 < (l.length : Int)) then
 (
  (idx l t.2).bind fun x =>
  (
  bif x.Label == label then
   (lJ 0 1125899906842624 [x.Size.Mem,x.Size.Cores]).bind fun x1 =>
   bif x1 then
   (lJ 0 50 [x.Count]).bind fun x2 =>
   some x2
   else
   some false
  else
   some false).bind fun q =>
  bif q then
  some (⟨w64 (t.1.Mem + (w64 (x.Size.Mem * x.Count))),w64 (t.1.Cores + (w64 (x.Size.Cores * x.Count)))⟩ : Vec)
  else
  some t.1).bind fun out =>
 some (.inl (out,w64 (t.2 + 1)))
 else
 some (.inr t.1)
def kn (l : List Ask) (label : Int) : Option Vec :=
 (loop (iY l label) ((⟨0,0⟩ : Vec),0)).bind fun out1 =>
 some out1
def h165 : Hint:=(.s .z (.s .z (.s (.s .z (.b (.l [(5,.box (.st 0) []),(10,.v (.int .i64) [])] [5,7,10,33] [(2,[(5,.box (.st 0) [])])] (.s .z (.s .z (.s (.j [5,7,33] [(0,[(5,.box (.st 0) [])])] (.b (.s .z (.s (.j [] [(0,[(33,.v .bool [])])] .z) .z)))) .z)))))) .z)))
def sp165 : Spec fam:=⟨[.v (.slice (.st 5)) [],.v (.int .i64) []],[.v (.st 0) []],fun a => kn a.1 a.2.1⟩
def h_ (v : View) (t : Vec × Int) : Option ((Vec × Int) ⊕ Vec) :=
 bif decide (t.2 < (v.s.Apps.length : Int)) then
 (
  (idx v.s.Apps t.2).bind fun x =>
  (
  (nA x).bind fun x1 =>
  bif x1 then
   (ic v x).bind fun x2 =>
   some x2
  else
   some false).bind fun q =>
  bif q then
  (kn x.Asks v.label).bind fun x3 =>
  (kD t.1 x3).bind fun x4 =>
  some x4.1
  else
  some t.1).bind fun out =>
 some (.inl (out,w64 (t.2 + 1)))
 else
 some (.inr t.1)
def je (v : View) : Option Vec :=
 (loop (h_ v) ((⟨0,0⟩ : Vec),0)).bind fun out1 =>
 some out1
def h119 : Hint:=(.s .z (.s .z (.s (.s .z (.b (.l [(3,.box (.st 0) []),(10,.v (.int .i64) [])] [3,5,10,20] [(2,[(3,.box (.st 0) [])])] (.s .z (.s .z (.s (.j [3,5,20] [(0,[(3,.box (.st 0) [])])] (.b (.s .z (.s (.j [] [(0,[(20,.v .bool [])])] .z) .z)))) .z)))))) .z)))
def sp119 : Spec fam:=⟨[.v (.st 17) []],[.v (.st 0) []],fun a => je a.1⟩
def jM (s : State) (path : List UInt8) (label : Int) : Option Vec :=
 (je (⟨⟨⟨s.Conf.Labels,s.Conf.Queues⟩,s.Nodes,s.Apps,s.Conts,s.Slots,s.Plans,s.Now,s.Epoch,s.Seq⟩,path,label,(-1)⟩ : View)).bind fun x =>
 some x
def h62 : Hint:=.z
def sp62 : Spec fam:=⟨[.v (.st 10) [],.v .str [],.v (.int .i64) []],[.v (.st 0) []],fun a => jM a.1 a.2.1 a.2.2.1⟩
def ky (c : Cap) : Option Int :=
 some c.Most
def h120 : Hint:=.z
def sp120 : Spec fam:=⟨[.v (.st 1) []],[.v (.int .i64) []],fun a => ky a.1⟩
def li (s : State) (path : List UInt8) (label : Int) : Option Vec :=
 (ko s path label (fun a' => ky a'.1)).bind fun x =>
 some x
def h63 : Hint:=.z
def sp63 : Spec fam:=⟨[.v (.st 10) [],.v .str [],.v (.int .i64) []],[.v (.st 0) []],fun a => li a.1 a.2.1 a.2.2.1⟩
def fN (s : State) (label : Int) (deep : Int) (self : State → (List UInt8) → Int → Int → Int → Option (List Share)) (kids : List (List UInt8)) (x5 : List Int) (t1 : List Share × Int) : Option ((List Share × Int) ⊕ List Share) :=
 bif decide (t1.2 < (x5.length : Int)) then
 (inb t1.2 x5.length).bind fun i1 =>
 (x5[i1]?).bind fun x6 =>
 (inb t1.2 kids.length).bind fun i2 =>
 (kids[i2]?).bind fun x7 =>
 (self s x7 label x6 (w64 (deep + 1))).bind fun x8 =>
 (app 24 t1.1 x8).bind fun l3 =>
 some (.inl (l3,w64 (t1.2 + 1)))
 else
 some (.inr t1.1)
def iC (s : State) (label : Int) (kids : List (List UInt8)) (t : Rows3_ListInt × Int) : Option ((Rows3_ListInt × Int) ⊕ Rows3_ListInt) :=
 bif decide (t.2 < (kids.length : Int)) then
 (inb t.2 kids.length).bind fun i =>
 (kids[i]?).bind fun x =>
 (kO s x label).bind fun x1 =>
 (lb s x label).bind fun x2 =>
 (jM s x label).bind fun x3 =>
 (li s x label).bind fun x4 =>
 (inS t.2 (t.1.r0.length : Int) t.1.r0.length).bind fun p =>
 (inS 0 1 [x1.Mem,w64 (x2.Mem + x3.Mem),x4.Mem].length).bind fun p1 =>
 (inS t.2 (t.1.r1.length : Int) t.1.r1.length).bind fun p2 =>
 (inS 1 2 [x1.Mem,w64 (x2.Mem + x3.Mem),x4.Mem].length).bind fun p3 =>
 (inS t.2 (t.1.r2.length : Int) t.1.r2.length).bind fun p4 =>
 (inS 2 3 [x1.Mem,w64 (x2.Mem + x3.Mem),x4.Mem].length).bind fun p5 =>
 some (.inl ((⟨cpy t.1.r0 p.1 p.2 (sub [x1.Mem,w64 (x2.Mem + x3.Mem),x4.Mem] p1.1 p1.2),cpy t.1.r1 p2.1 p2.2 (sub [x1.Mem,w64 (x2.Mem + x3.Mem),x4.Mem] p3.1 p3.2),cpy t.1.r2 p4.1 p4.2 (sub [x1.Mem,w64 (x2.Mem + x3.Mem),x4.Mem] p5.1 p5.2)⟩ : Rows3_ListInt),w64 (t.2 + 1)))
 else
 some (.inr t.1)
def iH (self : State → (List UInt8) → Int → Int → Int → Option (List Share)) (s : State) (path : List UInt8) (label : Int) (mem : Int) (deep : Int) : Option (List Share) :=
 (lT s.Conf path).bind fun kids =>
 (
 bif (kids.length : Int) == 0 then
  some true
 else
  some (decide (deep > 4))).bind fun q =>
 bif q then
 some [(⟨path,mem⟩ : Share)]
 else
 (mkl 8 (kids.length : Int) (kids.length : Int) 0).bind fun l =>
 (mkl 8 (kids.length : Int) (kids.length : Int) 0).bind fun l1 =>
 (mkl 8 (kids.length : Int) (kids.length : Int) 0).bind fun l2 =>
 (loop (iC s label kids) ((⟨l,l1,l2⟩ : Rows3_ListInt),0)).bind fun rows =>
 (iO mem rows.r0 rows.r1 rows.r2).bind fun x5 =>
 (loop (fN s label deep self kids x5) ([],0)).bind fun out =>
 some out
def cL : Nat → State → (List UInt8) → Int → Int → Int → Option (List Share)
 | 0 => fun _ _ _ _ _ => none
 | n + 1 => iH (cL n)
def md (a0 : State) (a1 : List UInt8) (a2 : Int) (a3 : Int) (a4 : Int) : Option (List Share):=cL 64 a0 a1 a2 a3 a4
def h24 : Hint:=(.s .z (.s .z (.s (.s (.j [25,26,27,28,29,30,31] [(0,[(31,.v .bool [])])] .z) .z) (.s .z (.s (.s .z (.b (.u 4 .z))) (.s (.s .z (.b (.l [(12,.box (.st 18) [5003,0,1,2]),(51,.v (.int .i64) [])] [12,14,15,16,17,51,52,53,54,55,56,57,58,59,60,61,62,63,64,65,66,67,68,69,70,71,72,73,74,75,76,77,78,79,80,81,82,83,84,85,86,87,88,89,90,91,92,93,94,95,96] [(4,[(12,.box (.st 18) [5003,0,1,2])])] (.s .z (.s .z (.s (.b (.s .z (.s .z (.s .z (.b (.u 4 .z)))))) .z)))))) (.s .z (.s (.s .z (.b (.l [(18,.v (.slice (.st 16)) [0]),(109,.v (.int .i64) [])] [18,19,20,109] [(8,[(18,.v (.slice (.st 16)) [0])])] .z))) .z))))))))
def sp24 : Spec fam:=⟨[.v (.st 10) [],.v .str [],.v (.int .i64) [],.v (.int .i64) [],.v (.int .i64) []],[.v (.slice (.st 16)) [0]],fun a => md a.1 a.2.1 a.2.2.1 a.2.2.2.1 a.2.2.2.2.1⟩
def nK (n : Nat) : Spec fam:=⟨[.v (.st 10) [],.v .str [],.v (.int .i64) [],.v (.int .i64) [],.v (.int .i64) []],[.v (.slice (.st 16)) [0]],fun a => cL n a.1 a.2.1 a.2.2.1 a.2.2.2.1 a.2.2.2.2.1⟩
def kh (s : State) (label : Int) : Option (List Share) :=
 (jD s label).bind fun x =>
 (md s ([114,111,111,116] : List UInt8) label x.Mem 1).bind fun x1 =>
 some x1
def h8 : Hint:=.z
def sp8 : Spec fam:=⟨[.v (.st 10) [],.v (.int .i64) []],[.v (.slice (.st 16)) [0]],fun a => kh a.1 a.2.1⟩
def bB (x3 : State) (k : Int) (a : List Share) (b : List Share) (t : Int × Int) : Option ((Int × Int) ⊕ (Bool ⊕ Int)) :=
 bif decide (t.2 < (a.length : Int)) then
 (
  (inb t.2 a.length).bind fun i =>
  (a[i]?).bind fun x4 =>
  (inb t.2 b.length).bind fun i1 =>
  (b[i1]?).bind fun x5 =>
  bif ! (x4.Path == x5.Path) then
  some true
  else
  (inb t.2 a.length).bind fun i2 =>
  (a[i2]?).bind fun x6 =>
  (inb t.2 b.length).bind fun i3 =>
  (b[i3]?).bind fun x7 =>
  bif x6.Mem != x7.Mem then
   some true
  else
   bif decide (t.2 > 0) then
   (inb (w64 (t.2 - 1)) a.length).bind fun i4 =>
   (a[i4]?).bind fun x8 =>
   (inb t.2 a.length).bind fun i5 =>
   (a[i5]?).bind fun x9 =>
   some (! (Op.bytesLess x8.Path x9.Path))
   else
   some false).bind fun q =>
 bif q then
  some (.inr (.inl false))
 else
  (inb t.2 a.length).bind fun i6 =>
  (a[i6]?).bind fun x10 =>
  let sum:=w64 (t.1 + x10.Mem)
  (
  bif decide ((a.length : Int) > 1) then
   (inb t.2 a.length).bind fun i7 =>
   (a[i7]?).bind fun x11 =>
   (inb t.2 a.length).bind fun i8 =>
   (a[i8]?).bind fun x12 =>
   (aG x3 x12.Path k).bind fun x13 =>
   (inb t.2 a.length).bind fun i9 =>
   (a[i9]?).bind fun x14 =>
   (bf x3 x14.Path k).bind fun x15 =>
   some (decide (x11.Mem > (w64 (x13.Mem + x15.Mem))))
  else
   some false).bind fun q1 =>
  bif q1 then
  some (.inr (.inl false))
  else
  some (.inl (sum,w64 (t.2 + 1)))
 else
 some (.inr (.inr (t.1)))
def dd (x3 : State) (k : Int) : Option (Int ⊕ (Bool ⊕ Unit)) :=
 bif decide (k < (x3.Conf.Labels.length : Int)) then
 (kh x3 k).bind fun a =>
 (aX x3 k).bind fun b =>
 bif (a.length : Int) != (b.length : Int) then
  some (.inr (.inl false))
 else
  (loop (bB x3 k a b) (0,0)).bind fun q0 =>
  match q0 with
  | .inl q2 =>
  some (.inr (.inl q2))
  | .inr sum1 =>
  (aZ x3 k).bind fun x16 =>
  bif decide (sum1 > x16.Mem) then
   some (.inr (.inl false))
  else
   some (.inl (w64 (k + 1)))
 else
 some (.inr (.inr ()))
def cp (x : Script) : Option Bool :=
 (fY).bind fun x1 =>
 bif ! x1 then
 some false
 else
 (bE x).bind fun x2 =>
 bif ! x2 then
  some true
 else
  (bn x).bind fun x3 =>
  (loop (dd x3) 0).bind fun q0 =>
  match q0 with
  | .inl q3 =>
  some q3
  | .inr _ =>
  some true
def h3 : Hint:=(.s .z (.s .z (.s .z (.s .z (.s (.s .z (.b (.l [(4,.v (.int .i64) [])] [2,4,5,6,7,8,82,119] [(1,[(2,.v .bool [])]),(2,[])] (.s .z (.s (.b (.s .z (.s .z (.s .z (.s (.s .z (.b (.l [(7,.v (.int .i64) []),(8,.v (.int .i64) [])] [2,7,8,82,119] [(1,[(2,.v .bool [])]),(4,[(7,.v (.int .i64) [])])] (.s .z (.s (.b (.s (.s (.j [] [(0,[(82,.v .bool [])])] .z) .z) (.s .z (.s (.j [] [(0,[(119,.v .bool [])])] .z) .z)))) .z))))) .z))))) .z))))) .z)))))
def sp3 : Spec fam:=⟨[.v (.st 12) []],[.v .bool []],fun a => cp a.1⟩
end
end Go.Fx.D
