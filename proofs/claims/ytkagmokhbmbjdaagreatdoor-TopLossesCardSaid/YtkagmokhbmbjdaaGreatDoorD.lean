/-
  The functions of the program that this law reaches, as functions over plain data (printed by a program). Conditions: none.
-/
import Derived.Test.YtkagmokhbmbjdaaGreatDoorFxD
import Derived.Test.YtkagmokhbmbjdaaGreatDoorA
namespace Go.Fx.D
open Go Go.Fx Go.Proofs
set_option linter.unusedVariables false
noncomputable section
def jE : Option State :=
 some (⟨⟨[([] : List UInt8)],[(⟨([114,111,111,116] : List UInt8),[(⟨10000,10000⟩ : Cap)],10000⟩ : Queue)]⟩,[],[],[],[],[],0,0,0⟩ : State)
def h10 : Hint:=.z
noncomputable def sp10 : Spec fam:=⟨[],[.v (.st 10) [0,1,2,3,4,5,6]],fun _ => jE⟩
def rv (s : List UInt8) : Option Bool:=nameD 12 s
def sp84 : Spec fam:=⟨[.v .str []],[.v .bool []],fun a => rv a.1⟩
def sE (l : List (List UInt8)) (t : List Ent0_ListUInt8Int × Int) : Option ((List Ent0_ListUInt8Int × Int) ⊕ (Int ⊕ List Ent0_ListUInt8Int)) :=
 bif decide (t.2 < (l.length : Int)) then
 (idx l t.2).bind fun x =>
 (
  bif t.2 == 0 then
  bif ! (x == ([] : List UInt8)) then
   some true
  else
   bif decide (t.2 > 0) then
   (rv x).bind fun x1 =>
   some (! x1)
   else
   some false
  else
  bif decide (t.2 > 0) then
   (rv x).bind fun x2 =>
   some (! x2)
  else
   some false).bind fun q =>
 bif q then
  some (.inr (.inl 12))
 else
  let e:=mget (fun x3 => x == x3.k) t.1 (⟨x,0⟩ : Ent0_ListUInt8Int)
  some (.inl (mput (fun x4 => x == x4.k) t.1 (⟨x,w64 (e.v + 1)⟩ : Ent0_ListUInt8Int),w64 (t.2 + 1)))
 else
 some (.inr (.inr (t.1)))
def mX (l : List (List UInt8)) : Option Int :=
 (loop (sE l) ([],0)).bind fun q0 =>
 match q0 with
 | .inl q1 =>
 some q1
 | .inr was =>
 bif decide ((was.length : Int) < (l.length : Int)) then
  some 7
 else
  some 0
def h38 : Hint:=(.s .z (.s .z (.s (.s .z (.b (.l [(3,.row (.st 500) false),(9,.v (.int .i64) [])] [2,3,4,5,6,9,28] [(1,[(2,.v (.int .i64) [])]),(2,[(3,.row (.st 500) false)])] (.s .z (.s .z (.s (.b (.s .z (.s (.s (.j [] [(0,[(28,.v .bool [])])] .z) .z) .z))) .z)))))) .z)))
def sp38 : Spec fam:=⟨[.v (.slice (.str)) []],[.v (.int .i64) []],fun a => mX a.1⟩
def eY (s : List UInt8) (c : Int) (i1 : Int) : Option (Int ⊕ (Int ⊕ Unit)) :=
 bif decide (i1 ≥ 0) then
 (idx s i1).bind fun ch =>
 bif (ch.toNat : Int) == c then
  some (.inr (.inl i1))
 else
  some (.inl (w64 (i1 - 1)))
 else
 some (.inr (.inr ()))
def bN (s : List UInt8) (c : Int) : Option Int :=
 let i:=w64 ((s.length : Int) - 1)
 (loop (eY s c) i).bind fun q0 =>
 match q0 with
 | .inl q =>
 some q
 | .inr _ =>
 some (-1)
def h189 : Hint:=(.s .z (.s (.s .z (.b (.l [(5,.v (.int .i64) [])] [4,5] [(1,[(4,.v (.int .i64) [])]),(2,[])] .z))) .z))
def sp189 : Spec fam:=⟨[.v .str [],.v (.int .u8) []],[.v (.int .i64) []],fun a => bN a.1 a.2.1⟩
def jf (_a0 : List UInt8) (_a1 : List UInt8) : Option Int:=none
def sp190 : Spec fam:=⟨[.v .str [],.v .str []],[.v (.int .i64) []],fun a => jf a.1 a.2.1⟩
def fF (s : List UInt8) (substr : List UInt8) : Option Int :=
 bif (substr.length : Int) == 0 then
 some (s.length : Int)
 else
 bif (substr.length : Int) == 1 then
  (idx substr 0).bind fun ch =>
  (bN s (ch.toNat : Int)).bind fun x =>
  some x
 else
  bif (substr.length : Int) == (s.length : Int) then
  bif substr == s then
   some 0
  else
   some (-1)
  else
  bif decide ((substr.length : Int) > (s.length : Int)) then
   some (-1)
  else
   none
def h145 : Hint:=.z
def sp145 : Spec fam:=⟨[.v .str [],.v .str []],[.v (.int .i64) []],fun a => fF a.1 a.2.1⟩
def iR (path : List UInt8) : Option (List UInt8 × Bool) :=
 (fF path ([46] : List UInt8)).bind fun i =>
 bif decide (i < 0) then
 some (([] : List UInt8),false)
 else
 (slc path 0 i).bind fun s =>
 some (s,true)
def h85 : Hint:=.z
def sp85 : Spec fam:=⟨[.v .str []],[.v .str [],.v .bool []],fun a => iR a.1⟩
def xH (_a0 : List UInt8) (_a1 : Int) : Option (List (List UInt8)):=none
def sp223 : Spec fam:=⟨[.v .str [],.v (.int .i64) []],[.v (.slice (.str)) []],fun a => xH a.1 a.2.1⟩
def oR (s : List UInt8) (sub : List UInt8) : Option Int:=cnt1 s sub
def sp224 : Spec fam:=⟨[.v .str [],.v .str []],[.v (.int .i64) []],fun a => oR a.1 a.2.1⟩
def AG (_a0 : List UInt8) (_a1 : List UInt8) : Option Int:=none
def sp225 : Spec fam:=⟨[.v .str [],.v .str []],[.v (.int .i64) []],fun a => AG a.1 a.2.1⟩
def lZ (n2 : Int) (t : List UInt8 × Int) : Option ((List UInt8 × Int) ⊕ ((List UInt8 × Int))) :=
 bif decide (t.2 < (w64 (n2 - 1))) then
 none
 else
 some (.inr (t.1,t.2))
def gz (s : List UInt8) (sep : List UInt8) (sepSave : Int) (n : Int) : Option (List (List UInt8)) :=
 bif n == 0 then
 some []
 else
 bif sep == ([] : List UInt8) then
  none
 else
  (
  bif decide (n < 0) then
   (oR s sep).bind fun x =>
   some (w64 (x + 1))
  else
   some n).bind fun n1 =>
  let n2:=imin n1 (w64 ((s.length : Int) + 1))
  (mkl 16 n2 n2 []).bind fun l =>
  (loop (lZ n2) (s,0)).bind fun q =>
  (inb q.2 l.length).bind fun i =>
  (l[i]?).bind fun x1 =>
  (inS 0 (w64 (q.2 + 1)) (List.set l i q.1).length).bind fun p =>
  some (sub (List.set l i q.1) p.1 p.2)
def h191 : Hint:=(.s .z (.s .z (.s .z (.s (.j [3] [(0,[(3,.v (.int .i64) [])])] .z) (.s .z (.s .z (.s .z (.s .z (.s (.b (.l [(0,.v .str []),(10,.v (.int .i64) [])] [0,10] [(2,[(0,.v .str []),(10,.v (.int .i64) [])])] .z)) .z)))))))))
def sp191 : Spec fam:=⟨[.v .str [],.v .str [],.v (.int .i64) [],.v (.int .i64) []],[.v (.slice (.str)) []],fun a => gz a.1 a.2.1 a.2.2.1 a.2.2.2.1⟩
def jM (s : List UInt8) (sep : List UInt8) : Option (List (List UInt8)) :=
 (gz s sep 0 (-1)).bind fun x =>
 some x
def h146 : Hint:=.z
def sp146 : Spec fam:=⟨[.v .str [],.v .str []],[.v (.slice (.str)) []],fun a => jM a.1 a.2.1⟩
def bH (s : List (List UInt8)) (f : (TupT fam [.str] → Option Bool)) (t : Int) : Option (Int ⊕ (Int ⊕ Unit)) :=
 bif decide (t < (s.length : Int)) then
 (idx s t).bind fun x =>
 (f (x,())).bind fun r =>
 bif r then
  some (.inr (.inl t))
 else
  some (.inl (w64 (t + 1)))
 else
 some (.inr (.inr ()))
def aZ (s : List (List UInt8)) (f : (TupT fam [.str] → Option Bool)) : Option Int :=
 (loop (bH s f) 0).bind fun q0 =>
 match q0 with
 | .inl q =>
 some q
 | .inr _ =>
 some (-1)
def h192 : Hint:=(.s .z (.s (.s .z (.b (.l [(8,.v (.int .i64) [])] [4,5,8] [(1,[(4,.v (.int .i64) [])]),(2,[])] .z))) .z))
def sp192 : Spec fam:=⟨[.v (.slice (.str)) [],.fn [.str] .bool],[.v (.int .i64) []],fun a => aZ a.1 a.2.1⟩
def aU (s : List (List UInt8)) (f : (TupT fam [.str] → Option Bool)) : Option Bool :=
 (aZ s f).bind fun x =>
 some (decide (x ≥ 0))
def h147 : Hint:=.z
def sp147 : Spec fam:=⟨[.v (.slice (.str)) [],.fn [.str] .bool],[.v .bool []],fun a => aU a.1 a.2.1⟩
def oQ (n : List UInt8) : Option Bool :=
 (rv n).bind fun x =>
 some (! x)
def h148 : Hint:=.z
def sp148 : Spec fam:=⟨[.v .str []],[.v .bool []],fun a => oQ a.1⟩
def nt (s : List UInt8) : Option Bool :=
 (jM s ([46] : List UInt8)).bind fun l =>
 (idx l 0).bind fun x =>
 bif x == ([114,111,111,116] : List UInt8) then
 bif decide ((l.length : Int) ≤ 4) then
  (aU l (fun a' => oQ a'.1)).bind fun x1 =>
  some (! x1)
 else
  some false
 else
 some false
def h86 : Hint:=.z
def sp86 : Spec fam:=⟨[.v .str []],[.v .bool []],fun a => nt a.1⟩
def rE (s : List Cap) (f : (TupT fam [.st 1] → Option Bool)) (t : Int) : Option (Int ⊕ (Int ⊕ Unit)) :=
 bif decide (t < (s.length : Int)) then
 (idx s t).bind fun x =>
 (f (x,())).bind fun r =>
 bif r then
  some (.inr (.inl t))
 else
  some (.inl (w64 (t + 1)))
 else
 some (.inr (.inr ()))
def tv (s : List Cap) (f : (TupT fam [.st 1] → Option Bool)) : Option Int :=
 (loop (rE s f) 0).bind fun q0 =>
 match q0 with
 | .inl q =>
 some q
 | .inr _ =>
 some (-1)
def h193 : Hint:=(.s .z (.s (.s .z (.b (.l [(8,.v (.int .i64) [])] [4,5,8] [(1,[(4,.v (.int .i64) [])]),(2,[])] .z))) .z))
def sp193 : Spec fam:=⟨[.v (.slice (.st 1)) [],.fn [.st 1] .bool],[.v (.int .i64) []],fun a => tv a.1 a.2.1⟩
def lI (s : List Cap) (f : (TupT fam [.st 1] → Option Bool)) : Option Bool :=
 (tv s f).bind fun x =>
 some (decide (x ≥ 0))
def h149 : Hint:=.z
def sp149 : Spec fam:=⟨[.v (.slice (.st 1)) [],.fn [.st 1] .bool],[.v .bool []],fun a => lI a.1 a.2.1⟩
def rU (c : Cap) : Option Bool :=
 bif decide (c.Least < 0) then
 some true
 else
 bif decide (c.Most > 10000) then
  some true
 else
  some (decide (c.Least > c.Most))
def h150 : Hint:=.z
def sp150 : Spec fam:=⟨[.v (.st 1) []],[.v .bool []],fun a => rU a.1⟩
def rq (l : List Cap) : Option Bool :=
 (lI l (fun a' => rU a'.1)).bind fun x =>
 some (! x)
def h87 : Hint:=.z
def sp87 : Spec fam:=⟨[.v (.slice (.st 1)) []],[.v .bool []],fun a => rq a.1⟩
def mU (c : Conf) (t : List Ent0_ListUInt8Int × List UInt8 × Int) : Option ((List Ent0_ListUInt8Int × List UInt8 × Int) ⊕ (Int ⊕ Unit)) :=
 bif decide (t.2.2 < (c.Queues.length : Int)) then
 (idx c.Queues t.2.2).bind fun x =>
 (iR x.Path).bind fun x1 =>
 (nt x.Path).bind fun x2 =>
 bif ! x2 then
  some (.inr (.inl 12))
 else
  (
  bif decide (t.2.2 > 0) then
   some (strLe x.Path t.2.1)
  else
   some false).bind fun q =>
  bif q then
  some (.inr (.inl 7))
  else
  (
   bif x1.2 then
   let e:=mget (fun x3 => x1.1 == x3.k) t.1 (⟨x1.1,0⟩ : Ent0_ListUInt8Int)
   some (e.v == 0)
   else
   some false).bind fun q1 =>
  bif q1 then
   some (.inr (.inl 12))
  else
   (
   bif decide (x.User < 1) then
    some true
   else
    bif decide (x.User > 1000000) then
    some true
    else
    bif (x.Caps.length : Int) != (c.Labels.length : Int) then
     some true
    else
     (rq x.Caps).bind fun x4 =>
     some (! x4)).bind fun q2 =>
   bif q2 then
   some (.inr (.inl 1))
   else
   let e1:=mget (fun x5 => x.Path == x5.k) t.1 (⟨x.Path,0⟩ : Ent0_ListUInt8Int)
   some (.inl (mput (fun x6 => x.Path == x6.k) t.1 (⟨x.Path,w64 (e1.v + 1)⟩ : Ent0_ListUInt8Int),x.Path,w64 (t.2.2 + 1)))
 else
 some (.inr (.inr ()))
def nr (c : Conf) : Option Int :=
 (loop (mU c) ([],([] : List UInt8),0)).bind fun q0 =>
 match q0 with
 | .inl q3 =>
 some q3
 | .inr _ =>
 some 0
def h39 : Hint:=(.s .z (.s .z (.s .z (.s (.s .z (.b (.l [(3,.row (.st 500) false),(4,.v .str []),(13,.v (.int .i64) [])] [2,3,4,5,6,7,8,9,13,29,38,46] [(1,[(2,.v (.int .i64) [])]),(2,[])] (.s .z (.s .z (.s (.b (.s .z (.s .z (.s (.b (.s .z (.c .z (.s (.j [] [(0,[(29,.v .bool [])])] .z) (.c .z (.s (.j [] [(0,[(38,.v .bool [])])] .z) (.c .z (.s (.j [] [(0,[(46,.v .bool [])])] .z) .z)))))))) .z)))) .z)))))) .z))))
def sp39 : Spec fam:=⟨[.v (.st 3) []],[.v (.int .i64) []],fun a => nr a.1⟩
def qg (c : Conf) (path : List UInt8) (t : List (List UInt8) × Int) : Option ((List (List UInt8) × Int) ⊕ List (List UInt8)) :=
 bif decide (t.2 < (c.Queues.length : Int)) then
 (
  (idx c.Queues t.2).bind fun x =>
  (iR x.Path).bind fun x1 =>
  (
  bif x1.2 then
   some (x1.1 == path)
  else
   some false).bind fun q =>
  bif q then
  (app 16 t.1 [x.Path]).bind fun l =>
  some l
  else
  some t.1).bind fun out =>
 some (.inl (out,w64 (t.2 + 1)))
 else
 some (.inr t.1)
def iD (c : Conf) (path : List UInt8) : Option (List (List UInt8)) :=
 (loop (qg c path) ([],0)).bind fun out1 =>
 some out1
def h88 : Hint:=(.s .z (.s .z (.s (.s .z (.b (.l [(5,.v (.slice (.str)) [0]),(13,.v (.int .i64) [])] [5,7,8,9,13,28] [(2,[(5,.v (.slice (.str)) [0])])] (.s .z (.s .z (.s (.j [5,7,8,9,28] [(0,[(5,.v (.slice (.str)) [0])])] (.b (.s .z (.s .z (.s (.j [] [(0,[(28,.v .bool [])])] .z) .z))))) .z)))))) .z)))
def sp88 : Spec fam:=⟨[.v (.st 3) [],.v .str []],[.v (.slice (.str)) [0]],fun a => iD a.1 a.2.1⟩
def yr (s : List Cap) : Option (List Cap) :=
 bif s.isEmpty then
 none
 else
 (app 16 [] s).bind fun l =>
 some l
def fO (s : List Cap) : Option (List Cap):=app 16 [] s
def h100 : Hint:=.z
def sp100 : Spec fam:=⟨[.v (.slice (.st 1)) []],[.v (.slice (.st 1)) [0]],fun a => fO a.1⟩
def Gq : Spec fam:=⟨[.v (.slice (.st 1)) []],[.v (.slice (.st 1)) [0]],fun a => yr a.1⟩
def oT (s : List Queue) (f : (TupT fam [.st 2] → Option Bool)) (t : Int) : Option (Int ⊕ (Int ⊕ Unit)) :=
 bif decide (t < (s.length : Int)) then
 (idx s t).bind fun x =>
 (f (x,())).bind fun r =>
 bif r then
  some (.inr (.inl t))
 else
  some (.inl (w64 (t + 1)))
 else
 some (.inr (.inr ()))
def pz (s : List Queue) (f : (TupT fam [.st 2] → Option Bool)) : Option Int :=
 (loop (oT s f) 0).bind fun q0 =>
 match q0 with
 | .inl q =>
 some q
 | .inr _ =>
 some (-1)
def h151 : Hint:=(.s .z (.s (.s .z (.b (.l [(8,.v (.int .i64) [])] [4,5,8] [(1,[(4,.v (.int .i64) [])]),(2,[])] .z))) .z))
def sp151 : Spec fam:=⟨[.v (.slice (.st 2)) [],.fn [.st 2] .bool],[.v (.int .i64) []],fun a => pz a.1 a.2.1⟩
def rQ (q : Queue) (p : List UInt8) : Option Bool :=
 some (q.Path == p)
def h152 : Hint:=.z
def sp152 : Spec fam:=⟨[.v (.st 2) [],.rp .str],[.v .bool []],fun a => rQ a.1 a.2.1⟩
def gc (c : Conf) (path : List UInt8) : Option (Queue × Bool) :=
 (pz c.Queues (fun a' => rQ a'.1 path)).bind fun i =>
 bif decide (i < 0) then
 some ((⟨[],[],0⟩ : Queue),false)
 else
 (idx c.Queues i).bind fun x =>
 (fO x.Caps).bind fun x1 =>
 some ((⟨x.Path,x1,x.User⟩ : Queue),true)
def h89 : Hint:=.z
def sp89 : Spec fam:=⟨[.v (.st 3) [],.v .str []],[.v (.st 2) [1],.v .bool []],fun a => gc a.1 a.2.1⟩
def qu (c : Conf) (kids : List (List UInt8)) (t2 : Int) (t3 : Int × Int) : Option ((Int × Int) ⊕ Int) :=
 bif decide (t3.2 < (kids.length : Int)) then
 (inb t3.2 kids.length).bind fun i =>
 (kids[i]?).bind fun x3 =>
 (gc c x3).bind fun x4 =>
 (inb t2 x4.1.Caps.length).bind fun i1 =>
 (x4.1.Caps[i1]?).bind fun x5 =>
 let sum:=w64 (t3.1 + x5.Least)
 some (.inl (sum,w64 (t3.2 + 1)))
 else
 some (.inr t3.1)
def qc (c : Conf) (kids : List (List UInt8)) (t2 : Int) : Option (Int ⊕ (Int ⊕ Unit)) :=
 bif decide (t2 < (c.Labels.length : Int)) then
 (loop (qu c kids t2) (0,0)).bind fun sum1 =>
 (
  bif decide ((kids.length : Int) > 0) then
  some (sum1 != 10000)
  else
  some false).bind fun q2 =>
 bif q2 then
  some (.inr (.inl 13))
 else
  some (.inl (w64 (t2 + 1)))
 else
 some (.inr (.inr ()))
def ql (c : Conf) (t1 : Int) : Option (Int ⊕ (Int ⊕ Unit)) :=
 bif decide (t1 < (c.Queues.length : Int)) then
 (idx c.Queues t1).bind fun x2 =>
 (iD c x2.Path).bind fun kids =>
 (loop (qc c kids) 0).bind fun q0 =>
 match q0 with
 | .inl q3 =>
  some (.inr (.inl q3))
 | .inr _ =>
  some (.inl (w64 (t1 + 1)))
 else
 some (.inr (.inr ()))
def vr (x : Queue) (t : Int) : Option (Int ⊕ (Int ⊕ Unit)) :=
 bif decide (t < (x.Caps.length : Int)) then
 (idx x.Caps t).bind fun x1 =>
 (
  bif x1.Least != 10000 then
  some true
  else
  some (x1.Most != 10000)).bind fun q =>
 bif q then
  some (.inr (.inl 13))
 else
  some (.inl (w64 (t + 1)))
 else
 some (.inr (.inr ()))
def re (c : Conf) : Option Int :=
 (idx c.Queues 0).bind fun x =>
 (loop (vr x) 0).bind fun q0 =>
 match q0 with
 | .inl q1 =>
 some q1
 | .inr _ =>
 (loop (ql c) 0).bind fun q0 =>
 match q0 with
 | .inl q4 =>
  some q4
 | .inr _ =>
  some 0
def h40 : Hint:=(.s .z (.s (.s .z (.b (.l [(20,.v (.int .i64) [])] [2,4,20,21,22,23,24,25,26,27,28,29,30,31,32] [(1,[(2,.v (.int .i64) [])]),(2,[])] (.s .z (.s .z (.s (.b (.s .z (.s (.j [24,25,26,27,28,29,30,31] [(0,[(31,.v .bool [])])] .z) .z))) .z)))))) (.s (.s .z (.b (.l [(36,.v (.int .i64) [])] [2,6,7,8,9,11,12,13,36,37,38,39,40,41,42,43,44,45,46,47,48,49,50,51,52,77] [(1,[(2,.v (.int .i64) [])]),(4,[])] (.s .z (.s .z (.s (.b (.s .z (.s .z (.s .z (.b (.l [(47,.v (.int .i64) [])] [2,8,9,11,12,13,47,48,49,50,51,52,77] [(1,[(2,.v (.int .i64) [])]),(6,[])] (.s .z (.s .z (.s (.b (.s .z (.s .z (.s (.s .z (.b (.l [(9,.v (.int .i64) []),(52,.v (.int .i64) [])] [9,11,12,13,52] [(8,[(9,.v (.int .i64) [])])] .z))) (.s (.j [] [(0,[(77,.v .bool [])])] .z) .z))))) .z))))))))) .z)))))) .z)))
def sp40 : Spec fam:=⟨[.v (.st 3) []],[.v (.int .i64) []],fun a => re a.1⟩
def pI (c : Conf) : Option Int :=
 (
 bif (c.Labels.length : Int) == 0 then
  some true
 else
  bif decide ((c.Labels.length : Int) > 3) then
  some true
  else
  some (decide ((c.Queues.length : Int) > 16))).bind fun q =>
 bif q then
 some 4
 else
 (mX c.Labels).bind fun e =>
 bif e != 0 then
  some e
 else
  (
  bif (c.Queues.length : Int) == 0 then
   some true
  else
   (idx c.Queues 0).bind fun x =>
   some (! (x.Path == ([114,111,111,116] : List UInt8)))).bind fun q1 =>
  bif q1 then
  some 12
  else
  (nr c).bind fun e1 =>
  bif e1 != 0 then
   some e1
  else
   (re c).bind fun x1 =>
   some x1
def h23 : Hint:=(.s .z (.s (.s (.j [] [(0,[(20,.v .bool [])])] .z) .z) (.s .z (.s (.s (.j [] [(0,[(38,.v .bool [])])] .z) .z) .z))))
def sp23 : Spec fam:=⟨[.v (.st 3) []],[.v (.int .i64) []],fun a => pI a.1⟩
def rZ (s : List Vec) (f : (TupT fam [.st 0] → Option Bool)) (t : Int) : Option (Int ⊕ (Int ⊕ Unit)) :=
 bif decide (t < (s.length : Int)) then
 (idx s t).bind fun x =>
 (f (x,())).bind fun r =>
 bif r then
  some (.inr (.inl t))
 else
  some (.inl (w64 (t + 1)))
 else
 some (.inr (.inr ()))
def sS (s : List Vec) (f : (TupT fam [.st 0] → Option Bool)) : Option Int :=
 (loop (rZ s f) 0).bind fun q0 =>
 match q0 with
 | .inl q =>
 some q
 | .inr _ =>
 some (-1)
def h90 : Hint:=(.s .z (.s (.s .z (.b (.l [(8,.v (.int .i64) [])] [4,5,8] [(1,[(4,.v (.int .i64) [])]),(2,[])] .z))) .z))
def sp90 : Spec fam:=⟨[.v (.slice (.st 0)) [],.fn [.st 0] .bool],[.v (.int .i64) []],fun a => sS a.1 a.2.1⟩
def m6 (s : List Vec) (f : (TupT fam [.st 0] → Option Bool)) : Option Bool :=
 (sS s f).bind fun x =>
 some (decide (x ≥ 0))
def h41 : Hint:=.z
def sp41 : Spec fam:=⟨[.v (.slice (.st 0)) [],.fn [.st 0] .bool],[.v .bool []],fun a => m6 a.1 a.2.1⟩
def gy (v : Vec) : Option Bool :=
 bif decide (v.Mem < 0) then
 some true
 else
 bif decide (v.Mem > 1125899906842624) then
  some true
 else
  bif decide (v.Cores < 0) then
  some true
  else
  some (decide (v.Cores > 1125899906842624))
def h42 : Hint:=.z
def sp42 : Spec fam:=⟨[.v (.st 0) []],[.v .bool []],fun a => gy a.1⟩
def kq (x3 : App) (t4 : List Vec × Int) : Option ((List Vec × Int) ⊕ List Vec) :=
 bif decide (t4.2 < (x3.Asks.length : Int)) then
 (idx x3.Asks t4.2).bind fun x4 =>
 (app 16 t4.1 [x4.Size]).bind fun l7 =>
 some (.inl (l7,w64 (t4.2 + 1)))
 else
 some (.inr t4.1)
def fM (k : Look) (t3 : List Vec × Int) : Option ((List Vec × Int) ⊕ List Vec) :=
 bif decide (t3.2 < (k.s.Apps.length : Int)) then
 (idx k.s.Apps t3.2).bind fun x3 =>
 (app 16 t3.1 [x3.Master]).bind fun l6 =>
 (loop (kq x3) (l6,0)).bind fun l8 =>
 some (.inl (l8,w64 (t3.2 + 1)))
 else
 some (.inr t3.1)
def kf (k : Look) (t2 : List Vec × Int) : Option ((List Vec × Int) ⊕ List Vec) :=
 bif decide (t2.2 < (k.s.Plans.length : Int)) then
 (idx k.s.Plans t2.2).bind fun x2 =>
 (app 16 t2.1 [x2.Need]).bind fun l4 =>
 some (.inl (l4,w64 (t2.2 + 1)))
 else
 some (.inr t2.1)
def kb (k : Look) (t1 : List Vec × Int) : Option ((List Vec × Int) ⊕ List Vec) :=
 bif decide (t1.2 < (k.s.Conts.length : Int)) then
 (idx k.s.Conts t1.2).bind fun x1 =>
 (app 16 t1.1 [x1.Size]).bind fun l2 =>
 some (.inl (l2,w64 (t1.2 + 1)))
 else
 some (.inr t1.1)
def km (k : Look) (t : List Vec × Int) : Option ((List Vec × Int) ⊕ List Vec) :=
 bif decide (t.2 < (k.s.Nodes.length : Int)) then
 (idx k.s.Nodes t.2).bind fun x =>
 (app 16 t.1 [x.Cap]).bind fun l =>
 some (.inl (l,w64 (t.2 + 1)))
 else
 some (.inr t.1)
def eW (k : Look) : Option Bool :=
 (loop (km k) ([],0)).bind fun l1 =>
 (loop (kb k) (l1,0)).bind fun l3 =>
 (loop (kf k) (l3,0)).bind fun l5 =>
 (loop (fM k) (l5,0)).bind fun l9 =>
 (m6 l9 (fun a' => gy a'.1)).bind fun x5 =>
 some (! x5)
def h24 : Hint:=(.s .z (.s .z (.s (.s .z (.b (.l [(3,.v (.slice (.st 0)) [0]),(18,.v (.int .i64) [])] [3,5,18,19,20,21,22,23,24,25,26,27] [(2,[(3,.v (.slice (.st 0)) [0])])] .z))) (.s (.s .z (.b (.l [(3,.v (.slice (.st 0)) [0]),(32,.v (.int .i64) [])] [3,7,32,33,34,35,36,37,38,39,40,41] [(4,[(3,.v (.slice (.st 0)) [0])])] .z))) (.s (.s .z (.b (.l [(3,.v (.slice (.st 0)) [0]),(46,.v (.int .i64) [])] [3,9,46,47,48,49,50,51,52,53,54,55] [(6,[(3,.v (.slice (.st 0)) [0])])] .z))) (.s (.s .z (.b (.l [(3,.v (.slice (.st 0)) [0]),(60,.v (.int .i64) [])] [3,11,13,60,61,62,63,64,65,66,67,68,69,70,71,72] [(8,[(3,.v (.slice (.st 0)) [0])])] (.s .z (.s .z (.s (.b (.s .z (.s .z (.s .z (.b (.l [(3,.v (.slice (.st 0)) [0]),(72,.v (.int .i64) [])] [3,13,68,72] [(10,[(3,.v (.slice (.st 0)) [0])])] .z)))))) .z)))))) .z))))))
def sp24 : Spec fam:=⟨[.v (.st 16) []],[.v .bool []],fun a => eW a.1⟩
def j6 (n : Int) (id_ : (TupT fam [.int .i64] → Option Int)) (i : Int) : Option (Int ⊕ (Bool ⊕ Unit)) :=
 bif decide (i < n) then
 (id_ (w64 (i - 1),())).bind fun r =>
 (id_ (i,())).bind fun r1 =>
 bif decide (r ≥ r1) then
  some (.inr (.inl false))
 else
  some (.inl (w64 (i + 1)))
 else
 some (.inr (.inr ()))
def cB (n : Int) (most : Int) (id_ : (TupT fam [.int .i64] → Option Int)) : Option Bool :=
 (loop (j6 n id_) 1).bind fun q0 =>
 match q0 with
 | .inl q =>
 some q
 | .inr _ =>
 some (decide (n ≤ most))
def h43 : Hint:=(.s .z (.s (.s .z (.b (.l [(7,.v (.int .i64) [])] [6,7] [(1,[(6,.v .bool [])]),(2,[])] .z))) .z))
def sp43 : Spec fam:=⟨[.v (.int .i64) [],.v (.int .i64) [],.fn [.int .i64] (.int .i64)],[.v .bool []],fun a => cB a.1 a.2.1 a.2.2.1⟩
def fK (_a0 : Int) (_a1 : State) : Option Int:=none
def sp44 : Spec fam:=⟨[.v (.int .i64) [],.rp (.st 10)],[.v (.int .i64) []],fun a => fK a.1 a.2.1⟩
def fL (_a0 : Int) (_a1 : State) : Option Int:=none
def sp45 : Spec fam:=⟨[.v (.int .i64) [],.rp (.st 10)],[.v (.int .i64) []],fun a => fL a.1 a.2.1⟩
def fZ (_a0 : Int) (_a1 : State) : Option Int:=none
def sp46 : Spec fam:=⟨[.v (.int .i64) [],.rp (.st 10)],[.v (.int .i64) []],fun a => fZ a.1 a.2.1⟩
def fS (_a0 : Int) (_a1 : State) : Option Int:=none
def sp47 : Spec fam:=⟨[.v (.int .i64) [],.rp (.st 10)],[.v (.int .i64) []],fun a => fS a.1 a.2.1⟩
def fW (_a0 : Int) (_a1 : State) : Option Int:=none
def sp48 : Spec fam:=⟨[.v (.int .i64) [],.rp (.st 10)],[.v (.int .i64) []],fun a => fW a.1 a.2.1⟩
def et (k : Look) : Option Bool :=
 (cB (k.s.Nodes.length : Int) 12 (fun a' => fK a'.1 k.s)).bind fun x =>
 bif x then
 (cB (k.s.Apps.length : Int) 16 (fun a' => fL a'.1 k.s)).bind fun x1 =>
 bif x1 then
  (cB (k.s.Conts.length : Int) 200 (fun a' => fZ a'.1 k.s)).bind fun x2 =>
  bif x2 then
  (cB (k.s.Slots.length : Int) 12 (fun a' => fS a'.1 k.s)).bind fun x3 =>
  bif x3 then
   (cB (k.s.Plans.length : Int) 12 (fun a' => fW a'.1 k.s)).bind fun x4 =>
   some x4
  else
   some false
  else
  some false
 else
  some false
 else
 some false
def h25 : Hint:=.z
def sp25 : Spec fam:=⟨[.v (.st 16) []],[.v .bool []],fun a => et a.1⟩
def qo (s : List Cont) (f : (TupT fam [.st 7] → Option Bool)) (t : Int) : Option (Int ⊕ (Int ⊕ Unit)) :=
 bif decide (t < (s.length : Int)) then
 (idx s t).bind fun x =>
 (f (x,())).bind fun r =>
 bif r then
  some (.inr (.inl t))
 else
  some (.inl (w64 (t + 1)))
 else
 some (.inr (.inr ()))
def gb (s : List Cont) (f : (TupT fam [.st 7] → Option Bool)) : Option Int :=
 (loop (qo s f) 0).bind fun q0 =>
 match q0 with
 | .inl q =>
 some q
 | .inr _ =>
 some (-1)
def h64 : Hint:=(.s .z (.s (.s .z (.b (.l [(8,.v (.int .i64) [])] [4,5,8] [(1,[(4,.v (.int .i64) [])]),(2,[])] .z))) .z))
def sp64 : Spec fam:=⟨[.v (.slice (.st 7)) [],.fn [.st 7] .bool],[.v (.int .i64) []],fun a => gb a.1 a.2.1⟩
def iA (s : List Cont) (f : (TupT fam [.st 7] → Option Bool)) : Option Bool :=
 (gb s f).bind fun x =>
 some (decide (x ≥ 0))
def h49 : Hint:=.z
def sp49 : Spec fam:=⟨[.v (.slice (.st 7)) [],.fn [.st 7] .bool],[.v .bool []],fun a => iA a.1 a.2.1⟩
def kU (l : List Cont) (holds : (TupT fam [.st 7] → Option Bool)) : Option Bool:=(iA l (fun x => (holds x).bind fun r => some (!r))).bind fun r => some (!r)
def sp26 : Spec fam:=⟨[.v (.slice (.st 7)) [],.fn [.st 7] .bool],[.v .bool []],fun a => kU a.1 a.2.1⟩
def rO (s : List App) (f : (TupT fam [.st 6] → Option Bool)) (t : Int) : Option (Int ⊕ (Int ⊕ Unit)) :=
 bif decide (t < (s.length : Int)) then
 (idx s t).bind fun x =>
 (f (x,())).bind fun r =>
 bif r then
  some (.inr (.inl t))
 else
  some (.inl (w64 (t + 1)))
 else
 some (.inr (.inr ()))
def mG (s : List App) (f : (TupT fam [.st 6] → Option Bool)) : Option Int :=
 (loop (rO s f) 0).bind fun q0 =>
 match q0 with
 | .inl q =>
 some q
 | .inr _ =>
 some (-1)
def h96 : Hint:=(.s .z (.s (.s .z (.b (.l [(8,.v (.int .i64) [])] [4,5,8] [(1,[(4,.v (.int .i64) [])]),(2,[])] .z))) .z))
def sp96 : Spec fam:=⟨[.v (.slice (.st 6)) [],.fn [.st 6] .bool],[.v (.int .i64) []],fun a => mG a.1 a.2.1⟩
def uJ (a : App) (p : Int) : Option Bool :=
 some (a.Id == p)
def h106 : Hint:=.z
def sp106 : Spec fam:=⟨[.v (.st 6) [],.rp (.int .i64)],[.v .bool []],fun a => uJ a.1 a.2.1⟩
def mq (s : State) (id_ : Int) : Option Int :=
 (mG s.Apps (fun a' => uJ a'.1 id_)).bind fun x =>
 some x
def h66 : Hint:=.z
def sp66 : Spec fam:=⟨[.v (.st 10) [],.v (.int .i64) []],[.v (.int .i64) []],fun a => mq a.1 a.2.1⟩
def Cq (s : List Ask) : Option (List Ask) :=
 bif s.isEmpty then
 none
 else
 (app 64 [] s).bind fun l =>
 some l
def pY (s : List Ask) : Option (List Ask):=app 64 [] s
def h153 : Hint:=.z
def sp153 : Spec fam:=⟨[.v (.slice (.st 5)) []],[.v (.slice (.st 5)) [0]],fun a => pY a.1⟩
def G3 : Spec fam:=⟨[.v (.slice (.st 5)) []],[.v (.slice (.st 5)) [0]],fun a => Cq a.1⟩
def nV (l : List Int) : Option (List Int) :=
 (mkl 8 (l.length : Int) (l.length : Int) 0).bind fun l1 =>
 some (cpy l1 0 l1.length l)
def h154 : Hint:=.z
def sp154 : Spec fam:=⟨[.v (.slice (.int .i64)) []],[.v (.slice (.int .i64)) [0]],fun a => nV a.1⟩
def jZ (a : App) : Option App :=
 (pY a.Asks).bind fun x =>
 (nV a.Grants).bind fun x1 =>
 (nV a.Kills).bind fun x2 =>
 (nV a.Told).bind fun x3 =>
 (nV a.Lost).bind fun x4 =>
 some (⟨a.Id,a.State,a.Queue,a.User,a.Prio,⟨a.Master.Mem,a.Master.Cores⟩,x,a.Seen,a.Beat,x1,x2,x3,x4⟩ : App)
def h91 : Hint:=.z
def sp91 : Spec fam:=⟨[.v (.st 6) []],[.v (.st 6) [7,10,11,12,13,9999]],fun a => jZ a.1⟩
def ga (s : State) (id_ : Int) : Option (App × Bool) :=
 (mq s id_).bind fun i =>
 bif decide (i < 0) then
 some ((⟨0,0,[],0,0,⟨0,0⟩,[],0,0,[],[],[],[]⟩ : App),false)
 else
 (idx s.Apps i).bind fun x =>
 (jZ x).bind fun x1 =>
 some (x1,true)
def h51 : Hint:=.z
def sp51 : Spec fam:=⟨[.v (.st 10) [],.v (.int .i64) []],[.v (.st 6) [7,10,11,12,13,9999],.v .bool []],fun a => ga a.1 a.2.1⟩
def p9 (s : List Node) (f : (TupT fam [.st 4] → Option Bool)) (t : Int) : Option (Int ⊕ (Int ⊕ Unit)) :=
 bif decide (t < (s.length : Int)) then
 (idx s t).bind fun x =>
 (f (x,())).bind fun r =>
 bif r then
  some (.inr (.inl t))
 else
  some (.inl (w64 (t + 1)))
 else
 some (.inr (.inr ()))
def nA (s : List Node) (f : (TupT fam [.st 4] → Option Bool)) : Option Int :=
 (loop (p9 s f) 0).bind fun q0 =>
 match q0 with
 | .inl q =>
 some q
 | .inr _ =>
 some (-1)
def h93 : Hint:=(.s .z (.s (.s .z (.b (.l [(8,.v (.int .i64) [])] [4,5,8] [(1,[(4,.v (.int .i64) [])]),(2,[])] .z))) .z))
def sp93 : Spec fam:=⟨[.v (.slice (.st 4)) [],.fn [.st 4] .bool],[.v (.int .i64) []],fun a => nA a.1 a.2.1⟩
def qL (i : Int) (n : Node) : Option Bool :=
 some (n.Id == i)
def h155 : Hint:=.z
def sp155 : Spec fam:=⟨[.v (.int .i64) [],.v (.st 4) []],[.v .bool []],fun a => qL a.1 a.2.1⟩
def mr (s : State) (id_ : Int) : Option Int :=
 (nA s.Nodes (fun a' => qL id_ a'.1)).bind fun x =>
 some x
def h92 : Hint:=.z
def sp92 : Spec fam:=⟨[.v (.st 10) [],.v (.int .i64) []],[.v (.int .i64) []],fun a => mr a.1 a.2.1⟩
def gw (s : State) (id_ : Int) : Option (Node × Bool) :=
 (mr s id_).bind fun i =>
 bif decide (i < 0) then
 some ((⟨0,0,0,⟨0,0⟩,0,0,false⟩ : Node),false)
 else
 (idx s.Nodes i).bind fun x =>
 some (x,true)
def h52 : Hint:=.z
def sp52 : Spec fam:=⟨[.v (.st 10) [],.v (.int .i64) []],[.v (.st 4) [],.v .bool []],fun a => gw a.1 a.2.1⟩
def cD (a : App) : Option Bool :=
 bif a.State == 1 then
 some true
 else
 some (a.State == 2)
def h53 : Hint:=.z
def sp53 : Spec fam:=⟨[.v (.st 6) []],[.v .bool []],fun a => cD a.1⟩
def fu (k : Look) (c : Cont) : Option Bool :=
 (ga k.s c.App).bind fun x =>
 (gw k.s c.Node).bind fun x1 =>
 bif x.2 then
 (cD x.1).bind fun x2 =>
 bif x2 then
  bif x1.2 then
  bif x1.1.Up then
   bif x1.1.Label == c.Label then
   bif decide (c.Notice ≥ 0) then
    some (decide (c.Notice ≤ (imax k.s.Now 1)))
   else
    some false
   else
   some false
  else
   some false
  else
  some false
 else
  some false
 else
 some false
def h27 : Hint:=.z
def sp27 : Spec fam:=⟨[.v (.st 16) [],.v (.st 7) []],[.v .bool []],fun a => fu a.1 a.2.1⟩
def kA (s : List Node) (f : (TupT fam [.st 4] → Option Bool)) : Option Bool :=
 (nA s f).bind fun x =>
 some (decide (x ≥ 0))
def h54 : Hint:=.z
def sp54 : Spec fam:=⟨[.v (.slice (.st 4)) [],.fn [.st 4] .bool],[.v .bool []],fun a => kA a.1 a.2.1⟩
def kx (l : List Node) (holds : (TupT fam [.st 4] → Option Bool)) : Option Bool:=(kA l (fun x => (holds x).bind fun r => some (!r))).bind fun r => some (!r)
def sp28 : Spec fam:=⟨[.v (.slice (.st 4)) [],.fn [.st 4] .bool],[.v .bool []],fun a => kx a.1 a.2.1⟩
def gH (v : Vec) : Option Bool :=
 bif decide (v.Mem ≥ 0) then
 bif decide (v.Mem ≤ 1125899906842624) then
  bif decide (v.Cores ≥ 0) then
  some (decide (v.Cores ≤ 1125899906842624))
  else
  some false
 else
  some false
 else
 some false
def h94 : Hint:=.z
def sp94 : Spec fam:=⟨[.v (.st 0) []],[.v .bool []],fun a => gH a.1⟩
def vn (v : Vec) : Option (Vec × Int) :=
 (gH v).bind fun x =>
 bif ! x then
 some ((⟨0,0⟩ : Vec),11)
 else
 some (v,0)
def h95 : Hint:=.z
def sp95 : Spec fam:=⟨[.v (.st 0) []],[.v (.st 0) [],.v (.int .i64) []],fun a => vn a.1⟩
def dm (a : Vec) (b : Vec) : Option (Vec × Int) :=
 (
 (gH a).bind fun x =>
 bif ! x then
  some true
 else
  (gH b).bind fun x1 =>
  some (! x1)).bind fun q =>
 bif q then
 some ((⟨0,0⟩ : Vec),1)
 else
 (vn (⟨w64 (a.Mem + b.Mem),w64 (a.Cores + b.Cores)⟩ : Vec)).bind fun x2 =>
 some (x2.1,x2.2)
def h56 : Hint:=(.s .z (.s (.s (.j [] [(0,[(13,.v .bool [])])] .z) .z) .z))
def sp56 : Spec fam:=⟨[.v (.st 0) [],.v (.st 0) []],[.v (.st 0) [],.v (.int .i64) []],fun a => dm a.1 a.2.1⟩
def b7 (a : Vec) (b : Vec) : Option Bool :=
 bif decide (a.Mem ≤ b.Mem) then
 some (decide (a.Cores ≤ b.Cores))
 else
 some false
def h57 : Hint:=.z
def sp57 : Spec fam:=⟨[.v (.st 0) [],.v (.st 0) []],[.v .bool []],fun a => b7 a.1 a.2.1⟩
def lu (k : Look) (n : Node) (t : Vec × Int) : Option ((Vec × Int) ⊕ (Bool ⊕ Vec)) :=
 bif decide (t.2 < (k.s.Conts.length : Int)) then
 (
  (idx k.s.Conts t.2).bind fun x =>
  bif x.Node != n.Id then
  some (.inl (t.1))
  else
  (dm t.1 x.Size).bind fun x1 =>
  bif x1.2 != 0 then
   some (.inr false)
  else
   some (.inl (x1.1)) : Option (Vec ⊕ Bool)).bind fun q0 =>
 match q0 with
 | .inl sum =>
  some (.inl (sum,w64 (t.2 + 1)))
 | .inr q =>
  some (.inr (.inl q))
 else
 some (.inr (.inr (t.1)))
def fD (k : Look) (n : Node) : Option Bool :=
 (loop (lu k n) ((⟨0,0⟩ : Vec),0)).bind fun q0 =>
 match q0 with
 | .inl q1 =>
 some q1
 | .inr sum1 =>
 (b7 sum1 n.Cap).bind fun x2 =>
 some x2
def h29 : Hint:=(.s .z (.s .z (.s (.s .z (.b (.l [(5,.box (.st 0) []),(14,.v (.int .i64) [])] [4,5,7,8,9,14] [(1,[(4,.v .bool [])]),(2,[(5,.box (.st 0) [])])] (.s .z (.s .z (.s (.j [4,5,7,8,9] [(0,[(5,.box (.st 0) [])]),(1,[(4,.v .bool [])])] .z) .z)))))) .z)))
def sp29 : Spec fam:=⟨[.v (.st 16) [],.v (.st 4) []],[.v .bool []],fun a => fD a.1 a.2.1⟩
def ng (s : List App) (f : (TupT fam [.st 6] → Option Bool)) : Option Bool :=
 (mG s f).bind fun x =>
 some (decide (x ≥ 0))
def h58 : Hint:=.z
def sp58 : Spec fam:=⟨[.v (.slice (.st 6)) [],.fn [.st 6] .bool],[.v .bool []],fun a => ng a.1 a.2.1⟩
def mW (l : List App) (holds : (TupT fam [.st 6] → Option Bool)) : Option Bool:=(ng l (fun x => (holds x).bind fun r => some (!r))).bind fun r => some (!r)
def sp30 : Spec fam:=⟨[.v (.slice (.st 6)) [],.fn [.st 6] .bool],[.v .bool []],fun a => mW a.1 a.2.1⟩
def nT (c : Conf) (path : List UInt8) : Option Bool :=
 (gc c path).bind fun x =>
 bif x.2 then
 (iD c path).bind fun x1 =>
 some ((x1.length : Int) == 0)
 else
 some false
def h60 : Hint:=.z
def sp60 : Spec fam:=⟨[.v (.st 3) [],.v .str []],[.v .bool []],fun a => nT a.1 a.2.1⟩
def ma (k : Look) (a : App) (t : Int × Int × Int) : Option ((Int × Int × Int) ⊕ ((Int × Int))) :=
 bif decide (t.2.2 < (k.s.Conts.length : Int)) then
 (
  (idx k.s.Conts t.2.2).bind fun x =>
  (
  bif x.App == a.Id then
   some (w64 (t.2.1 + 1))
  else
   some t.2.1).bind fun all =>
  (
  bif x.App == a.Id then
   some x.Master
  else
   some false).bind fun q =>
  bif q then
  some (w64 (t.1 + 1),all)
  else
  some (t.1,all)).bind fun q1 =>
 some (.inl (q1.1,q1.2,w64 (t.2.2 + 1)))
 else
 some (.inr (t.1,t.2.1))
def gj (k : Look) (a : App) : Option Bool :=
 (loop (ma k a) (0,0,0)).bind fun q2 =>
 (
 bif a.State == 1 then
  bif decide (q2.2 > 0) then
  some (.inr false)
  else
  some (.inl ())
 else
  bif a.State == 2 then
  bif q2.1 != 1 then
   some (.inr false)
  else
   some (.inl ())
  else
  some (.inr true) : Option (Unit ⊕ Bool)).bind fun q0 =>
 match q0 with
 | .inl _ =>
 (nT k.s.Conf a.Queue).bind fun x1 =>
 some x1
 | .inr q3 =>
 some q3
def h31 : Hint:=(.s .z (.s .z (.s (.s .z (.b (.l [(5,.v (.int .i64) []),(6,.v (.int .i64) []),(13,.v (.int .i64) [])] [5,6,8,13,14,15,16,17,18,19,20,21,22,23,24,25,26,27,28,29,30,31,32,33,34,35] [(2,[(5,.v (.int .i64) []),(6,.v (.int .i64) [])])] (.s .z (.s .z (.s (.j [5,6,8,15,16,17,18,19,20,21,22,23,24,25,26,27,28,29,30,31,32,33,34] [(0,[(5,.v (.int .i64) []),(6,.v (.int .i64) [])])] (.b (.s .z (.s (.j [6,17,18,19,20,21,22,23] [(0,[(6,.v (.int .i64) [])])] .z) (.s (.j [24,25,26,27,28,29,30,31,32] [(0,[(32,.v .bool [])])] .z) .z))))) .z)))))) (.s (.j [4,36,37] [(0,[]),(1,[(4,.v .bool [])])] .z) .z))))
def sp31 : Spec fam:=⟨[.v (.st 16) [],.v (.st 6) []],[.v .bool []],fun a => gj a.1 a.2.1⟩
def qN (s : List Slot) (f : (TupT fam [.st 8] → Option Bool)) (t : Int) : Option (Int ⊕ (Int ⊕ Unit)) :=
 bif decide (t < (s.length : Int)) then
 (idx s t).bind fun x =>
 (f (x,())).bind fun r =>
 bif r then
  some (.inr (.inl t))
 else
  some (.inl (w64 (t + 1)))
 else
 some (.inr (.inr ()))
def j_ (s : List Slot) (f : (TupT fam [.st 8] → Option Bool)) : Option Int :=
 (loop (qN s f) 0).bind fun q0 =>
 match q0 with
 | .inl q =>
 some q
 | .inr _ =>
 some (-1)
def h97 : Hint:=(.s .z (.s (.s .z (.b (.l [(8,.v (.int .i64) [])] [4,5,8] [(1,[(4,.v (.int .i64) [])]),(2,[])] .z))) .z))
def sp97 : Spec fam:=⟨[.v (.slice (.st 8)) [],.fn [.st 8] .bool],[.v (.int .i64) []],fun a => j_ a.1 a.2.1⟩
def ij (s : List Slot) (f : (TupT fam [.st 8] → Option Bool)) : Option Bool :=
 (j_ s f).bind fun x =>
 some (decide (x ≥ 0))
def h61 : Hint:=.z
def sp61 : Spec fam:=⟨[.v (.slice (.st 8)) [],.fn [.st 8] .bool],[.v .bool []],fun a => ij a.1 a.2.1⟩
def ku (l : List Slot) (holds : (TupT fam [.st 8] → Option Bool)) : Option Bool:=(ij l (fun x => (holds x).bind fun r => some (!r))).bind fun r => some (!r)
def sp32 : Spec fam:=⟨[.v (.slice (.st 8)) [],.fn [.st 8] .bool],[.v .bool []],fun a => ku a.1 a.2.1⟩
def jo (_a0 : Look) (_a1 : Slot) : Option Bool:=none
def sp33 : Spec fam:=⟨[.v (.st 16) [],.v (.st 8) []],[.v .bool []],fun a => jo a.1 a.2.1⟩
def jL (s : State) : Option Bool :=
 (pI s.Conf).bind fun x =>
 bif x == 0 then
 (eW (⟨⟨⟨s.Conf.Labels,s.Conf.Queues⟩,s.Nodes,s.Apps,s.Conts,s.Slots,s.Plans,s.Now,s.Epoch,s.Seq⟩⟩ : Look)).bind fun x1 =>
 bif x1 then
  (et (⟨⟨⟨s.Conf.Labels,s.Conf.Queues⟩,s.Nodes,s.Apps,s.Conts,s.Slots,s.Plans,s.Now,s.Epoch,s.Seq⟩⟩ : Look)).bind fun x2 =>
  bif x2 then
  (kU s.Conts (fun a' => fu (⟨⟨⟨s.Conf.Labels,s.Conf.Queues⟩,s.Nodes,s.Apps,s.Conts,s.Slots,s.Plans,s.Now,s.Epoch,s.Seq⟩⟩ : Look) a'.1)).bind fun x3 =>
  bif x3 then
   (kx s.Nodes (fun a' => fD (⟨⟨⟨s.Conf.Labels,s.Conf.Queues⟩,s.Nodes,s.Apps,s.Conts,s.Slots,s.Plans,s.Now,s.Epoch,s.Seq⟩⟩ : Look) a'.1)).bind fun x4 =>
   bif x4 then
   (mW s.Apps (fun a' => gj (⟨⟨⟨s.Conf.Labels,s.Conf.Queues⟩,s.Nodes,s.Apps,s.Conts,s.Slots,s.Plans,s.Now,s.Epoch,s.Seq⟩⟩ : Look) a'.1)).bind fun x5 =>
   bif x5 then
    (ku s.Slots (fun a' => jo (⟨⟨⟨s.Conf.Labels,s.Conf.Queues⟩,s.Nodes,s.Apps,s.Conts,s.Slots,s.Plans,s.Now,s.Epoch,s.Seq⟩⟩ : Look) a'.1)).bind fun x6 =>
    some x6
   else
    some false
   else
   some false
  else
   some false
  else
  some false
 else
  some false
 else
 some false
def h15 : Hint:=.z
def sp15 : Spec fam:=⟨[.v (.st 10) []],[.v .bool []],fun a => jL a.1⟩
def jY (s : List (List UInt8)) : Option (List (List UInt8)) :=
 bif s.isEmpty then
 none
 else
 (app 16 [] s).bind fun l =>
 some l
def aG (s : List (List UInt8)) : Option (List (List UInt8)):=app 16 [] s
def h98 : Hint:=.z
def sp98 : Spec fam:=⟨[.v (.slice (.str)) []],[.v (.slice (.str)) [0]],fun a => aG a.1⟩
def H1 : Spec fam:=⟨[.v (.slice (.str)) []],[.v (.slice (.str)) [0]],fun a => jY a.1⟩
def xo (s : List Queue) : Option (List Queue) :=
 bif s.isEmpty then
 none
 else
 (app 48 [] s).bind fun l =>
 some l
def dv (s : List Queue) : Option (List Queue):=app 48 [] s
def h99 : Hint:=.z
def sp99 : Spec fam:=⟨[.v (.slice (.st 2)) []],[.v (.slice (.st 2)) [0]],fun a => dv a.1⟩
def IJ : Spec fam:=⟨[.v (.slice (.st 2)) []],[.v (.slice (.st 2)) [0]],fun a => xo a.1⟩
def xd (s : List Node) : Option (List Node) :=
 bif s.isEmpty then
 none
 else
 (app 64 [] s).bind fun l =>
 some l
def dl (s : List Node) : Option (List Node):=app 64 [] s
def h101 : Hint:=.z
def sp101 : Spec fam:=⟨[.v (.slice (.st 4)) []],[.v (.slice (.st 4)) [0]],fun a => dl a.1⟩
def Hl : Spec fam:=⟨[.v (.slice (.st 4)) []],[.v (.slice (.st 4)) [0]],fun a => xd a.1⟩
def wQ (s : List Cont) : Option (List Cont) :=
 bif s.isEmpty then
 none
 else
 (app 72 [] s).bind fun l =>
 some l
def ba (s : List Cont) : Option (List Cont):=app 72 [] s
def h102 : Hint:=.z
def sp102 : Spec fam:=⟨[.v (.slice (.st 7)) []],[.v (.slice (.st 7)) [0]],fun a => ba a.1⟩
def Hf : Spec fam:=⟨[.v (.slice (.st 7)) []],[.v (.slice (.st 7)) [0]],fun a => wQ a.1⟩
def xy (s : List Slot) : Option (List Slot) :=
 bif s.isEmpty then
 none
 else
 (app 24 [] s).bind fun l =>
 some l
def dw (s : List Slot) : Option (List Slot):=app 24 [] s
def h103 : Hint:=.z
def sp103 : Spec fam:=⟨[.v (.slice (.st 8)) []],[.v (.slice (.st 8)) [0]],fun a => dw a.1⟩
def GN : Spec fam:=⟨[.v (.slice (.st 8)) []],[.v (.slice (.st 8)) [0]],fun a => xy a.1⟩
def A5 (s : List Plan) : Option (List Plan) :=
 bif s.isEmpty then
 none
 else
 (app 48 [] s).bind fun l =>
 some l
def ia (s : List Plan) : Option (List Plan):=app 48 [] s
def h104 : Hint:=.z
def sp104 : Spec fam:=⟨[.v (.slice (.st 9)) []],[.v (.slice (.st 9)) [0]],fun a => ia a.1⟩
def Gn : Spec fam:=⟨[.v (.slice (.st 9)) []],[.v (.slice (.st 9)) [0]],fun a => A5 a.1⟩
def yy (s : List App) : Option (List App) :=
 bif s.isEmpty then
 none
 else
 (app 200 [] s).bind fun l =>
 some l
def d_ (s : List App) : Option (List App):=app 200 [] s
def h105 : Hint:=.z
def sp105 : Spec fam:=⟨[.v (.slice (.st 6)) []],[.v (.slice (.st 6)) [0]],fun a => d_ a.1⟩
def GM : Spec fam:=⟨[.v (.slice (.st 6)) []],[.v (.slice (.st 6)) [0]],fun a => yy a.1⟩
def wM (x9 : List App) (t1 : List App × Nat × Int) : Option ((List App × Nat × Int) ⊕ (List App × Nat × Int)) :=
 bif decide (t1.2.2 < (x9.length : Int)) then
 (inb t1.2.2 t1.1.length).bind fun i2 =>
 bif Nat.ble t1.2.1 i2 then
  (t1.1[i2]?).bind fun x10 =>
  (jZ x10).bind fun x11 =>
  (inb t1.2.2 t1.1.length).bind fun i3 =>
  bif Nat.beq i3 t1.2.1 then
  (t1.1[i3]?).bind fun x12 =>
  some (.inl (List.set t1.1 i3 x11,t1.2.1 + 1,w64 (t1.2.2 + 1)))
  else
  none
 else
  none
 else
 some (.inr (t1.1,t1.2.1,t1.2.2))
def wu (x1 : List Queue) (t : List Queue × Nat × Int) : Option ((List Queue × Nat × Int) ⊕ (List Queue × Nat × Int)) :=
 bif decide (t.2.2 < (x1.length : Int)) then
 (inb t.2.2 t.1.length).bind fun i =>
 bif Nat.ble t.2.1 i then
  (t.1[i]?).bind fun x2 =>
  (fO x2.Caps).bind fun x3 =>
  (inb t.2.2 t.1.length).bind fun i1 =>
  bif Nat.beq i1 t.2.1 then
  (t.1[i1]?).bind fun x4 =>
  some (.inl (List.set t.1 i1 (⟨x4.Path,x3,x4.User⟩ : Queue),t.2.1 + 1,w64 (t.2.2 + 1)))
  else
  none
 else
  none
 else
 some (.inr (t.1,t.2.1,t.2.2))
def p7 (s : State) : Option State :=
 (aG s.Conf.Labels).bind fun x =>
 (dv s.Conf.Queues).bind fun x1 =>
 (loop (wu x1) (x1,0,0)).bind fun q =>
 bif Nat.ble q.1.length q.2.1 then
 (dl s.Nodes).bind fun x5 =>
 (ba s.Conts).bind fun x6 =>
 (dw s.Slots).bind fun x7 =>
 (ia s.Plans).bind fun x8 =>
 (d_ s.Apps).bind fun x9 =>
 (loop (wM x9) (x9,0,0)).bind fun q1 =>
 bif Nat.ble q1.1.length q1.2.1 then
  some (⟨⟨x,q.1⟩,x5,q1.1,x6,x7,x8,s.Now,s.Epoch,s.Seq⟩ : State)
 else
  none
 else
 none
def h63 : Hint:=(.s .z (.s .z (.s (.s .z (.b (.m 14 23 2 [3,4,24,25,26,27,28,29,30,31,32,33,34,35,36,37] .z))) (.s .z (.s .z (.s (.s .z (.b (.m 56 61 4 [5,6] .z))) .z))))))
def sp63 : Spec fam:=⟨[.v (.st 10) []],[.v (.st 10) [0,1001,2,1003,4,5,6]],fun a => p7 a.1⟩
def tT (x9 : List App) (t1 : List App × Int) : Option ((List App × Int) ⊕ List App) :=
 bif decide (t1.2 < (x9.length : Int)) then
 (inb t1.2 t1.1.length).bind fun i2 =>
 (t1.1[i2]?).bind fun x10 =>
 (jZ x10).bind fun x11 =>
 (inb t1.2 t1.1.length).bind fun i3 =>
 (t1.1[i3]?).bind fun x12 =>
 some (.inl (List.set t1.1 i3 x11,w64 (t1.2 + 1)))
 else
 some (.inr t1.1)
def tN (x1 : List Queue) (t : List Queue × Int) : Option ((List Queue × Int) ⊕ List Queue) :=
 bif decide (t.2 < (x1.length : Int)) then
 (inb t.2 t.1.length).bind fun i =>
 (t.1[i]?).bind fun x2 =>
 (fO x2.Caps).bind fun x3 =>
 (inb t.2 t.1.length).bind fun i1 =>
 (t.1[i1]?).bind fun x4 =>
 some (.inl (List.set t.1 i1 (⟨x4.Path,x3,x4.User⟩ : Queue),w64 (t.2 + 1)))
 else
 some (.inr t.1)
def lB (s : State) : Option State :=
 (aG s.Conf.Labels).bind fun x =>
 (dv s.Conf.Queues).bind fun x1 =>
 (loop (tN x1) (x1,0)).bind fun q =>
 (dl s.Nodes).bind fun x5 =>
 (ba s.Conts).bind fun x6 =>
 (dw s.Slots).bind fun x7 =>
 (ia s.Plans).bind fun x8 =>
 (d_ s.Apps).bind fun x9 =>
 (loop (tT x9) (x9,0)).bind fun q1 =>
 some (⟨⟨x,q⟩,x5,q1,x6,x7,x8,s.Now,s.Epoch,s.Seq⟩ : State)
def Ia : Hint:=(.s .z (.s .z (.s (.s .z (.b (.l [(14,.row (.st 2) false),(23,.v (.int .i64) [])] [3,4,14,23,24,25,26,27,28,29,30,31,32,33,34,35,36,37] [(2,[(14,.row (.st 2) false)])] .z))) (.s .z (.s .z (.s (.s .z (.b (.l [(56,.row (.st 6) false),(61,.v (.int .i64) [])] [5,6,56,61] [(4,[(56,.row (.st 6) false)])] .z))) .z))))))
def Hj : Spec fam:=⟨[.v (.st 10) []],[.v (.st 10) [0,1,2,3,4,5,6]],fun a => lB a.1⟩
def rH (c : Cont) (p : Int) : Option Bool :=
 some (c.Id == p)
def h65 : Hint:=.z
def sp65 : Spec fam:=⟨[.v (.st 7) [],.rp (.int .i64)],[.v .bool []],fun a => rH a.1 a.2.1⟩
def CC (_a0 : State) (_a1 : Int) : Option State:=none
def sp67 : Spec fam:=⟨[.v (.st 10) [],.v (.int .i64) []],[.v (.st 10) []],fun a => CC a.1 a.2.1⟩
def ie (s : List Cont) (i : Int) (j : Int) : Option (List Cont):=del s i j
def sp68 : Spec fam:=⟨[.v (.slice (.st 7)) [0],.v (.int .i64) [],.v (.int .i64) []],[.v (.slice (.st 7)) [0]],fun a => ie a.1 a.2.1 a.2.2.1⟩
def gG (s : List Int) (v : Int) (t : Int) : Option (Int ⊕ (Int ⊕ Unit)) :=
 bif decide (t < (s.length : Int)) then
 (idx s t).bind fun x =>
 bif v == x then
  some (.inr (.inl t))
 else
  some (.inl (w64 (t + 1)))
 else
 some (.inr (.inr ()))
def cF (s : List Int) (v : Int) : Option Int :=
 (loop (gG s v) 0).bind fun q0 =>
 match q0 with
 | .inl q =>
 some q
 | .inr _ =>
 some (-1)
def h69 : Hint:=(.s .z (.s (.s .z (.b (.l [(8,.v (.int .i64) [])] [4,5,8] [(1,[(4,.v (.int .i64) [])]),(2,[])] .z))) .z))
def sp69 : Spec fam:=⟨[.v (.slice (.int .i64)) [],.v (.int .i64) []],[.v (.int .i64) []],fun a => cF a.1 a.2.1⟩
def d6 (s : List Int) (i : Int) (j : Int) : Option (List Int):=del s i j
def sp70 : Spec fam:=⟨[.v (.slice (.int .i64)) [0],.v (.int .i64) [],.v (.int .i64) []],[.v (.slice (.int .i64)) [0]],fun a => d6 a.1 a.2.1 a.2.2.1⟩
def qx (ids : List Int) (t : State × Int) : Option ((State × Int) ⊕ State) :=
 bif decide (t.2 < (ids.length : Int)) then
 (
  (idx ids t.2).bind fun x1 =>
  (gb t.1.Conts (fun a' => rH a'.1 x1)).bind fun k =>
  bif decide (k < 0) then
  some t.1
  else
  (inb k t.1.Conts.length).bind fun i =>
  (t.1.Conts[i]?).bind fun x2 =>
  (mq t.1 x2.App).bind fun i1 =>
  (
   bif decide (i1 ≥ 0) then
   some x2.Master
   else
   some false).bind fun q =>
  bif q then
   none
  else
   (ie t.1.Conts k (w64 (k + 1))).bind fun x3 =>
   bif decide (i1 < 0) then
   some (⟨⟨t.1.Conf.Labels,t.1.Conf.Queues⟩,t.1.Nodes,t.1.Apps,x3,t.1.Slots,t.1.Plans,t.1.Now,t.1.Epoch,t.1.Seq⟩ : State)
   else
   (inb i1 t.1.Apps.length).bind fun i2 =>
   (t.1.Apps[i2]?).bind fun x4 =>
   (
    (cF x4.Grants x1).bind fun j =>
    bif decide (j ≥ 0) then
    (d6 x4.Grants j (w64 (j + 1))).bind fun x5 =>
    some (⟨x4.Id,x4.State,x4.Queue,x4.User,x4.Prio,⟨x4.Master.Mem,x4.Master.Cores⟩,x4.Asks,x4.Seen,x4.Beat,x5,x4.Kills,x4.Told,x4.Lost⟩ : App)
    else
    (app 8 x4.Kills [x1]).bind fun l =>
    some (⟨x4.Id,x4.State,x4.Queue,x4.User,x4.Prio,⟨x4.Master.Mem,x4.Master.Cores⟩,x4.Asks,x4.Seen,x4.Beat,x4.Grants,l,x4.Told,x4.Lost⟩ : App)).bind fun a =>
   (inb i1 t.1.Apps.length).bind fun i3 =>
   bif Nat.beq i3 i2 then
    (t.1.Apps[i3]?).bind fun x6 =>
    some (⟨⟨t.1.Conf.Labels,t.1.Conf.Queues⟩,t.1.Nodes,List.set t.1.Apps i3 a,x3,t.1.Slots,t.1.Plans,t.1.Now,t.1.Epoch,t.1.Seq⟩ : State)
   else
    none).bind fun s1 =>
 some (.inl (s1,w64 (t.2 + 1)))
 else
 some (.inr t.1)
def cC (s : State) (ids : List Int) : Option State :=
 (p7 s).bind fun x =>
 (loop (qx ids) (x,0)).bind fun s2 =>
 (p7 s2).bind fun x7 =>
 some x7
def h34 : Hint:=(.s .z (.s .z (.s (.s .z (.b (.l [(2,.box (.st 10) [0,1001,2,1003,4,5,6]),(16,.v (.int .i64) [])] [2,6,7,8,9,10,11,13,16,40] [(2,[(2,.box (.st 10) [0,1001,2,1003,4,5,6])])] (.s .z (.s .z (.s (.j [2,6,7,8,9,10,11,40] [(0,[(2,.box (.st 10) [0,1001,2,1003,4,5,6])])] (.b (.s .z (.s .z (.s .z (.s .z (.s .z (.s (.s (.j [] [(0,[(40,.v .bool [])])] .z) .z) (.s .z (.s .z (.s .z (.s (.j [10,11] [(0,[(10,.box (.st 6) [7,10,11,12,13])])] .z) .z)))))))))))) .z)))))) .z)))
def sp34 : Spec fam:=⟨[.v (.st 10) [],.v (.slice (.int .i64)) []],[.v (.st 10) [0,1001,2,1003,4,5,6]],fun a => cC a.1 a.2.1⟩
def rV (_a0 : Step) : Option Output:=none
def sp71 : Spec fam:=⟨[.rp (.st 17)],[.v (.st 11) []],fun a => rV a.1⟩
def Bf (_a0 : Int) : Option Output:=none
def sp82 : Spec fam:=⟨[.v (.int .i64) []],[.v (.st 11) []],fun a => Bf a.1⟩
def c9 (t : Step) (s : State) (e : Int) : Option (Output × Step) :=
 bif e != 0 then
 none
 else
 some ((⟨0,[],[],[],0⟩ : Output),(⟨⟨⟨s.Conf.Labels,s.Conf.Queues⟩,s.Nodes,s.Apps,s.Conts,s.Slots,s.Plans,s.Now,s.Epoch,s.Seq⟩,⟨t.x.Kind,t.x.Id,t.x.Beat,t.x.N,t.x.Text,⟨t.x.Node.Id,t.x.Node.Label,t.x.Node.Rack,⟨t.x.Node.Cap.Mem,t.x.Node.Cap.Cores⟩,t.x.Node.Seen,t.x.Node.Beat,t.x.Node.Up⟩,⟨t.x.App.Id,t.x.App.State,t.x.App.Queue,t.x.App.User,t.x.App.Prio,⟨t.x.App.Master.Mem,t.x.App.Master.Cores⟩,t.x.App.Asks,t.x.App.Seen,t.x.App.Beat,t.x.App.Grants,t.x.App.Kills,t.x.App.Told,t.x.App.Lost⟩,t.x.Asks,t.x.Ids,⟨t.x.Plan.Id,t.x.Plan.Label,t.x.Plan.From,t.x.Plan.Until,⟨t.x.Plan.Need.Mem,t.x.Plan.Need.Cores⟩⟩⟩⟩ : Step))
def h72 : Hint:=.z
def sp72 : Spec fam:=⟨[.box (.st 17) [],.v (.st 10) [],.v (.int .i64) []],[.v (.st 11) [1,2,3]],fun a => c9 a.1 a.2.1 a.2.2.1⟩
def lw (l : List Int) : Option (List Int) :=
 (mkl 8 (l.length : Int) (l.length : Int) 0).bind fun l1 =>
 some (cpy l1 0 l1.length l)
def h165 : Hint:=.z
def sp165 : Spec fam:=⟨[.v (.slice (.int .i64)) []],[.v (.slice (.int .i64)) [0]],fun a => lw a.1⟩
def uR (x9 : List App) (t1 : List App × Int) : Option ((List App × Int) ⊕ List App) :=
 bif decide (t1.2 < (x9.length : Int)) then
 (inb t1.2 t1.1.length).bind fun i2 =>
 (t1.1[i2]?).bind fun x10 =>
 (pY x10.Asks).bind fun x11 =>
 (lw x10.Grants).bind fun x12 =>
 (lw x10.Kills).bind fun x13 =>
 (lw x10.Told).bind fun x14 =>
 (lw x10.Lost).bind fun x15 =>
 (inb t1.2 t1.1.length).bind fun i3 =>
 (t1.1[i3]?).bind fun x16 =>
 some (.inl (List.set t1.1 i3 (⟨x10.Id,x10.State,x10.Queue,x10.User,x10.Prio,⟨x10.Master.Mem,x10.Master.Cores⟩,x11,x10.Seen,x10.Beat,x12,x13,x14,x15⟩ : App),w64 (t1.2 + 1)))
 else
 some (.inr t1.1)
def vg (x1 : List Queue) (t : List Queue × Int) : Option ((List Queue × Int) ⊕ List Queue) :=
 bif decide (t.2 < (x1.length : Int)) then
 (inb t.2 t.1.length).bind fun i =>
 (t.1[i]?).bind fun x2 =>
 (fO x2.Caps).bind fun x3 =>
 (inb t.2 t.1.length).bind fun i1 =>
 (t.1[i1]?).bind fun x4 =>
 some (.inl (List.set t.1 i1 (⟨x4.Path,x3,x4.User⟩ : Queue),w64 (t.2 + 1)))
 else
 some (.inr t.1)
def nE (s : State) : Option State :=
 (aG s.Conf.Labels).bind fun x =>
 (dv s.Conf.Queues).bind fun x1 =>
 (loop (vg x1) (x1,0)).bind fun q =>
 (dl s.Nodes).bind fun x5 =>
 (ba s.Conts).bind fun x6 =>
 (dw s.Slots).bind fun x7 =>
 (ia s.Plans).bind fun x8 =>
 (d_ s.Apps).bind fun x9 =>
 (loop (uR x9) (x9,0)).bind fun q1 =>
 some (⟨⟨x,q⟩,x5,q1,x6,x7,x8,s.Now,s.Epoch,s.Seq⟩ : State)
def h111 : Hint:=(.s .z (.s .z (.s (.s .z (.b (.l [(14,.row (.st 2) false),(23,.v (.int .i64) [])] [3,4,14,23,24,25,26,27,28,29,30,31,32,33,34,35,36,37] [(2,[(14,.row (.st 2) false)])] .z))) (.s .z (.s .z (.s (.s .z (.b (.l [(56,.row (.st 6) false),(61,.v (.int .i64) [])] [5,6,56,61] [(4,[(56,.row (.st 6) false)])] .z))) .z))))))
def sp111 : Spec fam:=⟨[.v (.st 10) []],[.v (.st 10) [0,1,2,3,4,5,6]],fun a => nE a.1⟩
def bE (n : Int) (most : Int) : Option Bool :=
 bif decide (n ≥ 0) then
 some (decide (n ≤ most))
 else
 some false
def h112 : Hint:=.z
def sp112 : Spec fam:=⟨[.v (.int .i64) [],.v (.int .i64) []],[.v .bool []],fun a => bE a.1 a.2.1⟩
def yj (s : List Node) (i : Int) (v : List Node) : Option (List Node) :=
 (inS i (s.length : Int) s.length).bind fun p =>
 bif (v.length : Int) == 0 then
 some s
 else
 bif i == (s.length : Int) then
  (app 64 s v).bind fun l =>
  some l
 else
  none
def oJ (s : List Node) (i : Int) (v : List Node) : Option (List Node):=ins s i v
def h113 : Hint:=.z
def sp113 : Spec fam:=⟨[.v (.slice (.st 4)) [0],.v (.int .i64) [],.v (.slice (.st 4)) [0]],[.v (.slice (.st 4)) [0]],fun a => oJ a.1 a.2.1 a.2.2.1⟩
def ID : Spec fam:=⟨[.v (.slice (.st 4)) [0],.v (.int .i64) [],.v (.slice (.st 4)) [0]],[.v (.slice (.st 4)) [0]],fun a => yj a.1 a.2.1 a.2.2.1⟩
def o_ (n : Node) (x : State) (k : Int) : Option (Int ⊕ Int) :=
 (
 bif decide (k < (x.Nodes.length : Int)) then
  (inb k x.Nodes.length).bind fun i3 =>
  (x.Nodes[i3]?).bind fun x8 =>
  some (decide (x8.Id < n.Id))
 else
  some false).bind fun q3 =>
 bif q3 then
 some (.inl (w64 (k + 1)))
 else
 some (.inr k)
def ja (s : State) (n : Node) : Option (State × Int) :=
 (nE s).bind fun x =>
 (mr x n.Id).bind fun i =>
 (
 (bE n.Id 999).bind fun x1 =>
 bif ! x1 then
  some true
 else
  (bE n.Label (w64 ((x.Conf.Labels.length : Int) - 1))).bind fun x2 =>
  bif ! x2 then
  some true
  else
  (bE n.Rack 99).bind fun x3 =>
  bif ! x3 then
   some true
  else
   (bE n.Cap.Mem 1073741824).bind fun x4 =>
   bif ! x4 then
   some true
   else
   (bE n.Cap.Cores 1073741824).bind fun x5 =>
   some (! x5)).bind fun q =>
 bif q then
 some (x,1)
 else
 (
  bif decide (i ≥ 0) then
  (inb i x.Nodes.length).bind fun i1 =>
  (x.Nodes[i1]?).bind fun x6 =>
  some x6.Up
  else
  some false).bind fun q1 =>
 bif q1 then
  some (x,7)
 else
  (
  bif decide (i < 0) then
   some (decide ((x.Nodes.length : Int) ≥ 12))
  else
   some false).bind fun q2 =>
  bif q2 then
  some (x,4)
  else
  bif decide (i ≥ 0) then
   (inb i x.Nodes.length).bind fun i2 =>
   (x.Nodes[i2]?).bind fun x7 =>
   some ((⟨⟨x.Conf.Labels,x.Conf.Queues⟩,List.set x.Nodes i2 (⟨n.Id,n.Label,n.Rack,⟨n.Cap.Mem,n.Cap.Cores⟩,x.Now,0,true⟩ : Node),x.Apps,x.Conts,x.Slots,x.Plans,x.Now,x.Epoch,x.Seq⟩ : State),0)
  else
   (loop (o_ n x) 0).bind fun k1 =>
   (oJ x.Nodes k1 [(⟨n.Id,n.Label,n.Rack,⟨n.Cap.Mem,n.Cap.Cores⟩,x.Now,0,true⟩ : Node)]).bind fun x9 =>
   some ((⟨⟨x.Conf.Labels,x.Conf.Queues⟩,x9,x.Apps,x.Conts,x.Slots,x.Plans,x.Now,x.Epoch,x.Seq⟩ : State),0)
def h73 : Hint:=(.s .z (.s .z (.s .z (.s (.b (.s (.j [] [(0,[(14,.v .bool [])])] .z) (.c .z (.s (.j [] [(0,[(51,.v .bool [])])] .z) (.c .z (.s (.j [] [(0,[(63,.v .bool [])])] .z) .z)))))) (.s .z (.s .z (.s .z (.s (.b (.l [(7,.v (.int .i64) [])] [7,107] [(3,[(7,.v (.int .i64) [])])] (.s (.s (.j [] [(0,[(107,.v .bool [])])] .z) .z) .z))) .z))))))))
def sp73 : Spec fam:=⟨[.v (.st 10) [],.v (.st 4) []],[.v (.st 10) [0,1,2,3,4,5,6],.v (.int .i64) []],fun a => ja a.1 a.2.1⟩
def nP (t : Step) (node : Int) (t1 : List Int × Int) : Option ((List Int × Int) ⊕ List Int) :=
 bif decide (t1.2 < (t.s.Conts.length : Int)) then
 (
  (idx t.s.Conts t1.2).bind fun x =>
  bif x.Node == node then
  (app 8 t1.1 [x.Id]).bind fun l =>
  some l
  else
  some t1.1).bind fun out =>
 some (.inl (out,w64 (t1.2 + 1)))
 else
 some (.inr t1.1)
def cm (t : Step) (node : Int) : Option (List Int) :=
 (loop (nP t node) ([],0)).bind fun out1 =>
 some out1
def h114 : Hint:=(.s .z (.s .z (.s (.s .z (.b (.l [(5,.v (.slice (.int .i64)) [0]),(14,.v (.int .i64) [])] [5,7,14] [(2,[(5,.v (.slice (.int .i64)) [0])])] (.s .z (.s .z (.s (.j [5,7] [(0,[(5,.v (.slice (.int .i64)) [0])])] .z) .z)))))) .z)))
def sp114 : Spec fam:=⟨[.rp (.st 17),.v (.int .i64) []],[.v (.slice (.int .i64)) [0]],fun a => cm a.1 a.2.1⟩
def pB (s : State) (id_ : Int) (beat : Int) : Option (State × Int) :=
 (nE s).bind fun x =>
 (mr x id_).bind fun i =>
 bif decide (i < 0) then
 some (x,2)
 else
 (inb i x.Nodes.length).bind fun i1 =>
 (x.Nodes[i1]?).bind fun x1 =>
 bif ! x1.Up then
  some (x,18)
 else
  (
  bif decide (beat < 0) then
   some true
  else
   (inb i x.Nodes.length).bind fun i2 =>
   (x.Nodes[i2]?).bind fun x2 =>
   some (decide (beat < x2.Beat))).bind fun q =>
  bif q then
  some (x,15)
  else
  (inb i x.Nodes.length).bind fun i3 =>
  (x.Nodes[i3]?).bind fun x3 =>
  bif decide ((w64 (beat - x3.Beat)) > 1) then
   some (x,1)
  else
   (inb i x.Nodes.length).bind fun i4 =>
   (x.Nodes[i4]?).bind fun x4 =>
   (inb i (List.set x.Nodes i4 (⟨x4.Id,x4.Label,x4.Rack,⟨x4.Cap.Mem,x4.Cap.Cores⟩,x.Now,x4.Beat,x4.Up⟩ : Node)).length).bind fun i5 =>
   ((List.set x.Nodes i4 (⟨x4.Id,x4.Label,x4.Rack,⟨x4.Cap.Mem,x4.Cap.Cores⟩,x.Now,x4.Beat,x4.Up⟩ : Node))[i5]?).bind fun x5 =>
   some ((⟨⟨x.Conf.Labels,x.Conf.Queues⟩,List.set (List.set x.Nodes i4 (⟨x4.Id,x4.Label,x4.Rack,⟨x4.Cap.Mem,x4.Cap.Cores⟩,x.Now,x4.Beat,x4.Up⟩ : Node)) i5 (⟨x5.Id,x5.Label,x5.Rack,⟨x5.Cap.Mem,x5.Cap.Cores⟩,x5.Seen,beat,x5.Up⟩ : Node),x.Apps,x.Conts,x.Slots,x.Plans,x.Now,x.Epoch,x.Seq⟩ : State),0)
def h115 : Hint:=(.s .z (.s .z (.s .z (.s (.b (.s .z (.c .z (.s .z (.c .z (.s (.j [] [(0,[(27,.v .bool [])])] .z) .z)))))) .z))))
def sp115 : Spec fam:=⟨[.v (.st 10) [],.v (.int .i64) [],.v (.int .i64) []],[.v (.st 10) [0,1,2,3,4,5,6],.v (.int .i64) []],fun a => pB a.1 a.2.1 a.2.2.1⟩
def cf (s : List Int) (f : (TupT fam [.int .i64] → Option Bool)) (t : Int) : Option (Int ⊕ (Int ⊕ Unit)) :=
 bif decide (t < (s.length : Int)) then
 (idx s t).bind fun x =>
 (f (x,())).bind fun r =>
 bif r then
  some (.inr (.inl t))
 else
  some (.inl (w64 (t + 1)))
 else
 some (.inr (.inr ()))
def a7 (s : List Int) (f : (TupT fam [.int .i64] → Option Bool)) : Option Int :=
 (loop (cf s f) 0).bind fun q0 =>
 match q0 with
 | .inl q =>
 some q
 | .inr _ =>
 some (-1)
def h168 : Hint:=(.s .z (.s (.s .z (.b (.l [(8,.v (.int .i64) [])] [4,5,8] [(1,[(4,.v (.int .i64) [])]),(2,[])] .z))) .z))
def sp168 : Spec fam:=⟨[.v (.slice (.int .i64)) [],.fn [.int .i64] .bool],[.v (.int .i64) []],fun a => a7 a.1 a.2.1⟩
def ew (del : (TupT fam [.int .i64] → Option Bool)) (t : List Int × Int × Int) : Option ((List Int × Int × Int) ⊕ ((List Int × Int))) :=
 bif decide (t.2.2 < (t.1.length : Int)) then
 (
  (inb t.2.2 t.1.length).bind fun i1 =>
  (t.1[i1]?).bind fun x =>
  (del (x,())).bind fun r =>
  bif ! r then
  (inb t.2.1 t.1.length).bind fun i2 =>
  (t.1[i2]?).bind fun x1 =>
  some (List.set t.1 i2 x,w64 (t.2.1 + 1))
  else
  some (t.1,t.2.1)).bind fun q =>
 some (.inl (q.1,q.2,w64 (t.2.2 + 1)))
 else
 some (.inr (t.1,t.2.1))
def aY (s : List Int) (del : (TupT fam [.int .i64] → Option Bool)) : Option (List Int) :=
 (a7 s del).bind fun i =>
 bif i == (-1) then
 some s
 else
 (loop (ew del) (s,i,w64 (i + 1))).bind fun q1 =>
 (inS q1.2 (q1.1.length : Int) q1.1.length).bind fun p =>
 (inS 0 q1.2 (cpy q1.1 p.1 p.2 (List.replicate p.2 0)).length).bind fun p1 =>
 some (List.take p1.2 (cpy q1.1 p.1 p.2 (List.replicate p.2 0)))
def h116 : Hint:=(.s .z (.s .z (.s .z (.s (.s .z (.b (.l [(0,.row (.int .i64) false),(5,.v (.int .i64) []),(6,.v (.int .i64) [])] [0,5,6,7] [(2,[(0,.row (.int .i64) false),(5,.v (.int .i64) [])])] (.s .z (.s (.j [0,5,7] [(0,[(0,.row (.int .i64) false),(5,.v (.int .i64) [])])] .z) .z))))) (.s .z (.s (.r [9998]) .z))))))
def sp116 : Spec fam:=⟨[.v (.slice (.int .i64)) [0],.fn [.int .i64] .bool],[.v (.slice (.int .i64)) [0]],fun a => aY a.1 a.2.1⟩
def oq (s : List Int) : Option (List Int) :=
 bif s.isEmpty then
 none
 else
 (app 8 [] s).bind fun l =>
 some l
def bL (s : List Int) : Option (List Int):=app 8 [] s
def h117 : Hint:=.z
def sp117 : Spec fam:=⟨[.v (.slice (.int .i64)) []],[.v (.slice (.int .i64)) [0]],fun a => bL a.1⟩
def F9 : Spec fam:=⟨[.v (.slice (.int .i64)) []],[.v (.slice (.int .i64)) [0]],fun a => oq a.1⟩
def gR (_a0 : Int) (_a1 : List Int) : Option Bool:=none
def sp118 : Spec fam:=⟨[.v (.int .i64) [],.rp (.slice (.int .i64))],[.v .bool []],fun a => gR a.1 a.2.1⟩
def tQ (s : State) (id_ : Int) (t : Vec × Int) : Option ((Vec × Int) ⊕ Vec) :=
 bif decide (t.2 < (s.Conts.length : Int)) then
 (
  (idx s.Conts t.2).bind fun x =>
  bif x.Node == id_ then
  (dm t.1 x.Size).bind fun x1 =>
  some x1.1
  else
  some t.1).bind fun out =>
 some (.inl (out,w64 (t.2 + 1)))
 else
 some (.inr t.1)
def pc (s : State) (id_ : Int) : Option Vec :=
 (loop (tQ s id_) ((⟨0,0⟩ : Vec),0)).bind fun out1 =>
 some out1
def h231 : Hint:=(.s .z (.s .z (.s (.s .z (.b (.l [(5,.box (.st 0) []),(11,.v (.int .i64) [])] [5,7,11] [(2,[(5,.box (.st 0) [])])] (.s .z (.s .z (.s (.j [5,7] [(0,[(5,.box (.st 0) [])])] .z) .z)))))) .z)))
def sp231 : Spec fam:=⟨[.v (.st 10) [],.v (.int .i64) []],[.v (.st 0) []],fun a => pc a.1 a.2.1⟩
def pn (s : State) (id_ : Int) : Option Vec :=
 (gw s id_).bind fun x =>
 (
 bif ! x.2 then
  some true
 else
  some (! x.1.Up)).bind fun q =>
 bif q then
 some (⟨0,0⟩ : Vec)
 else
 (pc s id_).bind fun x1 =>
 some (⟨imax (w64 (x.1.Cap.Mem - x1.Mem)) 0,imax (w64 (x.1.Cap.Cores - x1.Cores)) 0⟩ : Vec)
def h200 : Hint:=(.s .z (.s .z (.s (.s (.j [] [(0,[(20,.v .bool [])])] .z) .z) .z)))
def sp200 : Spec fam:=⟨[.v (.st 10) [],.v (.int .i64) []],[.v (.st 0) []],fun a => pn a.1 a.2.1⟩
def fX (x : Slot) (p : Attempt) : Option Bool :=
 some (x.Node == p.n.Id)
def h232 : Hint:=.z
def sp232 : Spec fam:=⟨[.v (.st 8) [],.rpp (.st 18)],[.v .bool []],fun a => fX a.1 a.2.1⟩
def sw (a : App) (prio : Int) (t : Ask × Int) : Option ((Ask × Int) ⊕ ((Ask × Bool) ⊕ Ask)) :=
 bif decide (t.2 < (a.Asks.length : Int)) then
 (idx a.Asks t.2).bind fun x =>
 bif x.Prio == prio then
  some (.inr (.inl (x,true)))
 else
  some (.inl (t.1,w64 (t.2 + 1)))
 else
 some (.inr (.inr (t.1)))
def m0 (a : App) (prio : Int) : Option (Ask × Bool) :=
 (loop (sw a prio) ((⟨0,0,⟨0,0⟩,0,0,0,0⟩ : Ask),0)).bind fun q0 =>
 match q0 with
 | .inl q =>
 some (q.1,q.2)
 | .inr q1 =>
 some ((⟨0,0,⟨0,0⟩,0,0,0,0⟩ : Ask),false)
def h233 : Hint:=(.s .z (.s (.s .z (.b (.l [(4,.box (.st 5) []),(11,.v (.int .i64) [])] [4,5,7,11] [(1,[(4,.box (.st 5) []),(5,.v .bool [])]),(2,[(4,.box (.st 5) [])])] .z))) .z))
def sp233 : Spec fam:=⟨[.v (.st 6) [],.v (.int .i64) []],[.v (.st 5) [],.v .bool []],fun a => m0 a.1 a.2.1⟩
def rS (a : Ask) (n : Node) : Option Int :=
 (
 (
  bif ! n.Up then
  some true
  else
  some (n.Label != a.Label)).bind fun q =>
 bif q then
  some (.inr (.inl 4))
 else
  bif a.Rack == (-1) then
  some (.inl ())
  else
  (
   bif a.Node == n.Id then
   some (a.Node == n.Id)
   else
   bif a.Node == (-1) then
    some (a.Rack == n.Rack)
   else
    some false).bind fun q1 =>
  bif q1 then
   some (.inl ())
  else
   bif a.Rack == n.Rack then
   some (.inr (.inr (.inr ())))
   else
   some (.inr (.inr (.inl ()))) : Option (Unit ⊕ Int ⊕ Unit ⊕ Unit)).bind fun q0 =>
 match q0 with
 | .inl _ =>
 some 1
 | .inr (.inl q2) =>
 some q2
 | .inr (.inr (.inl _)) =>
 some 3
 | .inr (.inr (.inr _)) =>
 some 2
def h275 : Hint:=(.s .z (.s (.b (.s (.b (.s (.j [5,20] [(0,[]),(1,[(4,.v (.int .i64) [])]),(2,[]),(6,[])] (.b (.b (.s (.b (.s (.s (.s (.j [] [(0,[(5,.v .bool [])])] .z) .z) (.s .z (.s (.s (.j [] [(0,[(20,.v .bool [])])] .z) .z) .z))) .z)) .z)))) .z)) .z)) .z))
def sp275 : Spec fam:=⟨[.v (.st 5) [],.v (.st 4) []],[.v (.int .i64) []],fun a => rS a.1 a.2.1⟩
def iM (a : Ask) (n : Node) : Option Bool :=
 (rS a n).bind fun x =>
 bif x == 1 then
 some true
 else
 bif x == 2 then
  some (decide (a.Missed ≥ 2))
 else
  bif x == 3 then
  some (decide (a.Missed ≥ 4))
  else
  some false
def h234 : Hint:=.z
def sp234 : Spec fam:=⟨[.v (.st 5) [],.v (.st 4) []],[.v .bool []],fun a => iM a.1 a.2.1⟩
def cw (t : Attempt) (x : Ask) : Option Bool :=
 (rS x t.n).bind fun x1 =>
 bif x1 != 4 then
 (b7 x.Size t.n.Cap).bind fun x2 =>
 some x2
 else
 some false
def h235 : Hint:=.z
def sp235 : Spec fam:=⟨[.rp (.st 18),.v (.st 5) []],[.v .bool []],fun a => cw a.1 a.2.1⟩
def l_ (v : View) (c : Cont) (t : App × Int) : Option ((App × Int) ⊕ ((App × Bool) ⊕ App)) :=
 bif decide (t.2 < (v.s.Apps.length : Int)) then
 (idx v.s.Apps t.2).bind fun x =>
 bif x.Id == c.App then
  some (.inr (.inl (x,true)))
 else
  some (.inl (t.1,w64 (t.2 + 1)))
 else
 some (.inr (.inr (t.1)))
def go (v : View) (c : Cont) : Option (App × Bool) :=
 (loop (l_ v c) ((⟨0,0,[],0,0,⟨0,0⟩,[],0,0,[],[],[],[]⟩ : App),0)).bind fun q0 =>
 match q0 with
 | .inl q =>
 some (q.1,q.2)
 | .inr q1 =>
 some ((⟨0,0,[],0,0,⟨0,0⟩,[],0,0,[],[],[],[]⟩ : App),false)
def h329 : Hint:=(.s .z (.s (.s .z (.b (.l [(4,.box (.st 6) [7,10,11,12,13]),(12,.v (.int .i64) [])] [4,5,7,12] [(1,[(4,.box (.st 6) []),(5,.v .bool [])]),(2,[(4,.box (.st 6) [7,10,11,12,13])])] .z))) .z))
def sp329 : Spec fam:=⟨[.v (.st 14) [],.v (.st 7) []],[.v (.st 6) [],.v .bool []],fun a => go a.1 a.2.1⟩
def wa (_a0 : List UInt8) (_a1 : List UInt8) : Option Bool:=none
def sp353 : Spec fam:=⟨[.v .str [],.v .str []],[.v .bool []],fun a => wa a.1 a.2.1⟩
def fN (v : View) (a : App) : Option Bool :=
 bif a.Queue == v.path then
 bif v.user == (-1) then
  some true
 else
  some (a.User == v.user)
 else
 (cat v.path ([46] : List UInt8)).bind fun s =>
 none
def h330 : Hint:=.z
def sp330 : Spec fam:=⟨[.v (.st 14) [],.v (.st 6) []],[.v .bool []],fun a => fN a.1 a.2.1⟩
def iy (v : View) (t : Vec × Int) : Option ((Vec × Int) ⊕ Vec) :=
 bif decide (t.2 < (v.s.Conts.length : Int)) then
 (
  (idx v.s.Conts t.2).bind fun x =>
  (go v x).bind fun x1 =>
  (
  bif x1.2 then
   bif x.Label == v.label then
   (fN v x1.1).bind fun x2 =>
   some x2
   else
   some false
  else
   some false).bind fun q =>
  bif q then
  (dm t.1 x.Size).bind fun x3 =>
  some x3.1
  else
  some t.1).bind fun out =>
 some (.inl (out,w64 (t.2 + 1)))
 else
 some (.inr t.1)
def eZ (v : View) : Option Vec :=
 (loop (iy v) ((⟨0,0⟩ : Vec),0)).bind fun out1 =>
 some out1
def h288 : Hint:=(.s .z (.s .z (.s .z (.s (.s .z (.b (.l [(3,.box (.st 0) []),(15,.v (.int .i64) [])] [3,6,7,8,15,37] [(2,[(3,.box (.st 0) [])])] (.s .z (.s .z (.s (.j [3,6,7,8,37] [(0,[(3,.box (.st 0) [])])] (.b (.s .z (.s .z (.s (.j [] [(0,[(37,.v .bool [])])] .z) .z))))) .z)))))) .z))))
def sp288 : Spec fam:=⟨[.v (.st 14) []],[.v (.st 0) []],fun a => eZ a.1⟩
def cP (s : State) (path : List UInt8) (label : Int) : Option Vec :=
 (eZ (⟨⟨⟨s.Conf.Labels,s.Conf.Queues⟩,s.Nodes,s.Apps,s.Conts,s.Slots,s.Plans,s.Now,s.Epoch,s.Seq⟩,path,label,(-1)⟩ : View)).bind fun x =>
 some x
def h247 : Hint:=.z
def sp247 : Spec fam:=⟨[.v (.st 10) [],.v .str [],.v (.int .i64) []],[.v (.st 0) []],fun a => cP a.1 a.2.1 a.2.2.1⟩
def uy (l : List Vec) (t : Vec × Int) : Option ((Vec × Int) ⊕ Vec) :=
 bif decide (t.2 < (l.length : Int)) then
 (idx l t.2).bind fun x =>
 (dm t.1 x).bind fun x1 =>
 some (.inl (x1.1,w64 (t.2 + 1)))
 else
 some (.inr t.1)
def nX (l : List Vec) : Option Vec :=
 (loop (uy l) ((⟨0,0⟩ : Vec),0)).bind fun out =>
 some out
def h221 : Hint:=(.s .z (.s .z (.s (.s .z (.b (.l [(3,.box (.st 0) []),(8,.v (.int .i64) [])] [3,5,8] [(2,[(3,.box (.st 0) [])])] .z))) .z)))
def sp221 : Spec fam:=⟨[.v (.slice (.st 0)) []],[.v (.st 0) []],fun a => nX a.1⟩
def r9 (s : State) (label : Int) (t : List Vec × Int) : Option ((List Vec × Int) ⊕ List Vec) :=
 bif decide (t.2 < (s.Nodes.length : Int)) then
 (
  (idx s.Nodes t.2).bind fun x =>
  (
  bif x.Up then
   some (x.Label == label)
  else
   some false).bind fun q =>
  bif q then
  (app 16 t.1 [x.Cap]).bind fun l =>
  some l
  else
  some t.1).bind fun l1 =>
 some (.inl (l1,w64 (t.2 + 1)))
 else
 some (.inr t.1)
def ff (s : State) (label : Int) : Option Vec :=
 (loop (r9 s label) ([],0)).bind fun l2 =>
 (nX l2).bind fun x1 =>
 some x1
def h188 : Hint:=(.s .z (.s .z (.s (.s .z (.b (.l [(5,.v (.slice (.st 0)) [0]),(11,.v (.int .i64) [])] [5,7,11,22] [(2,[(5,.v (.slice (.st 0)) [0])])] (.s .z (.s .z (.s (.j [5,7,22] [(0,[(5,.v (.slice (.st 0)) [0])])] (.b (.s .z (.s (.j [] [(0,[(22,.v .bool [])])] .z) .z)))) .z)))))) .z)))
def sp188 : Spec fam:=⟨[.v (.st 10) [],.v (.int .i64) []],[.v (.st 0) []],fun a => ff a.1 a.2.1⟩
def yQ (x : Int) (y : Int) : Option (Int × Int) :=
 let w0:=IntKind.u64.wrap ((andK .u64 x 4294967295) * (andK .u64 y 4294967295))
 let t:=IntKind.u64.wrap ((IntKind.u64.wrap ((shrK .u64 x 32) * (andK .u64 y 4294967295))) + (shrK .u64 w0 32))
 let w1:=IntKind.u64.wrap ((andK .u64 t 4294967295) + (IntKind.u64.wrap ((andK .u64 x 4294967295) * (shrK .u64 y 32))))
 let hi:=IntKind.u64.wrap ((IntKind.u64.wrap ((IntKind.u64.wrap ((shrK .u64 x 32) * (shrK .u64 y 32))) + (shrK .u64 t 32))) + (shrK .u64 w1 32))
 some (hi,IntKind.u64.wrap (x * y))
def h363 : Hint:=.z
def sp363 : Spec fam:=⟨[.v (.int .u64) [],.v (.int .u64) []],[.v (.int .u64) [],.v (.int .u64) []],fun a => yQ a.1 a.2.1⟩
def uk (_a0 : Int) : Option Int:=none
def sp377 : Spec fam:=⟨[.v (.int .u64) []],[.v (.int .i64) []],fun a => uk a.1⟩
def ym (hi : Int) (lo : Int) (y : Int) : Option (Int × Int) :=
 bif y == 0 then
 none
 else
 bif decide (y ≤ hi) then
  none
 else
  bif hi == 0 then
  (nz y).bind fun _ =>
  (nz y).bind fun _ =>
  some (IntKind.u64.wrap (Int.tdiv lo y),Int.tmod lo y)
  else
  none
def h364 : Hint:=.z
def sp364 : Spec fam:=⟨[.v (.int .u64) [],.v (.int .u64) [],.v (.int .u64) []],[.v (.int .u64) [],.v (.int .u64) []],fun a => ym a.1 a.2.1 a.2.2.1⟩
def ux (n : Int) (bp : Int) : Option Int :=
 (yQ (IntKind.u64.wrap n) (IntKind.u64.wrap bp)).bind fun x =>
 (ym x.1 x.2 10000).bind fun x1 =>
 some (w64 x1.1)
def h344 : Hint:=.z
def sp344 : Spec fam:=⟨[.v (.int .i64) [],.v (.int .i64) []],[.v (.int .i64) []],fun a => ux a.1 a.2.1⟩
def kF (a : Vec) (bp : Int) : Option (Vec × Int) :=
 (
 (gH a).bind fun x =>
 bif ! x then
  some true
 else
  bif decide (bp < 0) then
  some true
  else
  some (decide (bp > 1000000))).bind fun q =>
 bif q then
 some ((⟨0,0⟩ : Vec),1)
 else
 (ux a.Mem bp).bind fun x1 =>
 (ux a.Cores bp).bind fun x2 =>
 (vn (⟨x1,x2⟩ : Vec)).bind fun x3 =>
 some (x3.1,x3.2)
def h315 : Hint:=(.s .z (.s (.s (.j [] [(0,[(16,.v .bool [])])] .z) .z) .z))
def sp315 : Spec fam:=⟨[.v (.st 0) [],.v (.int .i64) []],[.v (.st 0) [],.v (.int .i64) []],fun a => kF a.1 a.2.1⟩
def tk (t : List UInt8 × List (List UInt8)) : Option ((List UInt8 × List (List UInt8)) ⊕ List (List UInt8)) :=
 bif ! (t.1 == ([] : List UInt8)) then
 (app 16 t.2 [t.1]).bind fun l =>
 (iR t.1).bind fun x =>
 some (.inl (x.1,l))
 else
 some (.inr t.2)
def sG (path : List UInt8) : Option (List (List UInt8)) :=
 (loop tk (path,[])).bind fun out =>
 some out
def h316 : Hint:=(.s .z (.s .z (.s (.b (.l [(0,.v .str []),(3,.v (.slice (.str)) [0])] [0,3] [(2,[(3,.v (.slice (.str)) [0])])] .z)) .z)))
def sp316 : Spec fam:=⟨[.v .str []],[.v (.slice (.str)) [0]],fun a => sG a.1⟩
def oX (s : State) (label : Int) (part : (TupT fam [.st 1] → Option Int)) (up : List (List UInt8)) (t : Vec × Vec × Int) : Option ((Vec × Vec × Int) ⊕ (Vec ⊕ (Vec × Vec))) :=
 bif decide (t.2.2 ≥ 0) then
 (inb t.2.2 up.length).bind fun i1 =>
 (up[i1]?).bind fun x2 =>
 (gc s.Conf x2).bind fun x3 =>
 (
  bif ! x3.2 then
  some true
  else
  bif decide (label < 0) then
   some true
  else
   some (decide (label ≥ (x3.1.Caps.length : Int)))).bind fun q =>
 bif q then
  some (.inr (.inl (⟨0,0⟩ : Vec)))
 else
  (inb label x3.1.Caps.length).bind fun i2 =>
  (x3.1.Caps[i2]?).bind fun x4 =>
  (part (x4,())).bind fun r =>
  (kF t.2.1 r).bind fun x5 =>
  some (.inl (t.1,x5.1,w64 (t.2.2 - 1)))
 else
 some (.inr (.inr (t.1,t.2.1)))
def kJ (s : State) (path : List UInt8) (label : Int) (part : (TupT fam [.st 1] → Option Int)) : Option Vec :=
 (sG path).bind fun up =>
 (gc s.Conf path).bind fun x =>
 bif ! x.2 then
 some (⟨0,0⟩ : Vec)
 else
 (ff s label).bind fun x1 =>
 let i:=w64 ((up.length : Int) - 2)
 (loop (oX s label part up) ((⟨0,0⟩ : Vec),x1,i)).bind fun q0 =>
 match q0 with
 | .inl q1 =>
  some q1
 | .inr q2 =>
  some q2.2
def h313 : Hint:=(.s .z (.s .z (.s .z (.s .z (.s (.s .z (.b (.l [(8,.box (.st 0) []),(12,.box (.st 0) []),(13,.v (.int .i64) [])] [8,12,13,14,60] [(1,[(8,.box (.st 0) [])]),(2,[(8,.box (.st 0) []),(12,.box (.st 0) [])])] (.s .z (.s (.b (.s .z (.s (.s (.j [] [(0,[(60,.v .bool [])])] .z) .z) .z))) .z))))) .z)))))
def sp313 : Spec fam:=⟨[.v (.st 10) [],.v .str [],.v (.int .i64) [],.fn [.st 1] (.int .i64)],[.v (.st 0) []],fun a => kJ a.1 a.2.1 a.2.2.1 a.2.2.2.1⟩
def gu (_a0 : Cap) : Option Int:=none
def sp314 : Spec fam:=⟨[.v (.st 1) []],[.v (.int .i64) []],fun a => gu a.1⟩
def dS (s : State) (path : List UInt8) (label : Int) : Option Vec :=
 (kJ s path label (fun a' => gu a'.1)).bind fun x =>
 some x
def h276 : Hint:=.z
def sp276 : Spec fam:=⟨[.v (.st 10) [],.v .str [],.v (.int .i64) []],[.v (.st 0) []],fun a => dS a.1 a.2.1 a.2.2.1⟩
def cV (t : Attempt) (a : App) (x : Ask) : Option Bool :=
 (cP t.s a.Queue t.n.Label).bind fun x1 =>
 (dm x1 x.Size).bind fun x2 =>
 bif x2.2 == 0 then
 (dS t.s a.Queue t.n.Label).bind fun x3 =>
 (b7 x2.1 x3).bind fun x4 =>
 some x4
 else
 some false
def h236 : Hint:=.z
def sp236 : Spec fam:=⟨[.rp (.st 18),.v (.st 6) [],.v (.st 5) []],[.v .bool []],fun a => cV a.1 a.2.1 a.2.2.1⟩
def iX (s : State) (path : List UInt8) (label : Int) (user : Int) : Option Vec :=
 bif user == (-1) then
 some (⟨0,0⟩ : Vec)
 else
 (eZ (⟨⟨⟨s.Conf.Labels,s.Conf.Queues⟩,s.Nodes,s.Apps,s.Conts,s.Slots,s.Plans,s.Now,s.Epoch,s.Seq⟩,path,label,user⟩ : View)).bind fun x =>
 some x
def h277 : Hint:=.z
def sp277 : Spec fam:=⟨[.v (.st 10) [],.v .str [],.v (.int .i64) [],.v (.int .i64) []],[.v (.st 0) []],fun a => iX a.1 a.2.1 a.2.2.1 a.2.2.2.1⟩
def pF (s : State) (path : List UInt8) (label : Int) : Option Vec :=
 (gc s.Conf path).bind fun x =>
 (dS s path label).bind fun x1 =>
 (kF x1 x.1.User).bind fun x2 =>
 some x2.1
def h278 : Hint:=.z
def sp278 : Spec fam:=⟨[.v (.st 10) [],.v .str [],.v (.int .i64) []],[.v (.st 0) []],fun a => pF a.1 a.2.1 a.2.2.1⟩
def cJ (t : Attempt) (a : App) : Option Bool :=
 (iX t.s a.Queue t.n.Label a.User).bind fun x =>
 (pF t.s a.Queue t.n.Label).bind fun x1 =>
 (b7 x x1).bind fun x2 =>
 some x2
def h237 : Hint:=.z
def sp237 : Spec fam:=⟨[.rp (.st 18),.v (.st 6) []],[.v .bool []],fun a => cJ a.1 a.2.1⟩
def cI (t : Attempt) (x : Ask) : Option Bool :=
 (b7 x.Size t.free).bind fun x1 =>
 some x1
def h238 : Hint:=.z
def sp238 : Spec fam:=⟨[.rp (.st 18),.v (.st 5) []],[.v .bool []],fun a => cI a.1 a.2.1⟩
def gW (_a0 : Cap) : Option Int:=none
def sp345 : Spec fam:=⟨[.v (.st 1) []],[.v (.int .i64) []],fun a => gW a.1⟩
def kQ (s : State) (path : List UInt8) (label : Int) : Option Vec :=
 (kJ s path label (fun a' => gW a'.1)).bind fun x =>
 some x
def h317 : Hint:=.z
def sp317 : Spec fam:=⟨[.v (.st 10) [],.v .str [],.v (.int .i64) []],[.v (.st 0) []],fun a => kQ a.1 a.2.1 a.2.2.1⟩
def tM (s : State) (label : Int) (t : List Vec × Int) : Option ((List Vec × Int) ⊕ List Vec) :=
 bif decide (t.2 < (s.Plans.length : Int)) then
 (
  (idx s.Plans t.2).bind fun x =>
  (
  bif x.Label == label then
   bif decide (x.From ≤ s.Now) then
   some (decide (x.Until > s.Now))
   else
   some false
  else
   some false).bind fun q =>
  bif q then
  (app 16 t.1 [x.Need]).bind fun l =>
  some l
  else
  some t.1).bind fun l1 =>
 some (.inl (l1,w64 (t.2 + 1)))
 else
 some (.inr t.1)
def pH (s : State) (label : Int) : Option Vec :=
 (loop (tM s label) ([],0)).bind fun l2 =>
 (nX l2).bind fun x1 =>
 some x1
def h318 : Hint:=(.s .z (.s .z (.s (.s .z (.b (.l [(5,.v (.slice (.st 0)) [0]),(11,.v (.int .i64) [])] [5,7,11,32] [(2,[(5,.v (.slice (.st 0)) [0])])] (.s .z (.s .z (.s (.j [5,7,32] [(0,[(5,.v (.slice (.st 0)) [0])])] (.b (.s .z (.s (.j [] [(0,[(32,.v .bool [])])] .z) .z)))) .z)))))) .z)))
def sp318 : Spec fam:=⟨[.v (.st 10) [],.v (.int .i64) []],[.v (.st 0) []],fun a => pH a.1 a.2.1⟩
def oS (s : State) (label : Int) (size : Vec) (x : List (List UInt8)) (t : Int) : Option (Int ⊕ (Bool ⊕ Unit)) :=
 bif decide (t < (x.length : Int)) then
 (inb t x.length).bind fun i =>
 (x[i]?).bind fun x1 =>
 (cP s x1 label).bind fun x2 =>
 (dm x2 size).bind fun x3 =>
 (
  bif x3.2 != 0 then
  some true
  else
  (kQ s x1 label).bind fun x4 =>
  (b7 x3.1 x4).bind fun x5 =>
  some (! x5)).bind fun q =>
 bif q then
  some (.inr (.inl false))
 else
  (ff s label).bind fun x6 =>
  (pH s label).bind fun x7 =>
  (
  bif x1 == ([114,111,111,116] : List UInt8) then
   bif ! (((imax (w64 (x6.Mem - x7.Mem)) 0) == x6.Mem) && ((imax (w64 (x6.Cores - x7.Cores)) 0) == x6.Cores)) then
   (b7 x3.1 (⟨imax (w64 (x6.Mem - x7.Mem)) 0,imax (w64 (x6.Cores - x7.Cores)) 0⟩ : Vec)).bind fun x8 =>
   some (! x8)
   else
   some false
  else
   some false).bind fun q1 =>
  bif q1 then
  some (.inr (.inl false))
  else
  some (.inl (w64 (t + 1)))
 else
 some (.inr (.inr ()))
def pw (s : State) (path : List UInt8) (label : Int) (size : Vec) : Option Bool :=
 (sG path).bind fun x =>
 (loop (oS s label size x) 0).bind fun q0 =>
 match q0 with
 | .inl q2 =>
 some q2
 | .inr _ =>
 some true
def h279 : Hint:=(.s .z (.s (.s .z (.b (.l [(19,.v (.int .i64) [])] [8,10,11,12,13,14,15,19,42,74] [(1,[(8,.v .bool [])]),(2,[])] (.s .z (.s .z (.s (.b (.s .z (.s .z (.s (.s (.j [] [(0,[(42,.v .bool [])])] .z) .z) (.s .z (.s .z (.s (.j [] [(0,[(74,.v .bool [])])] .z) .z))))))) .z)))))) .z))
def sp279 : Spec fam:=⟨[.v (.st 10) [],.v .str [],.v (.int .i64) [],.v (.st 0) []],[.v .bool []],fun a => pw a.1 a.2.1 a.2.2.1 a.2.2.2.1⟩
def cK (t : Attempt) (a : App) (x : Ask) : Option Bool :=
 (pw t.s a.Queue t.n.Label x.Size).bind fun x1 =>
 some x1
def h239 : Hint:=.z
def sp239 : Spec fam:=⟨[.rp (.st 18),.v (.st 6) [],.v (.st 5) []],[.v .bool []],fun a => cK a.1 a.2.1 a.2.2.1⟩
def oU (s : List Slot) (i : Int) (j : Int) : Option (List Slot):=del s i j
def sp240 : Spec fam:=⟨[.v (.slice (.st 8)) [0],.v (.int .i64) [],.v (.int .i64) []],[.v (.slice (.st 8)) [0]],fun a => oU a.1 a.2.1 a.2.2.1⟩
def zr (s : List App) (i : Int) (v : List App) : Option (List App) :=
 (inS i (s.length : Int) s.length).bind fun p =>
 bif (v.length : Int) == 0 then
 some s
 else
 bif i == (s.length : Int) then
  (app 200 s v).bind fun l =>
  some l
 else
  none
def qw (s : List App) (i : Int) (v : List App) : Option (List App):=ins s i v
def h170 : Hint:=.z
def sp170 : Spec fam:=⟨[.v (.slice (.st 6)) [0],.v (.int .i64) [],.v (.slice (.st 6)) [0]],[.v (.slice (.st 6)) [0]],fun a => qw a.1 a.2.1 a.2.2.1⟩
def HB : Spec fam:=⟨[.v (.slice (.st 6)) [0],.v (.int .i64) [],.v (.slice (.st 6)) [0]],[.v (.slice (.st 6)) [0]],fun a => zr a.1 a.2.1 a.2.2.1⟩
def wA (s : State) (a : App) (k : Int) : Option (Int ⊕ Int) :=
 (
 bif decide (k < (s.Apps.length : Int)) then
  (inb k s.Apps.length).bind fun i2 =>
  (s.Apps[i2]?).bind fun x1 =>
  some (decide (x1.Id < a.Id))
 else
  some false).bind fun q =>
 bif q then
 some (.inl (w64 (k + 1)))
 else
 some (.inr k)
def qv (s : State) (a : App) : Option State :=
 (mq s a.Id).bind fun i =>
 bif decide (i ≥ 0) then
 (inb i s.Apps.length).bind fun i1 =>
 (s.Apps[i1]?).bind fun x =>
 some (⟨⟨s.Conf.Labels,s.Conf.Queues⟩,s.Nodes,List.set s.Apps i1 a,s.Conts,s.Slots,s.Plans,s.Now,s.Epoch,s.Seq⟩ : State)
 else
 (loop (wA s a) 0).bind fun k1 =>
 (qw s.Apps k1 [a]).bind fun x2 =>
 some (⟨⟨s.Conf.Labels,s.Conf.Queues⟩,s.Nodes,x2,s.Conts,s.Slots,s.Plans,s.Now,s.Epoch,s.Seq⟩ : State)
def h125 : Hint:=(.s .z (.s .z (.s .z (.s (.b (.l [(6,.v (.int .i64) [])] [6,34] [(2,[(6,.v (.int .i64) [])])] (.s (.s (.j [] [(0,[(34,.v .bool [])])] .z) .z) .z))) .z))))
def sp125 : Spec fam:=⟨[.v (.st 10) [0,1,2,3,4,5,6],.v (.st 6) [7,10,11,12,13,9999]],[.v (.st 10) [0,1,2,3,4,5,6]],fun a => qv a.1 a.2.1⟩
def qr (s : State) (a : App) : Option State :=
 (lB s).bind fun x =>
 (jZ a).bind fun x1 =>
 (qv x x1).bind fun x2 =>
 some x2
def h131 : Hint:=.z
def sp131 : Spec fam:=⟨[.v (.st 10) [],.ln (.st 6)],[.v (.st 10) [0,1,2,3,4,5,6]],fun a => qr a.1 a.2.1⟩
def qP (l : List Ask) : Option (List Ask) :=
 (mkl 64 (l.length : Int) (l.length : Int) (⟨0,0,⟨0,0⟩,0,0,0,0⟩ : Ask)).bind fun l1 =>
 some (cpy l1 0 l1.length l)
def h173 : Hint:=.z
def sp173 : Spec fam:=⟨[.v (.slice (.st 5)) []],[.v (.slice (.st 5)) [0]],fun a => qP a.1⟩
def lW (s : List Ask) (f : (TupT fam [.st 5] → Option Bool)) (t : Int) : Option (Int ⊕ (Int ⊕ Unit)) :=
 bif decide (t < (s.length : Int)) then
 (idx s t).bind fun x =>
 (f (x,())).bind fun r =>
 bif r then
  some (.inr (.inl t))
 else
  some (.inl (w64 (t + 1)))
 else
 some (.inr (.inr ()))
def iI (s : List Ask) (f : (TupT fam [.st 5] → Option Bool)) : Option Int :=
 (loop (lW s f) 0).bind fun q0 =>
 match q0 with
 | .inl q =>
 some q
 | .inr _ =>
 some (-1)
def h207 : Hint:=(.s .z (.s (.s .z (.b (.l [(8,.v (.int .i64) [])] [4,5,8] [(1,[(4,.v (.int .i64) [])]),(2,[])] .z))) .z))
def sp207 : Spec fam:=⟨[.v (.slice (.st 5)) [],.fn [.st 5] .bool],[.v (.int .i64) []],fun a => iI a.1 a.2.1⟩
def uT (a : Ask) (p : Int) : Option Bool :=
 some (a.Prio == p)
def h346 : Hint:=.z
def sp346 : Spec fam:=⟨[.v (.st 5) [],.rp (.int .i64)],[.v .bool []],fun a => uT a.1 a.2.1⟩
def vF (l : List Ask) (prio : Int) : Option Int :=
 (iI l (fun a' => uT a'.1 prio)).bind fun x =>
 some x
def h319 : Hint:=.z
def sp319 : Spec fam:=⟨[.v (.slice (.st 5)) [],.v (.int .i64) []],[.v (.int .i64) []],fun a => vF a.1 a.2.1⟩
def qn (s : List Ask) (i : Int) (j : Int) : Option (List Ask):=del s i j
def sp320 : Spec fam:=⟨[.v (.slice (.st 5)) [0],.v (.int .i64) [],.v (.int .i64) []],[.v (.slice (.st 5)) [0]],fun a => qn a.1 a.2.1 a.2.2.1⟩
def rz (l : List Ask) (prio : Int) : Option (List Ask × Bool) :=
 (qP l).bind fun out =>
 (vF out prio).bind fun i =>
 bif decide (i < 0) then
 some (out,false)
 else
 (inb i out.length).bind fun i1 =>
 (out[i1]?).bind fun x =>
 (inb i (List.set out i1 (⟨x.Prio,x.Label,⟨x.Size.Mem,x.Size.Cores⟩,x.Count,x.Node,x.Rack,0⟩ : Ask)).length).bind fun i2 =>
 ((List.set out i1 (⟨x.Prio,x.Label,⟨x.Size.Mem,x.Size.Cores⟩,x.Count,x.Node,x.Rack,0⟩ : Ask))[i2]?).bind fun x1 =>
 (inb i (List.set out i1 (⟨x.Prio,x.Label,⟨x.Size.Mem,x.Size.Cores⟩,x.Count,x.Node,x.Rack,0⟩ : Ask)).length).bind fun i3 =>
 ((List.set out i1 (⟨x.Prio,x.Label,⟨x.Size.Mem,x.Size.Cores⟩,x.Count,x.Node,x.Rack,0⟩ : Ask))[i3]?).bind fun x2 =>
 (
  (inb i (List.set (List.set out i1 (⟨x.Prio,x.Label,⟨x.Size.Mem,x.Size.Cores⟩,x.Count,x.Node,x.Rack,0⟩ : Ask)) i3 (⟨x2.Prio,x2.Label,⟨x2.Size.Mem,x2.Size.Cores⟩,w64 (x1.Count - 1),x2.Node,x2.Rack,x2.Missed⟩ : Ask)).length).bind fun i4 =>
  ((List.set (List.set out i1 (⟨x.Prio,x.Label,⟨x.Size.Mem,x.Size.Cores⟩,x.Count,x.Node,x.Rack,0⟩ : Ask)) i3 (⟨x2.Prio,x2.Label,⟨x2.Size.Mem,x2.Size.Cores⟩,w64 (x1.Count - 1),x2.Node,x2.Rack,x2.Missed⟩ : Ask))[i4]?).bind fun x3 =>
  bif decide (x3.Count ≤ 0) then
  (qn (List.set (List.set out i1 (⟨x.Prio,x.Label,⟨x.Size.Mem,x.Size.Cores⟩,x.Count,x.Node,x.Rack,0⟩ : Ask)) i3 (⟨x2.Prio,x2.Label,⟨x2.Size.Mem,x2.Size.Cores⟩,w64 (x1.Count - 1),x2.Node,x2.Rack,x2.Missed⟩ : Ask)) i (w64 (i + 1))).bind fun out1 =>
  some out1
  else
  some (List.set (List.set out i1 (⟨x.Prio,x.Label,⟨x.Size.Mem,x.Size.Cores⟩,x.Count,x.Node,x.Rack,0⟩ : Ask)) i3 (⟨x2.Prio,x2.Label,⟨x2.Size.Mem,x2.Size.Cores⟩,w64 (x1.Count - 1),x2.Node,x2.Rack,x2.Missed⟩ : Ask))).bind fun out2 =>
 some (out2,true)
def h280 : Hint:=(.s .z (.s .z (.s .z (.s .z (.s .z (.s .z (.s (.j [6] [(0,[(6,.v (.slice (.st 5)) [0])])] .z) .z)))))))
def sp280 : Spec fam:=⟨[.v (.slice (.st 5)) [],.v (.int .i64) []],[.v (.slice (.st 5)) [0],.v .bool []],fun a => rz a.1 a.2.1⟩
def xZ (s : List Cont) (i : Int) (v : List Cont) : Option (List Cont) :=
 (inS i (s.length : Int) s.length).bind fun p =>
 bif (v.length : Int) == 0 then
 some s
 else
 bif i == (s.length : Int) then
  (app 72 s v).bind fun l =>
  some l
 else
  none
def oW (s : List Cont) (i : Int) (v : List Cont) : Option (List Cont):=ins s i v
def h281 : Hint:=.z
def sp281 : Spec fam:=⟨[.v (.slice (.st 7)) [0],.v (.int .i64) [],.v (.slice (.st 7)) [0]],[.v (.slice (.st 7)) [0]],fun a => oW a.1 a.2.1 a.2.2.1⟩
def Hx : Spec fam:=⟨[.v (.slice (.st 7)) [0],.v (.int .i64) [],.v (.slice (.st 7)) [0]],[.v (.slice (.st 7)) [0]],fun a => xZ a.1 a.2.1 a.2.2.1⟩
def jd (t : Attempt) (x2 : State) (k : Int) : Option (Int ⊕ Int) :=
 (
 bif decide (k < (x2.Conts.length : Int)) then
  (inb k x2.Conts.length).bind fun i =>
  (x2.Conts[i]?).bind fun x3 =>
  some (decide (x3.Id < (w64 ((shlK .i64 t.s.Epoch 20) + (w64 (t.s.Seq + 1))))))
 else
  some false).bind fun q =>
 bif q then
 some (.inl (w64 (k + 1)))
 else
 some (.inr k)
def cj (t : Attempt) (a : App) (x : Ask) : Option (Cont × Attempt) :=
 (rz a.Asks x.Prio).bind fun x1 =>
 (
 bif a.State == 1 then
  some (⟨a.Id,2,a.Queue,a.User,a.Prio,⟨a.Master.Mem,a.Master.Cores⟩,[],t.s.Now,0,a.Grants,a.Kills,a.Told,a.Lost⟩ : App)
 else
  (app 8 a.Grants [w64 ((shlK .i64 t.s.Epoch 20) + (w64 (t.s.Seq + 1)))]).bind fun l =>
  some (⟨a.Id,a.State,a.Queue,a.User,a.Prio,⟨a.Master.Mem,a.Master.Cores⟩,x1.1,a.Seen,a.Beat,l,a.Kills,a.Told,a.Lost⟩ : App)).bind fun a1 =>
 (qr (⟨⟨t.s.Conf.Labels,t.s.Conf.Queues⟩,t.s.Nodes,t.s.Apps,t.s.Conts,t.s.Slots,t.s.Plans,t.s.Now,t.s.Epoch,w64 (t.s.Seq + 1)⟩ : State) a1).bind fun x2 =>
 (loop (jd t x2) 0).bind fun k1 =>
 (oW x2.Conts k1 [(⟨w64 ((shlK .i64 t.s.Epoch 20) + (w64 (t.s.Seq + 1))),a.Id,t.n.Id,⟨x.Size.Mem,x.Size.Cores⟩,x.Prio,x.Label,a.State == 1,0⟩ : Cont)]).bind fun x4 =>
 some ((⟨w64 ((shlK .i64 t.s.Epoch 20) + (w64 (t.s.Seq + 1))),a.Id,t.n.Id,⟨x.Size.Mem,x.Size.Cores⟩,x.Prio,x.Label,a.State == 1,0⟩ : Cont),(⟨⟨⟨x2.Conf.Labels,x2.Conf.Queues⟩,x2.Nodes,x2.Apps,x4,x2.Slots,x2.Plans,x2.Now,x2.Epoch,x2.Seq⟩,⟨t.n.Id,t.n.Label,t.n.Rack,⟨t.n.Cap.Mem,t.n.Cap.Cores⟩,t.n.Seen,t.n.Beat,t.n.Up⟩,⟨t.free.Mem,t.free.Cores⟩⟩ : Attempt))
def h241 : Hint:=(.s .z (.s .z (.s .z (.s .z (.s (.j [1,4] [(0,[(4,.box (.st 6) [7,10,11,12,13])])] .z) (.s .z (.s .z (.s (.b (.l [(8,.v (.int .i64) [])] [8,104] [(2,[(8,.v (.int .i64) [])])] (.s (.s (.j [] [(0,[(104,.v .bool [])])] .z) .z) .z))) .z))))))))
def sp241 : Spec fam:=⟨[.box (.st 18) [0,2,4,5,6],.v (.st 6) [7,10,11,12,13],.v (.st 5) []],[.v (.st 7) []],fun a => cj a.1 a.2.1 a.2.2.1⟩
def em (t : Attempt) : Option (Int × Cont × Bool × Attempt) :=
 (j_ t.s.Slots (fun a' => fX a'.1 t)).bind fun i =>
 bif decide (i < 0) then
 some (0,(⟨0,0,0,⟨0,0⟩,0,0,false,0⟩ : Cont),false,t)
 else
 (inb i t.s.Slots.length).bind fun i1 =>
 (t.s.Slots[i1]?).bind fun x =>
 (ga t.s x.App).bind fun x1 =>
 (m0 x1.1 x.Prio).bind fun x2 =>
 (
  bif x1.2 then
  (cD x1.1).bind fun x3 =>
  bif x3 then
   bif x2.2 then
   (iM x2.1 t.n).bind fun x4 =>
   bif x4 then
    (cw t x2.1).bind fun x5 =>
    bif x5 then
    (cV t x1.1 x2.1).bind fun x6 =>
    bif x6 then
     (cJ t x1.1).bind fun x7 =>
     some x7
    else
     some false
    else
    some false
   else
    some false
   else
   some false
  else
   some false
  else
  some false).bind fun stays =>
 (
  bif stays then
  (cI t x2.1).bind fun x8 =>
  bif x8 then
   (cK t x1.1 x2.1).bind fun x9 =>
   some (! x9)
  else
   some true
  else
  some false).bind fun q =>
 bif q then
  some (3,(⟨0,0,0,⟨0,0⟩,0,0,false,0⟩ : Cont),true,t)
 else
  (oU t.s.Slots i (w64 (i + 1))).bind fun x10 =>
  bif ! stays then
  some (0,(⟨0,0,0,⟨0,0⟩,0,0,false,0⟩ : Cont),false,(⟨⟨⟨t.s.Conf.Labels,t.s.Conf.Queues⟩,t.s.Nodes,t.s.Apps,t.s.Conts,x10,t.s.Plans,t.s.Now,t.s.Epoch,t.s.Seq⟩,⟨t.n.Id,t.n.Label,t.n.Rack,⟨t.n.Cap.Mem,t.n.Cap.Cores⟩,t.n.Seen,t.n.Beat,t.n.Up⟩,⟨t.free.Mem,t.free.Cores⟩⟩ : Attempt))
  else
  (cj (⟨⟨⟨t.s.Conf.Labels,t.s.Conf.Queues⟩,t.s.Nodes,t.s.Apps,t.s.Conts,x10,t.s.Plans,t.s.Now,t.s.Epoch,t.s.Seq⟩,⟨t.n.Id,t.n.Label,t.n.Rack,⟨t.n.Cap.Mem,t.n.Cap.Cores⟩,t.n.Seen,t.n.Beat,t.n.Up⟩,⟨t.free.Mem,t.free.Cores⟩⟩ : Attempt) x1.1 x2.1).bind fun x11 =>
  some (1,x11.1,true,x11.2)
def h201 : Hint:=(.s .z (.s .z (.s .z (.s .z (.s .z (.s .z (.s (.j [11] [(0,[(11,.v .bool [])])] .z) (.s (.s (.j [] [(0,[(91,.v .bool [])])] .z) .z) .z))))))))
def sp201 : Spec fam:=⟨[.box (.st 18) [0,2,4,5,6]],[.v (.int .i64) [],.v (.st 7) [],.v .bool []],fun a => em a.1⟩
def ni (s : List Load) (f : (TupT fam [.st 15,.st 15] → Option Int)) : Option (List Load):=sortG (F:=fam) (.st 15) f s
def sp348 : Spec fam:=⟨[.row (.st 15) false,.fn [.st 15,.st 15] (.int .i64)],[],fun a => ni a.1 a.2.1⟩
def ii (_a0 : Load) (_a1 : Load) : Option Int:=none
def sp349 : Spec fam:=⟨[.v (.st 15) [],.v (.st 15) []],[.v (.int .i64) []],fun a => ii a.1 a.2.1⟩
def tJ (x4 : List Load) (t1 : List (List UInt8) × Int) : Option ((List (List UInt8) × Int) ⊕ List (List UInt8)) :=
 bif decide (t1.2 < (x4.length : Int)) then
 (inb t1.2 x4.length).bind fun i1 =>
 (x4[i1]?).bind fun x5 =>
 (inS t1.2 (t1.1.length : Int) t1.1.length).bind fun p =>
 some (.inl (cpy t1.1 p.1 p.2 [x5.path],w64 (t1.2 + 1)))
 else
 some (.inr t1.1)
def oL (s : State) (label : Int) (x : List (List UInt8)) (t : List Load × Int) : Option ((List Load × Int) ⊕ List Load) :=
 bif decide (t.2 < (x.length : Int)) then
 (inb t.2 x.length).bind fun i =>
 (x[i]?).bind fun x1 =>
 (cP s x1 label).bind fun x2 =>
 (dS s x1 label).bind fun x3 =>
 (app 48 t.1 [(⟨x1,⟨x2.Mem,x2.Cores⟩,⟨x3.Mem,x3.Cores⟩⟩ : Load)]).bind fun l =>
 some (.inl (l,w64 (t.2 + 1)))
 else
 some (.inr t.1)
def pA (s : State) (path : List UInt8) (label : Int) : Option (List (List UInt8)) :=
 (iD s.Conf path).bind fun x =>
 (loop (oL s label x) ([],0)).bind fun l1 =>
 (ni l1 (fun a' => ii a'.1 a'.2.1)).bind fun x4 =>
 (mkl 16 (x4.length : Int) (x4.length : Int) []).bind fun l2 =>
 (loop (tJ x4) (l2,0)).bind fun out =>
 some out
def h323 : Hint:=(.s .z (.s .z (.s (.s .z (.b (.l [(7,.v (.slice (.st 15)) [0]),(18,.v (.int .i64) [])] [7,9,18,19,20,21,22,23,24,25,26,27,28,29,30,31,32,33,34,35] [(2,[(7,.v (.slice (.st 15)) [0])])] .z))) (.s .z (.s .z (.s (.s .z (.b (.l [(10,.row .str false),(43,.v (.int .i64) [])] [10,11,12,43] [(4,[(10,.row .str false)])] .z))) .z))))))
def sp323 : Spec fam:=⟨[.v (.st 10) [],.v .str [],.v (.int .i64) []],[.v (.slice (.str)) [0]],fun a => pA a.1 a.2.1 a.2.2.1⟩
def qt (s : State) (label : Int) (deep : Int) (self : State → (List UInt8) → Int → Int → Option (List (List UInt8))) (kids : List (List UInt8)) (t : List (List UInt8) × Int) : Option ((List (List UInt8) × Int) ⊕ List (List UInt8)) :=
 bif decide (t.2 < (kids.length : Int)) then
 (inb t.2 kids.length).bind fun i =>
 (kids[i]?).bind fun x =>
 (self s x label (w64 (deep + 1))).bind fun x1 =>
 (app 16 t.1 x1).bind fun l =>
 some (.inl (l,w64 (t.2 + 1)))
 else
 some (.inr t.1)
def oH (self : State → (List UInt8) → Int → Int → Option (List (List UInt8))) (s : State) (path : List UInt8) (label : Int) (deep : Int) : Option (List (List UInt8)) :=
 (pA s path label).bind fun kids =>
 (
 bif (kids.length : Int) == 0 then
  some true
 else
  some (decide (deep > 4))).bind fun q =>
 bif q then
 some [path]
 else
 (loop (qt s label deep self kids) ([],0)).bind fun out =>
 some out
def gF : Nat → State → (List UInt8) → Int → Int → Option (List (List UInt8))
 | 0 => fun _ _ _ _ => none
 | n + 1 => oH (gF n)
def nk (a0 : State) (a1 : List UInt8) (a2 : Int) (a3 : Int) : Option (List (List UInt8)):=gF 64 a0 a1 a2 a3
def h282 : Hint:=(.s .z (.s .z (.s (.s (.j [17,18,19,20,21,22,23] [(0,[(23,.v .bool [])])] .z) .z) (.s .z (.s (.s .z (.b (.l [(10,.v (.slice (.str)) [0]),(28,.v (.int .i64) [])] [10,12,28] [(2,[(10,.v (.slice (.str)) [0])])] .z))) .z)))))
def sp282 : Spec fam:=⟨[.v (.st 10) [],.v .str [],.v (.int .i64) [],.v (.int .i64) []],[.v (.slice (.str)) [0]],fun a => nk a.1 a.2.1 a.2.2.1 a.2.2.2.1⟩
def Iy (n : Nat) : Spec fam:=⟨[.v (.st 10) [],.v .str [],.v (.int .i64) [],.v (.int .i64) []],[.v (.slice (.str)) [0]],fun a => gF n a.1 a.2.1 a.2.2.1 a.2.2.2.1⟩
def lD (s : State) (label : Int) : Option (List (List UInt8)) :=
 (nk s ([114,111,111,116] : List UInt8) label 1).bind fun x =>
 some x
def h242 : Hint:=.z
def sp242 : Spec fam:=⟨[.v (.st 10) [],.v (.int .i64) []],[.v (.slice (.str)) [0]],fun a => lD a.1 a.2.1⟩
def kT (a : Int) (cmp : (TupT fam [.st 6,.st 6] → Option Int)) (t1 : List App × Int) : Option ((List App × Int) ⊕ List App) :=
 (
 bif decide (t1.2 > a) then
  (inb t1.2 t1.1.length).bind fun i =>
  (t1.1[i]?).bind fun x =>
  (inb (w64 (t1.2 - 1)) t1.1.length).bind fun i1 =>
  (t1.1[i1]?).bind fun x1 =>
  (cmp (x,x1,())).bind fun r =>
  some (decide (r < 0))
 else
  some false).bind fun q =>
 bif q then
 (inb (w64 (t1.2 - 1)) t1.1.length).bind fun i2 =>
 (t1.1[i2]?).bind fun x2 =>
 (inb t1.2 t1.1.length).bind fun i3 =>
 (t1.1[i3]?).bind fun x3 =>
 (inb t1.2 t1.1.length).bind fun i4 =>
 (t1.1[i4]?).bind fun x4 =>
 (inb (w64 (t1.2 - 1)) (List.set t1.1 i4 x2).length).bind fun i5 =>
 ((List.set t1.1 i4 x2)[i5]?).bind fun x5 =>
 some (.inl (List.set (List.set t1.1 i4 x2) i5 x3,w64 (t1.2 - 1)))
 else
 some (.inr t1.1)
def lV (a : Int) (b : Int) (cmp : (TupT fam [.st 6,.st 6] → Option Int)) (t : List App × Int) : Option ((List App × Int) ⊕ List App) :=
 bif decide (t.2 < b) then
 (loop (kT a cmp) (t.1,t.2)).bind fun data1 =>
 some (.inl (data1,w64 (t.2 + 1)))
 else
 some (.inr t.1)
def iC (data : List App) (a : Int) (b : Int) (cmp : (TupT fam [.st 6,.st 6] → Option Int)) : Option (List App) :=
 (loop (lV a b cmp) (data,w64 (a + 1))).bind fun data2 =>
 some data2
def h368 : Hint:=(.s .z (.b (.l [(0,.row (.st 6) false),(8,.v (.int .i64) [])] [0,8,9,34] [(2,[(0,.row (.st 6) false)])] (.s .z (.s (.b (.s .z (.b (.l [(0,.row (.st 6) false),(9,.v (.int .i64) [])] [0,9,34] [(4,[(0,.row (.st 6) false)])] (.s (.s (.j [] [(0,[(34,.v .bool [])])] .z) .z) .z))))) .z)))))
def sp368 : Spec fam:=⟨[.row (.st 6) false,.v (.int .i64) [],.v (.int .i64) [],.fn [.st 6,.st 6] (.int .i64)],[],fun a => iC a.1 a.2.1 a.2.2.1 a.2.2.2.1⟩
def xF (a : Int) (b : Int) (n : Int) (t : List App × Int) : Option ((List App × Int) ⊕ List App) :=
 bif decide (t.2 < n) then
 (inb (w64 (b + t.2)) t.1.length).bind fun i =>
 (t.1[i]?).bind fun x =>
 (inb (w64 (a + t.2)) t.1.length).bind fun i1 =>
 (t.1[i1]?).bind fun x1 =>
 (inb (w64 (a + t.2)) t.1.length).bind fun i2 =>
 (t.1[i2]?).bind fun x2 =>
 (inb (w64 (b + t.2)) (List.set t.1 i2 x).length).bind fun i3 =>
 ((List.set t.1 i2 x)[i3]?).bind fun x3 =>
 some (.inl (List.set (List.set t.1 i2 x) i3 x1,w64 (t.2 + 1)))
 else
 some (.inr t.1)
def kS (data : List App) (a : Int) (b : Int) (n : Int) (cmp : (TupT fam [.st 6,.st 6] → Option Int)) : Option (List App) :=
 (loop (xF a b n) (data,0)).bind fun data1 =>
 some data1
def h397 : Hint:=(.s .z (.b (.l [(0,.row (.st 6) false),(10,.v (.int .i64) [])] [0,10] [(2,[(0,.row (.st 6) false)])] .z)))
def sp397 : Spec fam:=⟨[.row (.st 6) false,.v (.int .i64) [],.v (.int .i64) [],.v (.int .i64) [],.fn [.st 6,.st 6] (.int .i64)],[],fun a => kS a.1 a.2.1 a.2.2.1 a.2.2.2.1 a.2.2.2.2.1⟩
def yC (m : Int) (cmp : (TupT fam [.st 6,.st 6] → Option Int)) (t : List App × Int × Int) : Option ((List App × Int × Int) ⊕ ((List App × Int))) :=
 bif t.2.1 != t.2.2 then
 bif decide (t.2.1 > t.2.2) then
  (kS t.1 (w64 (m - t.2.1)) m t.2.2 cmp).bind fun x =>
  let i:=w64 (t.2.1 - t.2.2)
  some (.inl (x,i,t.2.2))
 else
  (kS t.1 (w64 (m - t.2.1)) (w64 ((w64 (m + t.2.2)) - t.2.1)) t.2.1 cmp).bind fun x1 =>
  let j:=w64 (t.2.2 - t.2.1)
  some (.inl (x1,t.2.1,j))
 else
 some (.inr (t.1,t.2.1))
def u4 (data : List App) (a : Int) (m : Int) (b : Int) (cmp : (TupT fam [.st 6,.st 6] → Option Int)) : Option (List App) :=
 (loop (yC m cmp) (data,w64 (m - a),w64 (b - m))).bind fun q =>
 (kS q.1 (w64 (m - q.2)) m q.2 cmp).bind fun x2 =>
 some x2
def h388 : Hint:=(.s .z (.s .z (.s (.b (.l [(0,.row (.st 6) false),(10,.v (.int .i64) []),(11,.v (.int .i64) [])] [0,10,11] [(2,[(0,.row (.st 6) false),(10,.v (.int .i64) [])])] .z)) .z)))
def sp388 : Spec fam:=⟨[.row (.st 6) false,.v (.int .i64) [],.v (.int .i64) [],.v (.int .i64) [],.fn [.st 6,.st 6] (.int .i64)],[],fun a => u4 a.1 a.2.1 a.2.2.1 a.2.2.2.1 a.2.2.2.2.1⟩
def wc (data : List App) (cmp : (TupT fam [.st 6,.st 6] → Option Int)) (p : Int) (t4 : Int × Int) : Option ((Int × Int) ⊕ Int) :=
 bif decide (t4.1 < t4.2) then
 let c:=w64 (shrK .u64 (IntKind.u64.wrap (w64 (t4.1 + t4.2))) 1)
 (inb (w64 (p - c)) data.length).bind fun i14 =>
 (data[i14]?).bind fun x12 =>
 (inb c data.length).bind fun i15 =>
 (data[i15]?).bind fun x13 =>
 (cmp (x12,x13,())).bind fun r2 =>
 bif ! (decide (r2 < 0)) then
  some (.inl (w64 (c + 1),t4.2))
 else
  some (.inl (t4.1,c))
 else
 some (.inr t4.1)
def vZ (i9 : Int) (t3 : List App × Int) : Option ((List App × Int) ⊕ List App) :=
 bif decide (t3.2 > i9) then
 (inb (w64 (t3.2 - 1)) t3.1.length).bind fun i10 =>
 (t3.1[i10]?).bind fun x8 =>
 (inb t3.2 t3.1.length).bind fun i11 =>
 (t3.1[i11]?).bind fun x9 =>
 (inb t3.2 t3.1.length).bind fun i12 =>
 (t3.1[i12]?).bind fun x10 =>
 (inb (w64 (t3.2 - 1)) (List.set t3.1 i12 x8).length).bind fun i13 =>
 ((List.set t3.1 i12 x8)[i13]?).bind fun x11 =>
 some (.inl (List.set (List.set t3.1 i12 x8) i13 x9,w64 (t3.2 - 1)))
 else
 some (.inr t3.1)
def vX (data : List App) (m : Int) (cmp : (TupT fam [.st 6,.st 6] → Option Int)) (t2 : Int × Int) : Option ((Int × Int) ⊕ Int) :=
 bif decide (t2.1 < t2.2) then
 let h1:=w64 (shrK .u64 (IntKind.u64.wrap (w64 (t2.1 + t2.2))) 1)
 (inb m data.length).bind fun i7 =>
 (data[i7]?).bind fun x6 =>
 (inb h1 data.length).bind fun i8 =>
 (data[i8]?).bind fun x7 =>
 (cmp (x6,x7,())).bind fun r1 =>
 bif ! (decide (r1 < 0)) then
  some (.inl (w64 (h1 + 1),t2.2))
 else
  some (.inl (t2.1,h1))
 else
 some (.inr t2.1)
def wi (i2 : Int) (t1 : List App × Int) : Option ((List App × Int) ⊕ List App) :=
 bif decide (t1.2 < (w64 (i2 - 1))) then
 (inb (w64 (t1.2 + 1)) t1.1.length).bind fun i3 =>
 (t1.1[i3]?).bind fun x2 =>
 (inb t1.2 t1.1.length).bind fun i4 =>
 (t1.1[i4]?).bind fun x3 =>
 (inb t1.2 t1.1.length).bind fun i5 =>
 (t1.1[i5]?).bind fun x4 =>
 (inb (w64 (t1.2 + 1)) (List.set t1.1 i5 x2).length).bind fun i6 =>
 ((List.set t1.1 i5 x2)[i6]?).bind fun x5 =>
 some (.inl (List.set (List.set t1.1 i5 x2) i6 x3,w64 (t1.2 + 1)))
 else
 some (.inr t1.1)
def we (data : List App) (a : Int) (cmp : (TupT fam [.st 6,.st 6] → Option Int)) (t : Int × Int) : Option ((Int × Int) ⊕ Int) :=
 bif decide (t.1 < t.2) then
 let h:=w64 (shrK .u64 (IntKind.u64.wrap (w64 (t.1 + t.2))) 1)
 (inb h data.length).bind fun i =>
 (data[i]?).bind fun x =>
 (inb a data.length).bind fun i1 =>
 (data[i1]?).bind fun x1 =>
 (cmp (x,x1,())).bind fun r =>
 bif decide (r < 0) then
  some (.inl (w64 (h + 1),t.2))
 else
  some (.inl (t.1,h))
 else
 some (.inr t.1)
def zF (self : (List App) → Int → Int → Int → ((TupT fam [.st 6,.st 6] → Option Int)) → Option (List App)) (data : List App) (a : Int) (m : Int) (b : Int) (cmp : (TupT fam [.st 6,.st 6] → Option Int)) : Option (List App) :=
 bif (w64 (m - a)) == 1 then
 (loop (we data a cmp) (m,b)).bind fun i2 =>
 (loop (wi i2) (data,a)).bind fun data1 =>
 some data1
 else
 bif (w64 (b - m)) == 1 then
  (loop (vX data m cmp) (a,m)).bind fun i9 =>
  (loop (vZ i9) (data,m)).bind fun data2 =>
  some data2
 else
  let mid:=w64 (shrK .u64 (IntKind.u64.wrap (w64 (a + b))) 1)
  (
  bif decide (m > mid) then
   let start:=w64 ((w64 (mid + m)) - b)
   some (start,mid)
  else
   some (a,m)).bind fun q =>
  let p:=w64 ((w64 (mid + m)) - 1)
  (loop (wc data cmp p) (q.1,q.2)).bind fun start1 =>
  let end_:=w64 ((w64 (mid + m)) - start1)
  (
  (
   bif decide (start1 < m) then
   some (decide (m < end_))
   else
   some false).bind fun q1 =>
  bif q1 then
   (u4 data start1 m end_ cmp).bind fun x14 =>
   some x14
  else
   some data).bind fun data3 =>
  (
  (
   bif decide (a < start1) then
   some (decide (start1 < mid))
   else
   some false).bind fun q2 =>
  bif q2 then
   (self data3 a start1 mid cmp).bind fun x15 =>
   some x15
  else
   some data3).bind fun data4 =>
  (
  bif decide (mid < end_) then
   some (decide (end_ < b))
  else
   some false).bind fun q3 =>
  bif q3 then
  (self data4 mid end_ b cmp).bind fun x16 =>
  some x16
  else
  some data4
def mF : Nat → (List App) → Int → Int → Int → ((TupT fam [.st 6,.st 6] → Option Int)) → Option (List App)
 | 0 => fun _ _ _ _ _ => none
 | n + 1 => zF (mF n)
def lC (a0 : List App) (a1 : Int) (a2 : Int) (a3 : Int) (a4 : (TupT fam [.st 6,.st 6] → Option Int)) : Option (List App):=mF 64 a0 a1 a2 a3 a4
def h369 : Hint:=(.s (.s .z (.c (.s .z (.s .z (.s (.b (.l [(10,.v (.int .i64) []),(11,.v (.int .i64) [])] [10,11,12] [(2,[(10,.v (.int .i64) [])])] .z)) (.s (.s .z (.b (.l [(0,.row (.st 6) false),(13,.v (.int .i64) [])] [0,13] [(4,[(0,.row (.st 6) false)])] .z))) .z)))) .z)) (.s (.s .z (.c (.s .z (.s .z (.s (.b (.l [(14,.v (.int .i64) []),(15,.v (.int .i64) [])] [14,15,16] [(6,[(14,.v (.int .i64) [])])] .z)) (.s (.s .z (.b (.l [(0,.row (.st 6) false),(17,.v (.int .i64) [])] [0,17] [(8,[(0,.row (.st 6) false)])] .z))) .z)))) .z)) (.s .z (.s .z (.s .z (.s (.j [20,21] [(0,[(20,.v (.int .i64) []),(21,.v (.int .i64) [])])] .z) (.s .z (.s (.b (.l [(20,.v (.int .i64) []),(21,.v (.int .i64) [])] [20,21,23] [(10,[(20,.v (.int .i64) [])])] .z)) (.s .z (.s (.j [0,185] [(0,[(0,.row (.st 6) false)])] (.s (.j [] [(0,[(185,.v .bool [])])] .z) .z)) (.s (.j [0,199] [(0,[(0,.row (.st 6) false)])] (.s (.j [] [(0,[(199,.v .bool [])])] .z) .z)) (.s (.j [] [(0,[(213,.v .bool [])])] .z) .z))))))))))))
def sp369 : Spec fam:=⟨[.row (.st 6) false,.v (.int .i64) [],.v (.int .i64) [],.v (.int .i64) [],.fn [.st 6,.st 6] (.int .i64)],[],fun a => lC a.1 a.2.1 a.2.2.1 a.2.2.2.1 a.2.2.2.2.1⟩
def HX (n : Nat) : Spec fam:=⟨[.row (.st 6) false,.v (.int .i64) [],.v (.int .i64) [],.v (.int .i64) [],.fn [.st 6,.st 6] (.int .i64)],[],fun a => mF n a.1 a.2.1 a.2.2.1 a.2.2.2.1 a.2.2.2.2.1⟩
def rf (n : Int) (cmp : (TupT fam [.st 6,.st 6] → Option Int)) (t1 : List App × Int) (t2 : List App × Int × Int) : Option ((List App × Int × Int) ⊕ ((List App × Int))) :=
 bif decide (t2.2.2 ≤ n) then
 (lC t2.1 t2.2.1 (w64 (t2.2.1 + t1.2)) t2.2.2 cmp).bind fun x2 =>
 let b:=w64 (t2.2.2 + (w64 (2 * t1.2)))
 some (.inl (x2,t2.2.2,b))
 else
 some (.inr (t2.1,t2.2.1))
def lH (n : Int) (cmp : (TupT fam [.st 6,.st 6] → Option Int)) (t1 : List App × Int) : Option ((List App × Int) ⊕ List App) :=
 bif decide (t1.2 < n) then
 (loop (rf n cmp t1) (t1.1,0,w64 (2 * t1.2))).bind fun q1 =>
 (
  let m:=w64 (q1.2 + t1.2)
  bif decide (m < n) then
  (lC q1.1 q1.2 m n cmp).bind fun x3 =>
  some x3
  else
  some q1.1).bind fun data1 =>
 some (.inl (data1,w64 (t1.2 * 2)))
 else
 some (.inr t1.1)
def lM (n : Int) (cmp : (TupT fam [.st 6,.st 6] → Option Int)) (t : List App × Int × Int) : Option ((List App × Int × Int) ⊕ ((List App × Int))) :=
 bif decide (t.2.2 ≤ n) then
 (iC t.1 t.2.1 t.2.2 cmp).bind fun x =>
 some (.inl (x,t.2.2,w64 (t.2.2 + 20)))
 else
 some (.inr (t.1,t.2.1))
def kZ (data : List App) (n : Int) (cmp : (TupT fam [.st 6,.st 6] → Option Int)) : Option (List App) :=
 (loop (lM n cmp) (data,0,20)).bind fun q =>
 (iC q.1 q.2 n cmp).bind fun x1 =>
 (loop (lH n cmp) (x1,20)).bind fun data2 =>
 some data2
def h350 : Hint:=(.s .z (.s .z (.s (.b (.l [(0,.row (.st 6) false),(7,.v (.int .i64) []),(8,.v (.int .i64) [])] [0,7,8] [(2,[(0,.row (.st 6) false),(7,.v (.int .i64) [])])] .z)) (.s .z (.b (.l [(0,.row (.st 6) false),(6,.v (.int .i64) [])] [0,6,7,8,9] [(4,[(0,.row (.st 6) false)])] (.s .z (.b (.s .z (.s (.b (.l [(0,.row (.st 6) false),(7,.v (.int .i64) []),(8,.v (.int .i64) [])] [0,7,8] [(6,[(0,.row (.st 6) false),(7,.v (.int .i64) [])])] .z)) (.s (.j [0,9] [(0,[(0,.row (.st 6) false)])] .z) .z)))))))))))
def sp350 : Spec fam:=⟨[.row (.st 6) false,.v (.int .i64) [],.fn [.st 6,.st 6] (.int .i64)],[],fun a => kZ a.1 a.2.1 a.2.2.1⟩
def lq (x : List App) (cmp : (TupT fam [.st 6,.st 6] → Option Int)) : Option (List App) :=
 (kZ x (x.length : Int) cmp).bind fun x1 =>
 some x1
def h324 : Hint:=.z
def sp324 : Spec fam:=⟨[.row (.st 6) false,.fn [.st 6,.st 6] (.int .i64)],[],fun a => lq a.1 a.2.1⟩
def sC (vals : List Int) (t : Int) : Option (Int ⊕ (Int ⊕ Unit)) :=
 bif decide (t < (vals.length : Int)) then
 (idx vals t).bind fun x =>
 bif x != 0 then
  some (.inr (.inl x))
 else
  some (.inl (w64 (t + 1)))
 else
 some (.inr (.inr ()))
def na (vals : List Int) : Option Int :=
 (loop (sC vals) 0).bind fun q0 =>
 match q0 with
 | .inl q =>
 some q
 | .inr _ =>
 some 0
def h252 : Hint:=(.s .z (.s .z (.s (.s .z (.b (.l [(8,.v (.int .i64) [])] [2,5,8] [(1,[(2,.v (.int .i64) [])]),(2,[])] .z))) .z)))
def sp252 : Spec fam:=⟨[.v (.slice (.int .i64)) []],[.v (.int .i64) []],fun a => na a.1⟩
def me (x : Int) : Option Bool :=
 some (x != x)
def h291 : Hint:=.z
def sp291 : Spec fam:=⟨[.v (.int .i64) []],[.v .bool []],fun a => me a.1⟩
def eb (x : Int) (y : Int) : Option Int :=
 (me x).bind fun xNaN =>
 (me y).bind fun yNaN =>
 bif xNaN then
 bif yNaN then
  some 0
 else
  some (-1)
 else
 bif yNaN then
  some 1
 else
  bif decide (x < y) then
  some (-1)
  else
  bif decide (x > y) then
   some 1
  else
   some 0
def h253 : Hint:=.z
def sp253 : Spec fam:=⟨[.v (.int .i64) [],.v (.int .i64) []],[.v (.int .i64) []],fun a => eb a.1 a.2.1⟩
def lv (a : App) (b : App) : Option Int :=
 (eb b.Prio a.Prio).bind fun x =>
 (eb a.Id b.Id).bind fun x1 =>
 (na [x,x1]).bind fun x2 =>
 some x2
def h325 : Hint:=.z
def sp325 : Spec fam:=⟨[.v (.st 6) [],.v (.st 6) []],[.v (.int .i64) []],fun a => lv a.1 a.2.1⟩
def tP (x2 : List App) (t1 : List Int × Int) : Option ((List Int × Int) ⊕ List Int) :=
 bif decide (t1.2 < (x2.length : Int)) then
 (inb t1.2 x2.length).bind fun i =>
 (x2[i]?).bind fun x3 =>
 (inb t1.2 t1.1.length).bind fun i1 =>
 (t1.1[i1]?).bind fun x4 =>
 some (.inl (List.set t1.1 i1 x3.Id,w64 (t1.2 + 1)))
 else
 some (.inr t1.1)
def tV (s : State) (queue : List UInt8) (t : List App × Int) : Option ((List App × Int) ⊕ List App) :=
 bif decide (t.2 < (s.Apps.length : Int)) then
 (
  (idx s.Apps t.2).bind fun x =>
  (
  (cD x).bind fun x1 =>
  bif x1 then
   some (x.Queue == queue)
  else
   some false).bind fun q =>
  bif q then
  (app 200 t.1 [x]).bind fun l =>
  some l
  else
  some t.1).bind fun l1 =>
 some (.inl (l1,w64 (t.2 + 1)))
 else
 some (.inr t.1)
def ph (s : State) (queue : List UInt8) : Option (List Int) :=
 (loop (tV s queue) ([],0)).bind fun l2 =>
 (lq l2 (fun a' => lv a'.1 a'.2.1)).bind fun x2 =>
 (mkl 8 (x2.length : Int) (x2.length : Int) 0).bind fun l3 =>
 (loop (tP x2) (l3,0)).bind fun out =>
 some out
def h283 : Hint:=(.s .z (.s .z (.s (.s .z (.b (.l [(5,.v (.slice (.st 6)) [0]),(14,.v (.int .i64) [])] [5,7,14,15,16,17,18,19,20,21,22,23,24,25,26,27,28,29,30] [(2,[(5,.v (.slice (.st 6)) [0])])] (.s .z (.s .z (.s (.j [5,7,16,17,18,19,20,21,22,23,24,25,26,27,28,29] [(0,[(5,.v (.slice (.st 6)) [0])])] (.b (.s .z (.s (.j [18,19,20,21,22,23,24,25] [(0,[(25,.v .bool [])])] .z) .z)))) .z)))))) (.s .z (.s .z (.s (.s .z (.b (.l [(8,.row (.int .i64) false),(38,.v (.int .i64) [])] [8,9,10,38] [(4,[(8,.row (.int .i64) false)])] .z))) .z))))))
def sp283 : Spec fam:=⟨[.v (.st 10) [],.v .str []],[.v (.slice (.int .i64)) [0]],fun a => ph a.1 a.2.1⟩
def uh (_a0 : Attempt) (_a1 : App) (_a2 : Int) : Option App:=none
def sp284 : Spec fam:=⟨[.rp (.st 18),.v (.st 6) [],.v (.int .i64) []],[.v (.st 6) []],fun a => uh a.1 a.2.1 a.2.2.1⟩
def fG (x : Slot) (p : Int) (p1 : Int) : Option Bool :=
 bif x.App == p then
 some (x.Prio == p1)
 else
 some false
def h327 : Hint:=.z
def sp327 : Spec fam:=⟨[.v (.st 8) [],.rp (.int .i64),.rp (.int .i64)],[.v .bool []],fun a => fG a.1 a.2.1 a.2.2.1⟩
def yl (s : List Slot) (i : Int) (v : List Slot) : Option (List Slot) :=
 (inS i (s.length : Int) s.length).bind fun p =>
 bif (v.length : Int) == 0 then
 some s
 else
 bif i == (s.length : Int) then
  (app 24 s v).bind fun l =>
  some l
 else
  none
def oD (s : List Slot) (i : Int) (v : List Slot) : Option (List Slot):=ins s i v
def h328 : Hint:=.z
def sp328 : Spec fam:=⟨[.v (.slice (.st 8)) [0],.v (.int .i64) [],.v (.slice (.st 8)) [0]],[.v (.slice (.st 8)) [0]],fun a => oD a.1 a.2.1 a.2.2.1⟩
def Is : Spec fam:=⟨[.v (.slice (.st 8)) [0],.v (.int .i64) [],.v (.slice (.st 8)) [0]],[.v (.slice (.st 8)) [0]],fun a => yl a.1 a.2.1 a.2.2.1⟩
def jF (t : Attempt) (k : Int) : Option (Int ⊕ Int) :=
 (
 bif decide (k < (t.s.Slots.length : Int)) then
  (inb k t.s.Slots.length).bind fun i =>
  (t.s.Slots[i]?).bind fun x1 =>
  some (decide (x1.Node < t.n.Id))
 else
  some false).bind fun q =>
 bif q then
 some (.inl (w64 (k + 1)))
 else
 some (.inr k)
def eu (t : Attempt) (id_ : Int) (prio : Int) : Option (Bool × Attempt) :=
 (ij t.s.Slots (fun a' => fG a'.1 id_ prio)).bind fun x =>
 bif x then
 some (false,t)
 else
 (loop (jF t) 0).bind fun k1 =>
 (oD t.s.Slots k1 [(⟨t.n.Id,id_,prio⟩ : Slot)]).bind fun x2 =>
 some (true,(⟨⟨⟨t.s.Conf.Labels,t.s.Conf.Queues⟩,t.s.Nodes,t.s.Apps,t.s.Conts,x2,t.s.Plans,t.s.Now,t.s.Epoch,t.s.Seq⟩,⟨t.n.Id,t.n.Label,t.n.Rack,⟨t.n.Cap.Mem,t.n.Cap.Cores⟩,t.n.Seen,t.n.Beat,t.n.Up⟩,⟨t.free.Mem,t.free.Cores⟩⟩ : Attempt))
def h285 : Hint:=(.s .z (.s .z (.s .z (.s (.b (.l [(7,.v (.int .i64) [])] [7,39] [(2,[(7,.v (.int .i64) [])])] (.s (.s (.j [] [(0,[(39,.v .bool [])])] .z) .z) .z))) .z))))
def sp285 : Spec fam:=⟨[.box (.st 18) [0,2,4,5,6],.v (.int .i64) [],.v (.int .i64) []],[.v .bool []],fun a => eu a.1 a.2.1 a.2.2.1⟩
def eC (first : Bool) (may : (TupT fam [.st 5,.st 4] → Option Bool)) (x2 : Int) (x5 : List Ask) (t3 : Attempt × Cont × App × Int) : Option ((Attempt × Cont × App × Int) ⊕ ((Attempt × Int × Cont) ⊕ (Attempt × Cont))) :=
 bif decide (t3.2.2.2 < (x5.length : Int)) then
 (
  (inb t3.2.2.2 x5.length).bind fun i1 =>
  (x5[i1]?).bind fun x6 =>
  (cV t3.1 t3.2.2.1 x6).bind fun due =>
  (
  (cw t3.1 x6).bind fun x7 =>
  bif ! x7 then
   some true
  else
   bif first then
   some (! due)
   else
   some false).bind fun q =>
  bif q then
  some (.inl (t3.1,t3.2.1,t3.2.2.1))
  else
  (may (x6,t3.1.n,())).bind fun r =>
  bif ! r then
   bif first == due then
   none
   else
   some (.inl (t3.1,t3.2.1,t3.2.2.1))
  else
   (cK t3.1 t3.2.2.1 x6).bind fun x8 =>
   bif ! x8 then
   some (.inl (t3.1,t3.2.1,t3.2.2.1))
   else
   (cI t3.1 x6).bind fun x9 =>
   bif x9 then
    (cj t3.1 t3.2.2.1 x6).bind fun x10 =>
    some (.inr (x10.2,1,x10.1))
   else
    (
    bif first then
     (eu t3.1 x2 x6.Prio).bind fun x11 =>
     some (x11.2,x11.1)
    else
     some (t3.1,false)).bind fun q1 =>
    bif q1.2 then
    some (.inr (q1.1,2,(⟨0,0,0,⟨0,0⟩,0,0,false,0⟩ : Cont)))
    else
    some (.inl (q1.1,t3.2.1,t3.2.2.1)) : Option ((Attempt × Cont × App) ⊕ (Attempt × Int × Cont))).bind fun q0 =>
 match q0 with
 | .inl q2 =>
  some (.inl (q2.1,q2.2.1,q2.2.2,w64 (t3.2.2.2 + 1)))
 | .inr q3 =>
  some (.inr (.inl (q3.1,q3.2.1,q3.2.2)))
 else
 some (.inr (.inr (t3.1,t3.2.1)))
def eI (first : Bool) (may : (TupT fam [.st 5,.st 4] → Option Bool)) (x1 : List Int) (t2 : Attempt × Cont × Int) : Option ((Attempt × Cont × Int) ⊕ ((Attempt × Int × Cont) ⊕ (Attempt × Cont) ⊕ (Attempt × Cont))) :=
 bif decide (t2.2.2 < (x1.length : Int)) then
 (
  (inb t2.2.2 x1.length).bind fun i =>
  (x1[i]?).bind fun x2 =>
  (ga t2.1.s x2).bind fun x3 =>
  bif ! x3.2 then
  some (.inr (.inr (t2.1,t2.2.1)))
  else
  (cJ t2.1 x3.1).bind fun x4 =>
  bif ! x4 then
   some (.inl (t2.1,t2.2.1))
  else
   (pY x3.1.Asks).bind fun x5 =>
   (loop (eC first may x2 x5) (t2.1,t2.2.1,x3.1,0)).bind fun q0 =>
   match q0 with
   | .inl q4 =>
   some (.inr (.inl (q4.1,q4.2.1,q4.2.2)))
   | .inr q5 =>
   some (.inl (q5.1,q5.2)) : Option ((Attempt × Cont) ⊕ (Attempt × Int × Cont) ⊕ (Attempt × Cont))).bind fun q0 =>
 match q0 with
 | .inl q6 =>
  some (.inl (q6.1,q6.2,w64 (t2.2.2 + 1)))
 | .inr (.inl q7) =>
  some (.inr (.inl (q7.1,q7.2.1,q7.2.2)))
 | .inr (.inr q8) =>
  some (.inr (.inr (.inl (q8.1,q8.2))))
 else
 some (.inr (.inr (.inr (t2.1,t2.2.1))))
def eD (leaves : List (List UInt8)) (first : Bool) (may : (TupT fam [.st 5,.st 4] → Option Bool)) (t1 : Attempt × Cont × Int) : Option ((Attempt × Cont × Int) ⊕ ((Attempt × Int × Cont) ⊕ (Attempt × Cont))) :=
 bif decide (t1.2.2 < (leaves.length : Int)) then
 (
  (idx leaves t1.2.2).bind fun x =>
  (ph t1.1.s x).bind fun x1 =>
  (loop (eI first may x1) (t1.1,t1.2.1,0)).bind fun q0 =>
  match q0 with
  | .inl q9 =>
  some (.inr (q9.1,q9.2.1,q9.2.2))
  | .inr (.inl q10) =>
  some (.inl (q10.1,q10.2))
  | .inr (.inr q11) =>
  some (.inl (q11.1,q11.2)) : Option ((Attempt × Cont) ⊕ (Attempt × Int × Cont))).bind fun q0 =>
 match q0 with
 | .inl q12 =>
  some (.inl (q12.1,q12.2,w64 (t1.2.2 + 1)))
 | .inr q13 =>
  some (.inr (.inl (q13.1,q13.2.1,q13.2.2)))
 else
 some (.inr (.inr (t1.1,t1.2.1)))
def co (t : Attempt) (leaves : List (List UInt8)) (first : Bool) (may : (TupT fam [.st 5,.st 4] → Option Bool)) : Option (Int × Cont × Attempt) :=
 (loop (eD leaves first may) (t,(⟨0,0,0,⟨0,0⟩,0,0,false,0⟩ : Cont),0)).bind fun q0 =>
 match q0 with
 | .inl q14 =>
 some (q14.2.1,q14.2.2,q14.1)
 | .inr q15 =>
 some (0,(⟨0,0,0,⟨0,0⟩,0,0,false,0⟩ : Cont),q15.1)
def h243 : Hint:=(.s .z (.b (.s .z (.s .z (.s (.s .z (.b (.l [(0,.box (.st 18) [0,2,4,5,6]),(9,.box (.st 7) []),(24,.v (.int .i64) [])] [0,8,9,12,14,15,16,18,19,24,25,26,27,28,29,30,31,32,33,34,35,36,37,38,39,40,41,42,43,44,45,46,47,48,49,50,51,52,53,54,55,56,57,58,66,109] [(1,[(0,.box (.st 18) [0,2,4,5,6]),(8,.v (.int .i64) []),(9,.box (.st 7) [])]),(2,[(0,.box (.st 18) [0,2,4,5,6]),(9,.box (.st 7) [])])] (.s .z (.s .z (.s (.j [0,8,9,12,14,15,16,18,19,26,27,28,29,30,31,32,33,34,35,36,37,38,39,40,41,42,43,44,45,46,47,48,49,50,51,52,53,54,55,56,57,58,66,109] [(0,[(0,.box (.st 18) [0,2,4,5,6]),(9,.box (.st 7) [])]),(1,[(0,.box (.st 18) [0,2,4,5,6]),(8,.v (.int .i64) []),(9,.box (.st 7) [])])] (.b (.s .z (.s .z (.b (.l [(0,.box (.st 18) [0,2,4,5,6]),(9,.box (.st 7) []),(35,.v (.int .i64) [])] [0,8,9,14,15,16,18,19,31,35,36,37,38,39,40,41,42,43,44,45,46,47,48,49,50,51,52,53,54,55,56,57,58,66,109] [(1,[(0,.box (.st 18) [0,2,4,5,6]),(8,.v (.int .i64) []),(9,.box (.st 7) [])]),(3,[(0,.box (.st 18) [0,2,4,5,6]),(9,.box (.st 7) [])]),(4,[(0,.box (.st 18) [0,2,4,5,6]),(9,.box (.st 7) [])])] (.s .z (.s .z (.s (.j [0,8,9,14,15,16,18,19,37,38,39,40,41,42,43,44,45,46,47,48,49,50,51,52,53,54,55,56,57,58,66,109] [(0,[(0,.box (.st 18) [0,2,4,5,6]),(9,.box (.st 7) [])]),(1,[(0,.box (.st 18) [0,2,4,5,6]),(8,.v (.int .i64) []),(9,.box (.st 7) [])]),(3,[(0,.box (.st 18) [0,2,4,5,6]),(9,.box (.st 7) [])])] (.b (.s .z (.s .z (.s .z (.s .z (.s .z (.b (.l [(0,.box (.st 18) [0,2,4,5,6]),(9,.box (.st 7) []),(15,.box (.st 6) [7,10,11,12,13]),(58,.v (.int .i64) [])] [0,8,9,15,18,19,43,46,51,54,55,58,66,109] [(1,[(0,.box (.st 18) [0,2,4,5,6]),(8,.v (.int .i64) []),(9,.box (.st 7) [])]),(6,[(0,.box (.st 18) [0,2,4,5,6]),(9,.box (.st 7) [])])] (.s .z (.s .z (.s (.j [0,8,9,15,18,19,66,109] [(0,[(0,.box (.st 18) [0,2,4,5,6]),(9,.box (.st 7) []),(15,.box (.st 6) [7,10,11,12,13])]),(1,[(0,.box (.st 18) [0,2,4,5,6]),(8,.v (.int .i64) []),(9,.box (.st 7) [])])] (.b (.s .z (.s .z (.b (.s (.j [] [(0,[(66,.v .bool [])])] .z) (.c .z (.s .z (.c .z (.s .z (.c .z (.s .z (.c .z (.s (.j [0] [(0,[(0,.box (.st 18) [0,2,4,5,6]),(109,.v .bool [])])] .z) .z)))))))))))))) .z)))))))))))) .z))))))))) .z)))))) .z)))))
def sp243 : Spec fam:=⟨[.box (.st 18) [0,2,4,5,6],.v (.slice (.str)) [],.v .bool [],.fn [.st 5,.st 4] .bool],[.v (.int .i64) [],.v (.st 7) []],fun a => co a.1 a.2.1 a.2.2.1 a.2.2.2.1⟩
def de (t : Attempt) : Option (Int × Cont × Attempt) :=
 (lD t.s t.n.Label).bind fun leaves =>
 (co t leaves true (fun a' => iM a'.1 a'.2.1)).bind fun x =>
 bif x.1 != 0 then
 some (x.1,x.2.1,x.2.2)
 else
 (co x.2.2 leaves false (fun a' => iM a'.1 a'.2.1)).bind fun x1 =>
 some (x1.1,x1.2.1,x1.2.2)
def h202 : Hint:=.z
def sp202 : Spec fam:=⟨[.box (.st 18) [0,2,4,5,6]],[.v (.int .i64) [],.v (.st 7) []],fun a => de a.1⟩
def pq (s : State) (node : Int) : Option (State × Int × Cont) :=
 (cC s []).bind fun x =>
 (gw s node).bind fun x1 =>
 (
 bif ! x1.2 then
  some true
 else
  bif ! x1.1.Up then
  some true
  else
  bif decide ((s.Conts.length : Int) ≥ 200) then
   some true
  else
   some (decide (s.Seq ≥ 1048575))).bind fun q =>
 bif q then
 some (x,0,(⟨0,0,0,⟨0,0⟩,0,0,false,0⟩ : Cont))
 else
 (pn s node).bind fun x2 =>
 (em (⟨⟨⟨x.Conf.Labels,x.Conf.Queues⟩,x.Nodes,x.Apps,x.Conts,x.Slots,x.Plans,x.Now,x.Epoch,x.Seq⟩,⟨x1.1.Id,x1.1.Label,x1.1.Rack,⟨x1.1.Cap.Mem,x1.1.Cap.Cores⟩,x1.1.Seen,x1.1.Beat,x1.1.Up⟩,⟨x2.Mem,x2.Cores⟩⟩ : Attempt)).bind fun x3 =>
 (
  bif ! x3.2.2.1 then
  (de x3.2.2.2).bind fun x4 =>
  some (x4.1,x4.2.1,x4.2.2)
  else
  some (x3.1,x3.2.1,x3.2.2.2)).bind fun q1 =>
 (cC q1.2.2.s []).bind fun x5 =>
 some (x5,q1.1,q1.2.1)
def h169 : Hint:=(.s .z (.s .z (.s .z (.s (.s (.j [] [(0,[(37,.v .bool [])])] .z) .z) (.s .z (.s .z (.s (.j [5,6,10] [(0,[(5,.v (.int .i64) []),(6,.box (.st 7) []),(10,.box (.st 18) [0,2,4,5,6])])] .z) .z)))))))
def sp169 : Spec fam:=⟨[.v (.st 10) [],.v (.int .i64) []],[.v (.st 10) [0,1001,2,1003,4,5,6],.v (.int .i64) [],.v (.st 7) []],fun a => pq a.1 a.2.1⟩
def mB (node : Int) (t : State × List Cont) : Option ((State × List Cont) ⊕ ((State × List Cont))) :=
 bif decide ((t.2.length : Int) < 3) then
 (pq t.1 node).bind fun x1 =>
 bif x1.2.1 != 1 then
  some (.inr (x1.1,t.2))
 else
  (app 72 t.2 [x1.2.2]).bind fun l =>
  some (.inl (x1.1,l))
 else
 some (.inr (t.1,t.2))
def mY (s : State) (node : Int) : Option (State × List Cont) :=
 (cC s []).bind fun x =>
 (loop (mB node) (x,[])).bind fun q =>
 some (q.1,q.2)
def h120 : Hint:=(.s .z (.s .z (.s .z (.s (.b (.l [(2,.box (.st 10) [0,1001,2,1003,4,5,6]),(6,.v (.slice (.st 7)) [0])] [2,6,7,8,9] [(2,[(2,.box (.st 10) [0,1001,2,1003,4,5,6]),(6,.v (.slice (.st 7)) [0])])] .z)) .z))))
def sp120 : Spec fam:=⟨[.v (.st 10) [],.v (.int .i64) []],[.v (.st 10) [0,1001,2,1003,4,5,6],.v (.slice (.st 7)) [0]],fun a => mY a.1 a.2.1⟩
def fE (t : Step) : Option (Output × Step) :=
 (gw t.s t.x.Id).bind fun x =>
 (
 bif x.2 then
  bif x.1.Up then
  some (t.x.Beat == x.1.Beat)
  else
  some false
 else
  some false).bind fun q =>
 bif q then
 (cm t x.1.Id).bind fun x1 =>
 some ((⟨0,[],x1,[],0⟩ : Output),t)
 else
 (pB t.s t.x.Id t.x.Beat).bind fun x2 =>
 bif x2.2 != 0 then
  none
 else
  (cm t x.1.Id).bind fun x3 =>
  (bL t.x.Ids).bind fun x4 =>
  (aY x4 (fun a' => gR a'.1 x3)).bind fun ended =>
  (cC x2.1 ended).bind fun x5 =>
  (mY x5 x.1.Id).bind fun x6 =>
  (cm (⟨⟨⟨x6.1.Conf.Labels,x6.1.Conf.Queues⟩,x6.1.Nodes,x6.1.Apps,x6.1.Conts,x6.1.Slots,x6.1.Plans,x6.1.Now,x6.1.Epoch,x6.1.Seq⟩,⟨t.x.Kind,t.x.Id,t.x.Beat,t.x.N,t.x.Text,⟨t.x.Node.Id,t.x.Node.Label,t.x.Node.Rack,⟨t.x.Node.Cap.Mem,t.x.Node.Cap.Cores⟩,t.x.Node.Seen,t.x.Node.Beat,t.x.Node.Up⟩,⟨t.x.App.Id,t.x.App.State,t.x.App.Queue,t.x.App.User,t.x.App.Prio,⟨t.x.App.Master.Mem,t.x.App.Master.Cores⟩,t.x.App.Asks,t.x.App.Seen,t.x.App.Beat,t.x.App.Grants,t.x.App.Kills,t.x.App.Told,t.x.App.Lost⟩,t.x.Asks,t.x.Ids,⟨t.x.Plan.Id,t.x.Plan.Label,t.x.Plan.From,t.x.Plan.Until,⟨t.x.Plan.Need.Mem,t.x.Plan.Need.Cores⟩⟩⟩⟩ : Step) x.1.Id).bind fun x7 =>
  some ((⟨0,[],x7,[],0⟩ : Output),(⟨⟨⟨x6.1.Conf.Labels,x6.1.Conf.Queues⟩,x6.1.Nodes,x6.1.Apps,x6.1.Conts,x6.1.Slots,x6.1.Plans,x6.1.Now,x6.1.Epoch,x6.1.Seq⟩,⟨t.x.Kind,t.x.Id,t.x.Beat,t.x.N,t.x.Text,⟨t.x.Node.Id,t.x.Node.Label,t.x.Node.Rack,⟨t.x.Node.Cap.Mem,t.x.Node.Cap.Cores⟩,t.x.Node.Seen,t.x.Node.Beat,t.x.Node.Up⟩,⟨t.x.App.Id,t.x.App.State,t.x.App.Queue,t.x.App.User,t.x.App.Prio,⟨t.x.App.Master.Mem,t.x.App.Master.Cores⟩,t.x.App.Asks,t.x.App.Seen,t.x.App.Beat,t.x.App.Grants,t.x.App.Kills,t.x.App.Told,t.x.App.Lost⟩,t.x.Asks,t.x.Ids,⟨t.x.Plan.Id,t.x.Plan.Label,t.x.Plan.From,t.x.Plan.Until,⟨t.x.Plan.Need.Mem,t.x.Plan.Need.Cores⟩⟩⟩⟩ : Step))
def h74 : Hint:=(.s .z (.s .z (.s (.s (.j [] [(0,[(36,.v .bool [])])] .z) .z) .z)))
def sp74 : Spec fam:=⟨[.box (.st 17) [0,2,4,5,6,7000]],[.v (.st 11) [1,2,3]],fun a => fE a.1⟩
def qZ (del : (TupT fam [.st 5] → Option Bool)) (t : List Ask × Int × Int) : Option ((List Ask × Int × Int) ⊕ ((List Ask × Int))) :=
 bif decide (t.2.2 < (t.1.length : Int)) then
 (
  (inb t.2.2 t.1.length).bind fun i1 =>
  (t.1[i1]?).bind fun x =>
  (del (x,())).bind fun r =>
  bif ! r then
  (inb t.2.1 t.1.length).bind fun i2 =>
  (t.1[i2]?).bind fun x1 =>
  some (List.set t.1 i2 x,w64 (t.2.1 + 1))
  else
  some (t.1,t.2.1)).bind fun q =>
 some (.inl (q.1,q.2,w64 (t.2.2 + 1)))
 else
 some (.inr (t.1,t.2.1))
def ls (s : List Ask) (del : (TupT fam [.st 5] → Option Bool)) : Option (List Ask) :=
 (iI s del).bind fun i =>
 bif i == (-1) then
 some s
 else
 (loop (qZ del) (s,i,w64 (i + 1))).bind fun q1 =>
 (inS q1.2 (q1.1.length : Int) q1.1.length).bind fun p =>
 (inS 0 q1.2 (cpy q1.1 p.1 p.2 (List.replicate p.2 (⟨0,0,⟨0,0⟩,0,0,0,0⟩ : Ask))).length).bind fun p1 =>
 some (List.take p1.2 (cpy q1.1 p.1 p.2 (List.replicate p.2 (⟨0,0,⟨0,0⟩,0,0,0,0⟩ : Ask))))
def h172 : Hint:=(.s .z (.s .z (.s .z (.s (.s .z (.b (.l [(0,.row (.st 5) false),(5,.v (.int .i64) []),(6,.v (.int .i64) [])] [0,5,6,7] [(2,[(0,.row (.st 5) false),(5,.v (.int .i64) [])])] (.s .z (.s (.j [0,5,7] [(0,[(0,.row (.st 5) false),(5,.v (.int .i64) [])])] .z) .z))))) (.s .z (.s (.r [9998]) .z))))))
def sp172 : Spec fam:=⟨[.v (.slice (.st 5)) [0],.fn [.st 5] .bool],[.v (.slice (.st 5)) [0]],fun a => ls a.1 a.2.1⟩
def tF (_a0 : Ask) (_a1 : Ask) : Option Bool:=none
def sp174 : Spec fam:=⟨[.v (.st 5) [],.rp (.st 5)],[.v .bool []],fun a => tF a.1 a.2.1⟩
def zH (s : List Ask) (i : Int) (v : List Ask) : Option (List Ask) :=
 (inS i (s.length : Int) s.length).bind fun p =>
 bif (v.length : Int) == 0 then
 some s
 else
 bif i == (s.length : Int) then
  (app 64 s v).bind fun l =>
  some l
 else
  none
def pV (s : List Ask) (i : Int) (v : List Ask) : Option (List Ask):=ins s i v
def h175 : Hint:=.z
def sp175 : Spec fam:=⟨[.v (.slice (.st 5)) [0],.v (.int .i64) [],.v (.slice (.st 5)) [0]],[.v (.slice (.st 5)) [0]],fun a => pV a.1 a.2.1 a.2.2.1⟩
def Iu : Spec fam:=⟨[.v (.slice (.st 5)) [0],.v (.int .i64) [],.v (.slice (.st 5)) [0]],[.v (.slice (.st 5)) [0]],fun a => zH a.1 a.2.1 a.2.2.1⟩
def wD (a : Ask) (out : List Ask) (k : Int) : Option (Int ⊕ Int) :=
 (
 bif decide (k < (out.length : Int)) then
  (inb k out.length).bind fun i =>
  (out[i]?).bind fun x1 =>
  some (decide (x1.Prio < a.Prio))
 else
  some false).bind fun q =>
 bif q then
 some (.inl (w64 (k + 1)))
 else
 some (.inr k)
def qG (l : List Ask) (a : Ask) : Option (List Ask × Int) :=
 (qP l).bind fun x =>
 (ls x (fun a' => tF a'.1 a)).bind fun out =>
 bif a.Count == 0 then
 some (out,0)
 else
 bif decide ((out.length : Int) ≥ 8) then
  some ([],4)
 else
  (loop (wD a out) 0).bind fun k1 =>
  (pV out k1 [(⟨a.Prio,a.Label,⟨a.Size.Mem,a.Size.Cores⟩,a.Count,a.Node,a.Rack,0⟩ : Ask)]).bind fun x2 =>
  some (x2,0)
def h129 : Hint:=(.s .z (.s .z (.s .z (.s .z (.s .z (.s .z (.s (.b (.l [(7,.v (.int .i64) [])] [7,33] [(2,[(7,.v (.int .i64) [])])] (.s (.s (.j [] [(0,[(33,.v .bool [])])] .z) .z) .z))) .z)))))))
def sp129 : Spec fam:=⟨[.v (.slice (.st 5)) [],.v (.st 5) []],[.v (.slice (.st 5)) [0],.v (.int .i64) []],fun a => qG a.1 a.2.1⟩
def pm (a : App) : Option (List Ask) :=
 (qG [] (⟨0,0,⟨a.Master.Mem,a.Master.Cores⟩,1,(-1),(-1),0⟩ : Ask)).bind fun x =>
 some x.1
def h107 : Hint:=.z
def sp107 : Spec fam:=⟨[.v (.st 6) []],[.v (.slice (.st 5)) [0]],fun a => pm a.1⟩
def bR (n : Int) (least : Int) (most : Int) : Option Bool :=
 bif decide (n ≥ least) then
 some (decide (n ≤ most))
 else
 some false
def h121 : Hint:=.z
def sp121 : Spec fam:=⟨[.v (.int .i64) [],.v (.int .i64) [],.v (.int .i64) []],[.v .bool []],fun a => bR a.1 a.2.1 a.2.2.1⟩
def ur (l : List App) (t : Int × Int) : Option ((Int × Int) ⊕ Int) :=
 bif decide (t.2 < (l.length : Int)) then
 (
  (idx l t.2).bind fun x =>
  (cD x).bind fun x1 =>
  bif x1 then
  some (w64 (t.1 + 1))
  else
  some t.1).bind fun n =>
 some (.inl (n,w64 (t.2 + 1)))
 else
 some (.inr t.1)
def rt (l : List App) : Option Int :=
 (loop (ur l) (0,0)).bind fun n1 =>
 some n1
def h122 : Hint:=(.s .z (.s .z (.s (.s .z (.b (.l [(3,.v (.int .i64) []),(8,.v (.int .i64) [])] [3,5,8] [(2,[(3,.v (.int .i64) [])])] (.s .z (.s .z (.s (.j [3,5] [(0,[(3,.v (.int .i64) [])])] .z) .z)))))) .z)))
def sp122 : Spec fam:=⟨[.v (.slice (.st 6)) []],[.v (.int .i64) []],fun a => rt a.1⟩
def uu (a : App) : Option Bool :=
 (cD a).bind fun x =>
 some (! x)
def h123 : Hint:=.z
def sp123 : Spec fam:=⟨[.v (.st 6) []],[.v .bool []],fun a => uu a.1⟩
def BP (_a0 : List App) (_a1 : Int) (_a2 : Int) : Option (List App):=none
def sp124 : Spec fam:=⟨[.v (.slice (.st 6)) [],.v (.int .i64) [],.v (.int .i64) []],[.v (.slice (.st 6)) []],fun a => BP a.1 a.2.1 a.2.2.1⟩
def nf (s : State) (a : App) : Option (State × Int) :=
 (lB s).bind fun x =>
 (
 (bR a.Id 0 9999).bind fun x1 =>
 bif ! x1 then
  some true
 else
  (bR a.User 0 99).bind fun x2 =>
  bif ! x2 then
  some true
  else
  (bR a.Prio 0 9).bind fun x3 =>
  bif ! x3 then
   some true
  else
   (bR a.Master.Mem 1 1073741824).bind fun x4 =>
   bif ! x4 then
   some true
   else
   (bR a.Master.Cores 1 1073741824).bind fun x5 =>
   some (! x5)).bind fun q =>
 bif q then
 some (x,1)
 else
 (mq x a.Id).bind fun x6 =>
 bif decide (x6 ≥ 0) then
  some (x,7)
 else
  (rt x.Apps).bind fun x7 =>
  bif decide (x7 ≥ 16) then
  some (x,4)
  else
  (nT x.Conf a.Queue).bind fun x8 =>
  bif ! x8 then
   some (x,19)
  else
   (mG x.Apps (fun a' => uu a'.1)).bind fun k =>
   (
   bif decide ((x.Apps.length : Int) ≥ 16) then
    some (decide (k ≥ 0))
   else
    some false).bind fun q1 =>
   bif q1 then
   none
   else
   (pm (⟨a.Id,1,a.Queue,a.User,a.Prio,⟨a.Master.Mem,a.Master.Cores⟩,[],x.Now,0,[],[],[],[]⟩ : App)).bind fun x9 =>
   (qv x (⟨a.Id,1,a.Queue,a.User,a.Prio,⟨a.Master.Mem,a.Master.Cores⟩,x9,x.Now,0,[],[],[],[]⟩ : App)).bind fun x10 =>
   some (x10,0)
def h75 : Hint:=(.s .z (.s .z (.s (.b (.s (.j [] [(0,[(10,.v .bool [])])] .z) .z)) (.s (.s .z (.s (.j [] [(0,[(73,.v .bool [])])] .z) .z)) .z))))
def sp75 : Spec fam:=⟨[.v (.st 10) [],.v (.st 6) []],[.v (.st 10) [0,1,2,3,4,5,6],.v (.int .i64) []],fun a => nf a.1 a.2.1⟩
def ke (t : Step) (x : Int) (t2 : List Cont × Int) : Option ((List Cont × Int) ⊕ List Cont) :=
 bif decide (t2.2 < (t.s.Conts.length : Int)) then
 (
  (idx t.s.Conts t2.2).bind fun x1 =>
  bif x1.Id == x then
  (app 72 t2.1 [x1]).bind fun l =>
  some l
  else
  some t2.1).bind fun out =>
 some (.inl (out,w64 (t2.2 + 1)))
 else
 some (.inr t2.1)
def f_ (t : Step) (ids : List Int) (t1 : List Cont × Int) : Option ((List Cont × Int) ⊕ List Cont) :=
 bif decide (t1.2 < (ids.length : Int)) then
 (idx ids t1.2).bind fun x =>
 (loop (ke t x) (t1.1,0)).bind fun out1 =>
 some (.inl (out1,w64 (t1.2 + 1)))
 else
 some (.inr t1.1)
def b8 (t : Step) (ids : List Int) : Option (List Cont) :=
 (loop (f_ t ids) ([],0)).bind fun out2 =>
 some out2
def h126 : Hint:=(.s .z (.s .z (.s (.s .z (.b (.l [(5,.v (.slice (.st 7)) [0]),(12,.v (.int .i64) [])] [5,7,9,12,13,14,15,16,17,18,19,20,21,22] [(2,[(5,.v (.slice (.st 7)) [0])])] (.s .z (.s .z (.s (.b (.s .z (.s .z (.b (.l [(5,.v (.slice (.st 7)) [0]),(22,.v (.int .i64) [])] [5,9,22] [(4,[(5,.v (.slice (.st 7)) [0])])] (.s .z (.s .z (.s (.j [5,9] [(0,[(5,.v (.slice (.st 7)) [0])])] .z) .z)))))))) .z)))))) .z)))
def sp126 : Spec fam:=⟨[.rp (.st 17),.v (.slice (.int .i64)) []],[.v (.slice (.st 7)) [0]],fun a => b8 a.1 a.2.1⟩
def jc (t : Step) (app_ : Int) (t1 : List Int × Int) : Option ((List Int × Int) ⊕ List Int) :=
 bif decide (t1.2 < (t.s.Conts.length : Int)) then
 (
  (idx t.s.Conts t1.2).bind fun x =>
  (
  bif x.App == app_ then
   some (x.Notice != 0)
  else
   some false).bind fun q =>
  bif q then
  (app 8 t1.1 [x.Id]).bind fun l =>
  some l
  else
  some t1.1).bind fun out =>
 some (.inl (out,w64 (t1.2 + 1)))
 else
 some (.inr t1.1)
def cx (t : Step) (app_ : Int) : Option (List Int) :=
 (loop (jc t app_) ([],0)).bind fun out1 =>
 some out1
def h127 : Hint:=(.s .z (.s .z (.s (.s .z (.b (.l [(5,.v (.slice (.int .i64)) [0]),(14,.v (.int .i64) [])] [5,7,14,26] [(2,[(5,.v (.slice (.int .i64)) [0])])] (.s .z (.s .z (.s (.j [5,7,26] [(0,[(5,.v (.slice (.int .i64)) [0])])] (.b (.s .z (.s (.j [] [(0,[(26,.v .bool [])])] .z) .z)))) .z)))))) .z)))
def sp127 : Spec fam:=⟨[.rp (.st 17),.v (.int .i64) []],[.v (.slice (.int .i64)) [0]],fun a => cx a.1 a.2.1⟩
def bu (s : List Int) (f : (TupT fam [.int .i64] → Option Bool)) : Option Bool :=
 (a7 s f).bind fun x =>
 some (decide (x ≥ 0))
def h205 : Hint:=.z
def sp205 : Spec fam:=⟨[.v (.slice (.int .i64)) [],.fn [.int .i64] .bool],[.v .bool []],fun a => bu a.1 a.2.1⟩
def sN (n : Int) (p : Int) (p1 : Int) : Option Bool :=
 bif decide (n < p) then
 some true
 else
 some (decide (n > p1))
def h206 : Hint:=.z
def sp206 : Spec fam:=⟨[.v (.int .i64) [],.rp (.int .i64),.rp (.int .i64)],[.v .bool []],fun a => sN a.1 a.2.1 a.2.2.1⟩
def d4 (least : Int) (most : Int) (l : List Int) : Option Bool :=
 (bu l (fun a' => sN a'.1 least most)).bind fun x =>
 some (! x)
def h171 : Hint:=.z
def sp171 : Spec fam:=⟨[.v (.int .i64) [],.v (.int .i64) [],.v (.slice (.int .i64)) []],[.v .bool []],fun a => d4 a.1 a.2.1 a.2.2.1⟩
def pj (a : Ask) (labels : Int) : Option Int :=
 (
 (d4 0 9 [a.Prio]).bind fun x =>
 bif ! x then
  some true
 else
  (d4 0 (w64 (labels - 1)) [a.Label]).bind fun x1 =>
  bif ! x1 then
  some true
  else
  (d4 1 1073741824 [a.Size.Mem,a.Size.Cores]).bind fun x2 =>
  bif ! x2 then
   some true
  else
   (d4 (-1) 999 [a.Node]).bind fun x3 =>
   bif ! x3 then
   some true
   else
   (d4 (-1) 99 [a.Rack]).bind fun x4 =>
   bif ! x4 then
    some true
   else
    bif a.Node != (-1) then
    some (a.Rack == (-1))
    else
    some false).bind fun q =>
 bif q then
 some 1
 else
 (d4 0 50 [a.Count]).bind fun x5 =>
 bif ! x5 then
  some 4
 else
  some 0
def h128 : Hint:=(.s .z (.s (.b (.s (.j [] [(0,[(5,.v .bool [])])] .z) .z)) .z))
def sp128 : Spec fam:=⟨[.v (.st 5) [],.v (.int .i64) []],[.v (.int .i64) []],fun a => pj a.1 a.2.1⟩
def gP (_a0 : Cont) (_a1 : Int) (_a2 : App) : Option Bool:=none
def sp176 : Spec fam:=⟨[.v (.st 7) [],.rp (.int .i64),.rp (.st 6)],[.v .bool []],fun a => gP a.1 a.2.1 a.2.2.1⟩
def gN (_a0 : Int) (_a1 : Int) : Option Bool:=none
def sp177 : Spec fam:=⟨[.v (.int .i64) [],.rp (.int .i64)],[.v .bool []],fun a => gN a.1 a.2.1⟩
def gh (ids : List Int) (t1 : Step × App × Int) : Option ((Step × App × Int) ⊕ ((Step × App))) :=
 bif decide (t1.2.2 < (ids.length : Int)) then
 (
  (idx ids t1.2.2).bind fun x =>
  (gb t1.1.s.Conts (fun a' => gP a'.1 x t1.2.1)).bind fun i =>
  bif decide (i ≥ 0) then
  (ie t1.1.s.Conts i (w64 (i + 1))).bind fun x1 =>
  (aY t1.2.1.Grants (fun a' => gN a'.1 x)).bind fun x2 =>
  some ((⟨⟨⟨t1.1.s.Conf.Labels,t1.1.s.Conf.Queues⟩,t1.1.s.Nodes,t1.1.s.Apps,x1,t1.1.s.Slots,t1.1.s.Plans,t1.1.s.Now,t1.1.s.Epoch,t1.1.s.Seq⟩,⟨t1.1.x.Kind,t1.1.x.Id,t1.1.x.Beat,t1.1.x.N,t1.1.x.Text,⟨t1.1.x.Node.Id,t1.1.x.Node.Label,t1.1.x.Node.Rack,⟨t1.1.x.Node.Cap.Mem,t1.1.x.Node.Cap.Cores⟩,t1.1.x.Node.Seen,t1.1.x.Node.Beat,t1.1.x.Node.Up⟩,⟨t1.1.x.App.Id,t1.1.x.App.State,t1.1.x.App.Queue,t1.1.x.App.User,t1.1.x.App.Prio,⟨t1.1.x.App.Master.Mem,t1.1.x.App.Master.Cores⟩,t1.1.x.App.Asks,t1.1.x.App.Seen,t1.1.x.App.Beat,t1.1.x.App.Grants,t1.1.x.App.Kills,t1.1.x.App.Told,t1.1.x.App.Lost⟩,t1.1.x.Asks,t1.1.x.Ids,⟨t1.1.x.Plan.Id,t1.1.x.Plan.Label,t1.1.x.Plan.From,t1.1.x.Plan.Until,⟨t1.1.x.Plan.Need.Mem,t1.1.x.Plan.Need.Cores⟩⟩⟩⟩ : Step),(⟨t1.2.1.Id,t1.2.1.State,t1.2.1.Queue,t1.2.1.User,t1.2.1.Prio,⟨t1.2.1.Master.Mem,t1.2.1.Master.Cores⟩,t1.2.1.Asks,t1.2.1.Seen,t1.2.1.Beat,x2,t1.2.1.Kills,t1.2.1.Told,t1.2.1.Lost⟩ : App))
  else
  some (t1.1,t1.2.1)).bind fun q =>
 some (.inl (q.1,q.2,w64 (t1.2.2 + 1)))
 else
 some (.inr (t1.1,t1.2.1))
def fx (t : Step) (a : App) (ids : List Int) : Option (App × Step) :=
 (loop (gh ids) (t,a,0)).bind fun q1 =>
 some (q1.2,q1.1)
def h130 : Hint:=(.s .z (.s (.s .z (.b (.l [(0,.box (.st 17) [0,2,4,5,6]),(4,.box (.st 6) [7,10,11,12,13]),(12,.v (.int .i64) [])] [0,1,4,8,9,12] [(2,[(0,.box (.st 17) [0,2,4,5,6]),(4,.box (.st 6) [7,10,11,12,13])])] (.s .z (.s .z (.s (.j [0,4,8,9] [(0,[(0,.box (.st 17) [0,2,4,5,6]),(4,.box (.st 6) [7,10,11,12,13])])] .z) .z)))))) .z))
def sp130 : Spec fam:=⟨[.box (.st 17) [0,2,4,5,6],.v (.st 6) [7,10,11,12,13],.v (.slice (.int .i64)) []],[.v (.st 6) [7,10,11,12,13]],fun a => fx a.1 a.2.1 a.2.2.1⟩
def fg (t : Step) (t1 : App × Int) : Option ((App × Int) ⊕ App) :=
 bif decide (t1.2 < (t.x.Asks.length : Int)) then
 (idx t.x.Asks t1.2).bind fun x3 =>
 (pj x3 (t.s.Conf.Labels.length : Int)).bind fun e =>
 (
  bif e == 0 then
  (qG t1.1.Asks x3).bind fun x4 =>
  some ((⟨t1.1.Id,t1.1.State,t1.1.Queue,t1.1.User,t1.1.Prio,⟨t1.1.Master.Mem,t1.1.Master.Cores⟩,x4.1,t1.1.Seen,t1.1.Beat,t1.1.Grants,t1.1.Kills,t1.1.Told,t1.1.Lost⟩ : App),x4.2)
  else
  some (t1.1,e)).bind fun q =>
 bif q.2 != 0 then
  none
 else
  some (.inl (q.1,w64 (t1.2 + 1)))
 else
 some (.inr t1.1)
def ep (t : Step) : Option (Output × Step) :=
 (ga t.s t.x.Id).bind fun x =>
 bif ! x.2 then
 none
 else
 bif x.1.State != 2 then
  none
 else
  bif decide (t.x.Beat < x.1.Beat) then
  none
  else
  bif decide ((w64 (t.x.Beat - x.1.Beat)) > 1) then
   none
  else
   bif t.x.Beat == x.1.Beat then
   (b8 t x.1.Told).bind fun x1 =>
   (cx t x.1.Id).bind fun x2 =>
   some ((⟨0,x1,x2,x.1.Lost,0⟩ : Output),t)
   else
   (loop (fg t) (x.1,0)).bind fun a =>
   (fx t a t.x.Ids).bind fun x5 =>
   (b8 x5.2 x5.1.Grants).bind fun x6 =>
   (cx x5.2 x5.1.Id).bind fun x7 =>
   (bL x5.1.Kills).bind fun x8 =>
   (qr x5.2.s (⟨x5.1.Id,x5.1.State,x5.1.Queue,x5.1.User,x5.1.Prio,⟨x5.1.Master.Mem,x5.1.Master.Cores⟩,x5.1.Asks,x5.2.s.Now,w64 (x5.1.Beat + 1),[],[],x5.1.Grants,x5.1.Kills⟩ : App)).bind fun x9 =>
   some ((⟨0,x6,x7,x8,0⟩ : Output),(⟨⟨⟨x9.Conf.Labels,x9.Conf.Queues⟩,x9.Nodes,x9.Apps,x9.Conts,x9.Slots,x9.Plans,x9.Now,x9.Epoch,x9.Seq⟩,⟨x5.2.x.Kind,x5.2.x.Id,x5.2.x.Beat,x5.2.x.N,x5.2.x.Text,⟨x5.2.x.Node.Id,x5.2.x.Node.Label,x5.2.x.Node.Rack,⟨x5.2.x.Node.Cap.Mem,x5.2.x.Node.Cap.Cores⟩,x5.2.x.Node.Seen,x5.2.x.Node.Beat,x5.2.x.Node.Up⟩,⟨x5.2.x.App.Id,x5.2.x.App.State,x5.2.x.App.Queue,x5.2.x.App.User,x5.2.x.App.Prio,⟨x5.2.x.App.Master.Mem,x5.2.x.App.Master.Cores⟩,x5.2.x.App.Asks,x5.2.x.App.Seen,x5.2.x.App.Beat,x5.2.x.App.Grants,x5.2.x.App.Kills,x5.2.x.App.Told,x5.2.x.App.Lost⟩,x5.2.x.Asks,x5.2.x.Ids,⟨x5.2.x.Plan.Id,x5.2.x.Plan.Label,x5.2.x.Plan.From,x5.2.x.Plan.Until,⟨x5.2.x.Plan.Need.Mem,x5.2.x.Plan.Need.Cores⟩⟩⟩⟩ : Step))
def h76 : Hint:=(.s .z (.s .z (.s .z (.s (.s .z (.b (.l [(3,.box (.st 6) [7,10,11,12,13]),(78,.v (.int .i64) [])] [3,6,7,20,78] [(3,[(3,.box (.st 6) [7,10,11,12,13])])] (.s .z (.s .z (.s (.b (.s .z (.s .z (.s (.j [3,7] [(0,[(3,.box (.st 6) [7,10,11,12,13]),(7,.v (.int .i64) [])])] .z) .z)))) .z)))))) .z))))
def sp76 : Spec fam:=⟨[.box (.st 17) [0,2,4,5,6,7000]],[.v (.st 11) [1,2,3]],fun a => ep a.1⟩
def wO (_a0 : Step) (_a1 : Int) : Option Output:=none
def sp77 : Spec fam:=⟨[.rp (.st 17),.v (.int .i64) []],[.v (.st 11) []],fun a => wO a.1 a.2.1⟩
def ru (s : State) (t : List Int × Int) : Option ((List Int × Int) ⊕ List Int) :=
 bif decide (t.2 < (s.Nodes.length : Int)) then
 (
  (idx s.Nodes t.2).bind fun x =>
  (
  bif x.Up then
   some (decide ((w64 (s.Now - x.Seen)) ≥ 10))
  else
   some false).bind fun q =>
  bif q then
  (app 8 t.1 [x.Id]).bind fun l =>
  some l
  else
  some t.1).bind fun out =>
 some (.inl (out,w64 (t.2 + 1)))
 else
 some (.inr t.1)
def lF (s : State) : Option (List Int) :=
 (loop (ru s) ([],0)).bind fun out1 =>
 some out1
def h133 : Hint:=(.s .z (.s .z (.s (.s .z (.b (.l [(3,.v (.slice (.int .i64)) [0]),(9,.v (.int .i64) [])] [3,5,9,22] [(2,[(3,.v (.slice (.int .i64)) [0])])] (.s .z (.s .z (.s (.j [3,5,22] [(0,[(3,.v (.slice (.int .i64)) [0])])] (.b (.s .z (.s (.j [] [(0,[(22,.v .bool [])])] .z) .z)))) .z)))))) .z)))
def sp133 : Spec fam:=⟨[.v (.st 10) []],[.v (.slice (.int .i64)) [0]],fun a => lF a.1⟩
def jV (del : (TupT fam [.st 8] → Option Bool)) (t : List Slot × Int × Int) : Option ((List Slot × Int × Int) ⊕ ((List Slot × Int))) :=
 bif decide (t.2.2 < (t.1.length : Int)) then
 (
  (inb t.2.2 t.1.length).bind fun i1 =>
  (t.1[i1]?).bind fun x =>
  (del (x,())).bind fun r =>
  bif ! r then
  (inb t.2.1 t.1.length).bind fun i2 =>
  (t.1[i2]?).bind fun x1 =>
  some (List.set t.1 i2 x,w64 (t.2.1 + 1))
  else
  some (t.1,t.2.1)).bind fun q =>
 some (.inl (q.1,q.2,w64 (t.2.2 + 1)))
 else
 some (.inr (t.1,t.2.1))
def jO (s : List Slot) (del : (TupT fam [.st 8] → Option Bool)) : Option (List Slot) :=
 (j_ s del).bind fun i =>
 bif i == (-1) then
 some s
 else
 (loop (jV del) (s,i,w64 (i + 1))).bind fun q1 =>
 (inS q1.2 (q1.1.length : Int) q1.1.length).bind fun p =>
 (inS 0 q1.2 (cpy q1.1 p.1 p.2 (List.replicate p.2 (⟨0,0,0⟩ : Slot))).length).bind fun p1 =>
 some (List.take p1.2 (cpy q1.1 p.1 p.2 (List.replicate p.2 (⟨0,0,0⟩ : Slot))))
def h158 : Hint:=(.s .z (.s .z (.s .z (.s (.s .z (.b (.l [(0,.row (.st 8) false),(5,.v (.int .i64) []),(6,.v (.int .i64) [])] [0,5,6,7] [(2,[(0,.row (.st 8) false),(5,.v (.int .i64) [])])] (.s .z (.s (.j [0,5,7] [(0,[(0,.row (.st 8) false),(5,.v (.int .i64) [])])] .z) .z))))) (.s .z (.s (.r [9998]) .z))))))
def sp158 : Spec fam:=⟨[.v (.slice (.st 8)) [0],.fn [.st 8] .bool],[.v (.slice (.st 8)) [0]],fun a => jO a.1 a.2.1⟩
def gS (x : Slot) (p : Int) : Option Bool :=
 some (x.Node == p)
def h178 : Hint:=.z
def sp178 : Spec fam:=⟨[.v (.st 8) [],.rp (.int .i64)],[.v .bool []],fun a => gS a.1 a.2.1⟩
def la (t : Step) (id_ : Int) (t1 : List Node × Int) : Option ((List Node × Int) ⊕ List Node) :=
 bif decide (t1.2 < (t.s.Nodes.length : Int)) then
 (
  (inb t1.2 t1.1.length).bind fun i =>
  (t1.1[i]?).bind fun x =>
  bif x.Id == id_ then
  (inb t1.2 t1.1.length).bind fun i1 =>
  (t1.1[i1]?).bind fun x1 =>
  some (List.set t1.1 i1 (⟨x1.Id,x1.Label,x1.Rack,⟨x1.Cap.Mem,x1.Cap.Cores⟩,x1.Seen,x1.Beat,false⟩ : Node))
  else
  some t1.1).bind fun q =>
 some (.inl (q,w64 (t1.2 + 1)))
 else
 some (.inr t1.1)
def fy (t : Step) (id_ : Int) : Option Step :=
 (cm t id_).bind fun here =>
 (loop (la t id_) (t.s.Nodes,0)).bind fun q1 =>
 (jO t.s.Slots (fun a' => gS a'.1 id_)).bind fun x2 =>
 (cC (⟨⟨t.s.Conf.Labels,t.s.Conf.Queues⟩,q1,t.s.Apps,t.s.Conts,x2,t.s.Plans,t.s.Now,t.s.Epoch,t.s.Seq⟩ : State) here).bind fun x3 =>
 some (⟨⟨⟨x3.Conf.Labels,x3.Conf.Queues⟩,x3.Nodes,x3.Apps,x3.Conts,x3.Slots,x3.Plans,x3.Now,x3.Epoch,x3.Seq⟩,⟨t.x.Kind,t.x.Id,t.x.Beat,t.x.N,t.x.Text,⟨t.x.Node.Id,t.x.Node.Label,t.x.Node.Rack,⟨t.x.Node.Cap.Mem,t.x.Node.Cap.Cores⟩,t.x.Node.Seen,t.x.Node.Beat,t.x.Node.Up⟩,⟨t.x.App.Id,t.x.App.State,t.x.App.Queue,t.x.App.User,t.x.App.Prio,⟨t.x.App.Master.Mem,t.x.App.Master.Cores⟩,t.x.App.Asks,t.x.App.Seen,t.x.App.Beat,t.x.App.Grants,t.x.App.Kills,t.x.App.Told,t.x.App.Lost⟩,t.x.Asks,t.x.Ids,⟨t.x.Plan.Id,t.x.Plan.Label,t.x.Plan.From,t.x.Plan.Until,⟨t.x.Plan.Need.Mem,t.x.Plan.Need.Cores⟩⟩⟩⟩ : Step)
def h134 : Hint:=(.s .z (.s .z (.s (.s .z (.b (.l [(13,.row (.st 4) false),(15,.v (.int .i64) [])] [5,13,15] [(2,[(13,.row (.st 4) false)])] (.s .z (.s .z (.s (.j [5,13] [(0,[(13,.row (.st 4) false)])] .z) .z)))))) .z)))
def sp134 : Spec fam:=⟨[.box (.st 17) [0,2,4,5,6],.v (.int .i64) []],[],fun a => fy a.1 a.2.1⟩
def sH (s : State) (t : List Ent2_IntInt × List Int × Int) : Option ((List Ent2_IntInt × List Int × Int) ⊕ List Int) :=
 bif decide (t.2.2 < (s.Apps.length : Int)) then
 (
  (idx s.Apps t.2.2).bind fun x =>
  let e:=mget (fun x1 => x.Id == x1.k) t.1 (⟨x.Id,0⟩ : Ent2_IntInt)
  (
  bif x.State == 2 then
   let e1:=mget (fun x3 => x.Id == x3.k) (mput (fun x2 => x.Id == x2.k) t.1 (⟨x.Id,w64 (e.v + 1)⟩ : Ent2_IntInt)) (⟨x.Id,0⟩ : Ent2_IntInt)
   bif e1.v == 1 then
   some (decide ((w64 (s.Now - x.Seen)) ≥ 15))
   else
   some false
  else
   some false).bind fun q =>
  bif q then
  (app 8 t.2.1 [x.Id]).bind fun l =>
  some (mput (fun x2 => x.Id == x2.k) t.1 (⟨x.Id,w64 (e.v + 1)⟩ : Ent2_IntInt),l)
  else
  some (mput (fun x2 => x.Id == x2.k) t.1 (⟨x.Id,w64 (e.v + 1)⟩ : Ent2_IntInt),t.2.1)).bind fun q1 =>
 some (.inl (q1.1,q1.2,w64 (t.2.2 + 1)))
 else
 some (.inr t.2.1)
def m8 (s : State) : Option (List Int) :=
 (loop (sH s) ([],[],0)).bind fun out =>
 some out
def h135 : Hint:=(.s .z (.s .z (.s .z (.s (.s .z (.b (.l [(3,.row (.st 502) false),(4,.v (.slice (.int .i64)) [0]),(11,.v (.int .i64) [])] [3,4,6,7,11,37] [(2,[(4,.v (.slice (.int .i64)) [0])])] (.s .z (.s .z (.s (.j [3,4,6,37] [(0,[(3,.row (.st 502) false),(4,.v (.slice (.int .i64)) [0])])] (.b (.s .z (.s .z (.s (.j [] [(0,[(37,.v .bool [])])] .z) .z))))) .z)))))) .z))))
def sp135 : Spec fam:=⟨[.v (.st 10) []],[.v (.slice (.int .i64)) [0]],fun a => m8 a.1⟩
def sU (_a0 : Step) (_a1 : Int) : Option (List Int):=none
def sp136 : Spec fam:=⟨[.rp (.st 17),.v (.int .i64) []],[.v (.slice (.int .i64)) []],fun a => sU a.1 a.2.1⟩
def j8 (s : List Plan) (f : (TupT fam [.st 9] → Option Bool)) (t : Int) : Option (Int ⊕ (Int ⊕ Unit)) :=
 bif decide (t < (s.length : Int)) then
 (idx s t).bind fun x =>
 (f (x,())).bind fun r =>
 bif r then
  some (.inr (.inl t))
 else
  some (.inl (w64 (t + 1)))
 else
 some (.inr (.inr ()))
def jI (s : List Plan) (f : (TupT fam [.st 9] → Option Bool)) : Option Int :=
 (loop (j8 s f) 0).bind fun q0 =>
 match q0 with
 | .inl q =>
 some q
 | .inr _ =>
 some (-1)
def h141 : Hint:=(.s .z (.s (.s .z (.b (.l [(8,.v (.int .i64) [])] [4,5,8] [(1,[(4,.v (.int .i64) [])]),(2,[])] .z))) .z))
def sp141 : Spec fam:=⟨[.v (.slice (.st 9)) [],.fn [.st 9] .bool],[.v (.int .i64) []],fun a => jI a.1 a.2.1⟩
def qH (del : (TupT fam [.st 9] → Option Bool)) (t : List Plan × Int × Int) : Option ((List Plan × Int × Int) ⊕ ((List Plan × Int))) :=
 bif decide (t.2.2 < (t.1.length : Int)) then
 (
  (inb t.2.2 t.1.length).bind fun i1 =>
  (t.1[i1]?).bind fun x =>
  (del (x,())).bind fun r =>
  bif ! r then
  (inb t.2.1 t.1.length).bind fun i2 =>
  (t.1[i2]?).bind fun x1 =>
  some (List.set t.1 i2 x,w64 (t.2.1 + 1))
  else
  some (t.1,t.2.1)).bind fun q =>
 some (.inl (q.1,q.2,w64 (t.2.2 + 1)))
 else
 some (.inr (t.1,t.2.1))
def jJ (s : List Plan) (del : (TupT fam [.st 9] → Option Bool)) : Option (List Plan) :=
 (jI s del).bind fun i =>
 bif i == (-1) then
 some s
 else
 (loop (qH del) (s,i,w64 (i + 1))).bind fun q1 =>
 (inS q1.2 (q1.1.length : Int) q1.1.length).bind fun p =>
 (inS 0 q1.2 (cpy q1.1 p.1 p.2 (List.replicate p.2 (⟨0,0,0,0,⟨0,0⟩⟩ : Plan))).length).bind fun p1 =>
 some (List.take p1.2 (cpy q1.1 p.1 p.2 (List.replicate p.2 (⟨0,0,0,0,⟨0,0⟩⟩ : Plan))))
def h137 : Hint:=(.s .z (.s .z (.s .z (.s (.s .z (.b (.l [(0,.row (.st 9) false),(5,.v (.int .i64) []),(6,.v (.int .i64) [])] [0,5,6,7] [(2,[(0,.row (.st 9) false),(5,.v (.int .i64) [])])] (.s .z (.s (.j [0,5,7] [(0,[(0,.row (.st 9) false),(5,.v (.int .i64) [])])] .z) .z))))) (.s .z (.s (.r [9998]) .z))))))
def sp137 : Spec fam:=⟨[.v (.slice (.st 9)) [0],.fn [.st 9] .bool],[.v (.slice (.st 9)) [0]],fun a => jJ a.1 a.2.1⟩
def ud (_a0 : Plan) (_a1 : Bool) : Option Bool:=none
def sp138 : Spec fam:=⟨[.v (.st 9) [],.rp .bool],[.v .bool []],fun a => ud a.1 a.2.1⟩
def mS (x : Cont) (p : Cont) : Option Bool :=
 some (x.Id == p.Id)
def h211 : Hint:=.z
def sp211 : Spec fam:=⟨[.v (.st 7) [],.rp (.st 7)],[.v .bool []],fun a => mS a.1 a.2.1⟩
def qB (c : Cont) (label : Int) (now : Int) : Option Bool :=
 bif c.Label == label then
 bif c.Notice != 0 then
  some (decide ((w64 (now - c.Notice)) ≥ 3))
 else
  some false
 else
 some false
def h212 : Hint:=.z
def sp212 : Spec fam:=⟨[.v (.st 7) [],.v (.int .i64) [],.v (.int .i64) []],[.v .bool []],fun a => qB a.1 a.2.1 a.2.2.1⟩
def AN (_a0 : State) (_a1 : Cont) : Option Bool:=none
def sp213 : Spec fam:=⟨[.v (.st 10) [],.v (.st 7) []],[.v .bool []],fun a => AN a.1 a.2.1⟩
def li (s : State) (label : Int) (x1 : Cont) (_t : Unit) : Option Unit :=
 (gb s.Conts (fun a' => mS a'.1 x1)).bind fun i =>
 (
 bif decide (i < 0) then
  some true
 else
  (inb i s.Conts.length).bind fun i1 =>
  (s.Conts[i1]?).bind fun x2 =>
  (qB x2 label s.Now).bind fun x3 =>
  some (! x3)).bind fun q =>
 bif q then
 some ()
 else
 none
def lG (s : State) (label : Int) : Option State :=
 (ba s.Conts).bind fun x =>
 (rgB (li s label) x ()).bind fun _ =>
 some s
def k179 : Ks:=[]
def dr179 : List Nat:=[6,7,13,14,15,16,17,23,24,25,26,27,28,29,30,31,32,33,34,35,36,37]
def h179 : Hint:=(.b (.s .z (.b (.s (.j [23,24,25,26,27,28,29,30,31,32,33,34,35,36,37] [(0,[(23,.v .bool [])])] .z) .z))))
def sp179 : Spec fam:=⟨[.v (.st 10) [0,1001,2,1003,4,5,6],.v (.int .i64) []],[.v (.st 10) [0,1001,2,1003,4,5,6]],fun a => lG a.1 a.2.1⟩
def sn (_a0 : Looker) (_a1 : Cont) : Option Unit:=none
def sp217 : Spec fam:=⟨[.rp (.st 19),.v (.st 7) []],[],fun a => sn a.1 a.2.1⟩
def kP (l : List Ask) (label : Int) (t : Vec × Int) : Option ((Vec × Int) ⊕ Vec) :=
 bif decide (t.2 < (l.length : Int)) then
 (
  (idx l t.2).bind fun x =>
  (
  bif x.Label == label then
   (d4 0 1125899906842624 [x.Size.Mem,x.Size.Cores]).bind fun x1 =>
   bif x1 then
   (d4 0 50 [x.Count]).bind fun x2 =>
   some x2
   else
   some false
  else
   some false).bind fun q =>
  bif q then
  some (⟨w64 (t.1.Mem + (w64 (x.Size.Mem * x.Count))),w64 (t.1.Cores + (w64 (x.Size.Cores * x.Count)))⟩ : Vec)
  else
  some t.1).bind fun out =>
 some (.inl (out,w64 (t.2 + 1)))
 else
 some (.inr t.1)
def kR (l : List Ask) (label : Int) : Option Vec :=
 (loop (kP l label) ((⟨0,0⟩ : Vec),0)).bind fun out1 =>
 some out1
def h356 : Hint:=(.s .z (.s .z (.s (.s .z (.b (.l [(5,.box (.st 0) []),(10,.v (.int .i64) [])] [5,7,10,33] [(2,[(5,.box (.st 0) [])])] (.s .z (.s .z (.s (.j [5,7,33] [(0,[(5,.box (.st 0) [])])] (.b (.s .z (.s (.j [] [(0,[(33,.v .bool [])])] .z) .z)))) .z)))))) .z)))
def sp356 : Spec fam:=⟨[.v (.slice (.st 5)) [],.v (.int .i64) []],[.v (.st 0) []],fun a => kR a.1 a.2.1⟩
def fH (v : View) (t : Vec × Int) : Option ((Vec × Int) ⊕ Vec) :=
 bif decide (t.2 < (v.s.Apps.length : Int)) then
 (
  (idx v.s.Apps t.2).bind fun x =>
  (
  (cD x).bind fun x1 =>
  bif x1 then
   (fN v x).bind fun x2 =>
   some x2
  else
   some false).bind fun q =>
  bif q then
  (kR x.Asks v.label).bind fun x3 =>
  (dm t.1 x3).bind fun x4 =>
  some x4.1
  else
  some t.1).bind fun out =>
 some (.inl (out,w64 (t.2 + 1)))
 else
 some (.inr t.1)
def eR (v : View) : Option Vec :=
 (loop (fH v) ((⟨0,0⟩ : Vec),0)).bind fun out1 =>
 some out1
def h332 : Hint:=(.s .z (.s .z (.s (.s .z (.b (.l [(3,.box (.st 0) []),(10,.v (.int .i64) [])] [3,5,10,20] [(2,[(3,.box (.st 0) [])])] (.s .z (.s .z (.s (.j [3,5,20] [(0,[(3,.box (.st 0) [])])] (.b (.s .z (.s (.j [] [(0,[(20,.v .bool [])])] .z) .z)))) .z)))))) .z)))
def sp332 : Spec fam:=⟨[.v (.st 14) []],[.v (.st 0) []],fun a => eR a.1⟩
def gD (s : State) (path : List UInt8) (label : Int) : Option Vec :=
 (eR (⟨⟨⟨s.Conf.Labels,s.Conf.Queues⟩,s.Nodes,s.Apps,s.Conts,s.Slots,s.Plans,s.Now,s.Epoch,s.Seq⟩,path,label,(-1)⟩ : View)).bind fun x =>
 some x
def h290 : Hint:=.z
def sp290 : Spec fam:=⟨[.v (.st 10) [],.v .str [],.v (.int .i64) []],[.v (.st 0) []],fun a => gD a.1 a.2.1 a.2.2.1⟩
def Cs (_a0 : Int) (_a1 : List Int) (_a2 : List Int) (_a3 : List Int) : Option (List Int):=none
def sp331 : Spec fam:=⟨[.v (.int .i64) [],.v (.slice (.int .i64)) [],.v (.slice (.int .i64)) [],.v (.slice (.int .i64)) []],[.v (.slice (.int .i64)) []],fun a => Cs a.1 a.2.1 a.2.2.1 a.2.2.2.1⟩
def qA (s : State) (label : Int) (kids : List (List UInt8)) (t : Rows3_ListInt × Int) : Option ((Rows3_ListInt × Int) ⊕ Rows3_ListInt) :=
 bif decide (t.2 < (kids.length : Int)) then
 (inb t.2 kids.length).bind fun i =>
 (kids[i]?).bind fun x =>
 (dS s x label).bind fun x1 =>
 (cP s x label).bind fun x2 =>
 (gD s x label).bind fun x3 =>
 (kQ s x label).bind fun x4 =>
 (inS t.2 (t.1.r0.length : Int) t.1.r0.length).bind fun p =>
 (inS 0 1 [x1.Mem,w64 (x2.Mem + x3.Mem),x4.Mem].length).bind fun p1 =>
 (inS t.2 (t.1.r1.length : Int) t.1.r1.length).bind fun p2 =>
 (inS 1 2 [x1.Mem,w64 (x2.Mem + x3.Mem),x4.Mem].length).bind fun p3 =>
 (inS t.2 (t.1.r2.length : Int) t.1.r2.length).bind fun p4 =>
 (inS 2 3 [x1.Mem,w64 (x2.Mem + x3.Mem),x4.Mem].length).bind fun p5 =>
 some (.inl ((⟨cpy t.1.r0 p.1 p.2 (sub [x1.Mem,w64 (x2.Mem + x3.Mem),x4.Mem] p1.1 p1.2),cpy t.1.r1 p2.1 p2.2 (sub [x1.Mem,w64 (x2.Mem + x3.Mem),x4.Mem] p3.1 p3.2),cpy t.1.r2 p4.1 p4.2 (sub [x1.Mem,w64 (x2.Mem + x3.Mem),x4.Mem] p5.1 p5.2)⟩ : Rows3_ListInt),w64 (t.2 + 1)))
 else
 some (.inr t.1)
def oM (self : State → (List UInt8) → Int → Int → Int → Option (List Share)) (s : State) (path : List UInt8) (label : Int) (mem : Int) (deep : Int) : Option (List Share) :=
 (iD s.Conf path).bind fun kids =>
 (
 bif (kids.length : Int) == 0 then
  some true
 else
  some (decide (deep > 4))).bind fun q =>
 bif q then
 some [(⟨path,mem⟩ : Share)]
 else
 (mkl 8 (kids.length : Int) (kids.length : Int) 0).bind fun l =>
 (mkl 8 (kids.length : Int) (kids.length : Int) 0).bind fun l1 =>
 (mkl 8 (kids.length : Int) (kids.length : Int) 0).bind fun l2 =>
 (loop (qA s label kids) ((⟨l,l1,l2⟩ : Rows3_ListInt),0)).bind fun rows =>
 none
def gE : Nat → State → (List UInt8) → Int → Int → Int → Option (List Share)
 | 0 => fun _ _ _ _ _ => none
 | n + 1 => oM (gE n)
def m7 (a0 : State) (a1 : List UInt8) (a2 : Int) (a3 : Int) (a4 : Int) : Option (List Share):=gE 64 a0 a1 a2 a3 a4
def h289 : Hint:=(.s .z (.s .z (.s (.s (.j [25,26,27,28,29,30,31] [(0,[(31,.v .bool [])])] .z) .z) (.s .z (.s (.s .z (.b (.u 4 .z))) (.s (.s .z (.b (.l [(12,.box (.st 20) [5003,0,1,2]),(51,.v (.int .i64) [])] [12,14,15,16,17,51,52,53,54,55,56,57,58,59,60,61,62,63,64,65,66,67,68,69,70,71,72,73,74,75,76,77,78,79,80,81,82,83,84,85,86,87,88,89,90,91,92,93,94,95,96] [(4,[(12,.box (.st 20) [5003,0,1,2])])] (.s .z (.s .z (.s (.b (.s .z (.s .z (.s .z (.b (.u 4 .z)))))) .z)))))) .z))))))
def sp289 : Spec fam:=⟨[.v (.st 10) [],.v .str [],.v (.int .i64) [],.v (.int .i64) [],.v (.int .i64) []],[.v (.slice (.st 13)) [0]],fun a => m7 a.1 a.2.1 a.2.2.1 a.2.2.2.1 a.2.2.2.2.1⟩
def sd (n : Nat) : Spec fam:=⟨[.v (.st 10) [],.v .str [],.v (.int .i64) [],.v (.int .i64) [],.v (.int .i64) []],[.v (.slice (.st 13)) [0]],fun a => gE n a.1 a.2.1 a.2.2.1 a.2.2.2.1 a.2.2.2.2.1⟩
def iu (s : State) (label : Int) : Option (List Share) :=
 (ff s label).bind fun x =>
 (m7 s ([114,111,111,116] : List UInt8) label x.Mem 1).bind fun x1 =>
 some x1
def h248 : Hint:=.z
def sp248 : Spec fam:=⟨[.v (.st 10) [],.v (.int .i64) []],[.v (.slice (.st 13)) [0]],fun a => iu a.1 a.2.1⟩
def k_ (s : State) (label : Int) (t1 : Looker × Int) : Option ((Looker × Int) ⊕ Looker) :=
 bif decide (t1.2 < (s.Conts.length : Int)) then
 (
  (idx s.Conts t1.2).bind fun x4 =>
  bif x4.Label != label then
  some t1.1
  else
  (ga s x4.App).bind fun x5 =>
  bif x4.Notice != 0 then
   none
  else
   some (⟨⟨⟨t1.1.s.Conf.Labels,t1.1.s.Conf.Queues⟩,t1.1.s.Nodes,t1.1.s.Apps,t1.1.s.Conts,t1.1.s.Slots,t1.1.s.Plans,t1.1.s.Now,t1.1.s.Epoch,t1.1.s.Seq⟩,t1.1.label,t1.1.over,mput (fun x6 => x4.Id == x6.k) t1.1.leaf (⟨x4.Id,x5.1.Queue⟩ : Ent4_IntListUInt8),t1.1.noticed,t1.1.gone⟩ : Looker)).bind fun k1 =>
 some (.inl (k1,w64 (t1.2 + 1)))
 else
 some (.inr t1.1)
def kW (s : State) (label : Int) (x : List Share) (t : Looker × Int) : Option ((Looker × Int) ⊕ Looker) :=
 bif decide (t.2 < (x.length : Int)) then
 (inb t.2 x.length).bind fun i =>
 (x[i]?).bind fun x1 =>
 (cP s x1.Path label).bind fun x2 =>
 some (.inl ((⟨⟨⟨t.1.s.Conf.Labels,t.1.s.Conf.Queues⟩,t.1.s.Nodes,t.1.s.Apps,t.1.s.Conts,t.1.s.Slots,t.1.s.Plans,t.1.s.Now,t.1.s.Epoch,t.1.s.Seq⟩,t.1.label,mput (fun x3 => x1.Path == x3.k) t.1.over (⟨x1.Path,w64 (x2.Mem - x1.Mem)⟩ : Ent0_ListUInt8Int),t.1.leaf,t.1.noticed,t.1.gone⟩ : Looker),w64 (t.2 + 1)))
 else
 some (.inr t.1)
def kM (s : State) (label : Int) : Option Looker :=
 (iu s label).bind fun x =>
 (loop (kW s label x) ((⟨⟨⟨s.Conf.Labels,s.Conf.Queues⟩,s.Nodes,s.Apps,s.Conts,s.Slots,s.Plans,s.Now,s.Epoch,s.Seq⟩,label,[],[],[],0⟩ : Looker),0)).bind fun k =>
 (loop (k_ s label) (k,0)).bind fun k2 =>
 some k2
def h214 : Hint:=(.s .z (.s .z (.s (.s .z (.b (.l [(5,.box (.st 19) [11,12,13]),(23,.v (.int .i64) [])] [5,7,14,17,23,24,25,26,27,28,29,30,31,32,33,34,35,36,37,38,39,40,41,42] [(2,[(5,.box (.st 19) [11,12,13])])] .z))) (.s (.s .z (.b (.l [(5,.box (.st 19) [11,12,13]),(46,.v (.int .i64) [])] [5,9,10,11,46] [(4,[(5,.box (.st 19) [11,12,13])])] (.s .z (.s .z (.s (.j [5,9,10,11] [(0,[(5,.box (.st 19) [11,12,13])])] .z) .z)))))) .z))))
def sp214 : Spec fam:=⟨[.v (.st 10) [],.v (.int .i64) []],[.nb (.st 19) [11,12,13]],fun a => kM a.1 a.2.1⟩
def eJ (k : Looker) (path : List UInt8) (x : Vec) (x1 : Vec) (x2 : App) (t1 : Int) : Option (Int ⊕ (Int ⊕ Unit)) :=
 bif decide (t1 < (x2.Asks.length : Int)) then
 (idx x2.Asks t1).bind fun x4 =>
 (
  bif x4.Label == k.label then
  some (decide ((w64 (x.Mem + x4.Size.Mem)) ≤ x1.Mem))
  else
  some false).bind fun q1 =>
 bif q1 then
  (gD k.s path k.label).bind fun x5 =>
  some (.inr (.inl (imin x5.Mem (w64 (x1.Mem - x.Mem)))))
 else
  some (.inl (w64 (t1 + 1)))
 else
 some (.inr (.inr ()))
def eG (k : Looker) (path : List UInt8) (x : Vec) (x1 : Vec) (t : Int) : Option (Int ⊕ (Int ⊕ Unit)) :=
 bif decide (t < (k.s.Apps.length : Int)) then
 (
  (idx k.s.Apps t).bind fun x2 =>
  (
  (cD x2).bind fun x3 =>
  bif ! x3 then
   some true
  else
   some (! (x2.Queue == path))).bind fun q =>
  bif q then
  some (.inl ())
  else
  (loop (eJ k path x x1 x2) 0).bind fun q0 =>
  match q0 with
  | .inl q2 =>
   some (.inr q2)
  | .inr _ =>
   some (.inl ()) : Option (Unit ⊕ Int)).bind fun q0 =>
 match q0 with
 | .inl _ =>
  some (.inl (w64 (t + 1)))
 | .inr q3 =>
  some (.inr (.inl q3))
 else
 some (.inr (.inr ()))
def dN (k : Looker) (path : List UInt8) : Option (Int × Looker) :=
 (cP k.s path k.label).bind fun x =>
 (dS k.s path k.label).bind fun x1 =>
 (loop (eG k path x x1) 0).bind fun q0 =>
 match q0 with
 | .inl q4 =>
 some (q4,k)
 | .inr _ =>
 some (0,k)
def h251 : Hint:=(.s .z (.s .z (.s (.s .z (.b (.l [(37,.v (.int .i64) [])] [4,8,10,37,38,39,40,41,42,43,44,45,46,47,48,49,50,51,52,53,74] [(1,[(4,.v (.int .i64) [])]),(2,[])] (.s .z (.s .z (.s (.j [4,8,10,39,40,41,42,43,44,45,46,47,48,49,50,51,52,53,74] [(0,[]),(1,[(4,.v (.int .i64) [])])] (.b (.s .z (.s (.s (.j [41,42,43,44,45,46,47,48,49] [(0,[(49,.v .bool [])])] .z) .z) (.s .z (.b (.l [(53,.v (.int .i64) [])] [4,10,53,74] [(1,[(4,.v (.int .i64) [])]),(4,[])] (.s .z (.s .z (.s (.b (.s .z (.s (.j [] [(0,[(74,.v .bool [])])] .z) .z))) .z)))))))))) .z)))))) .z)))
def sp251 : Spec fam:=⟨[.box (.st 19) [11,12,13],.v .str []],[.v (.int .i64) []],fun a => dN a.1 a.2.1⟩
def fh (x : List Share) (t : Looker × Int × Int) : Option ((Looker × Int × Int) ⊕ ((Looker × Int))) :=
 bif decide (t.2.2 < (x.length : Int)) then
 (inb t.2.2 x.length).bind fun i =>
 (x[i]?).bind fun x1 =>
 (dN t.1 x1.Path).bind fun x2 =>
 let sum:=w64 (t.2.1 + x2.1)
 some (.inl (x2.2,sum,w64 (t.2.2 + 1)))
 else
 some (.inr (t.1,t.2.1))
def eo (k : Looker) : Option (Int × Looker) :=
 (iu k.s k.label).bind fun x =>
 (loop (fh x) (k,0,0)).bind fun q =>
 (ff q.1.s q.1.label).bind fun x3 =>
 (cP q.1.s ([114,111,111,116] : List UInt8) q.1.label).bind fun x4 =>
 some (w64 (q.2 - (imax (w64 (x3.Mem - x4.Mem)) 0)),q.1)
def h215 : Hint:=(.s .z (.s .z (.s .z (.s (.s .z (.b (.l [(0,.box (.st 19) [11,12,13]),(3,.v (.int .i64) []),(19,.v (.int .i64) [])] [0,3,6,19] [(2,[(0,.box (.st 19) [11,12,13]),(3,.v (.int .i64) [])])] .z))) .z))))
def sp215 : Spec fam:=⟨[.box (.st 19) [11,12,13]],[.v (.int .i64) []],fun a => eo a.1⟩
def uc (_a0 : Looker) : Option (Cont × Bool):=none
def sp216 : Spec fam:=⟨[.rp (.st 19)],[.v (.st 7) [],.v .bool []],fun a => uc a.1⟩
def rr (need : Int × Looker) (out : List Int) : Option (List Int ⊕ List Int) :=
 bif decide (need.2.gone < need.1) then
 none
 else
 some (.inr out)
def lg (s : State) (label : Int) : Option (List Int) :=
 (kM s label).bind fun k =>
 (eo k).bind fun need =>
 (loop (rr need) []).bind fun out1 =>
 some out1
def h180 : Hint:=(.s .z (.s .z (.s .z (.s .z (.s (.b (.l [(7,.v (.slice (.int .i64)) [0])] [7] [(2,[(7,.v (.slice (.int .i64)) [0])])] .z)) .z)))))
def sp180 : Spec fam:=⟨[.v (.st 10) [],.v (.int .i64) []],[.v (.slice (.int .i64)) [0]],fun a => lg a.1 a.2.1⟩
def ll (_a0 : Cont) (_a1 : Int) : Option Bool:=none
def sp181 : Spec fam:=⟨[.v (.st 7) [],.rp (.int .i64)],[.v .bool []],fun a => ll a.1 a.2.1⟩
def kX (x : Cont) (p : Cont) : Option Bool :=
 some (x.Id == p.Id)
def h182 : Hint:=.z
def sp182 : Spec fam:=⟨[.v (.st 7) [],.rp (.st 7)],[.v .bool []],fun a => kX a.1 a.2.1⟩
def AO (_a0 : Int) (_a1 : Int) : Option Bool:=none
def sp260 : Spec fam:=⟨[.v (.int .i64) [],.v (.int .i64) []],[.v .bool []],fun a => AO a.1 a.2.1⟩
def dg (data : List Int) (a : Int) (j : Int) : Option (Int ⊕ Unit) :=
 bif decide (j > a) then
 (idx data j).bind fun x =>
 (idx data (w64 (j - 1))).bind fun x1 =>
 none
 else
 some (.inr ())
def bK (data : List Int) (a : Int) (b : Int) (i : Int) : Option (Int ⊕ Unit) :=
 bif decide (i < b) then
 (loop (dg data a) i).bind fun _ =>
 some (.inl (w64 (i + 1)))
 else
 some (.inr ())
def a_ (data : List Int) (a : Int) (b : Int) : Option Unit :=
 (loop (bK data a b) (w64 (a + 1))).bind fun _ =>
 some ()
def h254 : Hint:=(.s .z (.b (.l [(6,.v (.int .i64) [])] [6,7] [(2,[])] (.s .z (.s (.b (.s .z (.b (.l [(7,.v (.int .i64) [])] [7] [(4,[])] .z)))) .z)))))
def sp254 : Spec fam:=⟨[.v (.slice (.int .i64)) [],.v (.int .i64) [],.v (.int .i64) []],[],fun a => a_ a.1 a.2.1 a.2.2.1⟩
def nH (_a0 : List Int) (_a1 : Int) (_a2 : Int) : Option Unit:=none
def sp255 : Spec fam:=⟨[.v (.slice (.int .i64)) [],.v (.int .i64) [],.v (.int .i64) []],[],fun a => nH a.1 a.2.1 a.2.2.1⟩
def lm (_a0 : List Int) (_a1 : Int) (_a2 : Int) : Option (Int × Int):=none
def sp257 : Spec fam:=⟨[.v (.slice (.int .i64)) [],.v (.int .i64) [],.v (.int .i64) []],[.v (.int .i64) [],.v (.int .i64) []],fun a => lm a.1 a.2.1 a.2.2.1⟩
def b9 (data : List Int) (a : Int) (b : Int) (limit : Int) (_t : Unit) : Option (Unit ⊕ Unit) :=
 bif decide ((w64 (b - a)) ≤ 12) then
 (a_ data a b).bind fun _ =>
 some (.inr ())
 else
 bif limit == 0 then
  none
 else
  none
def cM (self : (List Int) → Int → Int → Int → Option Unit) (data : List Int) (a : Int) (b : Int) (limit : Int) : Option Unit :=
 (loop (b9 data a b limit) ()).bind fun _ =>
 some ()
def aW : Nat → (List Int) → Int → Int → Int → Option Unit
 | 0 => fun _ _ _ _ => none
 | n + 1 => cM (aW n)
def bW (a0 : List Int) (a1 : Int) (a2 : Int) (a3 : Int) : Option Unit:=aW 64 a0 a1 a2 a3
def h218 : Hint:=(.s .z (.s .z (.b (.l [] [10] [(1,[])] .z))))
def sp218 : Spec fam:=⟨[.v (.slice (.int .i64)) [],.v (.int .i64) [],.v (.int .i64) [],.v (.int .i64) []],[],fun a => bW a.1 a.2.1 a.2.2.1 a.2.2.2.1⟩
def Ij (n : Nat) : Spec fam:=⟨[.v (.slice (.int .i64)) [],.v (.int .i64) [],.v (.int .i64) [],.v (.int .i64) []],[],fun a => aW n a.1 a.2.1 a.2.2.1 a.2.2.2.1⟩
def ya (x : Int) : Option Int :=
 (
 bif decide (x ≥ 4294967296) then
  some (shrK .u64 x 32,32)
 else
  some (x,0)).bind fun q =>
 (
 bif decide (q.1 ≥ 65536) then
  some (shrK .u64 q.1 16,w64 (q.2 + 16))
 else
  some (q.1,q.2)).bind fun q1 =>
 (
 bif decide (q1.1 ≥ 256) then
  some (shrK .u64 q1.1 8,w64 (q1.2 + 8))
 else
  some (q1.1,q1.2)).bind fun q2 =>
 (idx ([0,1,2,2,3,3,3,3,4,4,4,4,4,4,4,4,5,5,5,5,5,5,5,5,5,5,5,5,5,5,5,5,6,6,6,6,6,6,6,6,6,6,6,6,6,6,6,6,6,6,6,6,6,6,6,6,6,6,6,6,6,6,6,6,7,7,7,7,7,7,7,7,7,7,7,7,7,7,7,7,7,7,7,7,7,7,7,7,7,7,7,7,7,7,7,7,7,7,7,7,7,7,7,7,7,7,7,7,7,7,7,7,7,7,7,7,7,7,7,7,7,7,7,7,7,7,7,7,8,8,8,8,8,8,8,8,8,8,8,8,8,8,8,8,8,8,8,8,8,8,8,8,8,8,8,8,8,8,8,8,8,8,8,8,8,8,8,8,8,8,8,8,8,8,8,8,8,8,8,8,8,8,8,8,8,8,8,8,8,8,8,8,8,8,8,8,8,8,8,8,8,8,8,8,8,8,8,8,8,8,8,8,8,8,8,8,8,8,8,8,8,8,8,8,8,8,8,8,8,8,8,8,8,8,8,8,8,8,8,8,8,8,8,8,8,8,8,8,8,8,8,8,8,8,8,8] : List UInt8) (IntKind.u8.wrap q2.1)).bind fun ch =>
 let n:=w64 (q2.2 + (w64 (ch.toNat : Int)))
 some n
def h264 : Hint:=(.s .z (.s (.j [0,2] [(0,[(0,.v (.int .u64) []),(2,.v (.int .i64) [])])] .z) (.s (.j [0,2] [(0,[(0,.v (.int .u64) []),(2,.v (.int .i64) [])])] .z) (.s (.j [0,2] [(0,[(0,.v (.int .u64) []),(2,.v (.int .i64) [])])] .z) .z))))
def sp264 : Spec fam:=⟨[.v (.int .u64) []],[.v (.int .i64) []],fun a => ya a.1⟩
def xe (x : Int) : Option Int :=
 (ya x).bind fun x1 =>
 some x1
def h219 : Hint:=.z
def sp219 : Spec fam:=⟨[.v (.int .u64) []],[.v (.int .i64) []],fun a => xe a.1⟩
def cS (x : List Int) : Option Unit :=
 (xe (IntKind.u64.wrap (x.length : Int))).bind fun x1 =>
 (bW x 0 (x.length : Int) x1).bind fun _ =>
 some ()
def h183 : Hint:=.z
def sp183 : Spec fam:=⟨[.v (.slice (.int .i64)) []],[],fun a => cS a.1⟩
def jW (s : State) (t3 : State) (t4 : List Int × Int) : Option ((List Int × Int) ⊕ List Int) :=
 bif decide (t4.2 < (s.Conts.length : Int)) then
 (
  (idx s.Conts t4.2).bind fun x5 =>
  (iA t3.Conts (fun a' => kX a'.1 x5)).bind fun x6 =>
  bif ! x6 then
  (app 8 t4.1 [x5.Id]).bind fun l =>
  some l
  else
  some t4.1).bind fun gone =>
 some (.inl (gone,w64 (t4.2 + 1)))
 else
 some (.inr t4.1)
def jR (x2 : List Int) (t1 : State × Int) : Option ((State × Int) ⊕ State) :=
 bif decide (t1.2 < (x2.length : Int)) then
 (inb t1.2 x2.length).bind fun i =>
 (x2[i]?).bind fun x3 =>
 (gb t1.1.Conts (fun a' => ll a'.1 x3)).bind fun i1 =>
 (inb i1 t1.1.Conts.length).bind fun i2 =>
 (t1.1.Conts[i2]?).bind fun x4 =>
 some (.inl ((⟨⟨t1.1.Conf.Labels,t1.1.Conf.Queues⟩,t1.1.Nodes,t1.1.Apps,List.set t1.1.Conts i2 (⟨x4.Id,x4.App,x4.Node,⟨x4.Size.Mem,x4.Size.Cores⟩,x4.Prio,x4.Label,x4.Master,imax t1.1.Now 1⟩ : Cont),t1.1.Slots,t1.1.Plans,t1.1.Now,t1.1.Epoch,t1.1.Seq⟩ : State),w64 (t1.2 + 1)))
 else
 some (.inr t1.1)
def jQ (s : State) (t : State × Int) : Option ((State × Int) ⊕ State) :=
 bif decide (t.2 < (s.Conf.Labels.length : Int)) then
 (lG t.1 t.2).bind fun x1 =>
 (lg x1 t.2).bind fun x2 =>
 (loop (jR x2) (x1,0)).bind fun t2 =>
 some (.inl (t2,w64 (t.2 + 1)))
 else
 some (.inr t.1)
def jH (s : State) : Option (State × List Int) :=
 (cC s []).bind fun x =>
 (loop (jQ s) (x,0)).bind fun t3 =>
 (loop (jW s t3) ([],0)).bind fun gone1 =>
 (cS gone1).bind fun _ =>
 some (t3,gone1)
def h139 : Hint:=(.s .z (.s .z (.s (.s .z (.b (.l [(2,.box (.st 10) [0,1001,2,1003,4,5,6]),(16,.v (.int .i64) [])] [2,4,6,7,11,16,17,18,19,20,21,22,23,24,25,26,27,28,29,30,31,32,33,34,35,36,37,38,39,40,41,42,43] [(2,[(2,.box (.st 10) [0,1001,2,1003,4,5,6])])] (.s .z (.s .z (.s (.b (.s .z (.s .z (.s .z (.b (.l [(2,.box (.st 10) [0,1001,2,1003,4,5,6]),(26,.v (.int .i64) [])] [2,6,7,21,22,26,27,28,29,30,31,32,33,34,35,36,37,38,39,40,41,42] [(4,[(2,.box (.st 10) [0,1001,2,1003,4,5,6])])] .z)))))) .z)))))) (.s (.s .z (.b (.l [(3,.v (.slice (.int .i64)) [0]),(47,.v (.int .i64) [])] [3,9,47] [(6,[(3,.v (.slice (.int .i64)) [0])])] (.s .z (.s .z (.s (.j [3,9] [(0,[(3,.v (.slice (.int .i64)) [0])])] .z) .z)))))) .z))))
def sp139 : Spec fam:=⟨[.v (.st 10) []],[.v (.st 10) [0,1001,2,1003,4,5,6],.v (.slice (.int .i64)) [0]],fun a => jH a.1⟩
def gp (was : List Cont) (t2 : Step) (x6 : State × List Int) (t4 : Output × Int) : Option ((Output × Int) ⊕ Output) :=
 bif decide (t4.2 < (was.length : Int)) then
 (
  (inb t4.2 was.length).bind fun i2 =>
  (was[i2]?).bind fun x7 =>
  (b8 (⟨⟨⟨x6.1.Conf.Labels,x6.1.Conf.Queues⟩,x6.1.Nodes,x6.1.Apps,x6.1.Conts,x6.1.Slots,x6.1.Plans,x6.1.Now,x6.1.Epoch,x6.1.Seq⟩,⟨t2.x.Kind,t2.x.Id,t2.x.Beat,t2.x.N,t2.x.Text,⟨t2.x.Node.Id,t2.x.Node.Label,t2.x.Node.Rack,⟨t2.x.Node.Cap.Mem,t2.x.Node.Cap.Cores⟩,t2.x.Node.Seen,t2.x.Node.Beat,t2.x.Node.Up⟩,⟨t2.x.App.Id,t2.x.App.State,t2.x.App.Queue,t2.x.App.User,t2.x.App.Prio,⟨t2.x.App.Master.Mem,t2.x.App.Master.Cores⟩,t2.x.App.Asks,t2.x.App.Seen,t2.x.App.Beat,t2.x.App.Grants,t2.x.App.Kills,t2.x.App.Told,t2.x.App.Lost⟩,t2.x.Asks,t2.x.Ids,⟨t2.x.Plan.Id,t2.x.Plan.Label,t2.x.Plan.From,t2.x.Plan.Until,⟨t2.x.Plan.Need.Mem,t2.x.Plan.Need.Cores⟩⟩⟩⟩ : Step) [x7.Id]).bind fun x8 =>
  bif (x8.length : Int) == 0 then
  (app 8 t4.1.Gone [x7.Id]).bind fun l =>
  some (⟨t4.1.Err,t4.1.Conts,t4.1.Ids,l,t4.1.N⟩ : Output)
  else
  some t4.1).bind fun out =>
 some (.inl (out,w64 (t4.2 + 1)))
 else
 some (.inr t4.1)
def kY (x3 : List Int) (t3 : Int) : Option (Int ⊕ Unit) :=
 bif decide (t3 < (x3.length : Int)) then
 (inb t3 x3.length).bind fun i1 =>
 (x3[i1]?).bind fun x4 =>
 none
 else
 some (.inr ())
def gm (x : List Int) (t1 : Step × Int) : Option ((Step × Int) ⊕ Step) :=
 bif decide (t1.2 < (x.length : Int)) then
 (inb t1.2 x.length).bind fun i =>
 (x[i]?).bind fun x1 =>
 (fy t1.1 x1).bind fun x2 =>
 some (.inl (x2,w64 (t1.2 + 1)))
 else
 some (.inr t1.1)
def fw (t : Step) : Option (Output × Step) :=
 (
 bif decide (t.x.N < 1) then
  some true
 else
  some (decide (t.x.N > 100))).bind fun q =>
 bif q then
 none
 else
 bif decide (t.s.Now > (w64 (1000000000 - t.x.N))) then
  none
 else
  (ba t.s.Conts).bind fun was =>
  (lF (⟨⟨t.s.Conf.Labels,t.s.Conf.Queues⟩,t.s.Nodes,t.s.Apps,t.s.Conts,t.s.Slots,t.s.Plans,w64 (t.s.Now + t.x.N),t.s.Epoch,t.s.Seq⟩ : State)).bind fun x =>
  (loop (gm x) ((⟨⟨⟨t.s.Conf.Labels,t.s.Conf.Queues⟩,t.s.Nodes,t.s.Apps,t.s.Conts,t.s.Slots,t.s.Plans,w64 (t.s.Now + t.x.N),t.s.Epoch,t.s.Seq⟩,⟨t.x.Kind,t.x.Id,t.x.Beat,t.x.N,t.x.Text,⟨t.x.Node.Id,t.x.Node.Label,t.x.Node.Rack,⟨t.x.Node.Cap.Mem,t.x.Node.Cap.Cores⟩,t.x.Node.Seen,t.x.Node.Beat,t.x.Node.Up⟩,⟨t.x.App.Id,t.x.App.State,t.x.App.Queue,t.x.App.User,t.x.App.Prio,⟨t.x.App.Master.Mem,t.x.App.Master.Cores⟩,t.x.App.Asks,t.x.App.Seen,t.x.App.Beat,t.x.App.Grants,t.x.App.Kills,t.x.App.Told,t.x.App.Lost⟩,t.x.Asks,t.x.Ids,⟨t.x.Plan.Id,t.x.Plan.Label,t.x.Plan.From,t.x.Plan.Until,⟨t.x.Plan.Need.Mem,t.x.Plan.Need.Cores⟩⟩⟩⟩ : Step),0)).bind fun t2 =>
  (m8 t2.s).bind fun x3 =>
  (loop (kY x3) 0).bind fun _ =>
  (jJ t2.s.Plans (fun a' => none)).bind fun x5 =>
  (jH (⟨⟨t2.s.Conf.Labels,t2.s.Conf.Queues⟩,t2.s.Nodes,t2.s.Apps,t2.s.Conts,t2.s.Slots,x5,t2.s.Now,t2.s.Epoch,t2.s.Seq⟩ : State)).bind fun x6 =>
  (loop (gp was t2 x6) ((⟨0,[],[],[],0⟩ : Output),0)).bind fun out1 =>
  some (out1,(⟨⟨⟨x6.1.Conf.Labels,x6.1.Conf.Queues⟩,x6.1.Nodes,x6.1.Apps,x6.1.Conts,x6.1.Slots,x6.1.Plans,x6.1.Now,x6.1.Epoch,x6.1.Seq⟩,⟨t2.x.Kind,t2.x.Id,t2.x.Beat,t2.x.N,t2.x.Text,⟨t2.x.Node.Id,t2.x.Node.Label,t2.x.Node.Rack,⟨t2.x.Node.Cap.Mem,t2.x.Node.Cap.Cores⟩,t2.x.Node.Seen,t2.x.Node.Beat,t2.x.Node.Up⟩,⟨t2.x.App.Id,t2.x.App.State,t2.x.App.Queue,t2.x.App.User,t2.x.App.Prio,⟨t2.x.App.Master.Mem,t2.x.App.Master.Cores⟩,t2.x.App.Asks,t2.x.App.Seen,t2.x.App.Beat,t2.x.App.Grants,t2.x.App.Kills,t2.x.App.Told,t2.x.App.Lost⟩,t2.x.Asks,t2.x.Ids,⟨t2.x.Plan.Id,t2.x.Plan.Label,t2.x.Plan.From,t2.x.Plan.Until,⟨t2.x.Plan.Need.Mem,t2.x.Plan.Need.Cores⟩⟩⟩⟩ : Step))
def h78 : Hint:=(.s .z (.s (.b (.s (.j [11,12,13,14,15,16,17,18,19,20,21,22,23,24,25] [(0,[(11,.v .bool [])])] .z) .z)) (.s .z (.s .z (.s (.s .z (.b (.l [(0,.box (.st 17) [0,2,4,5,6]),(67,.v (.int .i64) [])] [0,5,45,64,67,68,69,70,71,72,73,74] [(3,[(0,.box (.st 17) [0,2,4,5,6])])] .z))) (.s (.s .z (.b (.l [(81,.v (.int .i64) [])] [81,82] [(5,[])] .z))) (.s .z (.s .z (.s .z (.s (.s .z (.b (.l [(8,.box (.st 11) [1,2,3]),(121,.v (.int .i64) [])] [8,10,121] [(7,[(8,.box (.st 11) [1,2,3])])] (.s .z (.s .z (.s (.j [8,10] [(0,[(8,.box (.st 11) [1,2,3])])] .z) .z)))))) .z))))))))))
def sp78 : Spec fam:=⟨[.box (.st 17) [0,2,4,5,6,7000]],[.v (.st 11) [1,2,3]],fun a => fw a.1⟩
def sA (_a0 : Step) : Option Output:=none
def sp79 : Spec fam:=⟨[.rp (.st 17)],[.v (.st 11) []],fun a => sA a.1⟩
def ER (_a0 : State) (_a1 : Int) : Option (State × Int):=none
def sp80 : Spec fam:=⟨[.v (.st 10) [],.v (.int .i64) []],[.v (.st 10) [],.v (.int .i64) []],fun a => ER a.1 a.2.1⟩
def vC (_a0 : Step) : Option Output:=none
def sp81 : Spec fam:=⟨[.rp (.st 17)],[.v (.st 11) []],fun a => vC a.1⟩
def hU (t : Step) : Option (Output × Step) :=
 bif t.x.Kind == 1 then
 none
 else
 bif t.x.Kind == 2 then
  (ja t.s t.x.Node).bind fun x =>
  (c9 t x.1 x.2).bind fun x1 =>
  some (x1.1,x1.2)
 else
  bif t.x.Kind == 3 then
  (fE t).bind fun x2 =>
  some (x2.1,x2.2)
  else
  bif t.x.Kind == 4 then
   (nf t.s t.x.App).bind fun x3 =>
   (c9 t x3.1 x3.2).bind fun x4 =>
   some (x4.1,x4.2)
  else
   bif t.x.Kind == 5 then
   (ep t).bind fun x5 =>
   some (x5.1,x5.2)
   else
   bif t.x.Kind == 6 then
    none
   else
    bif t.x.Kind == 7 then
    none
    else
    bif t.x.Kind == 8 then
     (fw t).bind fun x6 =>
     some (x6.1,x6.2)
    else
     bif t.x.Kind == 9 then
     none
     else
     bif t.x.Kind == 10 then
      none
     else
      bif t.x.Kind == 11 then
      none
      else
      none
def h35 : Hint:=.z
def sp35 : Spec fam:=⟨[.box (.st 17) [0,2,4,5,6,7000]],[.v (.st 11) [1,2,3]],fun a => hU a.1⟩
def eh (s : State) (x : Input) : Option (State × Output) :=
 (cC s []).bind fun x1 =>
 (hU (⟨⟨⟨x1.Conf.Labels,x1.Conf.Queues⟩,x1.Nodes,x1.Apps,x1.Conts,x1.Slots,x1.Plans,x1.Now,x1.Epoch,x1.Seq⟩,⟨x.Kind,x.Id,x.Beat,x.N,x.Text,⟨x.Node.Id,x.Node.Label,x.Node.Rack,⟨x.Node.Cap.Mem,x.Node.Cap.Cores⟩,x.Node.Seen,x.Node.Beat,x.Node.Up⟩,⟨x.App.Id,x.App.State,x.App.Queue,x.App.User,x.App.Prio,⟨x.App.Master.Mem,x.App.Master.Cores⟩,x.App.Asks,x.App.Seen,x.App.Beat,x.App.Grants,x.App.Kills,x.App.Told,x.App.Lost⟩,x.Asks,x.Ids,⟨x.Plan.Id,x.Plan.Label,x.Plan.From,x.Plan.Until,⟨x.Plan.Need.Mem,x.Plan.Need.Cores⟩⟩⟩⟩ : Step)).bind fun x2 =>
 bif x2.1.Err != 0 then
 (cC s []).bind fun x3 =>
 some (x3,x2.1)
 else
 (cC x2.2.s []).bind fun x4 =>
 some (x4,x2.1)
def h17 : Hint:=.z
def sp17 : Spec fam:=⟨[.v (.st 10) [],.v (.st 12) []],[.v (.st 10) [0,1001,2,1003,4,5,6],.v (.st 11) [1,2,3]],fun a => eh a.1 a.2.1⟩
def gi (t : State × Int) : Option ((State × Int) ⊕ (Bool ⊕ State)) :=
 bif decide (t.2 < ([(⟨2,0,0,0,[],⟨1,0,0,⟨1,1⟩,0,0,false⟩,⟨0,0,[],0,0,⟨0,0⟩,[],0,0,[],[],[],[]⟩,[],[],⟨0,0,0,0,⟨0,0⟩⟩⟩ : Input),(⟨4,0,0,0,[],⟨0,0,0,⟨0,0⟩,0,0,false⟩,⟨2,0,([114,111,111,116] : List UInt8),0,0,⟨1,1⟩,[],0,0,[],[],[],[]⟩,[],[],⟨0,0,0,0,⟨0,0⟩⟩⟩ : Input),(⟨3,1,1,0,[],⟨0,0,0,⟨0,0⟩,0,0,false⟩,⟨0,0,[],0,0,⟨0,0⟩,[],0,0,[],[],[],[]⟩,[],[],⟨0,0,0,0,⟨0,0⟩⟩⟩ : Input)].length : Int)) then
 (inb t.2 [(⟨2,0,0,0,[],⟨1,0,0,⟨1,1⟩,0,0,false⟩,⟨0,0,[],0,0,⟨0,0⟩,[],0,0,[],[],[],[]⟩,[],[],⟨0,0,0,0,⟨0,0⟩⟩⟩ : Input),(⟨4,0,0,0,[],⟨0,0,0,⟨0,0⟩,0,0,false⟩,⟨2,0,([114,111,111,116] : List UInt8),0,0,⟨1,1⟩,[],0,0,[],[],[],[]⟩,[],[],⟨0,0,0,0,⟨0,0⟩⟩⟩ : Input),(⟨3,1,1,0,[],⟨0,0,0,⟨0,0⟩,0,0,false⟩,⟨0,0,[],0,0,⟨0,0⟩,[],0,0,[],[],[],[]⟩,[],[],⟨0,0,0,0,⟨0,0⟩⟩⟩ : Input)].length).bind fun i =>
 ([(⟨2,0,0,0,[],⟨1,0,0,⟨1,1⟩,0,0,false⟩,⟨0,0,[],0,0,⟨0,0⟩,[],0,0,[],[],[],[]⟩,[],[],⟨0,0,0,0,⟨0,0⟩⟩⟩ : Input),(⟨4,0,0,0,[],⟨0,0,0,⟨0,0⟩,0,0,false⟩,⟨2,0,([114,111,111,116] : List UInt8),0,0,⟨1,1⟩,[],0,0,[],[],[],[]⟩,[],[],⟨0,0,0,0,⟨0,0⟩⟩⟩ : Input),(⟨3,1,1,0,[],⟨0,0,0,⟨0,0⟩,0,0,false⟩,⟨0,0,[],0,0,⟨0,0⟩,[],0,0,[],[],[],[]⟩,[],[],⟨0,0,0,0,⟨0,0⟩⟩⟩ : Input)][i]?).bind fun x1 =>
 (eh t.1 x1).bind fun x2 =>
 bif x2.2.Err != 0 then
  some (.inr (.inl false))
 else
  some (.inl (x2.1,w64 (t.2 + 1)))
 else
 some (.inr (.inr (t.1)))
def dA : Option Bool :=
 (jE).bind fun x =>
 (loop gi (x,0)).bind fun q0 =>
 match q0 with
 | .inl q =>
 some q
 | .inr s =>
 bif (s.Conts.length : Int) == 1 then
  (inb 0 s.Conts.length).bind fun i1 =>
  (s.Conts[i1]?).bind fun x3 =>
  bif x3.Master then
  (jL s).bind fun x4 =>
  some x4
  else
  some false
 else
  some false
def h7 : Hint:=(.s .z (.s .z (.s .z (.s .z (.s (.s .z (.b (.l [(1,.box (.st 10) [0,2,4,5,6]),(4,.v (.int .i64) [])] [0,1,4,5,6] [(1,[(0,.v .bool [])]),(2,[(1,.box (.st 10) [0,2,4,5,6])])] .z))) .z)))))
noncomputable def sp7 : Spec fam:=⟨[],[.v .bool []],fun _ => dA⟩
def aO (at_ : Int) (n : Int) : Option Int :=
 (nz n).bind fun _ =>
 (
 bif decide ((Int.tmod at_ n) < 0) then
  let k:=w64 ((Int.tmod at_ n) + n)
  some k
 else
  some (Int.tmod at_ n)).bind fun k1 =>
 some k1
def h8 : Hint:=(.s .z (.s .z (.s (.j [5] [(0,[(5,.v (.int .i64) [])])] .z) .z)))
def sp8 : Spec fam:=⟨[.v (.int .i64) [],.v (.int .i64) []],[.v (.int .i64) []],fun a => aO a.1 a.2.1⟩
def iE (l : List Input) (t : State × State × Int) : Option ((State × State × Int) ⊕ ((State × Bool) ⊕ (State × State))) :=
 bif decide (t.2.2 < (l.length : Int)) then
 (idx l t.2.2).bind fun x =>
 (eh t.1 x).bind fun x1 =>
 bif x1.2.Err != 0 then
  some (.inr (.inl (t.1,false)))
 else
  some (.inl (x1.1,t.2.1,w64 (t.2.2 + 1)))
 else
 some (.inr (.inr (t.1,t.2.1)))
def cp (s : State) (l : List Input) : Option (State × Bool) :=
 (loop (iE l) (s,(⟨⟨[],[]⟩,[],[],[],[],[],0,0,0⟩ : State),0)).bind fun q0 =>
 match q0 with
 | .inl q =>
 some (q.1,q.2)
 | .inr q1 =>
 some (q1.1,true)
def h9 : Hint:=(.s .z (.s (.s .z (.b (.l [(2,.box (.st 10) []),(4,.box (.st 10) [0,1,2,3,4,5,6]),(6,.v (.int .i64) [])] [2,4,5,6,7,8] [(1,[(4,.box (.st 10) []),(5,.v .bool [])]),(2,[(2,.box (.st 10) []),(4,.box (.st 10) [0,1,2,3,4,5,6])])] .z))) .z))
def sp9 : Spec fam:=⟨[.v (.st 10) [],.v (.slice (.st 12)) []],[.v (.st 10) [],.v .bool []],fun a => cp a.1 a.2.1⟩
def jS : Option Vec :=
 some (⟨1,1⟩ : Vec)
def h12 : Hint:=.z
noncomputable def sp12 : Spec fam:=⟨[],[.v (.st 0) []],fun _ => jS⟩
def oZ (n : Int) : Option (List Ask) :=
 (jS).bind fun x =>
 some [(⟨1,0,⟨x.Mem,x.Cores⟩,n,(-1),(-1),0⟩ : Ask)]
def h13 : Hint:=.z
def sp13 : Spec fam:=⟨[.v (.int .i64) []],[.v (.slice (.st 5)) [0]],fun a => oZ a.1⟩
def lz (s : State) (id_ : Int) (t : Node × Int) : Option ((Node × Int) ⊕ ((Node × Bool) ⊕ Node)) :=
 bif decide (t.2 < (s.Nodes.length : Int)) then
 (idx s.Nodes t.2).bind fun x =>
 bif x.Id == id_ then
  (idx s.Nodes t.2).bind fun x1 =>
  some (.inr (.inl (x1,true)))
 else
  some (.inl (t.1,w64 (t.2 + 1)))
 else
 some (.inr (.inr (t.1)))
def dz (s : State) (id_ : Int) : Option (Node × Bool) :=
 (loop (lz s id_) ((⟨0,0,0,⟨0,0⟩,0,0,false⟩ : Node),0)).bind fun q0 =>
 match q0 with
 | .inl q =>
 some (q.1,q.2)
 | .inr q1 =>
 some ((⟨0,0,0,⟨0,0⟩,0,0,false⟩ : Node),false)
def h16 : Hint:=(.s .z (.s (.s .z (.b (.l [(4,.box (.st 4) []),(6,.v (.int .i64) [])] [4,5,6] [(1,[(4,.box (.st 4) []),(5,.v .bool [])]),(2,[(4,.box (.st 4) [])])] .z))) .z))
def sp16 : Spec fam:=⟨[.v (.st 10) [],.v (.int .i64) []],[.v (.st 4) [],.v .bool []],fun a => dz a.1 a.2.1⟩
def ko (s : State) (id_ : Int) (t : App × Int) : Option ((App × Int) ⊕ ((App × Bool) ⊕ App)) :=
 bif decide (t.2 < (s.Apps.length : Int)) then
 (idx s.Apps t.2).bind fun x =>
 bif x.Id == id_ then
  (idx s.Apps t.2).bind fun x1 =>
  some (.inr (.inl (x1,true)))
 else
  some (.inl (t.1,w64 (t.2 + 1)))
 else
 some (.inr (.inr (t.1)))
def eT (s : State) (id_ : Int) : Option (App × Bool) :=
 (loop (ko s id_) ((⟨0,0,[],0,0,⟨0,0⟩,[],0,0,[],[],[],[]⟩ : App),0)).bind fun q0 =>
 match q0 with
 | .inl q =>
 some (q.1,q.2)
 | .inr q1 =>
 some ((⟨0,0,[],0,0,⟨0,0⟩,[],0,0,[],[],[],[]⟩ : App),false)
def h18 : Hint:=(.s .z (.s (.s .z (.b (.l [(4,.box (.st 6) [7,10,11,12,13]),(6,.v (.int .i64) [])] [4,5,6] [(1,[(4,.box (.st 6) []),(5,.v .bool [])]),(2,[(4,.box (.st 6) [7,10,11,12,13])])] .z))) .z))
def sp18 : Spec fam:=⟨[.v (.st 10) [],.v (.int .i64) []],[.v (.st 6) [],.v .bool []],fun a => eT a.1 a.2.1⟩
def iN (x7 : Int) (s3 : State) (t6 : State × Int) (t7 : Int × Int) : Option ((Int × Int) ⊕ Int) :=
 bif decide (t7.2 < (s3.Conts.length : Int)) then
 (
  (
  (idx s3.Conts t7.2).bind fun x16 =>
  bif x16.App == t6.2 then
   (idx s3.Conts t7.2).bind fun x17 =>
   some (x17.Node == (w64 (1 + x7)))
  else
   some false).bind fun q1 =>
  bif q1 then
  some (w64 (t7.1 + 1))
  else
  some t7.1).bind fun n =>
 some (.inl (n,w64 (t7.2 + 1)))
 else
 some (.inr t7.1)
def aX (counts : List Int) (x7 : Int) (x8 : Int) (s3 : State) (t6 : State × Int) : Option ((State × Int) ⊕ (Bool ⊕ State)) :=
 bif decide (t6.2 < (counts.length : Int)) then
 (eT t6.1 t6.2).bind fun x14 =>
 (eh t6.1 (⟨5,t6.2,w64 (x14.1.Beat + 1),0,[],⟨0,0,0,⟨0,0⟩,0,0,false⟩,⟨0,0,[],0,0,⟨0,0⟩,[],0,0,[],[],[],[]⟩,[],[],⟨0,0,0,0,⟨0,0⟩⟩⟩ : Input)).bind fun x15 =>
 (loop (iN x7 s3 t6) (0,0)).bind fun n1 =>
 (
  bif x8 == 0 then
  bif (x15.2.Gone.length : Int) != n1 then
   some true
  else
   bif ! (x8 == 0) then
   some ((x15.2.Gone.length : Int) != 0)
   else
   some false
  else
  bif ! (x8 == 0) then
   some ((x15.2.Gone.length : Int) != 0)
  else
   some false).bind fun q2 =>
 bif q2 then
  some (.inr (.inl false))
 else
  some (.inl (t6.1,w64 (t6.2 + 1)))
 else
 some (.inr (.inr (t6.1)))
def ef (x7 : Int) (t5 : State × Int) : Option ((State × Int) ⊕ State) :=
 bif decide (t5.2 < 3) then
 (
  (dz t5.1 t5.2).bind fun x11 =>
  bif t5.2 != (w64 (1 + x7)) then
  (cp t5.1 [(⟨3,t5.2,w64 (x11.1.Beat + 1),0,[],⟨0,0,0,⟨0,0⟩,0,0,false⟩,⟨0,0,[],0,0,⟨0,0⟩,[],0,0,[],[],[],[]⟩,[],[],⟨0,0,0,0,⟨0,0⟩⟩⟩ : Input)]).bind fun x12 =>
  some x12.1
  else
  some t5.1).bind fun s2 =>
 some (.inl (s2,w64 (t5.2 + 1)))
 else
 some (.inr t5.1)
def aV (counts : List Int) (t4 : State × Int) : Option ((State × Int) ⊕ State) :=
 bif decide (t4.2 < (counts.length : Int)) then
 (cp t4.1 [(⟨5,t4.2,2,0,[],⟨0,0,0,⟨0,0⟩,0,0,false⟩,⟨0,0,[],0,0,⟨0,0⟩,[],0,0,[],[],[],[]⟩,[],[],⟨0,0,0,0,⟨0,0⟩⟩⟩ : Input)]).bind fun x9 =>
 some (.inl (x9.1,w64 (t4.2 + 1)))
 else
 some (.inr t4.1)
def iv (t3 : List Input × Int) : Option ((List Input × Int) ⊕ List Input) :=
 bif decide (t3.2 < 4) then
 (app 408 t3.1 [(⟨3,1,t3.2,0,[],⟨0,0,0,⟨0,0⟩,0,0,false⟩,⟨0,0,[],0,0,⟨0,0⟩,[],0,0,[],[],[],[]⟩,[],[],⟨0,0,0,0,⟨0,0⟩⟩⟩ : Input),(⟨3,2,t3.2,0,[],⟨0,0,0,⟨0,0⟩,0,0,false⟩,⟨0,0,[],0,0,⟨0,0⟩,[],0,0,[],[],[],[]⟩,[],[],⟨0,0,0,0,⟨0,0⟩⟩⟩ : Input)]).bind fun l7 =>
 some (.inl (l7,w64 (t3.2 + 1)))
 else
 some (.inr t3.1)
def bF (counts : List Int) (t2 : List Input × Int) : Option ((List Input × Int) ⊕ List Input) :=
 bif decide (t2.2 < (counts.length : Int)) then
 (idx counts t2.2).bind fun x2 =>
 (aO x2 5).bind fun x3 =>
 (oZ x3).bind fun x4 =>
 (app 408 t2.1 [(⟨5,t2.2,1,0,[],⟨0,0,0,⟨0,0⟩,0,0,false⟩,⟨0,0,[],0,0,⟨0,0⟩,[],0,0,[],[],[],[]⟩,x4,[],⟨0,0,0,0,⟨0,0⟩⟩⟩ : Input)]).bind fun l5 =>
 some (.inl (l5,w64 (t2.2 + 1)))
 else
 some (.inr t2.1)
def bC (counts : List Int) (t1 : List Input × Int) : Option ((List Input × Int) ⊕ List Input) :=
 bif decide (t1.2 < (counts.length : Int)) then
 (jS).bind fun x1 =>
 (app 408 t1.1 [(⟨4,0,0,0,[],⟨0,0,0,⟨0,0⟩,0,0,false⟩,⟨t1.2,0,([114,111,111,116] : List UInt8),0,0,⟨x1.Mem,x1.Cores⟩,[],0,0,[],[],[],[]⟩,[],[],⟨0,0,0,0,⟨0,0⟩⟩⟩ : Input)]).bind fun l2 =>
 some (.inl (l2,w64 (t1.2 + 1)))
 else
 some (.inr t1.1)
def h_ (t : List Input × Int) : Option ((List Input × Int) ⊕ List Input) :=
 bif decide (t.2 < 3) then
 (app 408 t.1 [(⟨2,0,0,0,[],⟨t.2,0,0,⟨4,4⟩,0,0,false⟩,⟨0,0,[],0,0,⟨0,0⟩,[],0,0,[],[],[],[]⟩,[],[],⟨0,0,0,0,⟨0,0⟩⟩⟩ : Input)]).bind fun l =>
 some (.inl (l,w64 (t.2 + 1)))
 else
 some (.inr t.1)
def aI (counts : List Int) (lost : Int) : Option Bool :=
 (dA).bind fun x =>
 bif ! x then
 some false
 else
 (
  bif (counts.length : Int) == 0 then
  some true
  else
  some (decide ((counts.length : Int) > 3))).bind fun q =>
 bif q then
  some true
 else
  (loop h_ ([],0)).bind fun l1 =>
  (loop (bC counts) (l1,0)).bind fun l3 =>
  (app 408 l3 [(⟨3,0,1,0,[],⟨0,0,0,⟨0,0⟩,0,0,false⟩,⟨0,0,[],0,0,⟨0,0⟩,[],0,0,[],[],[],[]⟩,[],[],⟨0,0,0,0,⟨0,0⟩⟩⟩ : Input)]).bind fun l4 =>
  (loop (bF counts) (l4,0)).bind fun l6 =>
  (loop iv (l6,1)).bind fun l8 =>
  (jE).bind fun x5 =>
  (cp x5 l8).bind fun x6 =>
  bif ! x6.2 then
  some false
  else
  (aO lost 2).bind fun x7 =>
  (aO (w64 (1 + x7)) 2).bind fun x8 =>
  (
   bif x8 == 0 then
   (loop (aV counts) (x6.1,0)).bind fun s =>
   some s
   else
   some x6.1).bind fun s1 =>
  (cp s1 [(⟨8,0,0,9,[],⟨0,0,0,⟨0,0⟩,0,0,false⟩,⟨0,0,[],0,0,⟨0,0⟩,[],0,0,[],[],[],[]⟩,[],[],⟨0,0,0,0,⟨0,0⟩⟩⟩ : Input)]).bind fun x10 =>
  (loop (ef x7) (x10.1,0)).bind fun s3 =>
  (eh s3 (⟨8,0,0,1,[],⟨0,0,0,⟨0,0⟩,0,0,false⟩,⟨0,0,[],0,0,⟨0,0⟩,[],0,0,[],[],[],[]⟩,[],[],⟨0,0,0,0,⟨0,0⟩⟩⟩ : Input)).bind fun x13 =>
  (loop (aX counts x7 x8 s3) (x13.1,0)).bind fun q0 =>
  match q0 with
  | .inl q3 =>
   some q3
  | .inr t8 =>
   (dz t8 (w64 (1 + x7))).bind fun x18 =>
   bif x18.2 then
   some ((w64 ((t8.Conts.length : Int) + (x13.2.Gone.length : Int))) == (s3.Conts.length : Int))
   else
   some false
def h5 : Hint:=(.s .z (.s .z (.s (.s (.j [] [(0,[(37,.v .bool [])])] .z) .z) (.s .z (.s (.s .z (.b (.l [(5,.v (.slice (.st 12)) [0]),(6,.v (.int .i64) [])] [5,6] [(2,[(5,.v (.slice (.st 12)) [0])])] .z))) (.s (.s .z (.b (.l [(5,.v (.slice (.st 12)) [0]),(7,.v (.int .i64) [])] [5,7] [(4,[(5,.v (.slice (.st 12)) [0])])] .z))) (.s .z (.s (.s .z (.b (.l [(5,.v (.slice (.st 12)) [0]),(8,.v (.int .i64) [])] [5,8] [(6,[(5,.v (.slice (.st 12)) [0])])] .z))) (.s (.s .z (.b (.l [(5,.v (.slice (.st 12)) [0]),(9,.v (.int .i64) [])] [5,9] [(8,[(5,.v (.slice (.st 12)) [0])])] .z))) (.s .z (.s .z (.s .z (.s .z (.s (.j [10,13] [(0,[(10,.box (.st 10) [])])] (.s .z (.c (.s .z (.b (.l [(10,.box (.st 10) []),(13,.v (.int .i64) [])] [10,13] [(10,[(10,.box (.st 10) [])])] .z))) .z))) (.s .z (.s (.s .z (.b (.l [(10,.box (.st 10) []),(14,.v (.int .i64) [])] [10,14,15,16] [(12,[(10,.box (.st 10) [])])] (.s .z (.s (.j [10,15,16] [(0,[(10,.box (.st 10) [])])] .z) .z))))) (.s .z (.s (.s .z (.b (.l [(17,.box (.st 10) []),(19,.v (.int .i64) [])] [4,17,19,20,21,22,23,24,25,206,226] [(1,[(4,.v .bool [])]),(14,[(17,.box (.st 10) [])])] (.s .z (.s (.b (.s .z (.s .z (.s .z (.s (.s .z (.b (.l [(24,.v (.int .i64) []),(25,.v (.int .i64) [])] [24,25,206] [(16,[(24,.v (.int .i64) [])])] (.s .z (.s (.j [24,206] [(0,[(24,.v (.int .i64) [])])] (.b (.s (.j [] [(0,[(206,.v .bool [])])] .z) .z))) .z))))) (.s (.j [] [(0,[(226,.v .bool [])])] .z) .z)))))) .z))))) .z))))))))))))))))))
def sp5 : Spec fam:=⟨[.v (.slice (.int .i64)) [],.v (.int .i64) []],[.v .bool []],fun a => aI a.1 a.2.1⟩
end
end Go.Fx.D
