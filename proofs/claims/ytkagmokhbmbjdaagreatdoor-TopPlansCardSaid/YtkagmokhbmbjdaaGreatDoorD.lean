/-
  The functions of the program that this law reaches, as functions over plain data (printed by a program). Conditions: none.
-/
import Derived.Test.YtkagmokhbmbjdaaGreatDoorFxD
import Derived.Test.YtkagmokhbmbjdaaGreatDoorA
namespace Go.Fx.D
open Go Go.Fx Go.Proofs
set_option linter.unusedVariables false
noncomputable section
def k_ : Option State :=
 some (⟨⟨[([] : List UInt8)],[(⟨([114,111,111,116] : List UInt8),[(⟨10000,10000⟩ : Cap)],10000⟩ : Queue)]⟩,[],[],[],[],[],0,0,0⟩ : State)
def h10 : Hint:=.z
noncomputable def sp10 : Spec fam:=⟨[],[.v (.st 10) [0,1,2,3,4,5,6]],fun _ => k_⟩
def mo (s : List UInt8) : Option Bool:=nameD 12 s
def sp84 : Spec fam:=⟨[.v .str []],[.v .bool []],fun a => mo a.1⟩
def oV (l : List (List UInt8)) (t : List Ent0_ListUInt8Int × Int) : Option ((List Ent0_ListUInt8Int × Int) ⊕ (Int ⊕ List Ent0_ListUInt8Int)) :=
 bif decide (t.2 < (l.length : Int)) then
 (idx l t.2).bind fun x =>
 (
  bif t.2 == 0 then
  bif ! (x == ([] : List UInt8)) then
   some true
  else
   bif decide (t.2 > 0) then
   (mo x).bind fun x1 =>
   some (! x1)
   else
   some false
  else
  bif decide (t.2 > 0) then
   (mo x).bind fun x2 =>
   some (! x2)
  else
   some false).bind fun q =>
 bif q then
  some (.inr (.inl 12))
 else
  let e:=mget (fun x3 => x == x3.k) t.1 (⟨x,0⟩ : Ent0_ListUInt8Int)
  some (.inl (mput (fun x4 => x == x4.k) t.1 (⟨x,w64 (e.v + 1)⟩ : Ent0_ListUInt8Int),w64 (t.2 + 1)))
 else
 some (.inr (.inr (t.1)))
def qa (l : List (List UInt8)) : Option Int :=
 (loop (oV l) ([],0)).bind fun q0 =>
 match q0 with
 | .inl q1 =>
 some q1
 | .inr was =>
 bif decide ((was.length : Int) < (l.length : Int)) then
  some 7
 else
  some 0
def h38 : Hint:=(.s .z (.s .z (.s (.s .z (.b (.l [(3,.row (.st 500) false),(9,.v (.int .i64) [])] [2,3,4,5,6,9,28] [(1,[(2,.v (.int .i64) [])]),(2,[(3,.row (.st 500) false)])] (.s .z (.s .z (.s (.b (.s .z (.s (.s (.j [] [(0,[(28,.v .bool [])])] .z) .z) .z))) .z)))))) .z)))
def sp38 : Spec fam:=⟨[.v (.slice (.str)) []],[.v (.int .i64) []],fun a => qa a.1⟩
def b9 (s : List UInt8) (c : Int) (i1 : Int) : Option (Int ⊕ (Int ⊕ Unit)) :=
 bif decide (i1 ≥ 0) then
 (idx s i1).bind fun ch =>
 bif (ch.toNat : Int) == c then
  some (.inr (.inl i1))
 else
  some (.inl (w64 (i1 - 1)))
 else
 some (.inr (.inr ()))
def bK (s : List UInt8) (c : Int) : Option Int :=
 let i:=w64 ((s.length : Int) - 1)
 (loop (b9 s c) i).bind fun q0 =>
 match q0 with
 | .inl q =>
 some q
 | .inr _ =>
 some (-1)
def h189 : Hint:=(.s .z (.s (.s .z (.b (.l [(5,.v (.int .i64) [])] [4,5] [(1,[(4,.v (.int .i64) [])]),(2,[])] .z))) .z))
def sp189 : Spec fam:=⟨[.v .str [],.v (.int .u8) []],[.v (.int .i64) []],fun a => bK a.1 a.2.1⟩
def kU (_a0 : List UInt8) (_a1 : List UInt8) : Option Int:=none
def sp190 : Spec fam:=⟨[.v .str [],.v .str []],[.v (.int .i64) []],fun a => kU a.1 a.2.1⟩
def gq (s : List UInt8) (substr : List UInt8) : Option Int :=
 bif (substr.length : Int) == 0 then
 some (s.length : Int)
 else
 bif (substr.length : Int) == 1 then
  (idx substr 0).bind fun ch =>
  (bK s (ch.toNat : Int)).bind fun x =>
  some x
 else
  bif (substr.length : Int) == (s.length : Int) then
  bif substr == s then
   some 0
  else
   some (-1)
  else
  bif decide ((substr.length : Int) > (s.length : Int)) then
   some (-1)
  else
   none
def h145 : Hint:=.z
def sp145 : Spec fam:=⟨[.v .str [],.v .str []],[.v (.int .i64) []],fun a => gq a.1 a.2.1⟩
def ky (path : List UInt8) : Option (List UInt8 × Bool) :=
 (gq path ([46] : List UInt8)).bind fun i =>
 bif decide (i < 0) then
 some (([] : List UInt8),false)
 else
 (slc path 0 i).bind fun s =>
 some (s,true)
def h85 : Hint:=.z
def sp85 : Spec fam:=⟨[.v .str []],[.v .str [],.v .bool []],fun a => ky a.1⟩
def Cx (_a0 : List UInt8) (_a1 : Int) : Option (List (List UInt8)):=none
def sp223 : Spec fam:=⟨[.v .str [],.v (.int .i64) []],[.v (.slice (.str)) []],fun a => Cx a.1 a.2.1⟩
def lE (s : List UInt8) (sub : List UInt8) : Option Int:=cnt1 s sub
def sp224 : Spec fam:=⟨[.v .str [],.v .str []],[.v (.int .i64) []],fun a => lE a.1 a.2.1⟩
def EM (_a0 : List UInt8) (_a1 : List UInt8) : Option Int:=none
def sp225 : Spec fam:=⟨[.v .str [],.v .str []],[.v (.int .i64) []],fun a => EM a.1 a.2.1⟩
def jo (n2 : Int) (t : List UInt8 × Int) : Option ((List UInt8 × Int) ⊕ ((List UInt8 × Int))) :=
 bif decide (t.2 < (w64 (n2 - 1))) then
 none
 else
 some (.inr (t.1,t.2))
def iC (s : List UInt8) (sep : List UInt8) (sepSave : Int) (n : Int) : Option (List (List UInt8)) :=
 bif n == 0 then
 some []
 else
 bif sep == ([] : List UInt8) then
  none
 else
  (
  bif decide (n < 0) then
   (lE s sep).bind fun x =>
   some (w64 (x + 1))
  else
   some n).bind fun n1 =>
  let n2:=imin n1 (w64 ((s.length : Int) + 1))
  (mkl 16 n2 n2 []).bind fun l =>
  (loop (jo n2) (s,0)).bind fun q =>
  (inb q.2 l.length).bind fun i =>
  (l[i]?).bind fun x1 =>
  (inS 0 (w64 (q.2 + 1)) (List.set l i q.1).length).bind fun p =>
  some (sub (List.set l i q.1) p.1 p.2)
def h191 : Hint:=(.s .z (.s .z (.s .z (.s (.j [3] [(0,[(3,.v (.int .i64) [])])] .z) (.s .z (.s .z (.s .z (.s .z (.s (.b (.l [(0,.v .str []),(10,.v (.int .i64) [])] [0,10] [(2,[(0,.v .str []),(10,.v (.int .i64) [])])] .z)) .z)))))))))
def sp191 : Spec fam:=⟨[.v .str [],.v .str [],.v (.int .i64) [],.v (.int .i64) []],[.v (.slice (.str)) []],fun a => iC a.1 a.2.1 a.2.2.1 a.2.2.2.1⟩
def lB (s : List UInt8) (sep : List UInt8) : Option (List (List UInt8)) :=
 (iC s sep 0 (-1)).bind fun x =>
 some x
def h146 : Hint:=.z
def sp146 : Spec fam:=⟨[.v .str [],.v .str []],[.v (.slice (.str)) []],fun a => lB a.1 a.2.1⟩
def bB (s : List (List UInt8)) (f : (TupT fam [.str] → Option Bool)) (t : Int) : Option (Int ⊕ (Int ⊕ Unit)) :=
 bif decide (t < (s.length : Int)) then
 (idx s t).bind fun x =>
 (f (x,())).bind fun r =>
 bif r then
  some (.inr (.inl t))
 else
  some (.inl (w64 (t + 1)))
 else
 some (.inr (.inr ()))
def a9 (s : List (List UInt8)) (f : (TupT fam [.str] → Option Bool)) : Option Int :=
 (loop (bB s f) 0).bind fun q0 =>
 match q0 with
 | .inl q =>
 some q
 | .inr _ =>
 some (-1)
def h192 : Hint:=(.s .z (.s (.s .z (.b (.l [(8,.v (.int .i64) [])] [4,5,8] [(1,[(4,.v (.int .i64) [])]),(2,[])] .z))) .z))
def sp192 : Spec fam:=⟨[.v (.slice (.str)) [],.fn [.str] .bool],[.v (.int .i64) []],fun a => a9 a.1 a.2.1⟩
def aY (s : List (List UInt8)) (f : (TupT fam [.str] → Option Bool)) : Option Bool :=
 (a9 s f).bind fun x =>
 some (decide (x ≥ 0))
def h147 : Hint:=.z
def sp147 : Spec fam:=⟨[.v (.slice (.str)) [],.fn [.str] .bool],[.v .bool []],fun a => aY a.1 a.2.1⟩
def lJ (n : List UInt8) : Option Bool :=
 (mo n).bind fun x =>
 some (! x)
def h148 : Hint:=.z
def sp148 : Spec fam:=⟨[.v .str []],[.v .bool []],fun a => lJ a.1⟩
def pS (s : List UInt8) : Option Bool :=
 (lB s ([46] : List UInt8)).bind fun l =>
 (idx l 0).bind fun x =>
 bif x == ([114,111,111,116] : List UInt8) then
 bif decide ((l.length : Int) ≤ 4) then
  (aY l (fun a' => lJ a'.1)).bind fun x1 =>
  some (! x1)
 else
  some false
 else
 some false
def h86 : Hint:=.z
def sp86 : Spec fam:=⟨[.v .str []],[.v .bool []],fun a => pS a.1⟩
def vQ (s : List Cap) (f : (TupT fam [.st 1] → Option Bool)) (t : Int) : Option (Int ⊕ (Int ⊕ Unit)) :=
 bif decide (t < (s.length : Int)) then
 (idx s t).bind fun x =>
 (f (x,())).bind fun r =>
 bif r then
  some (.inr (.inl t))
 else
  some (.inl (w64 (t + 1)))
 else
 some (.inr (.inr ()))
def xz (s : List Cap) (f : (TupT fam [.st 1] → Option Bool)) : Option Int :=
 (loop (vQ s f) 0).bind fun q0 =>
 match q0 with
 | .inl q =>
 some q
 | .inr _ =>
 some (-1)
def h193 : Hint:=(.s .z (.s (.s .z (.b (.l [(8,.v (.int .i64) [])] [4,5,8] [(1,[(4,.v (.int .i64) [])]),(2,[])] .z))) .z))
def sp193 : Spec fam:=⟨[.v (.slice (.st 1)) [],.fn [.st 1] .bool],[.v (.int .i64) []],fun a => xz a.1 a.2.1⟩
def nA (s : List Cap) (f : (TupT fam [.st 1] → Option Bool)) : Option Bool :=
 (xz s f).bind fun x =>
 some (decide (x ≥ 0))
def h149 : Hint:=.z
def sp149 : Spec fam:=⟨[.v (.slice (.st 1)) [],.fn [.st 1] .bool],[.v .bool []],fun a => nA a.1 a.2.1⟩
def p8 (c : Cap) : Option Bool :=
 bif decide (c.Least < 0) then
 some true
 else
 bif decide (c.Most > 10000) then
  some true
 else
  some (decide (c.Least > c.Most))
def h150 : Hint:=.z
def sp150 : Spec fam:=⟨[.v (.st 1) []],[.v .bool []],fun a => p8 a.1⟩
def u6 (l : List Cap) : Option Bool :=
 (nA l (fun a' => p8 a'.1)).bind fun x =>
 some (! x)
def h87 : Hint:=.z
def sp87 : Spec fam:=⟨[.v (.slice (.st 1)) []],[.v .bool []],fun a => u6 a.1⟩
def pz (c : Conf) (t : List Ent0_ListUInt8Int × List UInt8 × Int) : Option ((List Ent0_ListUInt8Int × List UInt8 × Int) ⊕ (Int ⊕ Unit)) :=
 bif decide (t.2.2 < (c.Queues.length : Int)) then
 (idx c.Queues t.2.2).bind fun x =>
 (ky x.Path).bind fun x1 =>
 (pS x.Path).bind fun x2 =>
 bif ! x2 then
  some (.inr (.inl 12))
 else
  (
  bif decide (t.2.2 > 0) then
   some (strLe x.Path t.2.1)
  else
   some false).bind fun q =>
  bif q then
  some (.inr (.inl 7))
  else
  (
   bif x1.2 then
   let e:=mget (fun x3 => x1.1 == x3.k) t.1 (⟨x1.1,0⟩ : Ent0_ListUInt8Int)
   some (e.v == 0)
   else
   some false).bind fun q1 =>
  bif q1 then
   some (.inr (.inl 12))
  else
   (
   bif decide (x.User < 1) then
    some true
   else
    bif decide (x.User > 1000000) then
    some true
    else
    bif (x.Caps.length : Int) != (c.Labels.length : Int) then
     some true
    else
     (u6 x.Caps).bind fun x4 =>
     some (! x4)).bind fun q2 =>
   bif q2 then
   some (.inr (.inl 1))
   else
   let e1:=mget (fun x5 => x.Path == x5.k) t.1 (⟨x.Path,0⟩ : Ent0_ListUInt8Int)
   some (.inl (mput (fun x6 => x.Path == x6.k) t.1 (⟨x.Path,w64 (e1.v + 1)⟩ : Ent0_ListUInt8Int),x.Path,w64 (t.2.2 + 1)))
 else
 some (.inr (.inr ()))
def qc (c : Conf) : Option Int :=
 (loop (pz c) ([],([] : List UInt8),0)).bind fun q0 =>
 match q0 with
 | .inl q3 =>
 some q3
 | .inr _ =>
 some 0
def h39 : Hint:=(.s .z (.s .z (.s .z (.s (.s .z (.b (.l [(3,.row (.st 500) false),(4,.v .str []),(13,.v (.int .i64) [])] [2,3,4,5,6,7,8,9,13,29,38,46] [(1,[(2,.v (.int .i64) [])]),(2,[])] (.s .z (.s .z (.s (.b (.s .z (.s .z (.s (.b (.s .z (.c .z (.s (.j [] [(0,[(29,.v .bool [])])] .z) (.c .z (.s (.j [] [(0,[(38,.v .bool [])])] .z) (.c .z (.s (.j [] [(0,[(46,.v .bool [])])] .z) .z)))))))) .z)))) .z)))))) .z))))
def sp39 : Spec fam:=⟨[.v (.st 3) []],[.v (.int .i64) []],fun a => qc a.1⟩
def sV (c : Conf) (path : List UInt8) (t : List (List UInt8) × Int) : Option ((List (List UInt8) × Int) ⊕ List (List UInt8)) :=
 bif decide (t.2 < (c.Queues.length : Int)) then
 (
  (idx c.Queues t.2).bind fun x =>
  (ky x.Path).bind fun x1 =>
  (
  bif x1.2 then
   some (x1.1 == path)
  else
   some false).bind fun q =>
  bif q then
  (app 16 t.1 [x.Path]).bind fun l =>
  some l
  else
  some t.1).bind fun out =>
 some (.inl (out,w64 (t.2 + 1)))
 else
 some (.inr t.1)
def jN (c : Conf) (path : List UInt8) : Option (List (List UInt8)) :=
 (loop (sV c path) ([],0)).bind fun out1 =>
 some out1
def h88 : Hint:=(.s .z (.s .z (.s (.s .z (.b (.l [(5,.v (.slice (.str)) [0]),(13,.v (.int .i64) [])] [5,7,8,9,13,28] [(2,[(5,.v (.slice (.str)) [0])])] (.s .z (.s .z (.s (.j [5,7,8,9,28] [(0,[(5,.v (.slice (.str)) [0])])] (.b (.s .z (.s .z (.s (.j [] [(0,[(28,.v .bool [])])] .z) .z))))) .z)))))) .z)))
def sp88 : Spec fam:=⟨[.v (.st 3) [],.v .str []],[.v (.slice (.str)) [0]],fun a => jN a.1 a.2.1⟩
def CA (s : List Cap) : Option (List Cap) :=
 bif s.isEmpty then
 none
 else
 (app 16 [] s).bind fun l =>
 some l
def eg (s : List Cap) : Option (List Cap):=app 16 [] s
def h100 : Hint:=.z
def sp100 : Spec fam:=⟨[.v (.slice (.st 1)) []],[.v (.slice (.st 1)) [0]],fun a => eg a.1⟩
def JJ : Spec fam:=⟨[.v (.slice (.st 1)) []],[.v (.slice (.st 1)) [0]],fun a => CA a.1⟩
def qR (s : List Queue) (f : (TupT fam [.st 2] → Option Bool)) (t : Int) : Option (Int ⊕ (Int ⊕ Unit)) :=
 bif decide (t < (s.length : Int)) then
 (idx s t).bind fun x =>
 (f (x,())).bind fun r =>
 bif r then
  some (.inr (.inl t))
 else
  some (.inl (w64 (t + 1)))
 else
 some (.inr (.inr ()))
def sC (s : List Queue) (f : (TupT fam [.st 2] → Option Bool)) : Option Int :=
 (loop (qR s f) 0).bind fun q0 =>
 match q0 with
 | .inl q =>
 some q
 | .inr _ =>
 some (-1)
def h151 : Hint:=(.s .z (.s (.s .z (.b (.l [(8,.v (.int .i64) [])] [4,5,8] [(1,[(4,.v (.int .i64) [])]),(2,[])] .z))) .z))
def sp151 : Spec fam:=⟨[.v (.slice (.st 2)) [],.fn [.st 2] .bool],[.v (.int .i64) []],fun a => sC a.1 a.2.1⟩
def pZ (q : Queue) (p : List UInt8) : Option Bool :=
 some (q.Path == p)
def h152 : Hint:=.z
def sp152 : Spec fam:=⟨[.v (.st 2) [],.rp .str],[.v .bool []],fun a => pZ a.1 a.2.1⟩
def ig (c : Conf) (path : List UInt8) : Option (Queue × Bool) :=
 (sC c.Queues (fun a' => pZ a'.1 path)).bind fun i =>
 bif decide (i < 0) then
 some ((⟨[],[],0⟩ : Queue),false)
 else
 (idx c.Queues i).bind fun x =>
 (eg x.Caps).bind fun x1 =>
 some ((⟨x.Path,x1,x.User⟩ : Queue),true)
def h89 : Hint:=.z
def sp89 : Spec fam:=⟨[.v (.st 3) [],.v .str []],[.v (.st 2) [1],.v .bool []],fun a => ig a.1 a.2.1⟩
def ue (c : Conf) (kids : List (List UInt8)) (t2 : Int) (t3 : Int × Int) : Option ((Int × Int) ⊕ Int) :=
 bif decide (t3.2 < (kids.length : Int)) then
 (inb t3.2 kids.length).bind fun i =>
 (kids[i]?).bind fun x3 =>
 (ig c x3).bind fun x4 =>
 (inb t2 x4.1.Caps.length).bind fun i1 =>
 (x4.1.Caps[i1]?).bind fun x5 =>
 let sum:=w64 (t3.1 + x5.Least)
 some (.inl (sum,w64 (t3.2 + 1)))
 else
 some (.inr t3.1)
def sR (c : Conf) (kids : List (List UInt8)) (t2 : Int) : Option (Int ⊕ (Int ⊕ Unit)) :=
 bif decide (t2 < (c.Labels.length : Int)) then
 (loop (ue c kids t2) (0,0)).bind fun sum1 =>
 (
  bif decide ((kids.length : Int) > 0) then
  some (sum1 != 10000)
  else
  some false).bind fun q2 =>
 bif q2 then
  some (.inr (.inl 13))
 else
  some (.inl (w64 (t2 + 1)))
 else
 some (.inr (.inr ()))
def ut (c : Conf) (t1 : Int) : Option (Int ⊕ (Int ⊕ Unit)) :=
 bif decide (t1 < (c.Queues.length : Int)) then
 (idx c.Queues t1).bind fun x2 =>
 (jN c x2.Path).bind fun kids =>
 (loop (sR c kids) 0).bind fun q0 =>
 match q0 with
 | .inl q3 =>
  some (.inr (.inl q3))
 | .inr _ =>
  some (.inl (w64 (t1 + 1)))
 else
 some (.inr (.inr ()))
def sZ (x : Queue) (t : Int) : Option (Int ⊕ (Int ⊕ Unit)) :=
 bif decide (t < (x.Caps.length : Int)) then
 (idx x.Caps t).bind fun x1 =>
 (
  bif x1.Least != 10000 then
  some true
  else
  some (x1.Most != 10000)).bind fun q =>
 bif q then
  some (.inr (.inl 13))
 else
  some (.inl (w64 (t + 1)))
 else
 some (.inr (.inr ()))
def uT (c : Conf) : Option Int :=
 (idx c.Queues 0).bind fun x =>
 (loop (sZ x) 0).bind fun q0 =>
 match q0 with
 | .inl q1 =>
 some q1
 | .inr _ =>
 (loop (ut c) 0).bind fun q0 =>
 match q0 with
 | .inl q4 =>
  some q4
 | .inr _ =>
  some 0
def h40 : Hint:=(.s .z (.s (.s .z (.b (.l [(20,.v (.int .i64) [])] [2,4,20,21,22,23,24,25,26,27,28,29,30,31,32] [(1,[(2,.v (.int .i64) [])]),(2,[])] (.s .z (.s .z (.s (.b (.s .z (.s (.j [24,25,26,27,28,29,30,31] [(0,[(31,.v .bool [])])] .z) .z))) .z)))))) (.s (.s .z (.b (.l [(36,.v (.int .i64) [])] [2,6,7,8,9,11,12,13,36,37,38,39,40,41,42,43,44,45,46,47,48,49,50,51,52,77] [(1,[(2,.v (.int .i64) [])]),(4,[])] (.s .z (.s .z (.s (.b (.s .z (.s .z (.s .z (.b (.l [(47,.v (.int .i64) [])] [2,8,9,11,12,13,47,48,49,50,51,52,77] [(1,[(2,.v (.int .i64) [])]),(6,[])] (.s .z (.s .z (.s (.b (.s .z (.s .z (.s (.s .z (.b (.l [(9,.v (.int .i64) []),(52,.v (.int .i64) [])] [9,11,12,13,52] [(8,[(9,.v (.int .i64) [])])] .z))) (.s (.j [] [(0,[(77,.v .bool [])])] .z) .z))))) .z))))))))) .z)))))) .z)))
def sp40 : Spec fam:=⟨[.v (.st 3) []],[.v (.int .i64) []],fun a => uT a.1⟩
def r_ (c : Conf) : Option Int :=
 (
 bif (c.Labels.length : Int) == 0 then
  some true
 else
  bif decide ((c.Labels.length : Int) > 3) then
  some true
  else
  some (decide ((c.Queues.length : Int) > 16))).bind fun q =>
 bif q then
 some 4
 else
 (qa c.Labels).bind fun e =>
 bif e != 0 then
  some e
 else
  (
  bif (c.Queues.length : Int) == 0 then
   some true
  else
   (idx c.Queues 0).bind fun x =>
   some (! (x.Path == ([114,111,111,116] : List UInt8)))).bind fun q1 =>
  bif q1 then
  some 12
  else
  (qc c).bind fun e1 =>
  bif e1 != 0 then
   some e1
  else
   (uT c).bind fun x1 =>
   some x1
def h23 : Hint:=(.s .z (.s (.s (.j [] [(0,[(20,.v .bool [])])] .z) .z) (.s .z (.s (.s (.j [] [(0,[(38,.v .bool [])])] .z) .z) .z))))
def sp23 : Spec fam:=⟨[.v (.st 3) []],[.v (.int .i64) []],fun a => r_ a.1⟩
def vH (s : List Vec) (f : (TupT fam [.st 0] → Option Bool)) (t : Int) : Option (Int ⊕ (Int ⊕ Unit)) :=
 bif decide (t < (s.length : Int)) then
 (idx s t).bind fun x =>
 (f (x,())).bind fun r =>
 bif r then
  some (.inr (.inl t))
 else
  some (.inl (w64 (t + 1)))
 else
 some (.inr (.inr ()))
def xx (s : List Vec) (f : (TupT fam [.st 0] → Option Bool)) : Option Int :=
 (loop (vH s f) 0).bind fun q0 =>
 match q0 with
 | .inl q =>
 some q
 | .inr _ =>
 some (-1)
def h90 : Hint:=(.s .z (.s (.s .z (.b (.l [(8,.v (.int .i64) [])] [4,5,8] [(1,[(4,.v (.int .i64) [])]),(2,[])] .z))) .z))
def sp90 : Spec fam:=⟨[.v (.slice (.st 0)) [],.fn [.st 0] .bool],[.v (.int .i64) []],fun a => xx a.1 a.2.1⟩
def p_ (s : List Vec) (f : (TupT fam [.st 0] → Option Bool)) : Option Bool :=
 (xx s f).bind fun x =>
 some (decide (x ≥ 0))
def h41 : Hint:=.z
def sp41 : Spec fam:=⟨[.v (.slice (.st 0)) [],.fn [.st 0] .bool],[.v .bool []],fun a => p_ a.1 a.2.1⟩
def dX (v : Vec) : Option Bool :=
 bif decide (v.Mem < 0) then
 some true
 else
 bif decide (v.Mem > 1125899906842624) then
  some true
 else
  bif decide (v.Cores < 0) then
  some true
  else
  some (decide (v.Cores > 1125899906842624))
def h42 : Hint:=.z
def sp42 : Spec fam:=⟨[.v (.st 0) []],[.v .bool []],fun a => dX a.1⟩
def ic (x3 : App) (t4 : List Vec × Int) : Option ((List Vec × Int) ⊕ List Vec) :=
 bif decide (t4.2 < (x3.Asks.length : Int)) then
 (idx x3.Asks t4.2).bind fun x4 =>
 (app 16 t4.1 [x4.Size]).bind fun l7 =>
 some (.inl (l7,w64 (t4.2 + 1)))
 else
 some (.inr t4.1)
def gP (k : Look) (t3 : List Vec × Int) : Option ((List Vec × Int) ⊕ List Vec) :=
 bif decide (t3.2 < (k.s.Apps.length : Int)) then
 (idx k.s.Apps t3.2).bind fun x3 =>
 (app 16 t3.1 [x3.Master]).bind fun l6 =>
 (loop (ic x3) (l6,0)).bind fun l8 =>
 some (.inl (l8,w64 (t3.2 + 1)))
 else
 some (.inr t3.1)
def hU (k : Look) (t2 : List Vec × Int) : Option ((List Vec × Int) ⊕ List Vec) :=
 bif decide (t2.2 < (k.s.Plans.length : Int)) then
 (idx k.s.Plans t2.2).bind fun x2 =>
 (app 16 t2.1 [x2.Need]).bind fun l4 =>
 some (.inl (l4,w64 (t2.2 + 1)))
 else
 some (.inr t2.1)
def gC (k : Look) (t1 : List Vec × Int) : Option ((List Vec × Int) ⊕ List Vec) :=
 bif decide (t1.2 < (k.s.Conts.length : Int)) then
 (idx k.s.Conts t1.2).bind fun x1 =>
 (app 16 t1.1 [x1.Size]).bind fun l2 =>
 some (.inl (l2,w64 (t1.2 + 1)))
 else
 some (.inr t1.1)
def hZ (k : Look) (t : List Vec × Int) : Option ((List Vec × Int) ⊕ List Vec) :=
 bif decide (t.2 < (k.s.Nodes.length : Int)) then
 (idx k.s.Nodes t.2).bind fun x =>
 (app 16 t.1 [x.Cap]).bind fun l =>
 some (.inl (l,w64 (t.2 + 1)))
 else
 some (.inr t.1)
def fL (k : Look) : Option Bool :=
 (loop (hZ k) ([],0)).bind fun l1 =>
 (loop (gC k) (l1,0)).bind fun l3 =>
 (loop (hU k) (l3,0)).bind fun l5 =>
 (loop (gP k) (l5,0)).bind fun l9 =>
 (p_ l9 (fun a' => dX a'.1)).bind fun x5 =>
 some (! x5)
def h24 : Hint:=(.s .z (.s .z (.s (.s .z (.b (.l [(3,.v (.slice (.st 0)) [0]),(18,.v (.int .i64) [])] [3,5,18,19,20,21,22,23,24,25,26,27] [(2,[(3,.v (.slice (.st 0)) [0])])] .z))) (.s (.s .z (.b (.l [(3,.v (.slice (.st 0)) [0]),(32,.v (.int .i64) [])] [3,7,32,33,34,35,36,37,38,39,40,41] [(4,[(3,.v (.slice (.st 0)) [0])])] .z))) (.s (.s .z (.b (.l [(3,.v (.slice (.st 0)) [0]),(46,.v (.int .i64) [])] [3,9,46,47,48,49,50,51,52,53,54,55] [(6,[(3,.v (.slice (.st 0)) [0])])] .z))) (.s (.s .z (.b (.l [(3,.v (.slice (.st 0)) [0]),(60,.v (.int .i64) [])] [3,11,13,60,61,62,63,64,65,66,67,68,69,70,71,72] [(8,[(3,.v (.slice (.st 0)) [0])])] (.s .z (.s .z (.s (.b (.s .z (.s .z (.s .z (.b (.l [(3,.v (.slice (.st 0)) [0]),(72,.v (.int .i64) [])] [3,13,68,72] [(10,[(3,.v (.slice (.st 0)) [0])])] .z)))))) .z)))))) .z))))))
def sp24 : Spec fam:=⟨[.v (.st 16) []],[.v .bool []],fun a => fL a.1⟩
def lW (n : Int) (id_ : (TupT fam [.int .i64] → Option Int)) (i : Int) : Option (Int ⊕ (Bool ⊕ Unit)) :=
 bif decide (i < n) then
 (id_ (w64 (i - 1),())).bind fun r =>
 (id_ (i,())).bind fun r1 =>
 bif decide (r ≥ r1) then
  some (.inr (.inl false))
 else
  some (.inl (w64 (i + 1)))
 else
 some (.inr (.inr ()))
def cC (n : Int) (most : Int) (id_ : (TupT fam [.int .i64] → Option Int)) : Option Bool :=
 (loop (lW n id_) 1).bind fun q0 =>
 match q0 with
 | .inl q =>
 some q
 | .inr _ =>
 some (decide (n ≤ most))
def h43 : Hint:=(.s .z (.s (.s .z (.b (.l [(7,.v (.int .i64) [])] [6,7] [(1,[(6,.v .bool [])]),(2,[])] .z))) .z))
def sp43 : Spec fam:=⟨[.v (.int .i64) [],.v (.int .i64) [],.fn [.int .i64] (.int .i64)],[.v .bool []],fun a => cC a.1 a.2.1 a.2.2.1⟩
def gY (_a0 : Int) (_a1 : State) : Option Int:=none
def sp44 : Spec fam:=⟨[.v (.int .i64) [],.rp (.st 10)],[.v (.int .i64) []],fun a => gY a.1 a.2.1⟩
def hF (_a0 : Int) (_a1 : State) : Option Int:=none
def sp45 : Spec fam:=⟨[.v (.int .i64) [],.rp (.st 10)],[.v (.int .i64) []],fun a => hF a.1 a.2.1⟩
def gZ (_a0 : Int) (_a1 : State) : Option Int:=none
def sp46 : Spec fam:=⟨[.v (.int .i64) [],.rp (.st 10)],[.v (.int .i64) []],fun a => gZ a.1 a.2.1⟩
def gA (_a0 : Int) (_a1 : State) : Option Int:=none
def sp47 : Spec fam:=⟨[.v (.int .i64) [],.rp (.st 10)],[.v (.int .i64) []],fun a => gA a.1 a.2.1⟩
def gU (_a0 : Int) (_a1 : State) : Option Int:=none
def sp48 : Spec fam:=⟨[.v (.int .i64) [],.rp (.st 10)],[.v (.int .i64) []],fun a => gU a.1 a.2.1⟩
def eB (k : Look) : Option Bool :=
 (cC (k.s.Nodes.length : Int) 12 (fun a' => gY a'.1 k.s)).bind fun x =>
 bif x then
 (cC (k.s.Apps.length : Int) 16 (fun a' => hF a'.1 k.s)).bind fun x1 =>
 bif x1 then
  (cC (k.s.Conts.length : Int) 200 (fun a' => gZ a'.1 k.s)).bind fun x2 =>
  bif x2 then
  (cC (k.s.Slots.length : Int) 12 (fun a' => gA a'.1 k.s)).bind fun x3 =>
  bif x3 then
   (cC (k.s.Plans.length : Int) 12 (fun a' => gU a'.1 k.s)).bind fun x4 =>
   some x4
  else
   some false
  else
  some false
 else
  some false
 else
 some false
def h25 : Hint:=.z
def sp25 : Spec fam:=⟨[.v (.st 16) []],[.v .bool []],fun a => eB a.1⟩
def tI (s : List Cont) (f : (TupT fam [.st 7] → Option Bool)) (t : Int) : Option (Int ⊕ (Int ⊕ Unit)) :=
 bif decide (t < (s.length : Int)) then
 (idx s t).bind fun x =>
 (f (x,())).bind fun r =>
 bif r then
  some (.inr (.inl t))
 else
  some (.inl (w64 (t + 1)))
 else
 some (.inr (.inr ()))
def il (s : List Cont) (f : (TupT fam [.st 7] → Option Bool)) : Option Int :=
 (loop (tI s f) 0).bind fun q0 =>
 match q0 with
 | .inl q =>
 some q
 | .inr _ =>
 some (-1)
def h64 : Hint:=(.s .z (.s (.s .z (.b (.l [(8,.v (.int .i64) [])] [4,5,8] [(1,[(4,.v (.int .i64) [])]),(2,[])] .z))) .z))
def sp64 : Spec fam:=⟨[.v (.slice (.st 7)) [],.fn [.st 7] .bool],[.v (.int .i64) []],fun a => il a.1 a.2.1⟩
def jM (s : List Cont) (f : (TupT fam [.st 7] → Option Bool)) : Option Bool :=
 (il s f).bind fun x =>
 some (decide (x ≥ 0))
def h49 : Hint:=.z
def sp49 : Spec fam:=⟨[.v (.slice (.st 7)) [],.fn [.st 7] .bool],[.v .bool []],fun a => jM a.1 a.2.1⟩
def m6 (l : List Cont) (holds : (TupT fam [.st 7] → Option Bool)) : Option Bool:=(jM l (fun x => (holds x).bind fun r => some (!r))).bind fun r => some (!r)
def sp26 : Spec fam:=⟨[.v (.slice (.st 7)) [],.fn [.st 7] .bool],[.v .bool []],fun a => m6 a.1 a.2.1⟩
def vt (s : List App) (f : (TupT fam [.st 6] → Option Bool)) (t : Int) : Option (Int ⊕ (Int ⊕ Unit)) :=
 bif decide (t < (s.length : Int)) then
 (idx s t).bind fun x =>
 (f (x,())).bind fun r =>
 bif r then
  some (.inr (.inl t))
 else
  some (.inl (w64 (t + 1)))
 else
 some (.inr (.inr ()))
def oZ (s : List App) (f : (TupT fam [.st 6] → Option Bool)) : Option Int :=
 (loop (vt s f) 0).bind fun q0 =>
 match q0 with
 | .inl q =>
 some q
 | .inr _ =>
 some (-1)
def h96 : Hint:=(.s .z (.s (.s .z (.b (.l [(8,.v (.int .i64) [])] [4,5,8] [(1,[(4,.v (.int .i64) [])]),(2,[])] .z))) .z))
def sp96 : Spec fam:=⟨[.v (.slice (.st 6)) [],.fn [.st 6] .bool],[.v (.int .i64) []],fun a => oZ a.1 a.2.1⟩
def u9 (a : App) (p : Int) : Option Bool :=
 some (a.Id == p)
def h106 : Hint:=.z
def sp106 : Spec fam:=⟨[.v (.st 6) [],.rp (.int .i64)],[.v .bool []],fun a => u9 a.1 a.2.1⟩
def oF (s : State) (id_ : Int) : Option Int :=
 (oZ s.Apps (fun a' => u9 a'.1 id_)).bind fun x =>
 some x
def h66 : Hint:=.z
def sp66 : Spec fam:=⟨[.v (.st 10) [],.v (.int .i64) []],[.v (.int .i64) []],fun a => oF a.1 a.2.1⟩
def Gr (s : List Ask) : Option (List Ask) :=
 bif s.isEmpty then
 none
 else
 (app 64 [] s).bind fun l =>
 some l
def pC (s : List Ask) : Option (List Ask):=app 64 [] s
def h153 : Hint:=.z
def sp153 : Spec fam:=⟨[.v (.slice (.st 5)) []],[.v (.slice (.st 5)) [0]],fun a => pC a.1⟩
def Ky : Spec fam:=⟨[.v (.slice (.st 5)) []],[.v (.slice (.st 5)) [0]],fun a => Gr a.1⟩
def jO (l : List Int) : Option (List Int) :=
 (mkl 8 (l.length : Int) (l.length : Int) 0).bind fun l1 =>
 some (cpy l1 0 l1.length l)
def h154 : Hint:=.z
def sp154 : Spec fam:=⟨[.v (.slice (.int .i64)) []],[.v (.slice (.int .i64)) [0]],fun a => jO a.1⟩
def mf (a : App) : Option App :=
 (pC a.Asks).bind fun x =>
 (jO a.Grants).bind fun x1 =>
 (jO a.Kills).bind fun x2 =>
 (jO a.Told).bind fun x3 =>
 (jO a.Lost).bind fun x4 =>
 some (⟨a.Id,a.State,a.Queue,a.User,a.Prio,⟨a.Master.Mem,a.Master.Cores⟩,x,a.Seen,a.Beat,x1,x2,x3,x4⟩ : App)
def h91 : Hint:=.z
def sp91 : Spec fam:=⟨[.v (.st 6) []],[.v (.st 6) [7,10,11,12,13,9999]],fun a => mf a.1⟩
def ii (s : State) (id_ : Int) : Option (App × Bool) :=
 (oF s id_).bind fun i =>
 bif decide (i < 0) then
 some ((⟨0,0,[],0,0,⟨0,0⟩,[],0,0,[],[],[],[]⟩ : App),false)
 else
 (idx s.Apps i).bind fun x =>
 (mf x).bind fun x1 =>
 some (x1,true)
def h51 : Hint:=.z
def sp51 : Spec fam:=⟨[.v (.st 10) [],.v (.int .i64) []],[.v (.st 6) [7,10,11,12,13,9999],.v .bool []],fun a => ii a.1 a.2.1⟩
def ui (s : List Node) (f : (TupT fam [.st 4] → Option Bool)) (t : Int) : Option (Int ⊕ (Int ⊕ Unit)) :=
 bif decide (t < (s.length : Int)) then
 (idx s t).bind fun x =>
 (f (x,())).bind fun r =>
 bif r then
  some (.inr (.inl t))
 else
  some (.inl (w64 (t + 1)))
 else
 some (.inr (.inr ()))
def qC (s : List Node) (f : (TupT fam [.st 4] → Option Bool)) : Option Int :=
 (loop (ui s f) 0).bind fun q0 =>
 match q0 with
 | .inl q =>
 some q
 | .inr _ =>
 some (-1)
def h93 : Hint:=(.s .z (.s (.s .z (.b (.l [(8,.v (.int .i64) [])] [4,5,8] [(1,[(4,.v (.int .i64) [])]),(2,[])] .z))) .z))
def sp93 : Spec fam:=⟨[.v (.slice (.st 4)) [],.fn [.st 4] .bool],[.v (.int .i64) []],fun a => qC a.1 a.2.1⟩
def nC (i : Int) (n : Node) : Option Bool :=
 some (n.Id == i)
def h155 : Hint:=.z
def sp155 : Spec fam:=⟨[.v (.int .i64) [],.v (.st 4) []],[.v .bool []],fun a => nC a.1 a.2.1⟩
def oG (s : State) (id_ : Int) : Option Int :=
 (qC s.Nodes (fun a' => nC id_ a'.1)).bind fun x =>
 some x
def h92 : Hint:=.z
def sp92 : Spec fam:=⟨[.v (.st 10) [],.v (.int .i64) []],[.v (.int .i64) []],fun a => oG a.1 a.2.1⟩
def iu (s : State) (id_ : Int) : Option (Node × Bool) :=
 (oG s id_).bind fun i =>
 bif decide (i < 0) then
 some ((⟨0,0,0,⟨0,0⟩,0,0,false⟩ : Node),false)
 else
 (idx s.Nodes i).bind fun x =>
 some (x,true)
def h52 : Hint:=.z
def sp52 : Spec fam:=⟨[.v (.st 10) [],.v (.int .i64) []],[.v (.st 4) [],.v .bool []],fun a => iu a.1 a.2.1⟩
def ij (a : App) : Option Bool :=
 bif a.State == 1 then
 some true
 else
 some (a.State == 2)
def h53 : Hint:=.z
def sp53 : Spec fam:=⟨[.v (.st 6) []],[.v .bool []],fun a => ij a.1⟩
def gn (k : Look) (c : Cont) : Option Bool :=
 (ii k.s c.App).bind fun x =>
 (iu k.s c.Node).bind fun x1 =>
 bif x.2 then
 (ij x.1).bind fun x2 =>
 bif x2 then
  bif x1.2 then
  bif x1.1.Up then
   bif x1.1.Label == c.Label then
   bif decide (c.Notice ≥ 0) then
    some (decide (c.Notice ≤ (imax k.s.Now 1)))
   else
    some false
   else
   some false
  else
   some false
  else
  some false
 else
  some false
 else
 some false
def h27 : Hint:=.z
def sp27 : Spec fam:=⟨[.v (.st 16) [],.v (.st 7) []],[.v .bool []],fun a => gn a.1 a.2.1⟩
def mP (s : List Node) (f : (TupT fam [.st 4] → Option Bool)) : Option Bool :=
 (qC s f).bind fun x =>
 some (decide (x ≥ 0))
def h54 : Hint:=.z
def sp54 : Spec fam:=⟨[.v (.slice (.st 4)) [],.fn [.st 4] .bool],[.v .bool []],fun a => mP a.1 a.2.1⟩
def na (l : List Node) (holds : (TupT fam [.st 4] → Option Bool)) : Option Bool:=(mP l (fun x => (holds x).bind fun r => some (!r))).bind fun r => some (!r)
def sp28 : Spec fam:=⟨[.v (.slice (.st 4)) [],.fn [.st 4] .bool],[.v .bool []],fun a => na a.1 a.2.1⟩
def dq (v : Vec) : Option Bool :=
 bif decide (v.Mem ≥ 0) then
 bif decide (v.Mem ≤ 1125899906842624) then
  bif decide (v.Cores ≥ 0) then
  some (decide (v.Cores ≤ 1125899906842624))
  else
  some false
 else
  some false
 else
 some false
def h94 : Hint:=.z
def sp94 : Spec fam:=⟨[.v (.st 0) []],[.v .bool []],fun a => dq a.1⟩
def qr (v : Vec) : Option (Vec × Int) :=
 (dq v).bind fun x =>
 bif ! x then
 some ((⟨0,0⟩ : Vec),11)
 else
 some (v,0)
def h95 : Hint:=.z
def sp95 : Spec fam:=⟨[.v (.st 0) []],[.v (.st 0) [],.v (.int .i64) []],fun a => qr a.1⟩
def dv (a : Vec) (b : Vec) : Option (Vec × Int) :=
 (
 (dq a).bind fun x =>
 bif ! x then
  some true
 else
  (dq b).bind fun x1 =>
  some (! x1)).bind fun q =>
 bif q then
 some ((⟨0,0⟩ : Vec),1)
 else
 (qr (⟨w64 (a.Mem + b.Mem),w64 (a.Cores + b.Cores)⟩ : Vec)).bind fun x2 =>
 some (x2.1,x2.2)
def h56 : Hint:=(.s .z (.s (.s (.j [] [(0,[(13,.v .bool [])])] .z) .z) .z))
def sp56 : Spec fam:=⟨[.v (.st 0) [],.v (.st 0) []],[.v (.st 0) [],.v (.int .i64) []],fun a => dv a.1 a.2.1⟩
def cX (a : Vec) (b : Vec) : Option Bool :=
 bif decide (a.Mem ≤ b.Mem) then
 some (decide (a.Cores ≤ b.Cores))
 else
 some false
def h57 : Hint:=.z
def sp57 : Spec fam:=⟨[.v (.st 0) [],.v (.st 0) []],[.v .bool []],fun a => cX a.1 a.2.1⟩
def iI (k : Look) (n : Node) (t : Vec × Int) : Option ((Vec × Int) ⊕ (Bool ⊕ Vec)) :=
 bif decide (t.2 < (k.s.Conts.length : Int)) then
 (
  (idx k.s.Conts t.2).bind fun x =>
  bif x.Node != n.Id then
  some (.inl (t.1))
  else
  (dv t.1 x.Size).bind fun x1 =>
  bif x1.2 != 0 then
   some (.inr false)
  else
   some (.inl (x1.1)) : Option (Vec ⊕ Bool)).bind fun q0 =>
 match q0 with
 | .inl sum =>
  some (.inl (sum,w64 (t.2 + 1)))
 | .inr q =>
  some (.inr (.inl q))
 else
 some (.inr (.inr (t.1)))
def gv (k : Look) (n : Node) : Option Bool :=
 (loop (iI k n) ((⟨0,0⟩ : Vec),0)).bind fun q0 =>
 match q0 with
 | .inl q1 =>
 some q1
 | .inr sum1 =>
 (cX sum1 n.Cap).bind fun x2 =>
 some x2
def h29 : Hint:=(.s .z (.s .z (.s (.s .z (.b (.l [(5,.box (.st 0) []),(14,.v (.int .i64) [])] [4,5,7,8,9,14] [(1,[(4,.v .bool [])]),(2,[(5,.box (.st 0) [])])] (.s .z (.s .z (.s (.j [4,5,7,8,9] [(0,[(5,.box (.st 0) [])]),(1,[(4,.v .bool [])])] .z) .z)))))) .z)))
def sp29 : Spec fam:=⟨[.v (.st 16) [],.v (.st 4) []],[.v .bool []],fun a => gv a.1 a.2.1⟩
def qh (s : List App) (f : (TupT fam [.st 6] → Option Bool)) : Option Bool :=
 (oZ s f).bind fun x =>
 some (decide (x ≥ 0))
def h58 : Hint:=.z
def sp58 : Spec fam:=⟨[.v (.slice (.st 6)) [],.fn [.st 6] .bool],[.v .bool []],fun a => qh a.1 a.2.1⟩
def qg (l : List App) (holds : (TupT fam [.st 6] → Option Bool)) : Option Bool:=(qh l (fun x => (holds x).bind fun r => some (!r))).bind fun r => some (!r)
def sp30 : Spec fam:=⟨[.v (.slice (.st 6)) [],.fn [.st 6] .bool],[.v .bool []],fun a => qg a.1 a.2.1⟩
def qm (c : Conf) (path : List UInt8) : Option Bool :=
 (ig c path).bind fun x =>
 bif x.2 then
 (jN c path).bind fun x1 =>
 some ((x1.length : Int) == 0)
 else
 some false
def h60 : Hint:=.z
def sp60 : Spec fam:=⟨[.v (.st 3) [],.v .str []],[.v .bool []],fun a => qm a.1 a.2.1⟩
def jl (k : Look) (a : App) (t : Int × Int × Int) : Option ((Int × Int × Int) ⊕ ((Int × Int))) :=
 bif decide (t.2.2 < (k.s.Conts.length : Int)) then
 (
  (idx k.s.Conts t.2.2).bind fun x =>
  (
  bif x.App == a.Id then
   some (w64 (t.2.1 + 1))
  else
   some t.2.1).bind fun all =>
  (
  bif x.App == a.Id then
   some x.Master
  else
   some false).bind fun q =>
  bif q then
  some (w64 (t.1 + 1),all)
  else
  some (t.1,all)).bind fun q1 =>
 some (.inl (q1.1,q1.2,w64 (t.2.2 + 1)))
 else
 some (.inr (t.1,t.2.1))
def iw (k : Look) (a : App) : Option Bool :=
 (loop (jl k a) (0,0,0)).bind fun q2 =>
 (
 bif a.State == 1 then
  bif decide (q2.2 > 0) then
  some (.inr false)
  else
  some (.inl ())
 else
  bif a.State == 2 then
  bif q2.1 != 1 then
   some (.inr false)
  else
   some (.inl ())
  else
  some (.inr true) : Option (Unit ⊕ Bool)).bind fun q0 =>
 match q0 with
 | .inl _ =>
 (qm k.s.Conf a.Queue).bind fun x1 =>
 some x1
 | .inr q3 =>
 some q3
def h31 : Hint:=(.s .z (.s .z (.s (.s .z (.b (.l [(5,.v (.int .i64) []),(6,.v (.int .i64) []),(13,.v (.int .i64) [])] [5,6,8,13,14,15,16,17,18,19,20,21,22,23,24,25,26,27,28,29,30,31,32,33,34,35] [(2,[(5,.v (.int .i64) []),(6,.v (.int .i64) [])])] (.s .z (.s .z (.s (.j [5,6,8,15,16,17,18,19,20,21,22,23,24,25,26,27,28,29,30,31,32,33,34] [(0,[(5,.v (.int .i64) []),(6,.v (.int .i64) [])])] (.b (.s .z (.s (.j [6,17,18,19,20,21,22,23] [(0,[(6,.v (.int .i64) [])])] .z) (.s (.j [24,25,26,27,28,29,30,31,32] [(0,[(32,.v .bool [])])] .z) .z))))) .z)))))) (.s (.j [4,36,37] [(0,[]),(1,[(4,.v .bool [])])] .z) .z))))
def sp31 : Spec fam:=⟨[.v (.st 16) [],.v (.st 6) []],[.v .bool []],fun a => iw a.1 a.2.1⟩
def tN (s : List Slot) (f : (TupT fam [.st 8] → Option Bool)) (t : Int) : Option (Int ⊕ (Int ⊕ Unit)) :=
 bif decide (t < (s.length : Int)) then
 (idx s t).bind fun x =>
 (f (x,())).bind fun r =>
 bif r then
  some (.inr (.inl t))
 else
  some (.inl (w64 (t + 1)))
 else
 some (.inr (.inr ()))
def qB (s : List Slot) (f : (TupT fam [.st 8] → Option Bool)) : Option Int :=
 (loop (tN s f) 0).bind fun q0 =>
 match q0 with
 | .inl q =>
 some q
 | .inr _ =>
 some (-1)
def h97 : Hint:=(.s .z (.s (.s .z (.b (.l [(8,.v (.int .i64) [])] [4,5,8] [(1,[(4,.v (.int .i64) [])]),(2,[])] .z))) .z))
def sp97 : Spec fam:=⟨[.v (.slice (.st 8)) [],.fn [.st 8] .bool],[.v (.int .i64) []],fun a => qB a.1 a.2.1⟩
def nR (s : List Slot) (f : (TupT fam [.st 8] → Option Bool)) : Option Bool :=
 (qB s f).bind fun x =>
 some (decide (x ≥ 0))
def h61 : Hint:=.z
def sp61 : Spec fam:=⟨[.v (.slice (.st 8)) [],.fn [.st 8] .bool],[.v .bool []],fun a => nR a.1 a.2.1⟩
def mW (l : List Slot) (holds : (TupT fam [.st 8] → Option Bool)) : Option Bool:=(nR l (fun x => (holds x).bind fun r => some (!r))).bind fun r => some (!r)
def sp32 : Spec fam:=⟨[.v (.slice (.st 8)) [],.fn [.st 8] .bool],[.v .bool []],fun a => mW a.1 a.2.1⟩
def kH (_a0 : Look) (_a1 : Slot) : Option Bool:=none
def sp33 : Spec fam:=⟨[.v (.st 16) [],.v (.st 8) []],[.v .bool []],fun a => kH a.1 a.2.1⟩
def lC (s : State) : Option Bool :=
 (r_ s.Conf).bind fun x =>
 bif x == 0 then
 (fL (⟨⟨⟨s.Conf.Labels,s.Conf.Queues⟩,s.Nodes,s.Apps,s.Conts,s.Slots,s.Plans,s.Now,s.Epoch,s.Seq⟩⟩ : Look)).bind fun x1 =>
 bif x1 then
  (eB (⟨⟨⟨s.Conf.Labels,s.Conf.Queues⟩,s.Nodes,s.Apps,s.Conts,s.Slots,s.Plans,s.Now,s.Epoch,s.Seq⟩⟩ : Look)).bind fun x2 =>
  bif x2 then
  (m6 s.Conts (fun a' => gn (⟨⟨⟨s.Conf.Labels,s.Conf.Queues⟩,s.Nodes,s.Apps,s.Conts,s.Slots,s.Plans,s.Now,s.Epoch,s.Seq⟩⟩ : Look) a'.1)).bind fun x3 =>
  bif x3 then
   (na s.Nodes (fun a' => gv (⟨⟨⟨s.Conf.Labels,s.Conf.Queues⟩,s.Nodes,s.Apps,s.Conts,s.Slots,s.Plans,s.Now,s.Epoch,s.Seq⟩⟩ : Look) a'.1)).bind fun x4 =>
   bif x4 then
   (qg s.Apps (fun a' => iw (⟨⟨⟨s.Conf.Labels,s.Conf.Queues⟩,s.Nodes,s.Apps,s.Conts,s.Slots,s.Plans,s.Now,s.Epoch,s.Seq⟩⟩ : Look) a'.1)).bind fun x5 =>
   bif x5 then
    (mW s.Slots (fun a' => kH (⟨⟨⟨s.Conf.Labels,s.Conf.Queues⟩,s.Nodes,s.Apps,s.Conts,s.Slots,s.Plans,s.Now,s.Epoch,s.Seq⟩⟩ : Look) a'.1)).bind fun x6 =>
    some x6
   else
    some false
   else
   some false
  else
   some false
  else
  some false
 else
  some false
 else
 some false
def h15 : Hint:=.z
def sp15 : Spec fam:=⟨[.v (.st 10) []],[.v .bool []],fun a => lC a.1⟩
def lQ (s : List (List UInt8)) : Option (List (List UInt8)) :=
 bif s.isEmpty then
 none
 else
 (app 16 [] s).bind fun l =>
 some l
def aQ (s : List (List UInt8)) : Option (List (List UInt8)):=app 16 [] s
def h98 : Hint:=.z
def sp98 : Spec fam:=⟨[.v (.slice (.str)) []],[.v (.slice (.str)) [0]],fun a => aQ a.1⟩
def L2 : Spec fam:=⟨[.v (.slice (.str)) []],[.v (.slice (.str)) [0]],fun a => lQ a.1⟩
def Bk (s : List Queue) : Option (List Queue) :=
 bif s.isEmpty then
 none
 else
 (app 48 [] s).bind fun l =>
 some l
def ft (s : List Queue) : Option (List Queue):=app 48 [] s
def h99 : Hint:=.z
def sp99 : Spec fam:=⟨[.v (.slice (.st 2)) []],[.v (.slice (.st 2)) [0]],fun a => ft a.1⟩
def L7 : Spec fam:=⟨[.v (.slice (.st 2)) []],[.v (.slice (.st 2)) [0]],fun a => Bk a.1⟩
def AG (s : List Node) : Option (List Node) :=
 bif s.isEmpty then
 none
 else
 (app 64 [] s).bind fun l =>
 some l
def fj (s : List Node) : Option (List Node):=app 64 [] s
def h101 : Hint:=.z
def sp101 : Spec fam:=⟨[.v (.slice (.st 4)) []],[.v (.slice (.st 4)) [0]],fun a => fj a.1⟩
def JU : Spec fam:=⟨[.v (.slice (.st 4)) []],[.v (.slice (.st 4)) [0]],fun a => AG a.1⟩
def Bl (s : List Cont) : Option (List Cont) :=
 bif s.isEmpty then
 none
 else
 (app 72 [] s).bind fun l =>
 some l
def cE (s : List Cont) : Option (List Cont):=app 72 [] s
def h102 : Hint:=.z
def sp102 : Spec fam:=⟨[.v (.slice (.st 7)) []],[.v (.slice (.st 7)) [0]],fun a => cE a.1⟩
def Kw : Spec fam:=⟨[.v (.slice (.st 7)) []],[.v (.slice (.st 7)) [0]],fun a => Bl a.1⟩
def Bc (s : List Slot) : Option (List Slot) :=
 bif s.isEmpty then
 none
 else
 (app 24 [] s).bind fun l =>
 some l
def fm (s : List Slot) : Option (List Slot):=app 24 [] s
def h103 : Hint:=.z
def sp103 : Spec fam:=⟨[.v (.slice (.st 8)) []],[.v (.slice (.st 8)) [0]],fun a => fm a.1⟩
def JH : Spec fam:=⟨[.v (.slice (.st 8)) []],[.v (.slice (.st 8)) [0]],fun a => Bc a.1⟩
def Fa (s : List Plan) : Option (List Plan) :=
 bif s.isEmpty then
 none
 else
 (app 48 [] s).bind fun l =>
 some l
def mi (s : List Plan) : Option (List Plan):=app 48 [] s
def h104 : Hint:=.z
def sp104 : Spec fam:=⟨[.v (.slice (.st 9)) []],[.v (.slice (.st 9)) [0]],fun a => mi a.1⟩
def Jy : Spec fam:=⟨[.v (.slice (.st 9)) []],[.v (.slice (.st 9)) [0]],fun a => Fa a.1⟩
def Cj (s : List App) : Option (List App) :=
 bif s.isEmpty then
 none
 else
 (app 200 [] s).bind fun l =>
 some l
def hP (s : List App) : Option (List App):=app 200 [] s
def h105 : Hint:=.z
def sp105 : Spec fam:=⟨[.v (.slice (.st 6)) []],[.v (.slice (.st 6)) [0]],fun a => hP a.1⟩
def JZ : Spec fam:=⟨[.v (.slice (.st 6)) []],[.v (.slice (.st 6)) [0]],fun a => Cj a.1⟩
def vj (x9 : List App) (t1 : List App × Nat × Int) : Option ((List App × Nat × Int) ⊕ (List App × Nat × Int)) :=
 bif decide (t1.2.2 < (x9.length : Int)) then
 (inb t1.2.2 t1.1.length).bind fun i2 =>
 bif Nat.ble t1.2.1 i2 then
  (t1.1[i2]?).bind fun x10 =>
  (mf x10).bind fun x11 =>
  (inb t1.2.2 t1.1.length).bind fun i3 =>
  bif Nat.beq i3 t1.2.1 then
  (t1.1[i3]?).bind fun x12 =>
  some (.inl (List.set t1.1 i3 x11,t1.2.1 + 1,w64 (t1.2.2 + 1)))
  else
  none
 else
  none
 else
 some (.inr (t1.1,t1.2.1,t1.2.2))
def vu (x1 : List Queue) (t : List Queue × Nat × Int) : Option ((List Queue × Nat × Int) ⊕ (List Queue × Nat × Int)) :=
 bif decide (t.2.2 < (x1.length : Int)) then
 (inb t.2.2 t.1.length).bind fun i =>
 bif Nat.ble t.2.1 i then
  (t.1[i]?).bind fun x2 =>
  (eg x2.Caps).bind fun x3 =>
  (inb t.2.2 t.1.length).bind fun i1 =>
  bif Nat.beq i1 t.2.1 then
  (t.1[i1]?).bind fun x4 =>
  some (.inl (List.set t.1 i1 (⟨x4.Path,x3,x4.User⟩ : Queue),t.2.1 + 1,w64 (t.2.2 + 1)))
  else
  none
 else
  none
 else
 some (.inr (t.1,t.2.1,t.2.2))
def tC (s : State) : Option State :=
 (aQ s.Conf.Labels).bind fun x =>
 (ft s.Conf.Queues).bind fun x1 =>
 (loop (vu x1) (x1,0,0)).bind fun q =>
 bif Nat.ble q.1.length q.2.1 then
 (fj s.Nodes).bind fun x5 =>
 (cE s.Conts).bind fun x6 =>
 (fm s.Slots).bind fun x7 =>
 (mi s.Plans).bind fun x8 =>
 (hP s.Apps).bind fun x9 =>
 (loop (vj x9) (x9,0,0)).bind fun q1 =>
 bif Nat.ble q1.1.length q1.2.1 then
  some (⟨⟨x,q.1⟩,x5,q1.1,x6,x7,x8,s.Now,s.Epoch,s.Seq⟩ : State)
 else
  none
 else
 none
def h63 : Hint:=(.s .z (.s .z (.s (.s .z (.b (.m 14 23 2 [3,4,24,25,26,27,28,29,30,31,32,33,34,35,36,37] .z))) (.s .z (.s .z (.s (.s .z (.b (.m 56 61 4 [5,6] .z))) .z))))))
def sp63 : Spec fam:=⟨[.v (.st 10) []],[.v (.st 10) [0,1001,2,1003,4,5,6]],fun a => tC a.1⟩
def rA (x9 : List App) (t1 : List App × Int) : Option ((List App × Int) ⊕ List App) :=
 bif decide (t1.2 < (x9.length : Int)) then
 (inb t1.2 t1.1.length).bind fun i2 =>
 (t1.1[i2]?).bind fun x10 =>
 (mf x10).bind fun x11 =>
 (inb t1.2 t1.1.length).bind fun i3 =>
 (t1.1[i3]?).bind fun x12 =>
 some (.inl (List.set t1.1 i3 x11,w64 (t1.2 + 1)))
 else
 some (.inr t1.1)
def rH (x1 : List Queue) (t : List Queue × Int) : Option ((List Queue × Int) ⊕ List Queue) :=
 bif decide (t.2 < (x1.length : Int)) then
 (inb t.2 t.1.length).bind fun i =>
 (t.1[i]?).bind fun x2 =>
 (eg x2.Caps).bind fun x3 =>
 (inb t.2 t.1.length).bind fun i1 =>
 (t.1[i1]?).bind fun x4 =>
 some (.inl (List.set t.1 i1 (⟨x4.Path,x3,x4.User⟩ : Queue),w64 (t.2 + 1)))
 else
 some (.inr t.1)
def m7 (s : State) : Option State :=
 (aQ s.Conf.Labels).bind fun x =>
 (ft s.Conf.Queues).bind fun x1 =>
 (loop (rH x1) (x1,0)).bind fun q =>
 (fj s.Nodes).bind fun x5 =>
 (cE s.Conts).bind fun x6 =>
 (fm s.Slots).bind fun x7 =>
 (mi s.Plans).bind fun x8 =>
 (hP s.Apps).bind fun x9 =>
 (loop (rA x9) (x9,0)).bind fun q1 =>
 some (⟨⟨x,q⟩,x5,q1,x6,x7,x8,s.Now,s.Epoch,s.Seq⟩ : State)
def LE : Hint:=(.s .z (.s .z (.s (.s .z (.b (.l [(14,.row (.st 2) false),(23,.v (.int .i64) [])] [3,4,14,23,24,25,26,27,28,29,30,31,32,33,34,35,36,37] [(2,[(14,.row (.st 2) false)])] .z))) (.s .z (.s .z (.s (.s .z (.b (.l [(56,.row (.st 6) false),(61,.v (.int .i64) [])] [5,6,56,61] [(4,[(56,.row (.st 6) false)])] .z))) .z))))))
def J3 : Spec fam:=⟨[.v (.st 10) []],[.v (.st 10) [0,1,2,3,4,5,6]],fun a => m7 a.1⟩
def vN (_a0 : Cont) (_a1 : Int) : Option Bool:=none
def sp65 : Spec fam:=⟨[.v (.st 7) [],.rp (.int .i64)],[.v .bool []],fun a => vN a.1 a.2.1⟩
def Gs (_a0 : State) (_a1 : Int) : Option State:=none
def sp67 : Spec fam:=⟨[.v (.st 10) [],.v (.int .i64) []],[.v (.st 10) []],fun a => Gs a.1 a.2.1⟩
def FE (_a0 : List Cont) (_a1 : Int) (_a2 : Int) : Option (List Cont):=none
def sp68 : Spec fam:=⟨[.v (.slice (.st 7)) [],.v (.int .i64) [],.v (.int .i64) []],[.v (.slice (.st 7)) []],fun a => FE a.1 a.2.1 a.2.2.1⟩
def ur (ids : List Int) (x : State) (t : Int) : Option (Int ⊕ Unit) :=
 bif decide (t < (ids.length : Int)) then
 (idx ids t).bind fun x1 =>
 (il x.Conts (fun a' => vN a'.1 x1)).bind fun k =>
 bif decide (k < 0) then
  some (.inl (w64 (t + 1)))
 else
  (inb k x.Conts.length).bind fun i =>
  (x.Conts[i]?).bind fun x2 =>
  (oF x x2.App).bind fun i1 =>
  (
  bif decide (i1 ≥ 0) then
   some x2.Master
  else
   some false).bind fun q =>
  bif q then
  none
  else
  none
 else
 some (.inr ())
def cF (s : State) (ids : List Int) : Option State :=
 (tC s).bind fun x =>
 (loop (ur ids x) 0).bind fun _ =>
 (tC x).bind fun x3 =>
 some x3
def h34 : Hint:=(.s .z (.s .z (.s (.s .z (.b (.l [(16,.v (.int .i64) [])] [6,7,16] [(2,[])] (.s .z (.s .z (.s (.b (.s .z (.s .z (.s .z (.s .z (.s .z (.s (.s (.j [] [(0,[(40,.v .bool [])])] .z) .z) .z))))))) .z)))))) .z)))
def sp34 : Spec fam:=⟨[.v (.st 10) [],.v (.slice (.int .i64)) []],[.v (.st 10) [0,1001,2,1003,4,5,6]],fun a => cF a.1 a.2.1⟩
def vL (_a0 : Step) : Option Output:=none
def sp71 : Spec fam:=⟨[.rp (.st 17)],[.v (.st 11) []],fun a => vL a.1⟩
def E7 (_a0 : Int) : Option Output:=none
def sp82 : Spec fam:=⟨[.v (.int .i64) []],[.v (.st 11) []],fun a => E7 a.1⟩
def c9 (t : Step) (s : State) (e : Int) : Option (Output × Step) :=
 bif e != 0 then
 none
 else
 some ((⟨0,[],[],[],0⟩ : Output),(⟨⟨⟨s.Conf.Labels,s.Conf.Queues⟩,s.Nodes,s.Apps,s.Conts,s.Slots,s.Plans,s.Now,s.Epoch,s.Seq⟩,⟨t.x.Kind,t.x.Id,t.x.Beat,t.x.N,t.x.Text,⟨t.x.Node.Id,t.x.Node.Label,t.x.Node.Rack,⟨t.x.Node.Cap.Mem,t.x.Node.Cap.Cores⟩,t.x.Node.Seen,t.x.Node.Beat,t.x.Node.Up⟩,⟨t.x.App.Id,t.x.App.State,t.x.App.Queue,t.x.App.User,t.x.App.Prio,⟨t.x.App.Master.Mem,t.x.App.Master.Cores⟩,t.x.App.Asks,t.x.App.Seen,t.x.App.Beat,t.x.App.Grants,t.x.App.Kills,t.x.App.Told,t.x.App.Lost⟩,t.x.Asks,t.x.Ids,⟨t.x.Plan.Id,t.x.Plan.Label,t.x.Plan.From,t.x.Plan.Until,⟨t.x.Plan.Need.Mem,t.x.Plan.Need.Cores⟩⟩⟩⟩ : Step))
def h72 : Hint:=.z
def sp72 : Spec fam:=⟨[.box (.st 17) [],.v (.st 10) [],.v (.int .i64) []],[.v (.st 11) [1,2,3]],fun a => c9 a.1 a.2.1 a.2.2.1⟩
def iJ (l : List Int) : Option (List Int) :=
 (mkl 8 (l.length : Int) (l.length : Int) 0).bind fun l1 =>
 some (cpy l1 0 l1.length l)
def h165 : Hint:=.z
def sp165 : Spec fam:=⟨[.v (.slice (.int .i64)) []],[.v (.slice (.int .i64)) [0]],fun a => iJ a.1⟩
def tk (x9 : List App) (t1 : List App × Int) : Option ((List App × Int) ⊕ List App) :=
 bif decide (t1.2 < (x9.length : Int)) then
 (inb t1.2 t1.1.length).bind fun i2 =>
 (t1.1[i2]?).bind fun x10 =>
 (pC x10.Asks).bind fun x11 =>
 (iJ x10.Grants).bind fun x12 =>
 (iJ x10.Kills).bind fun x13 =>
 (iJ x10.Told).bind fun x14 =>
 (iJ x10.Lost).bind fun x15 =>
 (inb t1.2 t1.1.length).bind fun i3 =>
 (t1.1[i3]?).bind fun x16 =>
 some (.inl (List.set t1.1 i3 (⟨x10.Id,x10.State,x10.Queue,x10.User,x10.Prio,⟨x10.Master.Mem,x10.Master.Cores⟩,x11,x10.Seen,x10.Beat,x12,x13,x14,x15⟩ : App),w64 (t1.2 + 1)))
 else
 some (.inr t1.1)
def sH (x1 : List Queue) (t : List Queue × Int) : Option ((List Queue × Int) ⊕ List Queue) :=
 bif decide (t.2 < (x1.length : Int)) then
 (inb t.2 t.1.length).bind fun i =>
 (t.1[i]?).bind fun x2 =>
 (eg x2.Caps).bind fun x3 =>
 (inb t.2 t.1.length).bind fun i1 =>
 (t.1[i1]?).bind fun x4 =>
 some (.inl (List.set t.1 i1 (⟨x4.Path,x3,x4.User⟩ : Queue),w64 (t.2 + 1)))
 else
 some (.inr t.1)
def qA (s : State) : Option State :=
 (aQ s.Conf.Labels).bind fun x =>
 (ft s.Conf.Queues).bind fun x1 =>
 (loop (sH x1) (x1,0)).bind fun q =>
 (fj s.Nodes).bind fun x5 =>
 (cE s.Conts).bind fun x6 =>
 (fm s.Slots).bind fun x7 =>
 (mi s.Plans).bind fun x8 =>
 (hP s.Apps).bind fun x9 =>
 (loop (tk x9) (x9,0)).bind fun q1 =>
 some (⟨⟨x,q⟩,x5,q1,x6,x7,x8,s.Now,s.Epoch,s.Seq⟩ : State)
def h111 : Hint:=(.s .z (.s .z (.s (.s .z (.b (.l [(14,.row (.st 2) false),(23,.v (.int .i64) [])] [3,4,14,23,24,25,26,27,28,29,30,31,32,33,34,35,36,37] [(2,[(14,.row (.st 2) false)])] .z))) (.s .z (.s .z (.s (.s .z (.b (.l [(56,.row (.st 6) false),(61,.v (.int .i64) [])] [5,6,56,61] [(4,[(56,.row (.st 6) false)])] .z))) .z))))))
def sp111 : Spec fam:=⟨[.v (.st 10) []],[.v (.st 10) [0,1,2,3,4,5,6]],fun a => qA a.1⟩
def de (n : Int) (most : Int) : Option Bool :=
 bif decide (n ≥ 0) then
 some (decide (n ≤ most))
 else
 some false
def h112 : Hint:=.z
def sp112 : Spec fam:=⟨[.v (.int .i64) [],.v (.int .i64) []],[.v .bool []],fun a => de a.1 a.2.1⟩
def BO (s : List Node) (i : Int) (v : List Node) : Option (List Node) :=
 (inS i (s.length : Int) s.length).bind fun p =>
 bif (v.length : Int) == 0 then
 some s
 else
 bif i == (s.length : Int) then
  (app 64 s v).bind fun l =>
  some l
 else
  none
def lv (s : List Node) (i : Int) (v : List Node) : Option (List Node):=ins s i v
def h113 : Hint:=.z
def sp113 : Spec fam:=⟨[.v (.slice (.st 4)) [0],.v (.int .i64) [],.v (.slice (.st 4)) [0]],[.v (.slice (.st 4)) [0]],fun a => lv a.1 a.2.1 a.2.2.1⟩
def MO : Spec fam:=⟨[.v (.slice (.st 4)) [0],.v (.int .i64) [],.v (.slice (.st 4)) [0]],[.v (.slice (.st 4)) [0]],fun a => BO a.1 a.2.1 a.2.2.1⟩
def kY (n : Node) (x : State) (k : Int) : Option (Int ⊕ Int) :=
 (
 bif decide (k < (x.Nodes.length : Int)) then
  (inb k x.Nodes.length).bind fun i3 =>
  (x.Nodes[i3]?).bind fun x8 =>
  some (decide (x8.Id < n.Id))
 else
  some false).bind fun q3 =>
 bif q3 then
 some (.inl (w64 (k + 1)))
 else
 some (.inr k)
def ke (s : State) (n : Node) : Option (State × Int) :=
 (qA s).bind fun x =>
 (oG x n.Id).bind fun i =>
 (
 (de n.Id 999).bind fun x1 =>
 bif ! x1 then
  some true
 else
  (de n.Label (w64 ((x.Conf.Labels.length : Int) - 1))).bind fun x2 =>
  bif ! x2 then
  some true
  else
  (de n.Rack 99).bind fun x3 =>
  bif ! x3 then
   some true
  else
   (de n.Cap.Mem 1073741824).bind fun x4 =>
   bif ! x4 then
   some true
   else
   (de n.Cap.Cores 1073741824).bind fun x5 =>
   some (! x5)).bind fun q =>
 bif q then
 some (x,1)
 else
 (
  bif decide (i ≥ 0) then
  (inb i x.Nodes.length).bind fun i1 =>
  (x.Nodes[i1]?).bind fun x6 =>
  some x6.Up
  else
  some false).bind fun q1 =>
 bif q1 then
  some (x,7)
 else
  (
  bif decide (i < 0) then
   some (decide ((x.Nodes.length : Int) ≥ 12))
  else
   some false).bind fun q2 =>
  bif q2 then
  some (x,4)
  else
  bif decide (i ≥ 0) then
   (inb i x.Nodes.length).bind fun i2 =>
   (x.Nodes[i2]?).bind fun x7 =>
   some ((⟨⟨x.Conf.Labels,x.Conf.Queues⟩,List.set x.Nodes i2 (⟨n.Id,n.Label,n.Rack,⟨n.Cap.Mem,n.Cap.Cores⟩,x.Now,0,true⟩ : Node),x.Apps,x.Conts,x.Slots,x.Plans,x.Now,x.Epoch,x.Seq⟩ : State),0)
  else
   (loop (kY n x) 0).bind fun k1 =>
   (lv x.Nodes k1 [(⟨n.Id,n.Label,n.Rack,⟨n.Cap.Mem,n.Cap.Cores⟩,x.Now,0,true⟩ : Node)]).bind fun x9 =>
   some ((⟨⟨x.Conf.Labels,x.Conf.Queues⟩,x9,x.Apps,x.Conts,x.Slots,x.Plans,x.Now,x.Epoch,x.Seq⟩ : State),0)
def h73 : Hint:=(.s .z (.s .z (.s .z (.s (.b (.s (.j [] [(0,[(14,.v .bool [])])] .z) (.c .z (.s (.j [] [(0,[(51,.v .bool [])])] .z) (.c .z (.s (.j [] [(0,[(63,.v .bool [])])] .z) .z)))))) (.s .z (.s .z (.s .z (.s (.b (.l [(7,.v (.int .i64) [])] [7,107] [(3,[(7,.v (.int .i64) [])])] (.s (.s (.j [] [(0,[(107,.v .bool [])])] .z) .z) .z))) .z))))))))
def sp73 : Spec fam:=⟨[.v (.st 10) [],.v (.st 4) []],[.v (.st 10) [0,1,2,3,4,5,6],.v (.int .i64) []],fun a => ke a.1 a.2.1⟩
def jW (t : Step) (node : Int) (t1 : List Int × Int) : Option ((List Int × Int) ⊕ List Int) :=
 bif decide (t1.2 < (t.s.Conts.length : Int)) then
 (
  (idx t.s.Conts t1.2).bind fun x =>
  bif x.Node == node then
  (app 8 t1.1 [x.Id]).bind fun l =>
  some l
  else
  some t1.1).bind fun out =>
 some (.inl (out,w64 (t1.2 + 1)))
 else
 some (.inr t1.1)
def dm (t : Step) (node : Int) : Option (List Int) :=
 (loop (jW t node) ([],0)).bind fun out1 =>
 some out1
def h114 : Hint:=(.s .z (.s .z (.s (.s .z (.b (.l [(5,.v (.slice (.int .i64)) [0]),(14,.v (.int .i64) [])] [5,7,14] [(2,[(5,.v (.slice (.int .i64)) [0])])] (.s .z (.s .z (.s (.j [5,7] [(0,[(5,.v (.slice (.int .i64)) [0])])] .z) .z)))))) .z)))
def sp114 : Spec fam:=⟨[.rp (.st 17),.v (.int .i64) []],[.v (.slice (.int .i64)) [0]],fun a => dm a.1 a.2.1⟩
def sy (s : State) (id_ : Int) (beat : Int) : Option (State × Int) :=
 (qA s).bind fun x =>
 (oG x id_).bind fun i =>
 bif decide (i < 0) then
 some (x,2)
 else
 (inb i x.Nodes.length).bind fun i1 =>
 (x.Nodes[i1]?).bind fun x1 =>
 bif ! x1.Up then
  some (x,18)
 else
  (
  bif decide (beat < 0) then
   some true
  else
   (inb i x.Nodes.length).bind fun i2 =>
   (x.Nodes[i2]?).bind fun x2 =>
   some (decide (beat < x2.Beat))).bind fun q =>
  bif q then
  some (x,15)
  else
  (inb i x.Nodes.length).bind fun i3 =>
  (x.Nodes[i3]?).bind fun x3 =>
  bif decide ((w64 (beat - x3.Beat)) > 1) then
   some (x,1)
  else
   (inb i x.Nodes.length).bind fun i4 =>
   (x.Nodes[i4]?).bind fun x4 =>
   (inb i (List.set x.Nodes i4 (⟨x4.Id,x4.Label,x4.Rack,⟨x4.Cap.Mem,x4.Cap.Cores⟩,x.Now,x4.Beat,x4.Up⟩ : Node)).length).bind fun i5 =>
   ((List.set x.Nodes i4 (⟨x4.Id,x4.Label,x4.Rack,⟨x4.Cap.Mem,x4.Cap.Cores⟩,x.Now,x4.Beat,x4.Up⟩ : Node))[i5]?).bind fun x5 =>
   some ((⟨⟨x.Conf.Labels,x.Conf.Queues⟩,List.set (List.set x.Nodes i4 (⟨x4.Id,x4.Label,x4.Rack,⟨x4.Cap.Mem,x4.Cap.Cores⟩,x.Now,x4.Beat,x4.Up⟩ : Node)) i5 (⟨x5.Id,x5.Label,x5.Rack,⟨x5.Cap.Mem,x5.Cap.Cores⟩,x5.Seen,beat,x5.Up⟩ : Node),x.Apps,x.Conts,x.Slots,x.Plans,x.Now,x.Epoch,x.Seq⟩ : State),0)
def h115 : Hint:=(.s .z (.s .z (.s .z (.s (.b (.s .z (.c .z (.s .z (.c .z (.s (.j [] [(0,[(27,.v .bool [])])] .z) .z)))))) .z))))
def sp115 : Spec fam:=⟨[.v (.st 10) [],.v (.int .i64) [],.v (.int .i64) []],[.v (.st 10) [0,1,2,3,4,5,6],.v (.int .i64) []],fun a => sy a.1 a.2.1 a.2.2.1⟩
def cj (s : List Int) (f : (TupT fam [.int .i64] → Option Bool)) (t : Int) : Option (Int ⊕ (Int ⊕ Unit)) :=
 bif decide (t < (s.length : Int)) then
 (idx s t).bind fun x =>
 (f (x,())).bind fun r =>
 bif r then
  some (.inr (.inl t))
 else
  some (.inl (w64 (t + 1)))
 else
 some (.inr (.inr ()))
def a_ (s : List Int) (f : (TupT fam [.int .i64] → Option Bool)) : Option Int :=
 (loop (cj s f) 0).bind fun q0 =>
 match q0 with
 | .inl q =>
 some q
 | .inr _ =>
 some (-1)
def h168 : Hint:=(.s .z (.s (.s .z (.b (.l [(8,.v (.int .i64) [])] [4,5,8] [(1,[(4,.v (.int .i64) [])]),(2,[])] .z))) .z))
def sp168 : Spec fam:=⟨[.v (.slice (.int .i64)) [],.fn [.int .i64] .bool],[.v (.int .i64) []],fun a => a_ a.1 a.2.1⟩
def eJ (del : (TupT fam [.int .i64] → Option Bool)) (t : List Int × Int × Int) : Option ((List Int × Int × Int) ⊕ ((List Int × Int))) :=
 bif decide (t.2.2 < (t.1.length : Int)) then
 (
  (inb t.2.2 t.1.length).bind fun i1 =>
  (t.1[i1]?).bind fun x =>
  (del (x,())).bind fun r =>
  bif ! r then
  (inb t.2.1 t.1.length).bind fun i2 =>
  (t.1[i2]?).bind fun x1 =>
  some (List.set t.1 i2 x,w64 (t.2.1 + 1))
  else
  some (t.1,t.2.1)).bind fun q =>
 some (.inl (q.1,q.2,w64 (t.2.2 + 1)))
 else
 some (.inr (t.1,t.2.1))
def bH (s : List Int) (del : (TupT fam [.int .i64] → Option Bool)) : Option (List Int) :=
 (a_ s del).bind fun i =>
 bif i == (-1) then
 some s
 else
 (loop (eJ del) (s,i,w64 (i + 1))).bind fun q1 =>
 (inS q1.2 (q1.1.length : Int) q1.1.length).bind fun p =>
 (inS 0 q1.2 (cpy q1.1 p.1 p.2 (List.replicate p.2 0)).length).bind fun p1 =>
 some (List.take p1.2 (cpy q1.1 p.1 p.2 (List.replicate p.2 0)))
def h116 : Hint:=(.s .z (.s .z (.s .z (.s (.s .z (.b (.l [(0,.row (.int .i64) false),(5,.v (.int .i64) []),(6,.v (.int .i64) [])] [0,5,6,7] [(2,[(0,.row (.int .i64) false),(5,.v (.int .i64) [])])] (.s .z (.s (.j [0,5,7] [(0,[(0,.row (.int .i64) false),(5,.v (.int .i64) [])])] .z) .z))))) (.s .z (.s (.r [9998]) .z))))))
def sp116 : Spec fam:=⟨[.v (.slice (.int .i64)) [0],.fn [.int .i64] .bool],[.v (.slice (.int .i64)) [0]],fun a => bH a.1 a.2.1⟩
def qU (s : List Int) : Option (List Int) :=
 bif s.isEmpty then
 none
 else
 (app 8 [] s).bind fun l =>
 some l
def bI (s : List Int) : Option (List Int):=app 8 [] s
def h117 : Hint:=.z
def sp117 : Spec fam:=⟨[.v (.slice (.int .i64)) []],[.v (.slice (.int .i64)) [0]],fun a => bI a.1⟩
def Kx : Spec fam:=⟨[.v (.slice (.int .i64)) []],[.v (.slice (.int .i64)) [0]],fun a => qU a.1⟩
def jm (_a0 : Int) (_a1 : List Int) : Option Bool:=none
def sp118 : Spec fam:=⟨[.v (.int .i64) [],.rp (.slice (.int .i64))],[.v .bool []],fun a => jm a.1 a.2.1⟩
def rB (s : State) (id_ : Int) (t : Vec × Int) : Option ((Vec × Int) ⊕ Vec) :=
 bif decide (t.2 < (s.Conts.length : Int)) then
 (
  (idx s.Conts t.2).bind fun x =>
  bif x.Node == id_ then
  (dv t.1 x.Size).bind fun x1 =>
  some x1.1
  else
  some t.1).bind fun out =>
 some (.inl (out,w64 (t.2 + 1)))
 else
 some (.inr t.1)
def r9 (s : State) (id_ : Int) : Option Vec :=
 (loop (rB s id_) ((⟨0,0⟩ : Vec),0)).bind fun out1 =>
 some out1
def h231 : Hint:=(.s .z (.s .z (.s (.s .z (.b (.l [(5,.box (.st 0) []),(11,.v (.int .i64) [])] [5,7,11] [(2,[(5,.box (.st 0) [])])] (.s .z (.s .z (.s (.j [5,7] [(0,[(5,.box (.st 0) [])])] .z) .z)))))) .z)))
def sp231 : Spec fam:=⟨[.v (.st 10) [],.v (.int .i64) []],[.v (.st 0) []],fun a => r9 a.1 a.2.1⟩
def rW (s : State) (id_ : Int) : Option Vec :=
 (iu s id_).bind fun x =>
 (
 bif ! x.2 then
  some true
 else
  some (! x.1.Up)).bind fun q =>
 bif q then
 some (⟨0,0⟩ : Vec)
 else
 (r9 s id_).bind fun x1 =>
 some (⟨imax (w64 (x.1.Cap.Mem - x1.Mem)) 0,imax (w64 (x.1.Cap.Cores - x1.Cores)) 0⟩ : Vec)
def h200 : Hint:=(.s .z (.s .z (.s (.s (.j [] [(0,[(20,.v .bool [])])] .z) .z) .z)))
def sp200 : Spec fam:=⟨[.v (.st 10) [],.v (.int .i64) []],[.v (.st 0) []],fun a => rW a.1 a.2.1⟩
def wh (_a0 : Slot) (_a1 : Bool) : Option Bool:=none
def sp232 : Spec fam:=⟨[.v (.st 8) [],.rp .bool],[.v .bool []],fun a => wh a.1 a.2.1⟩
def GA (_a0 : App) (_a1 : Int) : Option (Ask × Bool):=none
def sp233 : Spec fam:=⟨[.v (.st 6) [],.v (.int .i64) []],[.v (.st 5) [],.v .bool []],fun a => GA a.1 a.2.1⟩
def lu (a : Ask) (n : Node) : Option Int :=
 (
 (
  bif ! n.Up then
  some true
  else
  some (n.Label != a.Label)).bind fun q =>
 bif q then
  some (.inr (.inl 4))
 else
  bif a.Rack == (-1) then
  some (.inl ())
  else
  (
   bif a.Node == n.Id then
   some (a.Node == n.Id)
   else
   bif a.Node == (-1) then
    some (a.Rack == n.Rack)
   else
    some false).bind fun q1 =>
  bif q1 then
   some (.inl ())
  else
   bif a.Rack == n.Rack then
   some (.inr (.inr (.inr ())))
   else
   some (.inr (.inr (.inl ()))) : Option (Unit ⊕ Int ⊕ Unit ⊕ Unit)).bind fun q0 =>
 match q0 with
 | .inl _ =>
 some 1
 | .inr (.inl q2) =>
 some q2
 | .inr (.inr (.inl _)) =>
 some 3
 | .inr (.inr (.inr _)) =>
 some 2
def h275 : Hint:=(.s .z (.s (.b (.s (.b (.s (.j [5,20] [(0,[]),(1,[(4,.v (.int .i64) [])]),(2,[]),(6,[])] (.b (.b (.s (.b (.s (.s (.s (.j [] [(0,[(5,.v .bool [])])] .z) .z) (.s .z (.s (.s (.j [] [(0,[(20,.v .bool [])])] .z) .z) .z))) .z)) .z)))) .z)) .z)) .z))
def sp275 : Spec fam:=⟨[.v (.st 5) [],.v (.st 4) []],[.v (.int .i64) []],fun a => lu a.1 a.2.1⟩
def qp (a : Ask) (n : Node) : Option Bool :=
 (lu a n).bind fun x =>
 bif x == 1 then
 some true
 else
 bif x == 2 then
  some (decide (a.Missed ≥ 2))
 else
  bif x == 3 then
  some (decide (a.Missed ≥ 4))
  else
  some false
def h234 : Hint:=.z
def sp234 : Spec fam:=⟨[.v (.st 5) [],.v (.st 4) []],[.v .bool []],fun a => qp a.1 a.2.1⟩
def dL (t : Attempt) (x : Ask) : Option Bool :=
 (lu x t.n).bind fun x1 =>
 bif x1 != 4 then
 (cX x.Size t.n.Cap).bind fun x2 =>
 some x2
 else
 some false
def h235 : Hint:=.z
def sp235 : Spec fam:=⟨[.rp (.st 18),.v (.st 5) []],[.v .bool []],fun a => dL a.1 a.2.1⟩
def jr (v : View) (c : Cont) (t : App × Int) : Option ((App × Int) ⊕ ((App × Bool) ⊕ App)) :=
 bif decide (t.2 < (v.s.Apps.length : Int)) then
 (idx v.s.Apps t.2).bind fun x =>
 bif x.Id == c.App then
  some (.inr (.inl (x,true)))
 else
  some (.inl (t.1,w64 (t.2 + 1)))
 else
 some (.inr (.inr (t.1)))
def iF (v : View) (c : Cont) : Option (App × Bool) :=
 (loop (jr v c) ((⟨0,0,[],0,0,⟨0,0⟩,[],0,0,[],[],[],[]⟩ : App),0)).bind fun q0 =>
 match q0 with
 | .inl q =>
 some (q.1,q.2)
 | .inr q1 =>
 some ((⟨0,0,[],0,0,⟨0,0⟩,[],0,0,[],[],[],[]⟩ : App),false)
def h329 : Hint:=(.s .z (.s (.s .z (.b (.l [(4,.box (.st 6) [7,10,11,12,13]),(12,.v (.int .i64) [])] [4,5,7,12] [(1,[(4,.box (.st 6) []),(5,.v .bool [])]),(2,[(4,.box (.st 6) [7,10,11,12,13])])] .z))) .z))
def sp329 : Spec fam:=⟨[.v (.st 14) [],.v (.st 7) []],[.v (.st 6) [],.v .bool []],fun a => iF a.1 a.2.1⟩
def z9 (_a0 : List UInt8) (_a1 : List UInt8) : Option Bool:=none
def sp353 : Spec fam:=⟨[.v .str [],.v .str []],[.v .bool []],fun a => z9 a.1 a.2.1⟩
def gJ (v : View) (a : App) : Option Bool :=
 bif a.Queue == v.path then
 bif v.user == (-1) then
  some true
 else
  some (a.User == v.user)
 else
 (cat v.path ([46] : List UInt8)).bind fun s =>
 none
def h330 : Hint:=.z
def sp330 : Spec fam:=⟨[.v (.st 14) [],.v (.st 6) []],[.v .bool []],fun a => gJ a.1 a.2.1⟩
def jK (v : View) (t : Vec × Int) : Option ((Vec × Int) ⊕ Vec) :=
 bif decide (t.2 < (v.s.Conts.length : Int)) then
 (
  (idx v.s.Conts t.2).bind fun x =>
  (iF v x).bind fun x1 =>
  (
  bif x1.2 then
   bif x.Label == v.label then
   (gJ v x1.1).bind fun x2 =>
   some x2
   else
   some false
  else
   some false).bind fun q =>
  bif q then
  (dv t.1 x.Size).bind fun x3 =>
  some x3.1
  else
  some t.1).bind fun out =>
 some (.inl (out,w64 (t.2 + 1)))
 else
 some (.inr t.1)
def fH (v : View) : Option Vec :=
 (loop (jK v) ((⟨0,0⟩ : Vec),0)).bind fun out1 =>
 some out1
def h288 : Hint:=(.s .z (.s .z (.s .z (.s (.s .z (.b (.l [(3,.box (.st 0) []),(15,.v (.int .i64) [])] [3,6,7,8,15,37] [(2,[(3,.box (.st 0) [])])] (.s .z (.s .z (.s (.j [3,6,7,8,37] [(0,[(3,.box (.st 0) [])])] (.b (.s .z (.s .z (.s (.j [] [(0,[(37,.v .bool [])])] .z) .z))))) .z)))))) .z))))
def sp288 : Spec fam:=⟨[.v (.st 14) []],[.v (.st 0) []],fun a => fH a.1⟩
def cR (s : State) (path : List UInt8) (label : Int) : Option Vec :=
 (fH (⟨⟨⟨s.Conf.Labels,s.Conf.Queues⟩,s.Nodes,s.Apps,s.Conts,s.Slots,s.Plans,s.Now,s.Epoch,s.Seq⟩,path,label,(-1)⟩ : View)).bind fun x =>
 some x
def h247 : Hint:=.z
def sp247 : Spec fam:=⟨[.v (.st 10) [],.v .str [],.v (.int .i64) []],[.v (.st 0) []],fun a => cR a.1 a.2.1 a.2.2.1⟩
def tA (l : List Vec) (t : Vec × Int) : Option ((Vec × Int) ⊕ Vec) :=
 bif decide (t.2 < (l.length : Int)) then
 (idx l t.2).bind fun x =>
 (dv t.1 x).bind fun x1 =>
 some (.inl (x1.1,w64 (t.2 + 1)))
 else
 some (.inr t.1)
def qz (l : List Vec) : Option Vec :=
 (loop (tA l) ((⟨0,0⟩ : Vec),0)).bind fun out =>
 some out
def h221 : Hint:=(.s .z (.s .z (.s (.s .z (.b (.l [(3,.box (.st 0) []),(8,.v (.int .i64) [])] [3,5,8] [(2,[(3,.box (.st 0) [])])] .z))) .z)))
def sp221 : Spec fam:=⟨[.v (.slice (.st 0)) []],[.v (.st 0) []],fun a => qz a.1⟩
def oU (s : State) (label : Int) (t : List Vec × Int) : Option ((List Vec × Int) ⊕ List Vec) :=
 bif decide (t.2 < (s.Nodes.length : Int)) then
 (
  (idx s.Nodes t.2).bind fun x =>
  (
  bif x.Up then
   some (x.Label == label)
  else
   some false).bind fun q =>
  bif q then
  (app 16 t.1 [x.Cap]).bind fun l =>
  some l
  else
  some t.1).bind fun l1 =>
 some (.inl (l1,w64 (t.2 + 1)))
 else
 some (.inr t.1)
def d4 (s : State) (label : Int) : Option Vec :=
 (loop (oU s label) ([],0)).bind fun l2 =>
 (qz l2).bind fun x1 =>
 some x1
def h188 : Hint:=(.s .z (.s .z (.s (.s .z (.b (.l [(5,.v (.slice (.st 0)) [0]),(11,.v (.int .i64) [])] [5,7,11,22] [(2,[(5,.v (.slice (.st 0)) [0])])] (.s .z (.s .z (.s (.j [5,7,22] [(0,[(5,.v (.slice (.st 0)) [0])])] (.b (.s .z (.s (.j [] [(0,[(22,.v .bool [])])] .z) .z)))) .z)))))) .z)))
def sp188 : Spec fam:=⟨[.v (.st 10) [],.v (.int .i64) []],[.v (.st 0) []],fun a => d4 a.1 a.2.1⟩
def ss (x : Int) (y : Int) : Option (Int × Int) :=
 let w0:=IntKind.u64.wrap ((andK .u64 x 4294967295) * (andK .u64 y 4294967295))
 let t:=IntKind.u64.wrap ((IntKind.u64.wrap ((shrK .u64 x 32) * (andK .u64 y 4294967295))) + (shrK .u64 w0 32))
 let w1:=IntKind.u64.wrap ((andK .u64 t 4294967295) + (IntKind.u64.wrap ((andK .u64 x 4294967295) * (shrK .u64 y 32))))
 let hi:=IntKind.u64.wrap ((IntKind.u64.wrap ((IntKind.u64.wrap ((shrK .u64 x 32) * (shrK .u64 y 32))) + (shrK .u64 t 32))) + (shrK .u64 w1 32))
 some (hi,IntKind.u64.wrap (x * y))
def h363 : Hint:=.z
def sp363 : Spec fam:=⟨[.v (.int .u64) [],.v (.int .u64) []],[.v (.int .u64) [],.v (.int .u64) []],fun a => ss a.1 a.2.1⟩
def yb (_a0 : Int) : Option Int:=none
def sp377 : Spec fam:=⟨[.v (.int .u64) []],[.v (.int .i64) []],fun a => yb a.1⟩
def rV (hi : Int) (lo : Int) (y : Int) : Option (Int × Int) :=
 bif y == 0 then
 none
 else
 bif decide (y ≤ hi) then
  none
 else
  bif hi == 0 then
  (nz y).bind fun _ =>
  (nz y).bind fun _ =>
  some (IntKind.u64.wrap (Int.tdiv lo y),Int.tmod lo y)
  else
  none
def h364 : Hint:=.z
def sp364 : Spec fam:=⟨[.v (.int .u64) [],.v (.int .u64) [],.v (.int .u64) []],[.v (.int .u64) [],.v (.int .u64) []],fun a => rV a.1 a.2.1 a.2.2.1⟩
def qE (n : Int) (bp : Int) : Option Int :=
 (ss (IntKind.u64.wrap n) (IntKind.u64.wrap bp)).bind fun x =>
 (rV x.1 x.2 10000).bind fun x1 =>
 some (w64 x1.1)
def h344 : Hint:=.z
def sp344 : Spec fam:=⟨[.v (.int .i64) [],.v (.int .i64) []],[.v (.int .i64) []],fun a => qE a.1 a.2.1⟩
def nY (a : Vec) (bp : Int) : Option (Vec × Int) :=
 (
 (dq a).bind fun x =>
 bif ! x then
  some true
 else
  bif decide (bp < 0) then
  some true
  else
  some (decide (bp > 1000000))).bind fun q =>
 bif q then
 some ((⟨0,0⟩ : Vec),1)
 else
 (qE a.Mem bp).bind fun x1 =>
 (qE a.Cores bp).bind fun x2 =>
 (qr (⟨x1,x2⟩ : Vec)).bind fun x3 =>
 some (x3.1,x3.2)
def h315 : Hint:=(.s .z (.s (.s (.j [] [(0,[(16,.v .bool [])])] .z) .z) .z))
def sp315 : Spec fam:=⟨[.v (.st 0) [],.v (.int .i64) []],[.v (.st 0) [],.v (.int .i64) []],fun a => nY a.1 a.2.1⟩
def xI (t : List UInt8 × List (List UInt8)) : Option ((List UInt8 × List (List UInt8)) ⊕ List (List UInt8)) :=
 bif ! (t.1 == ([] : List UInt8)) then
 (app 16 t.2 [t.1]).bind fun l =>
 (ky t.1).bind fun x =>
 some (.inl (x.1,l))
 else
 some (.inr t.2)
def wc (path : List UInt8) : Option (List (List UInt8)) :=
 (loop xI (path,[])).bind fun out =>
 some out
def h316 : Hint:=(.s .z (.s .z (.s (.b (.l [(0,.v .str []),(3,.v (.slice (.str)) [0])] [0,3] [(2,[(3,.v (.slice (.str)) [0])])] .z)) .z)))
def sp316 : Spec fam:=⟨[.v .str []],[.v (.slice (.str)) [0]],fun a => wc a.1⟩
def qK (s : State) (label : Int) (part : (TupT fam [.st 1] → Option Int)) (up : List (List UInt8)) (t : Vec × Vec × Int) : Option ((Vec × Vec × Int) ⊕ (Vec ⊕ (Vec × Vec))) :=
 bif decide (t.2.2 ≥ 0) then
 (inb t.2.2 up.length).bind fun i1 =>
 (up[i1]?).bind fun x2 =>
 (ig s.Conf x2).bind fun x3 =>
 (
  bif ! x3.2 then
  some true
  else
  bif decide (label < 0) then
   some true
  else
   some (decide (label ≥ (x3.1.Caps.length : Int)))).bind fun q =>
 bif q then
  some (.inr (.inl (⟨0,0⟩ : Vec)))
 else
  (inb label x3.1.Caps.length).bind fun i2 =>
  (x3.1.Caps[i2]?).bind fun x4 =>
  (part (x4,())).bind fun r =>
  (nY t.2.1 r).bind fun x5 =>
  some (.inl (t.1,x5.1,w64 (t.2.2 - 1)))
 else
 some (.inr (.inr (t.1,t.2.1)))
def mV (s : State) (path : List UInt8) (label : Int) (part : (TupT fam [.st 1] → Option Int)) : Option Vec :=
 (wc path).bind fun up =>
 (ig s.Conf path).bind fun x =>
 bif ! x.2 then
 some (⟨0,0⟩ : Vec)
 else
 (d4 s label).bind fun x1 =>
 let i:=w64 ((up.length : Int) - 2)
 (loop (qK s label part up) ((⟨0,0⟩ : Vec),x1,i)).bind fun q0 =>
 match q0 with
 | .inl q1 =>
  some q1
 | .inr q2 =>
  some q2.2
def h313 : Hint:=(.s .z (.s .z (.s .z (.s .z (.s (.s .z (.b (.l [(8,.box (.st 0) []),(12,.box (.st 0) []),(13,.v (.int .i64) [])] [8,12,13,14,60] [(1,[(8,.box (.st 0) [])]),(2,[(8,.box (.st 0) []),(12,.box (.st 0) [])])] (.s .z (.s (.b (.s .z (.s (.s (.j [] [(0,[(60,.v .bool [])])] .z) .z) .z))) .z))))) .z)))))
def sp313 : Spec fam:=⟨[.v (.st 10) [],.v .str [],.v (.int .i64) [],.fn [.st 1] (.int .i64)],[.v (.st 0) []],fun a => mV a.1 a.2.1 a.2.2.1 a.2.2.2.1⟩
def iA (_a0 : Cap) : Option Int:=none
def sp314 : Spec fam:=⟨[.v (.st 1) []],[.v (.int .i64) []],fun a => iA a.1⟩
def d7 (s : State) (path : List UInt8) (label : Int) : Option Vec :=
 (mV s path label (fun a' => iA a'.1)).bind fun x =>
 some x
def h276 : Hint:=.z
def sp276 : Spec fam:=⟨[.v (.st 10) [],.v .str [],.v (.int .i64) []],[.v (.st 0) []],fun a => d7 a.1 a.2.1 a.2.2.1⟩
def fu (t : Attempt) (a : App) (x : Ask) : Option Bool :=
 (cR t.s a.Queue t.n.Label).bind fun x1 =>
 (dv x1 x.Size).bind fun x2 =>
 bif x2.2 == 0 then
 (d7 t.s a.Queue t.n.Label).bind fun x3 =>
 (cX x2.1 x3).bind fun x4 =>
 some x4
 else
 some false
def h236 : Hint:=.z
def sp236 : Spec fam:=⟨[.rp (.st 18),.v (.st 6) [],.v (.st 5) []],[.v .bool []],fun a => fu a.1 a.2.1 a.2.2.1⟩
def ki (s : State) (path : List UInt8) (label : Int) (user : Int) : Option Vec :=
 bif user == (-1) then
 some (⟨0,0⟩ : Vec)
 else
 (fH (⟨⟨⟨s.Conf.Labels,s.Conf.Queues⟩,s.Nodes,s.Apps,s.Conts,s.Slots,s.Plans,s.Now,s.Epoch,s.Seq⟩,path,label,user⟩ : View)).bind fun x =>
 some x
def h277 : Hint:=.z
def sp277 : Spec fam:=⟨[.v (.st 10) [],.v .str [],.v (.int .i64) [],.v (.int .i64) []],[.v (.st 0) []],fun a => ki a.1 a.2.1 a.2.2.1 a.2.2.2.1⟩
def rZ (s : State) (path : List UInt8) (label : Int) : Option Vec :=
 (ig s.Conf path).bind fun x =>
 (d7 s path label).bind fun x1 =>
 (nY x1 x.1.User).bind fun x2 =>
 some x2.1
def h278 : Hint:=.z
def sp278 : Spec fam:=⟨[.v (.st 10) [],.v .str [],.v (.int .i64) []],[.v (.st 0) []],fun a => rZ a.1 a.2.1 a.2.2.1⟩
def ez (t : Attempt) (a : App) : Option Bool :=
 (ki t.s a.Queue t.n.Label a.User).bind fun x =>
 (rZ t.s a.Queue t.n.Label).bind fun x1 =>
 (cX x x1).bind fun x2 =>
 some x2
def h237 : Hint:=.z
def sp237 : Spec fam:=⟨[.rp (.st 18),.v (.st 6) []],[.v .bool []],fun a => ez a.1 a.2.1⟩
def eA (t : Attempt) (x : Ask) : Option Bool :=
 (cX x.Size t.free).bind fun x1 =>
 some x1
def h238 : Hint:=.z
def sp238 : Spec fam:=⟨[.rp (.st 18),.v (.st 5) []],[.v .bool []],fun a => eA a.1 a.2.1⟩
def jd (_a0 : Cap) : Option Int:=none
def sp345 : Spec fam:=⟨[.v (.st 1) []],[.v (.int .i64) []],fun a => jd a.1⟩
def mX (s : State) (path : List UInt8) (label : Int) : Option Vec :=
 (mV s path label (fun a' => jd a'.1)).bind fun x =>
 some x
def h317 : Hint:=.z
def sp317 : Spec fam:=⟨[.v (.st 10) [],.v .str [],.v (.int .i64) []],[.v (.st 0) []],fun a => mX a.1 a.2.1 a.2.2.1⟩
def qT (s : State) (label : Int) (t : List Vec × Int) : Option ((List Vec × Int) ⊕ List Vec) :=
 bif decide (t.2 < (s.Plans.length : Int)) then
 (
  (idx s.Plans t.2).bind fun x =>
  (
  bif x.Label == label then
   bif decide (x.From ≤ s.Now) then
   some (decide (x.Until > s.Now))
   else
   some false
  else
   some false).bind fun q =>
  bif q then
  (app 16 t.1 [x.Need]).bind fun l =>
  some l
  else
  some t.1).bind fun l1 =>
 some (.inl (l1,w64 (t.2 + 1)))
 else
 some (.inr t.1)
def sA (s : State) (label : Int) : Option Vec :=
 (loop (qT s label) ([],0)).bind fun l2 =>
 (qz l2).bind fun x1 =>
 some x1
def h318 : Hint:=(.s .z (.s .z (.s (.s .z (.b (.l [(5,.v (.slice (.st 0)) [0]),(11,.v (.int .i64) [])] [5,7,11,32] [(2,[(5,.v (.slice (.st 0)) [0])])] (.s .z (.s .z (.s (.j [5,7,32] [(0,[(5,.v (.slice (.st 0)) [0])])] (.b (.s .z (.s (.j [] [(0,[(32,.v .bool [])])] .z) .z)))) .z)))))) .z)))
def sp318 : Spec fam:=⟨[.v (.st 10) [],.v (.int .i64) []],[.v (.st 0) []],fun a => sA a.1 a.2.1⟩
def rq (s : State) (label : Int) (size : Vec) (x : List (List UInt8)) (t : Int) : Option (Int ⊕ (Bool ⊕ Unit)) :=
 bif decide (t < (x.length : Int)) then
 (inb t x.length).bind fun i =>
 (x[i]?).bind fun x1 =>
 (cR s x1 label).bind fun x2 =>
 (dv x2 size).bind fun x3 =>
 (
  bif x3.2 != 0 then
  some true
  else
  (mX s x1 label).bind fun x4 =>
  (cX x3.1 x4).bind fun x5 =>
  some (! x5)).bind fun q =>
 bif q then
  some (.inr (.inl false))
 else
  (d4 s label).bind fun x6 =>
  (sA s label).bind fun x7 =>
  (
  bif x1 == ([114,111,111,116] : List UInt8) then
   bif ! (((imax (w64 (x6.Mem - x7.Mem)) 0) == x6.Mem) && ((imax (w64 (x6.Cores - x7.Cores)) 0) == x6.Cores)) then
   (cX x3.1 (⟨imax (w64 (x6.Mem - x7.Mem)) 0,imax (w64 (x6.Cores - x7.Cores)) 0⟩ : Vec)).bind fun x8 =>
   some (! x8)
   else
   some false
  else
   some false).bind fun q1 =>
  bif q1 then
  some (.inr (.inl false))
  else
  some (.inl (w64 (t + 1)))
 else
 some (.inr (.inr ()))
def rY (s : State) (path : List UInt8) (label : Int) (size : Vec) : Option Bool :=
 (wc path).bind fun x =>
 (loop (rq s label size x) 0).bind fun q0 =>
 match q0 with
 | .inl q2 =>
 some q2
 | .inr _ =>
 some true
def h279 : Hint:=(.s .z (.s (.s .z (.b (.l [(19,.v (.int .i64) [])] [8,10,11,12,13,14,15,19,42,74] [(1,[(8,.v .bool [])]),(2,[])] (.s .z (.s .z (.s (.b (.s .z (.s .z (.s (.s (.j [] [(0,[(42,.v .bool [])])] .z) .z) (.s .z (.s .z (.s (.j [] [(0,[(74,.v .bool [])])] .z) .z))))))) .z)))))) .z))
def sp279 : Spec fam:=⟨[.v (.st 10) [],.v .str [],.v (.int .i64) [],.v (.st 0) []],[.v .bool []],fun a => rY a.1 a.2.1 a.2.2.1 a.2.2.2.1⟩
def eG (t : Attempt) (a : App) (x : Ask) : Option Bool :=
 (rY t.s a.Queue t.n.Label x.Size).bind fun x1 =>
 some x1
def h239 : Hint:=.z
def sp239 : Spec fam:=⟨[.rp (.st 18),.v (.st 6) [],.v (.st 5) []],[.v .bool []],fun a => eG a.1 a.2.1 a.2.2.1⟩
def Di (s : List App) (i : Int) (v : List App) : Option (List App) :=
 (inS i (s.length : Int) s.length).bind fun p =>
 bif (v.length : Int) == 0 then
 some s
 else
 bif i == (s.length : Int) then
  (app 200 s v).bind fun l =>
  some l
 else
  none
def oi (s : List App) (i : Int) (v : List App) : Option (List App):=ins s i v
def h170 : Hint:=.z
def sp170 : Spec fam:=⟨[.v (.slice (.st 6)) [0],.v (.int .i64) [],.v (.slice (.st 6)) [0]],[.v (.slice (.st 6)) [0]],fun a => oi a.1 a.2.1 a.2.2.1⟩
def Mb : Spec fam:=⟨[.v (.slice (.st 6)) [0],.v (.int .i64) [],.v (.slice (.st 6)) [0]],[.v (.slice (.st 6)) [0]],fun a => Di a.1 a.2.1 a.2.2.1⟩
def vk (s : State) (a : App) (k : Int) : Option (Int ⊕ Int) :=
 (
 bif decide (k < (s.Apps.length : Int)) then
  (inb k s.Apps.length).bind fun i2 =>
  (s.Apps[i2]?).bind fun x1 =>
  some (decide (x1.Id < a.Id))
 else
  some false).bind fun q =>
 bif q then
 some (.inl (w64 (k + 1)))
 else
 some (.inr k)
def tu (s : State) (a : App) : Option State :=
 (oF s a.Id).bind fun i =>
 bif decide (i ≥ 0) then
 (inb i s.Apps.length).bind fun i1 =>
 (s.Apps[i1]?).bind fun x =>
 some (⟨⟨s.Conf.Labels,s.Conf.Queues⟩,s.Nodes,List.set s.Apps i1 a,s.Conts,s.Slots,s.Plans,s.Now,s.Epoch,s.Seq⟩ : State)
 else
 (loop (vk s a) 0).bind fun k1 =>
 (oi s.Apps k1 [a]).bind fun x2 =>
 some (⟨⟨s.Conf.Labels,s.Conf.Queues⟩,s.Nodes,x2,s.Conts,s.Slots,s.Plans,s.Now,s.Epoch,s.Seq⟩ : State)
def h125 : Hint:=(.s .z (.s .z (.s .z (.s (.b (.l [(6,.v (.int .i64) [])] [6,34] [(2,[(6,.v (.int .i64) [])])] (.s (.s (.j [] [(0,[(34,.v .bool [])])] .z) .z) .z))) .z))))
def sp125 : Spec fam:=⟨[.v (.st 10) [0,1,2,3,4,5,6],.v (.st 6) [7,10,11,12,13,9999]],[.v (.st 10) [0,1,2,3,4,5,6]],fun a => tu a.1 a.2.1⟩
def sK (s : State) (a : App) : Option State :=
 (m7 s).bind fun x =>
 (mf a).bind fun x1 =>
 (tu x x1).bind fun x2 =>
 some x2
def h131 : Hint:=.z
def sp131 : Spec fam:=⟨[.v (.st 10) [],.ln (.st 6)],[.v (.st 10) [0,1,2,3,4,5,6]],fun a => sK a.1 a.2.1⟩
def tF (l : List Ask) : Option (List Ask) :=
 (mkl 64 (l.length : Int) (l.length : Int) (⟨0,0,⟨0,0⟩,0,0,0,0⟩ : Ask)).bind fun l1 =>
 some (cpy l1 0 l1.length l)
def h173 : Hint:=.z
def sp173 : Spec fam:=⟨[.v (.slice (.st 5)) []],[.v (.slice (.st 5)) [0]],fun a => tF a.1⟩
def nX (s : List Ask) (f : (TupT fam [.st 5] → Option Bool)) (t : Int) : Option (Int ⊕ (Int ⊕ Unit)) :=
 bif decide (t < (s.length : Int)) then
 (idx s t).bind fun x =>
 (f (x,())).bind fun r =>
 bif r then
  some (.inr (.inl t))
 else
  some (.inl (w64 (t + 1)))
 else
 some (.inr (.inr ()))
def j_ (s : List Ask) (f : (TupT fam [.st 5] → Option Bool)) : Option Int :=
 (loop (nX s f) 0).bind fun q0 =>
 match q0 with
 | .inl q =>
 some q
 | .inr _ =>
 some (-1)
def h207 : Hint:=(.s .z (.s (.s .z (.b (.l [(8,.v (.int .i64) [])] [4,5,8] [(1,[(4,.v (.int .i64) [])]),(2,[])] .z))) .z))
def sp207 : Spec fam:=⟨[.v (.slice (.st 5)) [],.fn [.st 5] .bool],[.v (.int .i64) []],fun a => j_ a.1 a.2.1⟩
def u7 (a : Ask) (p : Int) : Option Bool :=
 some (a.Prio == p)
def h346 : Hint:=.z
def sp346 : Spec fam:=⟨[.v (.st 5) [],.rp (.int .i64)],[.v .bool []],fun a => u7 a.1 a.2.1⟩
def zW (l : List Ask) (prio : Int) : Option Int :=
 (j_ l (fun a' => u7 a'.1 prio)).bind fun x =>
 some x
def h319 : Hint:=.z
def sp319 : Spec fam:=⟨[.v (.slice (.st 5)) [],.v (.int .i64) []],[.v (.int .i64) []],fun a => zW a.1 a.2.1⟩
def n9 (s : List Ask) (i : Int) (j : Int) : Option (List Ask):=del s i j
def sp320 : Spec fam:=⟨[.v (.slice (.st 5)) [0],.v (.int .i64) [],.v (.int .i64) []],[.v (.slice (.st 5)) [0]],fun a => n9 a.1 a.2.1 a.2.2.1⟩
def u3 (l : List Ask) (prio : Int) : Option (List Ask × Bool) :=
 (tF l).bind fun out =>
 (zW out prio).bind fun i =>
 bif decide (i < 0) then
 some (out,false)
 else
 (inb i out.length).bind fun i1 =>
 (out[i1]?).bind fun x =>
 (inb i (List.set out i1 (⟨x.Prio,x.Label,⟨x.Size.Mem,x.Size.Cores⟩,x.Count,x.Node,x.Rack,0⟩ : Ask)).length).bind fun i2 =>
 ((List.set out i1 (⟨x.Prio,x.Label,⟨x.Size.Mem,x.Size.Cores⟩,x.Count,x.Node,x.Rack,0⟩ : Ask))[i2]?).bind fun x1 =>
 (inb i (List.set out i1 (⟨x.Prio,x.Label,⟨x.Size.Mem,x.Size.Cores⟩,x.Count,x.Node,x.Rack,0⟩ : Ask)).length).bind fun i3 =>
 ((List.set out i1 (⟨x.Prio,x.Label,⟨x.Size.Mem,x.Size.Cores⟩,x.Count,x.Node,x.Rack,0⟩ : Ask))[i3]?).bind fun x2 =>
 (
  (inb i (List.set (List.set out i1 (⟨x.Prio,x.Label,⟨x.Size.Mem,x.Size.Cores⟩,x.Count,x.Node,x.Rack,0⟩ : Ask)) i3 (⟨x2.Prio,x2.Label,⟨x2.Size.Mem,x2.Size.Cores⟩,w64 (x1.Count - 1),x2.Node,x2.Rack,x2.Missed⟩ : Ask)).length).bind fun i4 =>
  ((List.set (List.set out i1 (⟨x.Prio,x.Label,⟨x.Size.Mem,x.Size.Cores⟩,x.Count,x.Node,x.Rack,0⟩ : Ask)) i3 (⟨x2.Prio,x2.Label,⟨x2.Size.Mem,x2.Size.Cores⟩,w64 (x1.Count - 1),x2.Node,x2.Rack,x2.Missed⟩ : Ask))[i4]?).bind fun x3 =>
  bif decide (x3.Count ≤ 0) then
  (n9 (List.set (List.set out i1 (⟨x.Prio,x.Label,⟨x.Size.Mem,x.Size.Cores⟩,x.Count,x.Node,x.Rack,0⟩ : Ask)) i3 (⟨x2.Prio,x2.Label,⟨x2.Size.Mem,x2.Size.Cores⟩,w64 (x1.Count - 1),x2.Node,x2.Rack,x2.Missed⟩ : Ask)) i (w64 (i + 1))).bind fun out1 =>
  some out1
  else
  some (List.set (List.set out i1 (⟨x.Prio,x.Label,⟨x.Size.Mem,x.Size.Cores⟩,x.Count,x.Node,x.Rack,0⟩ : Ask)) i3 (⟨x2.Prio,x2.Label,⟨x2.Size.Mem,x2.Size.Cores⟩,w64 (x1.Count - 1),x2.Node,x2.Rack,x2.Missed⟩ : Ask))).bind fun out2 =>
 some (out2,true)
def h280 : Hint:=(.s .z (.s .z (.s .z (.s .z (.s .z (.s .z (.s (.j [6] [(0,[(6,.v (.slice (.st 5)) [0])])] .z) .z)))))))
def sp280 : Spec fam:=⟨[.v (.slice (.st 5)) [],.v (.int .i64) []],[.v (.slice (.st 5)) [0],.v .bool []],fun a => u3 a.1 a.2.1⟩
def CP (s : List Cont) (i : Int) (v : List Cont) : Option (List Cont) :=
 (inS i (s.length : Int) s.length).bind fun p =>
 bif (v.length : Int) == 0 then
 some s
 else
 bif i == (s.length : Int) then
  (app 72 s v).bind fun l =>
  some l
 else
  none
def lz (s : List Cont) (i : Int) (v : List Cont) : Option (List Cont):=ins s i v
def h281 : Hint:=.z
def sp281 : Spec fam:=⟨[.v (.slice (.st 7)) [0],.v (.int .i64) [],.v (.slice (.st 7)) [0]],[.v (.slice (.st 7)) [0]],fun a => lz a.1 a.2.1 a.2.2.1⟩
def K9 : Spec fam:=⟨[.v (.slice (.st 7)) [0],.v (.int .i64) [],.v (.slice (.st 7)) [0]],[.v (.slice (.st 7)) [0]],fun a => CP a.1 a.2.1 a.2.2.1⟩
def fg (t : Attempt) (x2 : State) (k : Int) : Option (Int ⊕ Int) :=
 (
 bif decide (k < (x2.Conts.length : Int)) then
  (inb k x2.Conts.length).bind fun i =>
  (x2.Conts[i]?).bind fun x3 =>
  some (decide (x3.Id < (w64 ((shlK .i64 t.s.Epoch 20) + (w64 (t.s.Seq + 1))))))
 else
  some false).bind fun q =>
 bif q then
 some (.inl (w64 (k + 1)))
 else
 some (.inr k)
def dF (t : Attempt) (a : App) (x : Ask) : Option (Cont × Attempt) :=
 (u3 a.Asks x.Prio).bind fun x1 =>
 (
 bif a.State == 1 then
  some (⟨a.Id,2,a.Queue,a.User,a.Prio,⟨a.Master.Mem,a.Master.Cores⟩,[],t.s.Now,0,a.Grants,a.Kills,a.Told,a.Lost⟩ : App)
 else
  (app 8 a.Grants [w64 ((shlK .i64 t.s.Epoch 20) + (w64 (t.s.Seq + 1)))]).bind fun l =>
  some (⟨a.Id,a.State,a.Queue,a.User,a.Prio,⟨a.Master.Mem,a.Master.Cores⟩,x1.1,a.Seen,a.Beat,l,a.Kills,a.Told,a.Lost⟩ : App)).bind fun a1 =>
 (sK (⟨⟨t.s.Conf.Labels,t.s.Conf.Queues⟩,t.s.Nodes,t.s.Apps,t.s.Conts,t.s.Slots,t.s.Plans,t.s.Now,t.s.Epoch,w64 (t.s.Seq + 1)⟩ : State) a1).bind fun x2 =>
 (loop (fg t x2) 0).bind fun k1 =>
 (lz x2.Conts k1 [(⟨w64 ((shlK .i64 t.s.Epoch 20) + (w64 (t.s.Seq + 1))),a.Id,t.n.Id,⟨x.Size.Mem,x.Size.Cores⟩,x.Prio,x.Label,a.State == 1,0⟩ : Cont)]).bind fun x4 =>
 some ((⟨w64 ((shlK .i64 t.s.Epoch 20) + (w64 (t.s.Seq + 1))),a.Id,t.n.Id,⟨x.Size.Mem,x.Size.Cores⟩,x.Prio,x.Label,a.State == 1,0⟩ : Cont),(⟨⟨⟨x2.Conf.Labels,x2.Conf.Queues⟩,x2.Nodes,x2.Apps,x4,x2.Slots,x2.Plans,x2.Now,x2.Epoch,x2.Seq⟩,⟨t.n.Id,t.n.Label,t.n.Rack,⟨t.n.Cap.Mem,t.n.Cap.Cores⟩,t.n.Seen,t.n.Beat,t.n.Up⟩,⟨t.free.Mem,t.free.Cores⟩⟩ : Attempt))
def h241 : Hint:=(.s .z (.s .z (.s .z (.s .z (.s (.j [1,4] [(0,[(4,.box (.st 6) [7,10,11,12,13])])] .z) (.s .z (.s .z (.s (.b (.l [(8,.v (.int .i64) [])] [8,104] [(2,[(8,.v (.int .i64) [])])] (.s (.s (.j [] [(0,[(104,.v .bool [])])] .z) .z) .z))) .z))))))))
def sp241 : Spec fam:=⟨[.box (.st 18) [0,2,4,5,6],.v (.st 6) [7,10,11,12,13],.v (.st 5) []],[.v (.st 7) []],fun a => dF a.1 a.2.1 a.2.2.1⟩
def eF (t : Attempt) : Option (Int × Cont × Bool × Attempt) :=
 (qB t.s.Slots (fun a' => none)).bind fun i =>
 bif decide (i < 0) then
 some (0,(⟨0,0,0,⟨0,0⟩,0,0,false,0⟩ : Cont),false,t)
 else
 (inb i t.s.Slots.length).bind fun i1 =>
 (t.s.Slots[i1]?).bind fun x =>
 (ii t.s x.App).bind fun x1 =>
 none
def h201 : Hint:=.z
def sp201 : Spec fam:=⟨[.box (.st 18) [0,2,4,5,6]],[.v (.int .i64) [],.v (.st 7) [],.v .bool []],fun a => eF a.1⟩
def pJ (s : List Load) (f : (TupT fam [.st 15,.st 15] → Option Int)) : Option (List Load):=sortG (F:=fam) (.st 15) f s
def sp348 : Spec fam:=⟨[.row (.st 15) false,.fn [.st 15,.st 15] (.int .i64)],[],fun a => pJ a.1 a.2.1⟩
def jH (_a0 : Load) (_a1 : Load) : Option Int:=none
def sp349 : Spec fam:=⟨[.v (.st 15) [],.v (.st 15) []],[.v (.int .i64) []],fun a => jH a.1 a.2.1⟩
def qG (x4 : List Load) (t1 : List (List UInt8) × Int) : Option ((List (List UInt8) × Int) ⊕ List (List UInt8)) :=
 bif decide (t1.2 < (x4.length : Int)) then
 (inb t1.2 x4.length).bind fun i1 =>
 (x4[i1]?).bind fun x5 =>
 (inS t1.2 (t1.1.length : Int) t1.1.length).bind fun p =>
 some (.inl (cpy t1.1 p.1 p.2 [x5.path],w64 (t1.2 + 1)))
 else
 some (.inr t1.1)
def qM (s : State) (label : Int) (x : List (List UInt8)) (t : List Load × Int) : Option ((List Load × Int) ⊕ List Load) :=
 bif decide (t.2 < (x.length : Int)) then
 (inb t.2 x.length).bind fun i =>
 (x[i]?).bind fun x1 =>
 (cR s x1 label).bind fun x2 =>
 (d7 s x1 label).bind fun x3 =>
 (app 48 t.1 [(⟨x1,⟨x2.Mem,x2.Cores⟩,⟨x3.Mem,x3.Cores⟩⟩ : Load)]).bind fun l =>
 some (.inl (l,w64 (t.2 + 1)))
 else
 some (.inr t.1)
def sj (s : State) (path : List UInt8) (label : Int) : Option (List (List UInt8)) :=
 (jN s.Conf path).bind fun x =>
 (loop (qM s label x) ([],0)).bind fun l1 =>
 (pJ l1 (fun a' => jH a'.1 a'.2.1)).bind fun x4 =>
 (mkl 16 (x4.length : Int) (x4.length : Int) []).bind fun l2 =>
 (loop (qG x4) (l2,0)).bind fun out =>
 some out
def h323 : Hint:=(.s .z (.s .z (.s (.s .z (.b (.l [(7,.v (.slice (.st 15)) [0]),(18,.v (.int .i64) [])] [7,9,18,19,20,21,22,23,24,25,26,27,28,29,30,31,32,33,34,35] [(2,[(7,.v (.slice (.st 15)) [0])])] .z))) (.s .z (.s .z (.s (.s .z (.b (.l [(10,.row .str false),(43,.v (.int .i64) [])] [10,11,12,43] [(4,[(10,.row .str false)])] .z))) .z))))))
def sp323 : Spec fam:=⟨[.v (.st 10) [],.v .str [],.v (.int .i64) []],[.v (.slice (.str)) [0]],fun a => sj a.1 a.2.1 a.2.2.1⟩
def uq (s : State) (label : Int) (deep : Int) (self : State → (List UInt8) → Int → Int → Option (List (List UInt8))) (kids : List (List UInt8)) (t : List (List UInt8) × Int) : Option ((List (List UInt8) × Int) ⊕ List (List UInt8)) :=
 bif decide (t.2 < (kids.length : Int)) then
 (inb t.2 kids.length).bind fun i =>
 (kids[i]?).bind fun x =>
 (self s x label (w64 (deep + 1))).bind fun x1 =>
 (app 16 t.1 x1).bind fun l =>
 some (.inl (l,w64 (t.2 + 1)))
 else
 some (.inr t.1)
def ri (self : State → (List UInt8) → Int → Int → Option (List (List UInt8))) (s : State) (path : List UInt8) (label : Int) (deep : Int) : Option (List (List UInt8)) :=
 (sj s path label).bind fun kids =>
 (
 bif (kids.length : Int) == 0 then
  some true
 else
  some (decide (deep > 4))).bind fun q =>
 bif q then
 some [path]
 else
 (loop (uq s label deep self kids) ([],0)).bind fun out =>
 some out
def iX : Nat → State → (List UInt8) → Int → Int → Option (List (List UInt8))
 | 0 => fun _ _ _ _ => none
 | n + 1 => ri (iX n)
def pO (a0 : State) (a1 : List UInt8) (a2 : Int) (a3 : Int) : Option (List (List UInt8)):=iX 64 a0 a1 a2 a3
def h282 : Hint:=(.s .z (.s .z (.s (.s (.j [17,18,19,20,21,22,23] [(0,[(23,.v .bool [])])] .z) .z) (.s .z (.s (.s .z (.b (.l [(10,.v (.slice (.str)) [0]),(28,.v (.int .i64) [])] [10,12,28] [(2,[(10,.v (.slice (.str)) [0])])] .z))) .z)))))
def sp282 : Spec fam:=⟨[.v (.st 10) [],.v .str [],.v (.int .i64) [],.v (.int .i64) []],[.v (.slice (.str)) [0]],fun a => pO a.1 a.2.1 a.2.2.1 a.2.2.2.1⟩
def K3 (n : Nat) : Spec fam:=⟨[.v (.st 10) [],.v .str [],.v (.int .i64) [],.v (.int .i64) []],[.v (.slice (.str)) [0]],fun a => iX n a.1 a.2.1 a.2.2.1 a.2.2.2.1⟩
def nJ (s : State) (label : Int) : Option (List (List UInt8)) :=
 (pO s ([114,111,111,116] : List UInt8) label 1).bind fun x =>
 some x
def h242 : Hint:=.z
def sp242 : Spec fam:=⟨[.v (.st 10) [],.v (.int .i64) []],[.v (.slice (.str)) [0]],fun a => nJ a.1 a.2.1⟩
def u4 (a : Int) (cmp : (TupT fam [.st 6,.st 6] → Option Int)) (t1 : List App × Int) : Option ((List App × Int) ⊕ List App) :=
 (
 bif decide (t1.2 > a) then
  (inb t1.2 t1.1.length).bind fun i =>
  (t1.1[i]?).bind fun x =>
  (inb (w64 (t1.2 - 1)) t1.1.length).bind fun i1 =>
  (t1.1[i1]?).bind fun x1 =>
  (cmp (x,x1,())).bind fun r =>
  some (decide (r < 0))
 else
  some false).bind fun q =>
 bif q then
 (inb (w64 (t1.2 - 1)) t1.1.length).bind fun i2 =>
 (t1.1[i2]?).bind fun x2 =>
 (inb t1.2 t1.1.length).bind fun i3 =>
 (t1.1[i3]?).bind fun x3 =>
 (inb t1.2 t1.1.length).bind fun i4 =>
 (t1.1[i4]?).bind fun x4 =>
 (inb (w64 (t1.2 - 1)) (List.set t1.1 i4 x2).length).bind fun i5 =>
 ((List.set t1.1 i4 x2)[i5]?).bind fun x5 =>
 some (.inl (List.set (List.set t1.1 i4 x2) i5 x3,w64 (t1.2 - 1)))
 else
 some (.inr t1.1)
def mQ (a : Int) (b : Int) (cmp : (TupT fam [.st 6,.st 6] → Option Int)) (t : List App × Int) : Option ((List App × Int) ⊕ List App) :=
 bif decide (t.2 < b) then
 (loop (u4 a cmp) (t.1,t.2)).bind fun data1 =>
 some (.inl (data1,w64 (t.2 + 1)))
 else
 some (.inr t.1)
def j8 (data : List App) (a : Int) (b : Int) (cmp : (TupT fam [.st 6,.st 6] → Option Int)) : Option (List App) :=
 (loop (mQ a b cmp) (data,w64 (a + 1))).bind fun data2 =>
 some data2
def h368 : Hint:=(.s .z (.b (.l [(0,.row (.st 6) false),(8,.v (.int .i64) [])] [0,8,9,34] [(2,[(0,.row (.st 6) false)])] (.s .z (.s (.b (.s .z (.b (.l [(0,.row (.st 6) false),(9,.v (.int .i64) [])] [0,9,34] [(4,[(0,.row (.st 6) false)])] (.s (.s (.j [] [(0,[(34,.v .bool [])])] .z) .z) .z))))) .z)))))
def sp368 : Spec fam:=⟨[.row (.st 6) false,.v (.int .i64) [],.v (.int .i64) [],.fn [.st 6,.st 6] (.int .i64)],[],fun a => j8 a.1 a.2.1 a.2.2.1 a.2.2.2.1⟩
def CL (a : Int) (b : Int) (n : Int) (t : List App × Int) : Option ((List App × Int) ⊕ List App) :=
 bif decide (t.2 < n) then
 (inb (w64 (b + t.2)) t.1.length).bind fun i =>
 (t.1[i]?).bind fun x =>
 (inb (w64 (a + t.2)) t.1.length).bind fun i1 =>
 (t.1[i1]?).bind fun x1 =>
 (inb (w64 (a + t.2)) t.1.length).bind fun i2 =>
 (t.1[i2]?).bind fun x2 =>
 (inb (w64 (b + t.2)) (List.set t.1 i2 x).length).bind fun i3 =>
 ((List.set t.1 i2 x)[i3]?).bind fun x3 =>
 some (.inl (List.set (List.set t.1 i2 x) i3 x1,w64 (t.2 + 1)))
 else
 some (.inr t.1)
def nt (data : List App) (a : Int) (b : Int) (n : Int) (cmp : (TupT fam [.st 6,.st 6] → Option Int)) : Option (List App) :=
 (loop (CL a b n) (data,0)).bind fun data1 =>
 some data1
def h397 : Hint:=(.s .z (.b (.l [(0,.row (.st 6) false),(10,.v (.int .i64) [])] [0,10] [(2,[(0,.row (.st 6) false)])] .z)))
def sp397 : Spec fam:=⟨[.row (.st 6) false,.v (.int .i64) [],.v (.int .i64) [],.v (.int .i64) [],.fn [.st 6,.st 6] (.int .i64)],[],fun a => nt a.1 a.2.1 a.2.2.1 a.2.2.2.1 a.2.2.2.2.1⟩
def BZ (m : Int) (cmp : (TupT fam [.st 6,.st 6] → Option Int)) (t : List App × Int × Int) : Option ((List App × Int × Int) ⊕ ((List App × Int))) :=
 bif t.2.1 != t.2.2 then
 bif decide (t.2.1 > t.2.2) then
  (nt t.1 (w64 (m - t.2.1)) m t.2.2 cmp).bind fun x =>
  let i:=w64 (t.2.1 - t.2.2)
  some (.inl (x,i,t.2.2))
 else
  (nt t.1 (w64 (m - t.2.1)) (w64 ((w64 (m + t.2.2)) - t.2.1)) t.2.1 cmp).bind fun x1 =>
  let j:=w64 (t.2.2 - t.2.1)
  some (.inl (x1,t.2.1,j))
 else
 some (.inr (t.1,t.2.1))
def yi (data : List App) (a : Int) (m : Int) (b : Int) (cmp : (TupT fam [.st 6,.st 6] → Option Int)) : Option (List App) :=
 (loop (BZ m cmp) (data,w64 (m - a),w64 (b - m))).bind fun q =>
 (nt q.1 (w64 (m - q.2)) m q.2 cmp).bind fun x2 =>
 some x2
def h388 : Hint:=(.s .z (.s .z (.s (.b (.l [(0,.row (.st 6) false),(10,.v (.int .i64) []),(11,.v (.int .i64) [])] [0,10,11] [(2,[(0,.row (.st 6) false),(10,.v (.int .i64) [])])] .z)) .z)))
def sp388 : Spec fam:=⟨[.row (.st 6) false,.v (.int .i64) [],.v (.int .i64) [],.v (.int .i64) [],.fn [.st 6,.st 6] (.int .i64)],[],fun a => yi a.1 a.2.1 a.2.2.1 a.2.2.2.1 a.2.2.2.2.1⟩
def z7 (data : List App) (cmp : (TupT fam [.st 6,.st 6] → Option Int)) (p : Int) (t4 : Int × Int) : Option ((Int × Int) ⊕ Int) :=
 bif decide (t4.1 < t4.2) then
 let c:=w64 (shrK .u64 (IntKind.u64.wrap (w64 (t4.1 + t4.2))) 1)
 (inb (w64 (p - c)) data.length).bind fun i14 =>
 (data[i14]?).bind fun x12 =>
 (inb c data.length).bind fun i15 =>
 (data[i15]?).bind fun x13 =>
 (cmp (x12,x13,())).bind fun r2 =>
 bif ! (decide (r2 < 0)) then
  some (.inl (w64 (c + 1),t4.2))
 else
  some (.inl (t4.1,c))
 else
 some (.inr t4.1)
def Af (i9 : Int) (t3 : List App × Int) : Option ((List App × Int) ⊕ List App) :=
 bif decide (t3.2 > i9) then
 (inb (w64 (t3.2 - 1)) t3.1.length).bind fun i10 =>
 (t3.1[i10]?).bind fun x8 =>
 (inb t3.2 t3.1.length).bind fun i11 =>
 (t3.1[i11]?).bind fun x9 =>
 (inb t3.2 t3.1.length).bind fun i12 =>
 (t3.1[i12]?).bind fun x10 =>
 (inb (w64 (t3.2 - 1)) (List.set t3.1 i12 x8).length).bind fun i13 =>
 ((List.set t3.1 i12 x8)[i13]?).bind fun x11 =>
 some (.inl (List.set (List.set t3.1 i12 x8) i13 x9,w64 (t3.2 - 1)))
 else
 some (.inr t3.1)
def Ah (data : List App) (m : Int) (cmp : (TupT fam [.st 6,.st 6] → Option Int)) (t2 : Int × Int) : Option ((Int × Int) ⊕ Int) :=
 bif decide (t2.1 < t2.2) then
 let h1:=w64 (shrK .u64 (IntKind.u64.wrap (w64 (t2.1 + t2.2))) 1)
 (inb m data.length).bind fun i7 =>
 (data[i7]?).bind fun x6 =>
 (inb h1 data.length).bind fun i8 =>
 (data[i8]?).bind fun x7 =>
 (cmp (x6,x7,())).bind fun r1 =>
 bif ! (decide (r1 < 0)) then
  some (.inl (w64 (h1 + 1),t2.2))
 else
  some (.inl (t2.1,h1))
 else
 some (.inr t2.1)
def Ai (i2 : Int) (t1 : List App × Int) : Option ((List App × Int) ⊕ List App) :=
 bif decide (t1.2 < (w64 (i2 - 1))) then
 (inb (w64 (t1.2 + 1)) t1.1.length).bind fun i3 =>
 (t1.1[i3]?).bind fun x2 =>
 (inb t1.2 t1.1.length).bind fun i4 =>
 (t1.1[i4]?).bind fun x3 =>
 (inb t1.2 t1.1.length).bind fun i5 =>
 (t1.1[i5]?).bind fun x4 =>
 (inb (w64 (t1.2 + 1)) (List.set t1.1 i5 x2).length).bind fun i6 =>
 ((List.set t1.1 i5 x2)[i6]?).bind fun x5 =>
 some (.inl (List.set (List.set t1.1 i5 x2) i6 x3,w64 (t1.2 + 1)))
 else
 some (.inr t1.1)
def Ac (data : List App) (a : Int) (cmp : (TupT fam [.st 6,.st 6] → Option Int)) (t : Int × Int) : Option ((Int × Int) ⊕ Int) :=
 bif decide (t.1 < t.2) then
 let h:=w64 (shrK .u64 (IntKind.u64.wrap (w64 (t.1 + t.2))) 1)
 (inb h data.length).bind fun i =>
 (data[i]?).bind fun x =>
 (inb a data.length).bind fun i1 =>
 (data[i1]?).bind fun x1 =>
 (cmp (x,x1,())).bind fun r =>
 bif decide (r < 0) then
  some (.inl (w64 (h + 1),t.2))
 else
  some (.inl (t.1,h))
 else
 some (.inr t.1)
def C0 (self : (List App) → Int → Int → Int → ((TupT fam [.st 6,.st 6] → Option Int)) → Option (List App)) (data : List App) (a : Int) (m : Int) (b : Int) (cmp : (TupT fam [.st 6,.st 6] → Option Int)) : Option (List App) :=
 bif (w64 (m - a)) == 1 then
 (loop (Ac data a cmp) (m,b)).bind fun i2 =>
 (loop (Ai i2) (data,a)).bind fun data1 =>
 some data1
 else
 bif (w64 (b - m)) == 1 then
  (loop (Ah data m cmp) (a,m)).bind fun i9 =>
  (loop (Af i9) (data,m)).bind fun data2 =>
  some data2
 else
  let mid:=w64 (shrK .u64 (IntKind.u64.wrap (w64 (a + b))) 1)
  (
  bif decide (m > mid) then
   let start:=w64 ((w64 (mid + m)) - b)
   some (start,mid)
  else
   some (a,m)).bind fun q =>
  let p:=w64 ((w64 (mid + m)) - 1)
  (loop (z7 data cmp p) (q.1,q.2)).bind fun start1 =>
  let end_:=w64 ((w64 (mid + m)) - start1)
  (
  (
   bif decide (start1 < m) then
   some (decide (m < end_))
   else
   some false).bind fun q1 =>
  bif q1 then
   (yi data start1 m end_ cmp).bind fun x14 =>
   some x14
  else
   some data).bind fun data3 =>
  (
  (
   bif decide (a < start1) then
   some (decide (start1 < mid))
   else
   some false).bind fun q2 =>
  bif q2 then
   (self data3 a start1 mid cmp).bind fun x15 =>
   some x15
  else
   some data3).bind fun data4 =>
  (
  bif decide (mid < end_) then
   some (decide (end_ < b))
  else
   some false).bind fun q3 =>
  bif q3 then
  (self data4 mid end_ b cmp).bind fun x16 =>
  some x16
  else
  some data4
def oN : Nat → (List App) → Int → Int → Int → ((TupT fam [.st 6,.st 6] → Option Int)) → Option (List App)
 | 0 => fun _ _ _ _ _ => none
 | n + 1 => C0 (oN n)
def nh (a0 : List App) (a1 : Int) (a2 : Int) (a3 : Int) (a4 : (TupT fam [.st 6,.st 6] → Option Int)) : Option (List App):=oN 64 a0 a1 a2 a3 a4
def h369 : Hint:=(.s (.s .z (.c (.s .z (.s .z (.s (.b (.l [(10,.v (.int .i64) []),(11,.v (.int .i64) [])] [10,11,12] [(2,[(10,.v (.int .i64) [])])] .z)) (.s (.s .z (.b (.l [(0,.row (.st 6) false),(13,.v (.int .i64) [])] [0,13] [(4,[(0,.row (.st 6) false)])] .z))) .z)))) .z)) (.s (.s .z (.c (.s .z (.s .z (.s (.b (.l [(14,.v (.int .i64) []),(15,.v (.int .i64) [])] [14,15,16] [(6,[(14,.v (.int .i64) [])])] .z)) (.s (.s .z (.b (.l [(0,.row (.st 6) false),(17,.v (.int .i64) [])] [0,17] [(8,[(0,.row (.st 6) false)])] .z))) .z)))) .z)) (.s .z (.s .z (.s .z (.s (.j [20,21] [(0,[(20,.v (.int .i64) []),(21,.v (.int .i64) [])])] .z) (.s .z (.s (.b (.l [(20,.v (.int .i64) []),(21,.v (.int .i64) [])] [20,21,23] [(10,[(20,.v (.int .i64) [])])] .z)) (.s .z (.s (.j [0,185] [(0,[(0,.row (.st 6) false)])] (.s (.j [] [(0,[(185,.v .bool [])])] .z) .z)) (.s (.j [0,199] [(0,[(0,.row (.st 6) false)])] (.s (.j [] [(0,[(199,.v .bool [])])] .z) .z)) (.s (.j [] [(0,[(213,.v .bool [])])] .z) .z))))))))))))
def sp369 : Spec fam:=⟨[.row (.st 6) false,.v (.int .i64) [],.v (.int .i64) [],.v (.int .i64) [],.fn [.st 6,.st 6] (.int .i64)],[],fun a => nh a.1 a.2.1 a.2.2.1 a.2.2.2.1 a.2.2.2.2.1⟩
def LY (n : Nat) : Spec fam:=⟨[.row (.st 6) false,.v (.int .i64) [],.v (.int .i64) [],.v (.int .i64) [],.fn [.st 6,.st 6] (.int .i64)],[],fun a => oN n a.1 a.2.1 a.2.2.1 a.2.2.2.1 a.2.2.2.2.1⟩
def uV (n : Int) (cmp : (TupT fam [.st 6,.st 6] → Option Int)) (t1 : List App × Int) (t2 : List App × Int × Int) : Option ((List App × Int × Int) ⊕ ((List App × Int))) :=
 bif decide (t2.2.2 ≤ n) then
 (nh t2.1 t2.2.1 (w64 (t2.2.1 + t1.2)) t2.2.2 cmp).bind fun x2 =>
 let b:=w64 (t2.2.2 + (w64 (2 * t1.2)))
 some (.inl (x2,t2.2.2,b))
 else
 some (.inr (t2.1,t2.2.1))
def nU (n : Int) (cmp : (TupT fam [.st 6,.st 6] → Option Int)) (t1 : List App × Int) : Option ((List App × Int) ⊕ List App) :=
 bif decide (t1.2 < n) then
 (loop (uV n cmp t1) (t1.1,0,w64 (2 * t1.2))).bind fun q1 =>
 (
  let m:=w64 (q1.2 + t1.2)
  bif decide (m < n) then
  (nh q1.1 q1.2 m n cmp).bind fun x3 =>
  some x3
  else
  some q1.1).bind fun data1 =>
 some (.inl (data1,w64 (t1.2 * 2)))
 else
 some (.inr t1.1)
def mE (n : Int) (cmp : (TupT fam [.st 6,.st 6] → Option Int)) (t : List App × Int × Int) : Option ((List App × Int × Int) ⊕ ((List App × Int))) :=
 bif decide (t.2.2 ≤ n) then
 (j8 t.1 t.2.1 t.2.2 cmp).bind fun x =>
 some (.inl (x,t.2.2,w64 (t.2.2 + 20)))
 else
 some (.inr (t.1,t.2.1))
def mZ (data : List App) (n : Int) (cmp : (TupT fam [.st 6,.st 6] → Option Int)) : Option (List App) :=
 (loop (mE n cmp) (data,0,20)).bind fun q =>
 (j8 q.1 q.2 n cmp).bind fun x1 =>
 (loop (nU n cmp) (x1,20)).bind fun data2 =>
 some data2
def h350 : Hint:=(.s .z (.s .z (.s (.b (.l [(0,.row (.st 6) false),(7,.v (.int .i64) []),(8,.v (.int .i64) [])] [0,7,8] [(2,[(0,.row (.st 6) false),(7,.v (.int .i64) [])])] .z)) (.s .z (.b (.l [(0,.row (.st 6) false),(6,.v (.int .i64) [])] [0,6,7,8,9] [(4,[(0,.row (.st 6) false)])] (.s .z (.b (.s .z (.s (.b (.l [(0,.row (.st 6) false),(7,.v (.int .i64) []),(8,.v (.int .i64) [])] [0,7,8] [(6,[(0,.row (.st 6) false),(7,.v (.int .i64) [])])] .z)) (.s (.j [0,9] [(0,[(0,.row (.st 6) false)])] .z) .z)))))))))))
def sp350 : Spec fam:=⟨[.row (.st 6) false,.v (.int .i64) [],.fn [.st 6,.st 6] (.int .i64)],[],fun a => mZ a.1 a.2.1 a.2.2.1⟩
def mL (x : List App) (cmp : (TupT fam [.st 6,.st 6] → Option Int)) : Option (List App) :=
 (mZ x (x.length : Int) cmp).bind fun x1 =>
 some x1
def h324 : Hint:=.z
def sp324 : Spec fam:=⟨[.row (.st 6) false,.fn [.st 6,.st 6] (.int .i64)],[],fun a => mL a.1 a.2.1⟩
def tH (_a0 : App) (_a1 : App) : Option Int:=none
def sp325 : Spec fam:=⟨[.v (.st 6) [],.v (.st 6) []],[.v (.int .i64) []],fun a => tH a.1 a.2.1⟩
def rz (x2 : List App) (t1 : List Int × Int) : Option ((List Int × Int) ⊕ List Int) :=
 bif decide (t1.2 < (x2.length : Int)) then
 (inb t1.2 x2.length).bind fun i =>
 (x2[i]?).bind fun x3 =>
 (inb t1.2 t1.1.length).bind fun i1 =>
 (t1.1[i1]?).bind fun x4 =>
 some (.inl (List.set t1.1 i1 x3.Id,w64 (t1.2 + 1)))
 else
 some (.inr t1.1)
def rF (s : State) (queue : List UInt8) (t : List App × Int) : Option ((List App × Int) ⊕ List App) :=
 bif decide (t.2 < (s.Apps.length : Int)) then
 (
  (idx s.Apps t.2).bind fun x =>
  (
  (ij x).bind fun x1 =>
  bif x1 then
   some (x.Queue == queue)
  else
   some false).bind fun q =>
  bif q then
  (app 200 t.1 [x]).bind fun l =>
  some l
  else
  some t.1).bind fun l1 =>
 some (.inl (l1,w64 (t.2 + 1)))
 else
 some (.inr t.1)
def rX (s : State) (queue : List UInt8) : Option (List Int) :=
 (loop (rF s queue) ([],0)).bind fun l2 =>
 (mL l2 (fun a' => tH a'.1 a'.2.1)).bind fun x2 =>
 (mkl 8 (x2.length : Int) (x2.length : Int) 0).bind fun l3 =>
 (loop (rz x2) (l3,0)).bind fun out =>
 some out
def h283 : Hint:=(.s .z (.s .z (.s (.s .z (.b (.l [(5,.v (.slice (.st 6)) [0]),(14,.v (.int .i64) [])] [5,7,14,15,16,17,18,19,20,21,22,23,24,25,26,27,28,29,30] [(2,[(5,.v (.slice (.st 6)) [0])])] (.s .z (.s .z (.s (.j [5,7,16,17,18,19,20,21,22,23,24,25,26,27,28,29] [(0,[(5,.v (.slice (.st 6)) [0])])] (.b (.s .z (.s (.j [18,19,20,21,22,23,24,25] [(0,[(25,.v .bool [])])] .z) .z)))) .z)))))) (.s .z (.s .z (.s (.s .z (.b (.l [(8,.row (.int .i64) false),(38,.v (.int .i64) [])] [8,9,10,38] [(4,[(8,.row (.int .i64) false)])] .z))) .z))))))
def sp283 : Spec fam:=⟨[.v (.st 10) [],.v .str []],[.v (.slice (.int .i64)) [0]],fun a => rX a.1 a.2.1⟩
def yf (_a0 : Attempt) (_a1 : App) (_a2 : Int) : Option App:=none
def sp284 : Spec fam:=⟨[.rp (.st 18),.v (.st 6) [],.v (.int .i64) []],[.v (.st 6) []],fun a => yf a.1 a.2.1 a.2.2.1⟩
def xV (_a0 : Attempt) (_a1 : Int) (_a2 : Int) : Option Bool:=none
def sp285 : Spec fam:=⟨[.rp (.st 18),.v (.int .i64) [],.v (.int .i64) []],[.v .bool []],fun a => xV a.1 a.2.1 a.2.2.1⟩
def eL (first : Bool) (may : (TupT fam [.st 5,.st 4] → Option Bool)) (x5 : List Ask) (t3 : Attempt × Cont × App × Int) : Option ((Attempt × Cont × App × Int) ⊕ ((Attempt × Int × Cont) ⊕ (Attempt × Cont))) :=
 bif decide (t3.2.2.2 < (x5.length : Int)) then
 (
  (inb t3.2.2.2 x5.length).bind fun i1 =>
  (x5[i1]?).bind fun x6 =>
  (fu t3.1 t3.2.2.1 x6).bind fun due =>
  (
  (dL t3.1 x6).bind fun x7 =>
  bif ! x7 then
   some true
  else
   bif first then
   some (! due)
   else
   some false).bind fun q =>
  bif q then
  some (.inl (t3.1,t3.2.1,t3.2.2.1))
  else
  (may (x6,t3.1.n,())).bind fun r =>
  bif ! r then
   bif first == due then
   none
   else
   some (.inl (t3.1,t3.2.1,t3.2.2.1))
  else
   (eG t3.1 t3.2.2.1 x6).bind fun x8 =>
   bif ! x8 then
   some (.inl (t3.1,t3.2.1,t3.2.2.1))
   else
   (eA t3.1 x6).bind fun x9 =>
   bif x9 then
    (dF t3.1 t3.2.2.1 x6).bind fun x10 =>
    some (.inr (x10.2,1,x10.1))
   else
    bif first then
    none
    else
    some (.inl (t3.1,t3.2.1,t3.2.2.1)) : Option ((Attempt × Cont × App) ⊕ (Attempt × Int × Cont))).bind fun q0 =>
 match q0 with
 | .inl q1 =>
  some (.inl (q1.1,q1.2.1,q1.2.2,w64 (t3.2.2.2 + 1)))
 | .inr q2 =>
  some (.inr (.inl (q2.1,q2.2.1,q2.2.2)))
 else
 some (.inr (.inr (t3.1,t3.2.1)))
def eV (first : Bool) (may : (TupT fam [.st 5,.st 4] → Option Bool)) (x1 : List Int) (t2 : Attempt × Cont × Int) : Option ((Attempt × Cont × Int) ⊕ ((Attempt × Int × Cont) ⊕ (Attempt × Cont) ⊕ (Attempt × Cont))) :=
 bif decide (t2.2.2 < (x1.length : Int)) then
 (
  (inb t2.2.2 x1.length).bind fun i =>
  (x1[i]?).bind fun x2 =>
  (ii t2.1.s x2).bind fun x3 =>
  bif ! x3.2 then
  some (.inr (.inr (t2.1,t2.2.1)))
  else
  (ez t2.1 x3.1).bind fun x4 =>
  bif ! x4 then
   some (.inl (t2.1,t2.2.1))
  else
   (pC x3.1.Asks).bind fun x5 =>
   (loop (eL first may x5) (t2.1,t2.2.1,x3.1,0)).bind fun q0 =>
   match q0 with
   | .inl q3 =>
   some (.inr (.inl (q3.1,q3.2.1,q3.2.2)))
   | .inr q4 =>
   some (.inl (q4.1,q4.2)) : Option ((Attempt × Cont) ⊕ (Attempt × Int × Cont) ⊕ (Attempt × Cont))).bind fun q0 =>
 match q0 with
 | .inl q5 =>
  some (.inl (q5.1,q5.2,w64 (t2.2.2 + 1)))
 | .inr (.inl q6) =>
  some (.inr (.inl (q6.1,q6.2.1,q6.2.2)))
 | .inr (.inr q7) =>
  some (.inr (.inr (.inl (q7.1,q7.2))))
 else
 some (.inr (.inr (.inr (t2.1,t2.2.1))))
def eN (leaves : List (List UInt8)) (first : Bool) (may : (TupT fam [.st 5,.st 4] → Option Bool)) (t1 : Attempt × Cont × Int) : Option ((Attempt × Cont × Int) ⊕ ((Attempt × Int × Cont) ⊕ (Attempt × Cont))) :=
 bif decide (t1.2.2 < (leaves.length : Int)) then
 (
  (idx leaves t1.2.2).bind fun x =>
  (rX t1.1.s x).bind fun x1 =>
  (loop (eV first may x1) (t1.1,t1.2.1,0)).bind fun q0 =>
  match q0 with
  | .inl q8 =>
  some (.inr (q8.1,q8.2.1,q8.2.2))
  | .inr (.inl q9) =>
  some (.inl (q9.1,q9.2))
  | .inr (.inr q10) =>
  some (.inl (q10.1,q10.2)) : Option ((Attempt × Cont) ⊕ (Attempt × Int × Cont))).bind fun q0 =>
 match q0 with
 | .inl q11 =>
  some (.inl (q11.1,q11.2,w64 (t1.2.2 + 1)))
 | .inr q12 =>
  some (.inr (.inl (q12.1,q12.2.1,q12.2.2)))
 else
 some (.inr (.inr (t1.1,t1.2.1)))
def ce (t : Attempt) (leaves : List (List UInt8)) (first : Bool) (may : (TupT fam [.st 5,.st 4] → Option Bool)) : Option (Int × Cont × Attempt) :=
 (loop (eN leaves first may) (t,(⟨0,0,0,⟨0,0⟩,0,0,false,0⟩ : Cont),0)).bind fun q0 =>
 match q0 with
 | .inl q13 =>
 some (q13.2.1,q13.2.2,q13.1)
 | .inr q14 =>
 some (0,(⟨0,0,0,⟨0,0⟩,0,0,false,0⟩ : Cont),q14.1)
def h243 : Hint:=(.s .z (.b (.s .z (.s .z (.s (.s .z (.b (.l [(0,.box (.st 18) [0,2,4,5,6]),(9,.box (.st 7) []),(24,.v (.int .i64) [])] [0,8,9,12,14,15,16,18,19,24,25,26,27,28,29,30,31,32,33,34,35,36,37,38,39,40,41,42,43,44,45,46,47,48,49,50,51,52,53,54,55,56,57,58,66] [(1,[(0,.box (.st 18) [0,2,4,5,6]),(8,.v (.int .i64) []),(9,.box (.st 7) [])]),(2,[(0,.box (.st 18) [0,2,4,5,6]),(9,.box (.st 7) [])])] (.s .z (.s .z (.s (.j [0,8,9,12,14,15,16,18,19,26,27,28,29,30,31,32,33,34,35,36,37,38,39,40,41,42,43,44,45,46,47,48,49,50,51,52,53,54,55,56,57,58,66] [(0,[(0,.box (.st 18) [0,2,4,5,6]),(9,.box (.st 7) [])]),(1,[(0,.box (.st 18) [0,2,4,5,6]),(8,.v (.int .i64) []),(9,.box (.st 7) [])])] (.b (.s .z (.s .z (.b (.l [(0,.box (.st 18) [0,2,4,5,6]),(9,.box (.st 7) []),(35,.v (.int .i64) [])] [0,8,9,14,15,16,18,19,31,35,36,37,38,39,40,41,42,43,44,45,46,47,48,49,50,51,52,53,54,55,56,57,58,66] [(1,[(0,.box (.st 18) [0,2,4,5,6]),(8,.v (.int .i64) []),(9,.box (.st 7) [])]),(3,[(0,.box (.st 18) [0,2,4,5,6]),(9,.box (.st 7) [])]),(4,[(0,.box (.st 18) [0,2,4,5,6]),(9,.box (.st 7) [])])] (.s .z (.s .z (.s (.j [0,8,9,14,15,16,18,19,37,38,39,40,41,42,43,44,45,46,47,48,49,50,51,52,53,54,55,56,57,58,66] [(0,[(0,.box (.st 18) [0,2,4,5,6]),(9,.box (.st 7) [])]),(1,[(0,.box (.st 18) [0,2,4,5,6]),(8,.v (.int .i64) []),(9,.box (.st 7) [])]),(3,[(0,.box (.st 18) [0,2,4,5,6]),(9,.box (.st 7) [])])] (.b (.s .z (.s .z (.s .z (.s .z (.s .z (.b (.l [(0,.box (.st 18) [0,2,4,5,6]),(9,.box (.st 7) []),(15,.box (.st 6) [7,10,11,12,13]),(58,.v (.int .i64) [])] [0,8,9,15,18,19,43,46,51,54,55,58,66] [(1,[(0,.box (.st 18) [0,2,4,5,6]),(8,.v (.int .i64) []),(9,.box (.st 7) [])]),(6,[(0,.box (.st 18) [0,2,4,5,6]),(9,.box (.st 7) [])])] (.s .z (.s .z (.s (.j [0,8,9,15,18,19,66] [(0,[(0,.box (.st 18) [0,2,4,5,6]),(9,.box (.st 7) []),(15,.box (.st 6) [7,10,11,12,13])]),(1,[(0,.box (.st 18) [0,2,4,5,6]),(8,.v (.int .i64) []),(9,.box (.st 7) [])])] (.b (.s .z (.s .z (.b (.s (.j [] [(0,[(66,.v .bool [])])] .z) .z)))))) .z)))))))))))) .z))))))))) .z)))))) .z)))))
def sp243 : Spec fam:=⟨[.box (.st 18) [0,2,4,5,6],.v (.slice (.str)) [],.v .bool [],.fn [.st 5,.st 4] .bool],[.v (.int .i64) [],.v (.st 7) []],fun a => ce a.1 a.2.1 a.2.2.1 a.2.2.2.1⟩
def dn (t : Attempt) : Option (Int × Cont × Attempt) :=
 (nJ t.s t.n.Label).bind fun leaves =>
 (ce t leaves true (fun a' => qp a'.1 a'.2.1)).bind fun x =>
 bif x.1 != 0 then
 some (x.1,x.2.1,x.2.2)
 else
 (ce x.2.2 leaves false (fun a' => qp a'.1 a'.2.1)).bind fun x1 =>
 some (x1.1,x1.2.1,x1.2.2)
def h202 : Hint:=.z
def sp202 : Spec fam:=⟨[.box (.st 18) [0,2,4,5,6]],[.v (.int .i64) [],.v (.st 7) []],fun a => dn a.1⟩
def sa (s : State) (node : Int) : Option (State × Int × Cont) :=
 (cF s []).bind fun x =>
 (iu s node).bind fun x1 =>
 (
 bif ! x1.2 then
  some true
 else
  bif ! x1.1.Up then
  some true
  else
  bif decide ((s.Conts.length : Int) ≥ 200) then
   some true
  else
   some (decide (s.Seq ≥ 1048575))).bind fun q =>
 bif q then
 some (x,0,(⟨0,0,0,⟨0,0⟩,0,0,false,0⟩ : Cont))
 else
 (rW s node).bind fun x2 =>
 (eF (⟨⟨⟨x.Conf.Labels,x.Conf.Queues⟩,x.Nodes,x.Apps,x.Conts,x.Slots,x.Plans,x.Now,x.Epoch,x.Seq⟩,⟨x1.1.Id,x1.1.Label,x1.1.Rack,⟨x1.1.Cap.Mem,x1.1.Cap.Cores⟩,x1.1.Seen,x1.1.Beat,x1.1.Up⟩,⟨x2.Mem,x2.Cores⟩⟩ : Attempt)).bind fun x3 =>
 (
  bif ! x3.2.2.1 then
  (dn x3.2.2.2).bind fun x4 =>
  some (x4.1,x4.2.1,x4.2.2)
  else
  some (x3.1,x3.2.1,x3.2.2.2)).bind fun q1 =>
 (cF q1.2.2.s []).bind fun x5 =>
 some (x5,q1.1,q1.2.1)
def h169 : Hint:=(.s .z (.s .z (.s .z (.s (.s (.j [] [(0,[(37,.v .bool [])])] .z) .z) (.s .z (.s .z (.s (.j [5,6,10] [(0,[(5,.v (.int .i64) []),(6,.box (.st 7) []),(10,.box (.st 18) [0,2,4,5,6])])] .z) .z)))))))
def sp169 : Spec fam:=⟨[.v (.st 10) [],.v (.int .i64) []],[.v (.st 10) [0,1001,2,1003,4,5,6],.v (.int .i64) [],.v (.st 7) []],fun a => sa a.1 a.2.1⟩
def pI (node : Int) (t : State × List Cont) : Option ((State × List Cont) ⊕ ((State × List Cont))) :=
 bif decide ((t.2.length : Int) < 3) then
 (sa t.1 node).bind fun x1 =>
 bif x1.2.1 != 1 then
  some (.inr (x1.1,t.2))
 else
  (app 72 t.2 [x1.2.2]).bind fun l =>
  some (.inl (x1.1,l))
 else
 some (.inr (t.1,t.2))
def qf (s : State) (node : Int) : Option (State × List Cont) :=
 (cF s []).bind fun x =>
 (loop (pI node) (x,[])).bind fun q =>
 some (q.1,q.2)
def h120 : Hint:=(.s .z (.s .z (.s .z (.s (.b (.l [(2,.box (.st 10) [0,1001,2,1003,4,5,6]),(6,.v (.slice (.st 7)) [0])] [2,6,7,8,9] [(2,[(2,.box (.st 10) [0,1001,2,1003,4,5,6]),(6,.v (.slice (.st 7)) [0])])] .z)) .z))))
def sp120 : Spec fam:=⟨[.v (.st 10) [],.v (.int .i64) []],[.v (.st 10) [0,1001,2,1003,4,5,6],.v (.slice (.st 7)) [0]],fun a => qf a.1 a.2.1⟩
def gm (t : Step) : Option (Output × Step) :=
 (iu t.s t.x.Id).bind fun x =>
 (
 bif x.2 then
  bif x.1.Up then
  some (t.x.Beat == x.1.Beat)
  else
  some false
 else
  some false).bind fun q =>
 bif q then
 (dm t x.1.Id).bind fun x1 =>
 some ((⟨0,[],x1,[],0⟩ : Output),t)
 else
 (sy t.s t.x.Id t.x.Beat).bind fun x2 =>
 bif x2.2 != 0 then
  none
 else
  (dm t x.1.Id).bind fun x3 =>
  (bI t.x.Ids).bind fun x4 =>
  (bH x4 (fun a' => jm a'.1 x3)).bind fun ended =>
  (cF x2.1 ended).bind fun x5 =>
  (qf x5 x.1.Id).bind fun x6 =>
  (dm (⟨⟨⟨x6.1.Conf.Labels,x6.1.Conf.Queues⟩,x6.1.Nodes,x6.1.Apps,x6.1.Conts,x6.1.Slots,x6.1.Plans,x6.1.Now,x6.1.Epoch,x6.1.Seq⟩,⟨t.x.Kind,t.x.Id,t.x.Beat,t.x.N,t.x.Text,⟨t.x.Node.Id,t.x.Node.Label,t.x.Node.Rack,⟨t.x.Node.Cap.Mem,t.x.Node.Cap.Cores⟩,t.x.Node.Seen,t.x.Node.Beat,t.x.Node.Up⟩,⟨t.x.App.Id,t.x.App.State,t.x.App.Queue,t.x.App.User,t.x.App.Prio,⟨t.x.App.Master.Mem,t.x.App.Master.Cores⟩,t.x.App.Asks,t.x.App.Seen,t.x.App.Beat,t.x.App.Grants,t.x.App.Kills,t.x.App.Told,t.x.App.Lost⟩,t.x.Asks,t.x.Ids,⟨t.x.Plan.Id,t.x.Plan.Label,t.x.Plan.From,t.x.Plan.Until,⟨t.x.Plan.Need.Mem,t.x.Plan.Need.Cores⟩⟩⟩⟩ : Step) x.1.Id).bind fun x7 =>
  some ((⟨0,[],x7,[],0⟩ : Output),(⟨⟨⟨x6.1.Conf.Labels,x6.1.Conf.Queues⟩,x6.1.Nodes,x6.1.Apps,x6.1.Conts,x6.1.Slots,x6.1.Plans,x6.1.Now,x6.1.Epoch,x6.1.Seq⟩,⟨t.x.Kind,t.x.Id,t.x.Beat,t.x.N,t.x.Text,⟨t.x.Node.Id,t.x.Node.Label,t.x.Node.Rack,⟨t.x.Node.Cap.Mem,t.x.Node.Cap.Cores⟩,t.x.Node.Seen,t.x.Node.Beat,t.x.Node.Up⟩,⟨t.x.App.Id,t.x.App.State,t.x.App.Queue,t.x.App.User,t.x.App.Prio,⟨t.x.App.Master.Mem,t.x.App.Master.Cores⟩,t.x.App.Asks,t.x.App.Seen,t.x.App.Beat,t.x.App.Grants,t.x.App.Kills,t.x.App.Told,t.x.App.Lost⟩,t.x.Asks,t.x.Ids,⟨t.x.Plan.Id,t.x.Plan.Label,t.x.Plan.From,t.x.Plan.Until,⟨t.x.Plan.Need.Mem,t.x.Plan.Need.Cores⟩⟩⟩⟩ : Step))
def h74 : Hint:=(.s .z (.s .z (.s (.s (.j [] [(0,[(36,.v .bool [])])] .z) .z) .z)))
def sp74 : Spec fam:=⟨[.box (.st 17) [0,2,4,5,6,7000]],[.v (.st 11) [1,2,3]],fun a => gm a.1⟩
def uZ (del : (TupT fam [.st 5] → Option Bool)) (t : List Ask × Int × Int) : Option ((List Ask × Int × Int) ⊕ ((List Ask × Int))) :=
 bif decide (t.2.2 < (t.1.length : Int)) then
 (
  (inb t.2.2 t.1.length).bind fun i1 =>
  (t.1[i1]?).bind fun x =>
  (del (x,())).bind fun r =>
  bif ! r then
  (inb t.2.1 t.1.length).bind fun i2 =>
  (t.1[i2]?).bind fun x1 =>
  some (List.set t.1 i2 x,w64 (t.2.1 + 1))
  else
  some (t.1,t.2.1)).bind fun q =>
 some (.inl (q.1,q.2,w64 (t.2.2 + 1)))
 else
 some (.inr (t.1,t.2.1))
def nI (s : List Ask) (del : (TupT fam [.st 5] → Option Bool)) : Option (List Ask) :=
 (j_ s del).bind fun i =>
 bif i == (-1) then
 some s
 else
 (loop (uZ del) (s,i,w64 (i + 1))).bind fun q1 =>
 (inS q1.2 (q1.1.length : Int) q1.1.length).bind fun p =>
 (inS 0 q1.2 (cpy q1.1 p.1 p.2 (List.replicate p.2 (⟨0,0,⟨0,0⟩,0,0,0,0⟩ : Ask))).length).bind fun p1 =>
 some (List.take p1.2 (cpy q1.1 p.1 p.2 (List.replicate p.2 (⟨0,0,⟨0,0⟩,0,0,0,0⟩ : Ask))))
def h172 : Hint:=(.s .z (.s .z (.s .z (.s (.s .z (.b (.l [(0,.row (.st 5) false),(5,.v (.int .i64) []),(6,.v (.int .i64) [])] [0,5,6,7] [(2,[(0,.row (.st 5) false),(5,.v (.int .i64) [])])] (.s .z (.s (.j [0,5,7] [(0,[(0,.row (.st 5) false),(5,.v (.int .i64) [])])] .z) .z))))) (.s .z (.s (.r [9998]) .z))))))
def sp172 : Spec fam:=⟨[.v (.slice (.st 5)) [0],.fn [.st 5] .bool],[.v (.slice (.st 5)) [0]],fun a => nI a.1 a.2.1⟩
def xi (_a0 : Ask) (_a1 : Ask) : Option Bool:=none
def sp174 : Spec fam:=⟨[.v (.st 5) [],.rp (.st 5)],[.v .bool []],fun a => xi a.1 a.2.1⟩
def Ds (s : List Ask) (i : Int) (v : List Ask) : Option (List Ask) :=
 (inS i (s.length : Int) s.length).bind fun p =>
 bif (v.length : Int) == 0 then
 some s
 else
 bif i == (s.length : Int) then
  (app 64 s v).bind fun l =>
  some l
 else
  none
def nT (s : List Ask) (i : Int) (v : List Ask) : Option (List Ask):=ins s i v
def h175 : Hint:=.z
def sp175 : Spec fam:=⟨[.v (.slice (.st 5)) [0],.v (.int .i64) [],.v (.slice (.st 5)) [0]],[.v (.slice (.st 5)) [0]],fun a => nT a.1 a.2.1 a.2.2.1⟩
def Md : Spec fam:=⟨[.v (.slice (.st 5)) [0],.v (.int .i64) [],.v (.slice (.st 5)) [0]],[.v (.slice (.st 5)) [0]],fun a => Ds a.1 a.2.1 a.2.2.1⟩
def vh (a : Ask) (out : List Ask) (k : Int) : Option (Int ⊕ Int) :=
 (
 bif decide (k < (out.length : Int)) then
  (inb k out.length).bind fun i =>
  (out[i]?).bind fun x1 =>
  some (decide (x1.Prio < a.Prio))
 else
  some false).bind fun q =>
 bif q then
 some (.inl (w64 (k + 1)))
 else
 some (.inr k)
def ud (l : List Ask) (a : Ask) : Option (List Ask × Int) :=
 (tF l).bind fun x =>
 (nI x (fun a' => xi a'.1 a)).bind fun out =>
 bif a.Count == 0 then
 some (out,0)
 else
 bif decide ((out.length : Int) ≥ 8) then
  some ([],4)
 else
  (loop (vh a out) 0).bind fun k1 =>
  (nT out k1 [(⟨a.Prio,a.Label,⟨a.Size.Mem,a.Size.Cores⟩,a.Count,a.Node,a.Rack,0⟩ : Ask)]).bind fun x2 =>
  some (x2,0)
def h129 : Hint:=(.s .z (.s .z (.s .z (.s .z (.s .z (.s .z (.s (.b (.l [(7,.v (.int .i64) [])] [7,33] [(2,[(7,.v (.int .i64) [])])] (.s (.s (.j [] [(0,[(33,.v .bool [])])] .z) .z) .z))) .z)))))))
def sp129 : Spec fam:=⟨[.v (.slice (.st 5)) [],.v (.st 5) []],[.v (.slice (.st 5)) [0],.v (.int .i64) []],fun a => ud a.1 a.2.1⟩
def so (a : App) : Option (List Ask) :=
 (ud [] (⟨0,0,⟨a.Master.Mem,a.Master.Cores⟩,1,(-1),(-1),0⟩ : Ask)).bind fun x =>
 some x.1
def h107 : Hint:=.z
def sp107 : Spec fam:=⟨[.v (.st 6) []],[.v (.slice (.st 5)) [0]],fun a => so a.1⟩
def d9 (n : Int) (least : Int) (most : Int) : Option Bool :=
 bif decide (n ≥ least) then
 some (decide (n ≤ most))
 else
 some false
def h121 : Hint:=.z
def sp121 : Spec fam:=⟨[.v (.int .i64) [],.v (.int .i64) [],.v (.int .i64) []],[.v .bool []],fun a => d9 a.1 a.2.1 a.2.2.1⟩
def sP (l : List App) (t : Int × Int) : Option ((Int × Int) ⊕ Int) :=
 bif decide (t.2 < (l.length : Int)) then
 (
  (idx l t.2).bind fun x =>
  (ij x).bind fun x1 =>
  bif x1 then
  some (w64 (t.1 + 1))
  else
  some t.1).bind fun n =>
 some (.inl (n,w64 (t.2 + 1)))
 else
 some (.inr t.1)
def u_ (l : List App) : Option Int :=
 (loop (sP l) (0,0)).bind fun n1 =>
 some n1
def h122 : Hint:=(.s .z (.s .z (.s (.s .z (.b (.l [(3,.v (.int .i64) []),(8,.v (.int .i64) [])] [3,5,8] [(2,[(3,.v (.int .i64) [])])] (.s .z (.s .z (.s (.j [3,5] [(0,[(3,.v (.int .i64) [])])] .z) .z)))))) .z)))
def sp122 : Spec fam:=⟨[.v (.slice (.st 6)) []],[.v (.int .i64) []],fun a => u_ a.1⟩
def yx (_a0 : App) : Option Bool:=none
def sp123 : Spec fam:=⟨[.v (.st 6) []],[.v .bool []],fun a => yx a.1⟩
def Fu (_a0 : List App) (_a1 : Int) (_a2 : Int) : Option (List App):=none
def sp124 : Spec fam:=⟨[.v (.slice (.st 6)) [],.v (.int .i64) [],.v (.int .i64) []],[.v (.slice (.st 6)) []],fun a => Fu a.1 a.2.1 a.2.2.1⟩
def pN (s : State) (a : App) : Option (State × Int) :=
 (m7 s).bind fun x =>
 (
 (d9 a.Id 0 9999).bind fun x1 =>
 bif ! x1 then
  some true
 else
  (d9 a.User 0 99).bind fun x2 =>
  bif ! x2 then
  some true
  else
  (d9 a.Prio 0 9).bind fun x3 =>
  bif ! x3 then
   some true
  else
   (d9 a.Master.Mem 1 1073741824).bind fun x4 =>
   bif ! x4 then
   some true
   else
   (d9 a.Master.Cores 1 1073741824).bind fun x5 =>
   some (! x5)).bind fun q =>
 bif q then
 some (x,1)
 else
 (oF x a.Id).bind fun x6 =>
 bif decide (x6 ≥ 0) then
  some (x,7)
 else
  (u_ x.Apps).bind fun x7 =>
  bif decide (x7 ≥ 16) then
  some (x,4)
  else
  (qm x.Conf a.Queue).bind fun x8 =>
  bif ! x8 then
   some (x,19)
  else
   (oZ x.Apps (fun a' => yx a'.1)).bind fun k =>
   (
   bif decide ((x.Apps.length : Int) ≥ 16) then
    some (decide (k ≥ 0))
   else
    some false).bind fun q1 =>
   bif q1 then
   none
   else
   (so (⟨a.Id,1,a.Queue,a.User,a.Prio,⟨a.Master.Mem,a.Master.Cores⟩,[],x.Now,0,[],[],[],[]⟩ : App)).bind fun x9 =>
   (tu x (⟨a.Id,1,a.Queue,a.User,a.Prio,⟨a.Master.Mem,a.Master.Cores⟩,x9,x.Now,0,[],[],[],[]⟩ : App)).bind fun x10 =>
   some (x10,0)
def h75 : Hint:=(.s .z (.s .z (.s (.b (.s (.j [] [(0,[(10,.v .bool [])])] .z) .z)) (.s (.s .z (.s (.j [] [(0,[(73,.v .bool [])])] .z) .z)) .z))))
def sp75 : Spec fam:=⟨[.v (.st 10) [],.v (.st 6) []],[.v (.st 10) [0,1,2,3,4,5,6],.v (.int .i64) []],fun a => pN a.1 a.2.1⟩
def gz (t : Step) (x : Int) (t2 : List Cont × Int) : Option ((List Cont × Int) ⊕ List Cont) :=
 bif decide (t2.2 < (t.s.Conts.length : Int)) then
 (
  (idx t.s.Conts t2.2).bind fun x1 =>
  bif x1.Id == x then
  (app 72 t2.1 [x1]).bind fun l =>
  some l
  else
  some t2.1).bind fun out =>
 some (.inl (out,w64 (t2.2 + 1)))
 else
 some (.inr t2.1)
def gN (t : Step) (ids : List Int) (t1 : List Cont × Int) : Option ((List Cont × Int) ⊕ List Cont) :=
 bif decide (t1.2 < (ids.length : Int)) then
 (idx ids t1.2).bind fun x =>
 (loop (gz t x) (t1.1,0)).bind fun out1 =>
 some (.inl (out1,w64 (t1.2 + 1)))
 else
 some (.inr t1.1)
def bX (t : Step) (ids : List Int) : Option (List Cont) :=
 (loop (gN t ids) ([],0)).bind fun out2 =>
 some out2
def h126 : Hint:=(.s .z (.s .z (.s (.s .z (.b (.l [(5,.v (.slice (.st 7)) [0]),(12,.v (.int .i64) [])] [5,7,9,12,13,14,15,16,17,18,19,20,21,22] [(2,[(5,.v (.slice (.st 7)) [0])])] (.s .z (.s .z (.s (.b (.s .z (.s .z (.b (.l [(5,.v (.slice (.st 7)) [0]),(22,.v (.int .i64) [])] [5,9,22] [(4,[(5,.v (.slice (.st 7)) [0])])] (.s .z (.s .z (.s (.j [5,9] [(0,[(5,.v (.slice (.st 7)) [0])])] .z) .z)))))))) .z)))))) .z)))
def sp126 : Spec fam:=⟨[.rp (.st 17),.v (.slice (.int .i64)) []],[.v (.slice (.st 7)) [0]],fun a => bX a.1 a.2.1⟩
def fd (t : Step) (app_ : Int) (t1 : List Int × Int) : Option ((List Int × Int) ⊕ List Int) :=
 bif decide (t1.2 < (t.s.Conts.length : Int)) then
 (
  (idx t.s.Conts t1.2).bind fun x =>
  (
  bif x.App == app_ then
   some (x.Notice != 0)
  else
   some false).bind fun q =>
  bif q then
  (app 8 t1.1 [x.Id]).bind fun l =>
  some l
  else
  some t1.1).bind fun out =>
 some (.inl (out,w64 (t1.2 + 1)))
 else
 some (.inr t1.1)
def b_ (t : Step) (app_ : Int) : Option (List Int) :=
 (loop (fd t app_) ([],0)).bind fun out1 =>
 some out1
def h127 : Hint:=(.s .z (.s .z (.s (.s .z (.b (.l [(5,.v (.slice (.int .i64)) [0]),(14,.v (.int .i64) [])] [5,7,14,26] [(2,[(5,.v (.slice (.int .i64)) [0])])] (.s .z (.s .z (.s (.j [5,7,26] [(0,[(5,.v (.slice (.int .i64)) [0])])] (.b (.s .z (.s (.j [] [(0,[(26,.v .bool [])])] .z) .z)))) .z)))))) .z)))
def sp127 : Spec fam:=⟨[.rp (.st 17),.v (.int .i64) []],[.v (.slice (.int .i64)) [0]],fun a => b_ a.1 a.2.1⟩
def aZ (s : List Int) (f : (TupT fam [.int .i64] → Option Bool)) : Option Bool :=
 (a_ s f).bind fun x =>
 some (decide (x ≥ 0))
def h205 : Hint:=.z
def sp205 : Spec fam:=⟨[.v (.slice (.int .i64)) [],.fn [.int .i64] .bool],[.v .bool []],fun a => aZ a.1 a.2.1⟩
def se (n : Int) (p : Int) (p1 : Int) : Option Bool :=
 bif decide (n < p) then
 some true
 else
 some (decide (n > p1))
def h206 : Hint:=.z
def sp206 : Spec fam:=⟨[.v (.int .i64) [],.rp (.int .i64),.rp (.int .i64)],[.v .bool []],fun a => se a.1 a.2.1 a.2.2.1⟩
def eu (least : Int) (most : Int) (l : List Int) : Option Bool :=
 (aZ l (fun a' => se a'.1 least most)).bind fun x =>
 some (! x)
def h171 : Hint:=.z
def sp171 : Spec fam:=⟨[.v (.int .i64) [],.v (.int .i64) [],.v (.slice (.int .i64)) []],[.v .bool []],fun a => eu a.1 a.2.1 a.2.2.1⟩
def r7 (a : Ask) (labels : Int) : Option Int :=
 (
 (eu 0 9 [a.Prio]).bind fun x =>
 bif ! x then
  some true
 else
  (eu 0 (w64 (labels - 1)) [a.Label]).bind fun x1 =>
  bif ! x1 then
  some true
  else
  (eu 1 1073741824 [a.Size.Mem,a.Size.Cores]).bind fun x2 =>
  bif ! x2 then
   some true
  else
   (eu (-1) 999 [a.Node]).bind fun x3 =>
   bif ! x3 then
   some true
   else
   (eu (-1) 99 [a.Rack]).bind fun x4 =>
   bif ! x4 then
    some true
   else
    bif a.Node != (-1) then
    some (a.Rack == (-1))
    else
    some false).bind fun q =>
 bif q then
 some 1
 else
 (eu 0 50 [a.Count]).bind fun x5 =>
 bif ! x5 then
  some 4
 else
  some 0
def h128 : Hint:=(.s .z (.s (.b (.s (.j [] [(0,[(5,.v .bool [])])] .z) .z)) .z))
def sp128 : Spec fam:=⟨[.v (.st 5) [],.v (.int .i64) []],[.v (.int .i64) []],fun a => r7 a.1 a.2.1⟩
def jc (_a0 : Cont) (_a1 : Int) (_a2 : App) : Option Bool:=none
def sp176 : Spec fam:=⟨[.v (.st 7) [],.rp (.int .i64),.rp (.st 6)],[.v .bool []],fun a => jc a.1 a.2.1 a.2.2.1⟩
def iQ (t : Step) (a : App) (ids : List Int) (t1 : Int) : Option (Int ⊕ Unit) :=
 bif decide (t1 < (ids.length : Int)) then
 (idx ids t1).bind fun x =>
 (il t.s.Conts (fun a' => jc a'.1 x a)).bind fun i =>
 bif decide (i ≥ 0) then
  none
 else
  some (.inl (w64 (t1 + 1)))
 else
 some (.inr ())
def go (t : Step) (a : App) (ids : List Int) : Option (App × Step) :=
 (loop (iQ t a ids) 0).bind fun _ =>
 some (a,t)
def h130 : Hint:=(.s .z (.s (.s .z (.b (.l [(12,.v (.int .i64) [])] [8,9,12] [(2,[])] .z))) .z))
def sp130 : Spec fam:=⟨[.box (.st 17) [0,2,4,5,6],.v (.st 6) [7,10,11,12,13],.v (.slice (.int .i64)) []],[.v (.st 6) [7,10,11,12,13]],fun a => go a.1 a.2.1 a.2.2.1⟩
def fR (t : Step) (t1 : App × Int) : Option ((App × Int) ⊕ App) :=
 bif decide (t1.2 < (t.x.Asks.length : Int)) then
 (idx t.x.Asks t1.2).bind fun x3 =>
 (r7 x3 (t.s.Conf.Labels.length : Int)).bind fun e =>
 (
  bif e == 0 then
  (ud t1.1.Asks x3).bind fun x4 =>
  some ((⟨t1.1.Id,t1.1.State,t1.1.Queue,t1.1.User,t1.1.Prio,⟨t1.1.Master.Mem,t1.1.Master.Cores⟩,x4.1,t1.1.Seen,t1.1.Beat,t1.1.Grants,t1.1.Kills,t1.1.Told,t1.1.Lost⟩ : App),x4.2)
  else
  some (t1.1,e)).bind fun q =>
 bif q.2 != 0 then
  none
 else
  some (.inl (q.1,w64 (t1.2 + 1)))
 else
 some (.inr t1.1)
def eE (t : Step) : Option (Output × Step) :=
 (ii t.s t.x.Id).bind fun x =>
 bif ! x.2 then
 none
 else
 bif x.1.State != 2 then
  none
 else
  bif decide (t.x.Beat < x.1.Beat) then
  none
  else
  bif decide ((w64 (t.x.Beat - x.1.Beat)) > 1) then
   none
  else
   bif t.x.Beat == x.1.Beat then
   (bX t x.1.Told).bind fun x1 =>
   (b_ t x.1.Id).bind fun x2 =>
   some ((⟨0,x1,x2,x.1.Lost,0⟩ : Output),t)
   else
   (loop (fR t) (x.1,0)).bind fun a =>
   (go t a t.x.Ids).bind fun x5 =>
   (bX x5.2 x5.1.Grants).bind fun x6 =>
   (b_ x5.2 x5.1.Id).bind fun x7 =>
   (bI x5.1.Kills).bind fun x8 =>
   (sK x5.2.s (⟨x5.1.Id,x5.1.State,x5.1.Queue,x5.1.User,x5.1.Prio,⟨x5.1.Master.Mem,x5.1.Master.Cores⟩,x5.1.Asks,x5.2.s.Now,w64 (x5.1.Beat + 1),[],[],x5.1.Grants,x5.1.Kills⟩ : App)).bind fun x9 =>
   some ((⟨0,x6,x7,x8,0⟩ : Output),(⟨⟨⟨x9.Conf.Labels,x9.Conf.Queues⟩,x9.Nodes,x9.Apps,x9.Conts,x9.Slots,x9.Plans,x9.Now,x9.Epoch,x9.Seq⟩,⟨x5.2.x.Kind,x5.2.x.Id,x5.2.x.Beat,x5.2.x.N,x5.2.x.Text,⟨x5.2.x.Node.Id,x5.2.x.Node.Label,x5.2.x.Node.Rack,⟨x5.2.x.Node.Cap.Mem,x5.2.x.Node.Cap.Cores⟩,x5.2.x.Node.Seen,x5.2.x.Node.Beat,x5.2.x.Node.Up⟩,⟨x5.2.x.App.Id,x5.2.x.App.State,x5.2.x.App.Queue,x5.2.x.App.User,x5.2.x.App.Prio,⟨x5.2.x.App.Master.Mem,x5.2.x.App.Master.Cores⟩,x5.2.x.App.Asks,x5.2.x.App.Seen,x5.2.x.App.Beat,x5.2.x.App.Grants,x5.2.x.App.Kills,x5.2.x.App.Told,x5.2.x.App.Lost⟩,x5.2.x.Asks,x5.2.x.Ids,⟨x5.2.x.Plan.Id,x5.2.x.Plan.Label,x5.2.x.Plan.From,x5.2.x.Plan.Until,⟨x5.2.x.Plan.Need.Mem,x5.2.x.Plan.Need.Cores⟩⟩⟩⟩ : Step))
def h76 : Hint:=(.s .z (.s .z (.s .z (.s (.s .z (.b (.l [(3,.box (.st 6) [7,10,11,12,13]),(78,.v (.int .i64) [])] [3,6,7,20,78] [(3,[(3,.box (.st 6) [7,10,11,12,13])])] (.s .z (.s .z (.s (.b (.s .z (.s .z (.s (.j [3,7] [(0,[(3,.box (.st 6) [7,10,11,12,13]),(7,.v (.int .i64) [])])] .z) .z)))) .z)))))) .z))))
def sp76 : Spec fam:=⟨[.box (.st 17) [0,2,4,5,6,7000]],[.v (.st 11) [1,2,3]],fun a => eE a.1⟩
def Bi (_a0 : Step) (_a1 : Int) : Option Output:=none
def sp77 : Spec fam:=⟨[.rp (.st 17),.v (.int .i64) []],[.v (.st 11) []],fun a => Bi a.1 a.2.1⟩
def m9 (s : State) (t : List Int × Int) : Option ((List Int × Int) ⊕ List Int) :=
 bif decide (t.2 < (s.Nodes.length : Int)) then
 (
  (idx s.Nodes t.2).bind fun x =>
  (
  bif x.Up then
   some (decide ((w64 (s.Now - x.Seen)) ≥ 10))
  else
   some false).bind fun q =>
  bif q then
  (app 8 t.1 [x.Id]).bind fun l =>
  some l
  else
  some t.1).bind fun out =>
 some (.inl (out,w64 (t.2 + 1)))
 else
 some (.inr t.1)
def mG (s : State) : Option (List Int) :=
 (loop (m9 s) ([],0)).bind fun out1 =>
 some out1
def h133 : Hint:=(.s .z (.s .z (.s (.s .z (.b (.l [(3,.v (.slice (.int .i64)) [0]),(9,.v (.int .i64) [])] [3,5,9,22] [(2,[(3,.v (.slice (.int .i64)) [0])])] (.s .z (.s .z (.s (.j [3,5,22] [(0,[(3,.v (.slice (.int .i64)) [0])])] (.b (.s .z (.s (.j [] [(0,[(22,.v .bool [])])] .z) .z)))) .z)))))) .z)))
def sp133 : Spec fam:=⟨[.v (.st 10) []],[.v (.slice (.int .i64)) [0]],fun a => mG a.1⟩
def Aa (_a0 : Step) (_a1 : Int) : Option Unit:=none
def sp134 : Spec fam:=⟨[.rp (.st 17),.v (.int .i64) []],[],fun a => Aa a.1 a.2.1⟩
def oK (s : State) (t : List Ent2_IntInt × List Int × Int) : Option ((List Ent2_IntInt × List Int × Int) ⊕ List Int) :=
 bif decide (t.2.2 < (s.Apps.length : Int)) then
 (
  (idx s.Apps t.2.2).bind fun x =>
  let e:=mget (fun x1 => x.Id == x1.k) t.1 (⟨x.Id,0⟩ : Ent2_IntInt)
  (
  bif x.State == 2 then
   let e1:=mget (fun x3 => x.Id == x3.k) (mput (fun x2 => x.Id == x2.k) t.1 (⟨x.Id,w64 (e.v + 1)⟩ : Ent2_IntInt)) (⟨x.Id,0⟩ : Ent2_IntInt)
   bif e1.v == 1 then
   some (decide ((w64 (s.Now - x.Seen)) ≥ 15))
   else
   some false
  else
   some false).bind fun q =>
  bif q then
  (app 8 t.2.1 [x.Id]).bind fun l =>
  some (mput (fun x2 => x.Id == x2.k) t.1 (⟨x.Id,w64 (e.v + 1)⟩ : Ent2_IntInt),l)
  else
  some (mput (fun x2 => x.Id == x2.k) t.1 (⟨x.Id,w64 (e.v + 1)⟩ : Ent2_IntInt),t.2.1)).bind fun q1 =>
 some (.inl (q1.1,q1.2,w64 (t.2.2 + 1)))
 else
 some (.inr t.2.1)
def pT (s : State) : Option (List Int) :=
 (loop (oK s) ([],[],0)).bind fun out =>
 some out
def h135 : Hint:=(.s .z (.s .z (.s .z (.s (.s .z (.b (.l [(3,.row (.st 502) false),(4,.v (.slice (.int .i64)) [0]),(11,.v (.int .i64) [])] [3,4,6,7,11,37] [(2,[(4,.v (.slice (.int .i64)) [0])])] (.s .z (.s .z (.s (.j [3,4,6,37] [(0,[(3,.row (.st 502) false),(4,.v (.slice (.int .i64)) [0])])] (.b (.s .z (.s .z (.s (.j [] [(0,[(37,.v .bool [])])] .z) .z))))) .z)))))) .z))))
def sp135 : Spec fam:=⟨[.v (.st 10) []],[.v (.slice (.int .i64)) [0]],fun a => pT a.1⟩
def xy (_a0 : Step) (_a1 : Int) : Option (List Int):=none
def sp136 : Spec fam:=⟨[.rp (.st 17),.v (.int .i64) []],[.v (.slice (.int .i64)) []],fun a => xy a.1 a.2.1⟩
def lZ (s : List Plan) (f : (TupT fam [.st 9] → Option Bool)) (t : Int) : Option (Int ⊕ (Int ⊕ Unit)) :=
 bif decide (t < (s.length : Int)) then
 (idx s t).bind fun x =>
 (f (x,())).bind fun r =>
 bif r then
  some (.inr (.inl t))
 else
  some (.inl (w64 (t + 1)))
 else
 some (.inr (.inr ()))
def iT (s : List Plan) (f : (TupT fam [.st 9] → Option Bool)) : Option Int :=
 (loop (lZ s f) 0).bind fun q0 =>
 match q0 with
 | .inl q =>
 some q
 | .inr _ =>
 some (-1)
def h141 : Hint:=(.s .z (.s (.s .z (.b (.l [(8,.v (.int .i64) [])] [4,5,8] [(1,[(4,.v (.int .i64) [])]),(2,[])] .z))) .z))
def sp141 : Spec fam:=⟨[.v (.slice (.st 9)) [],.fn [.st 9] .bool],[.v (.int .i64) []],fun a => iT a.1 a.2.1⟩
def lX (del : (TupT fam [.st 9] → Option Bool)) (t : List Plan × Int × Int) : Option ((List Plan × Int × Int) ⊕ ((List Plan × Int))) :=
 bif decide (t.2.2 < (t.1.length : Int)) then
 (
  (inb t.2.2 t.1.length).bind fun i1 =>
  (t.1[i1]?).bind fun x =>
  (del (x,())).bind fun r =>
  bif ! r then
  (inb t.2.1 t.1.length).bind fun i2 =>
  (t.1[i2]?).bind fun x1 =>
  some (List.set t.1 i2 x,w64 (t.2.1 + 1))
  else
  some (t.1,t.2.1)).bind fun q =>
 some (.inl (q.1,q.2,w64 (t.2.2 + 1)))
 else
 some (.inr (t.1,t.2.1))
def lG (s : List Plan) (del : (TupT fam [.st 9] → Option Bool)) : Option (List Plan) :=
 (iT s del).bind fun i =>
 bif i == (-1) then
 some s
 else
 (loop (lX del) (s,i,w64 (i + 1))).bind fun q1 =>
 (inS q1.2 (q1.1.length : Int) q1.1.length).bind fun p =>
 (inS 0 q1.2 (cpy q1.1 p.1 p.2 (List.replicate p.2 (⟨0,0,0,0,⟨0,0⟩⟩ : Plan))).length).bind fun p1 =>
 some (List.take p1.2 (cpy q1.1 p.1 p.2 (List.replicate p.2 (⟨0,0,0,0,⟨0,0⟩⟩ : Plan))))
def h137 : Hint:=(.s .z (.s .z (.s .z (.s (.s .z (.b (.l [(0,.row (.st 9) false),(5,.v (.int .i64) []),(6,.v (.int .i64) [])] [0,5,6,7] [(2,[(0,.row (.st 9) false),(5,.v (.int .i64) [])])] (.s .z (.s (.j [0,5,7] [(0,[(0,.row (.st 9) false),(5,.v (.int .i64) [])])] .z) .z))))) (.s .z (.s (.r [9998]) .z))))))
def sp137 : Spec fam:=⟨[.v (.slice (.st 9)) [0],.fn [.st 9] .bool],[.v (.slice (.st 9)) [0]],fun a => lG a.1 a.2.1⟩
def eC (p : Plan) (now : Int) : Option Bool:=some (decide (p.Until ≤ now))
def sp138 : Spec fam:=⟨[.v (.st 9) [],.pk 7 (.int .i64)],[.v .bool []],fun a => eC a.1 a.2.1⟩
def kz (x : Cont) (p : Cont) : Option Bool :=
 some (x.Id == p.Id)
def h211 : Hint:=.z
def sp211 : Spec fam:=⟨[.v (.st 7) [],.rp (.st 7)],[.v .bool []],fun a => kz a.1 a.2.1⟩
def mO (c : Cont) (label : Int) (now : Int) : Option Bool :=
 bif c.Label == label then
 bif c.Notice != 0 then
  some (decide ((w64 (now - c.Notice)) ≥ 3))
 else
  some false
 else
 some false
def h212 : Hint:=.z
def sp212 : Spec fam:=⟨[.v (.st 7) [],.v (.int .i64) [],.v (.int .i64) []],[.v .bool []],fun a => mO a.1 a.2.1 a.2.2.1⟩
def EI (_a0 : State) (_a1 : Cont) : Option Bool:=none
def sp213 : Spec fam:=⟨[.v (.st 10) [],.v (.st 7) []],[.v .bool []],fun a => EI a.1 a.2.1⟩
def n_ (s : State) (label : Int) (x1 : Cont) (_t : Unit) : Option Unit :=
 (il s.Conts (fun a' => kz a'.1 x1)).bind fun i =>
 (
 bif decide (i < 0) then
  some true
 else
  (inb i s.Conts.length).bind fun i1 =>
  (s.Conts[i1]?).bind fun x2 =>
  (mO x2 label s.Now).bind fun x3 =>
  some (! x3)).bind fun q =>
 bif q then
 some ()
 else
 none
def ni (s : State) (label : Int) : Option State :=
 (cE s.Conts).bind fun x =>
 (rgB (n_ s label) x ()).bind fun _ =>
 some s
def k179 : Ks:=[]
def dr179 : List Nat:=[6,7,13,14,15,16,17,23,24,25,26,27,28,29,30,31,32,33,34,35,36,37]
def h179 : Hint:=(.b (.s .z (.b (.s (.j [23,24,25,26,27,28,29,30,31,32,33,34,35,36,37] [(0,[(23,.v .bool [])])] .z) .z))))
def sp179 : Spec fam:=⟨[.v (.st 10) [0,1001,2,1003,4,5,6],.v (.int .i64) []],[.v (.st 10) [0,1001,2,1003,4,5,6]],fun a => ni a.1 a.2.1⟩
def vZ (_a0 : Looker) (_a1 : Cont) : Option Unit:=none
def sp217 : Spec fam:=⟨[.rp (.st 19),.v (.st 7) []],[],fun a => vZ a.1 a.2.1⟩
def nB (l : List Ask) (label : Int) (t : Vec × Int) : Option ((Vec × Int) ⊕ Vec) :=
 bif decide (t.2 < (l.length : Int)) then
 (
  (idx l t.2).bind fun x =>
  (
  bif x.Label == label then
   (eu 0 1125899906842624 [x.Size.Mem,x.Size.Cores]).bind fun x1 =>
   bif x1 then
   (eu 0 50 [x.Count]).bind fun x2 =>
   some x2
   else
   some false
  else
   some false).bind fun q =>
  bif q then
  some (⟨w64 (t.1.Mem + (w64 (x.Size.Mem * x.Count))),w64 (t.1.Cores + (w64 (x.Size.Cores * x.Count)))⟩ : Vec)
  else
  some t.1).bind fun out =>
 some (.inl (out,w64 (t.2 + 1)))
 else
 some (.inr t.1)
def nq (l : List Ask) (label : Int) : Option Vec :=
 (loop (nB l label) ((⟨0,0⟩ : Vec),0)).bind fun out1 =>
 some out1
def h356 : Hint:=(.s .z (.s .z (.s (.s .z (.b (.l [(5,.box (.st 0) []),(10,.v (.int .i64) [])] [5,7,10,33] [(2,[(5,.box (.st 0) [])])] (.s .z (.s .z (.s (.j [5,7,33] [(0,[(5,.box (.st 0) [])])] (.b (.s .z (.s (.j [] [(0,[(33,.v .bool [])])] .z) .z)))) .z)))))) .z)))
def sp356 : Spec fam:=⟨[.v (.slice (.st 5)) [],.v (.int .i64) []],[.v (.st 0) []],fun a => nq a.1 a.2.1⟩
def h_ (v : View) (t : Vec × Int) : Option ((Vec × Int) ⊕ Vec) :=
 bif decide (t.2 < (v.s.Apps.length : Int)) then
 (
  (idx v.s.Apps t.2).bind fun x =>
  (
  (ij x).bind fun x1 =>
  bif x1 then
   (gJ v x).bind fun x2 =>
   some x2
  else
   some false).bind fun q =>
  bif q then
  (nq x.Asks v.label).bind fun x3 =>
  (dv t.1 x3).bind fun x4 =>
  some x4.1
  else
  some t.1).bind fun out =>
 some (.inl (out,w64 (t.2 + 1)))
 else
 some (.inr t.1)
def fx (v : View) : Option Vec :=
 (loop (h_ v) ((⟨0,0⟩ : Vec),0)).bind fun out1 =>
 some out1
def h332 : Hint:=(.s .z (.s .z (.s (.s .z (.b (.l [(3,.box (.st 0) []),(10,.v (.int .i64) [])] [3,5,10,20] [(2,[(3,.box (.st 0) [])])] (.s .z (.s .z (.s (.j [3,5,20] [(0,[(3,.box (.st 0) [])])] (.b (.s .z (.s (.j [] [(0,[(20,.v .bool [])])] .z) .z)))) .z)))))) .z)))
def sp332 : Spec fam:=⟨[.v (.st 14) []],[.v (.st 0) []],fun a => fx a.1⟩
def iW (s : State) (path : List UInt8) (label : Int) : Option Vec :=
 (fx (⟨⟨⟨s.Conf.Labels,s.Conf.Queues⟩,s.Nodes,s.Apps,s.Conts,s.Slots,s.Plans,s.Now,s.Epoch,s.Seq⟩,path,label,(-1)⟩ : View)).bind fun x =>
 some x
def h290 : Hint:=.z
def sp290 : Spec fam:=⟨[.v (.st 10) [],.v .str [],.v (.int .i64) []],[.v (.st 0) []],fun a => iW a.1 a.2.1 a.2.2.1⟩
def GF (_a0 : Int) (_a1 : List Int) (_a2 : List Int) (_a3 : List Int) : Option (List Int):=none
def sp331 : Spec fam:=⟨[.v (.int .i64) [],.v (.slice (.int .i64)) [],.v (.slice (.int .i64)) [],.v (.slice (.int .i64)) []],[.v (.slice (.int .i64)) []],fun a => GF a.1 a.2.1 a.2.2.1 a.2.2.2.1⟩
def uf (s : State) (label : Int) (kids : List (List UInt8)) (t : Rows3_ListInt × Int) : Option ((Rows3_ListInt × Int) ⊕ Rows3_ListInt) :=
 bif decide (t.2 < (kids.length : Int)) then
 (inb t.2 kids.length).bind fun i =>
 (kids[i]?).bind fun x =>
 (d7 s x label).bind fun x1 =>
 (cR s x label).bind fun x2 =>
 (iW s x label).bind fun x3 =>
 (mX s x label).bind fun x4 =>
 (inS t.2 (t.1.r0.length : Int) t.1.r0.length).bind fun p =>
 (inS 0 1 [x1.Mem,w64 (x2.Mem + x3.Mem),x4.Mem].length).bind fun p1 =>
 (inS t.2 (t.1.r1.length : Int) t.1.r1.length).bind fun p2 =>
 (inS 1 2 [x1.Mem,w64 (x2.Mem + x3.Mem),x4.Mem].length).bind fun p3 =>
 (inS t.2 (t.1.r2.length : Int) t.1.r2.length).bind fun p4 =>
 (inS 2 3 [x1.Mem,w64 (x2.Mem + x3.Mem),x4.Mem].length).bind fun p5 =>
 some (.inl ((⟨cpy t.1.r0 p.1 p.2 (sub [x1.Mem,w64 (x2.Mem + x3.Mem),x4.Mem] p1.1 p1.2),cpy t.1.r1 p2.1 p2.2 (sub [x1.Mem,w64 (x2.Mem + x3.Mem),x4.Mem] p3.1 p3.2),cpy t.1.r2 p4.1 p4.2 (sub [x1.Mem,w64 (x2.Mem + x3.Mem),x4.Mem] p5.1 p5.2)⟩ : Rows3_ListInt),w64 (t.2 + 1)))
 else
 some (.inr t.1)
def rO (self : State → (List UInt8) → Int → Int → Int → Option (List Share)) (s : State) (path : List UInt8) (label : Int) (mem : Int) (deep : Int) : Option (List Share) :=
 (jN s.Conf path).bind fun kids =>
 (
 bif (kids.length : Int) == 0 then
  some true
 else
  some (decide (deep > 4))).bind fun q =>
 bif q then
 some [(⟨path,mem⟩ : Share)]
 else
 (mkl 8 (kids.length : Int) (kids.length : Int) 0).bind fun l =>
 (mkl 8 (kids.length : Int) (kids.length : Int) 0).bind fun l1 =>
 (mkl 8 (kids.length : Int) (kids.length : Int) 0).bind fun l2 =>
 (loop (uf s label kids) ((⟨l,l1,l2⟩ : Rows3_ListInt),0)).bind fun rows =>
 none
def iU : Nat → State → (List UInt8) → Int → Int → Int → Option (List Share)
 | 0 => fun _ _ _ _ _ => none
 | n + 1 => rO (iU n)
def p7 (a0 : State) (a1 : List UInt8) (a2 : Int) (a3 : Int) (a4 : Int) : Option (List Share):=iU 64 a0 a1 a2 a3 a4
def h289 : Hint:=(.s .z (.s .z (.s (.s (.j [25,26,27,28,29,30,31] [(0,[(31,.v .bool [])])] .z) .z) (.s .z (.s (.s .z (.b (.u 4 .z))) (.s (.s .z (.b (.l [(12,.box (.st 20) [5003,0,1,2]),(51,.v (.int .i64) [])] [12,14,15,16,17,51,52,53,54,55,56,57,58,59,60,61,62,63,64,65,66,67,68,69,70,71,72,73,74,75,76,77,78,79,80,81,82,83,84,85,86,87,88,89,90,91,92,93,94,95,96] [(4,[(12,.box (.st 20) [5003,0,1,2])])] (.s .z (.s .z (.s (.b (.s .z (.s .z (.s .z (.b (.u 4 .z)))))) .z)))))) .z))))))
def sp289 : Spec fam:=⟨[.v (.st 10) [],.v .str [],.v (.int .i64) [],.v (.int .i64) [],.v (.int .i64) []],[.v (.slice (.st 13)) [0]],fun a => p7 a.1 a.2.1 a.2.2.1 a.2.2.2.1 a.2.2.2.2.1⟩
def vW (n : Nat) : Spec fam:=⟨[.v (.st 10) [],.v .str [],.v (.int .i64) [],.v (.int .i64) [],.v (.int .i64) []],[.v (.slice (.st 13)) [0]],fun a => iU n a.1 a.2.1 a.2.2.1 a.2.2.2.1 a.2.2.2.2.1⟩
def j6 (s : State) (label : Int) : Option (List Share) :=
 (d4 s label).bind fun x =>
 (p7 s ([114,111,111,116] : List UInt8) label x.Mem 1).bind fun x1 =>
 some x1
def h248 : Hint:=.z
def sp248 : Spec fam:=⟨[.v (.st 10) [],.v (.int .i64) []],[.v (.slice (.st 13)) [0]],fun a => j6 a.1 a.2.1⟩
def nx (s : State) (label : Int) (t1 : Looker × Int) : Option ((Looker × Int) ⊕ Looker) :=
 bif decide (t1.2 < (s.Conts.length : Int)) then
 (
  (idx s.Conts t1.2).bind fun x4 =>
  bif x4.Label != label then
  some t1.1
  else
  (ii s x4.App).bind fun x5 =>
  bif x4.Notice != 0 then
   none
  else
   some (⟨⟨⟨t1.1.s.Conf.Labels,t1.1.s.Conf.Queues⟩,t1.1.s.Nodes,t1.1.s.Apps,t1.1.s.Conts,t1.1.s.Slots,t1.1.s.Plans,t1.1.s.Now,t1.1.s.Epoch,t1.1.s.Seq⟩,t1.1.label,t1.1.over,mput (fun x6 => x4.Id == x6.k) t1.1.leaf (⟨x4.Id,x5.1.Queue⟩ : Ent4_IntListUInt8),t1.1.noticed,t1.1.gone⟩ : Looker)).bind fun k1 =>
 some (.inl (k1,w64 (t1.2 + 1)))
 else
 some (.inr t1.1)
def nZ (s : State) (label : Int) (x : List Share) (t : Looker × Int) : Option ((Looker × Int) ⊕ Looker) :=
 bif decide (t.2 < (x.length : Int)) then
 (inb t.2 x.length).bind fun i =>
 (x[i]?).bind fun x1 =>
 (cR s x1.Path label).bind fun x2 =>
 some (.inl ((⟨⟨⟨t.1.s.Conf.Labels,t.1.s.Conf.Queues⟩,t.1.s.Nodes,t.1.s.Apps,t.1.s.Conts,t.1.s.Slots,t.1.s.Plans,t.1.s.Now,t.1.s.Epoch,t.1.s.Seq⟩,t.1.label,mput (fun x3 => x1.Path == x3.k) t.1.over (⟨x1.Path,w64 (x2.Mem - x1.Mem)⟩ : Ent0_ListUInt8Int),t.1.leaf,t.1.noticed,t.1.gone⟩ : Looker),w64 (t.2 + 1)))
 else
 some (.inr t.1)
def mB (s : State) (label : Int) : Option Looker :=
 (j6 s label).bind fun x =>
 (loop (nZ s label x) ((⟨⟨⟨s.Conf.Labels,s.Conf.Queues⟩,s.Nodes,s.Apps,s.Conts,s.Slots,s.Plans,s.Now,s.Epoch,s.Seq⟩,label,[],[],[],0⟩ : Looker),0)).bind fun k =>
 (loop (nx s label) (k,0)).bind fun k2 =>
 some k2
def h214 : Hint:=(.s .z (.s .z (.s (.s .z (.b (.l [(5,.box (.st 19) [11,12,13]),(23,.v (.int .i64) [])] [5,7,14,17,23,24,25,26,27,28,29,30,31,32,33,34,35,36,37,38,39,40,41,42] [(2,[(5,.box (.st 19) [11,12,13])])] .z))) (.s (.s .z (.b (.l [(5,.box (.st 19) [11,12,13]),(46,.v (.int .i64) [])] [5,9,10,11,46] [(4,[(5,.box (.st 19) [11,12,13])])] (.s .z (.s .z (.s (.j [5,9,10,11] [(0,[(5,.box (.st 19) [11,12,13])])] .z) .z)))))) .z))))
def sp214 : Spec fam:=⟨[.v (.st 10) [],.v (.int .i64) []],[.nb (.st 19) [11,12,13]],fun a => mB a.1 a.2.1⟩
def eM (k : Looker) (path : List UInt8) (x : Vec) (x1 : Vec) (x2 : App) (t1 : Int) : Option (Int ⊕ (Int ⊕ Unit)) :=
 bif decide (t1 < (x2.Asks.length : Int)) then
 (idx x2.Asks t1).bind fun x4 =>
 (
  bif x4.Label == k.label then
  some (decide ((w64 (x.Mem + x4.Size.Mem)) ≤ x1.Mem))
  else
  some false).bind fun q1 =>
 bif q1 then
  (iW k.s path k.label).bind fun x5 =>
  some (.inr (.inl (imin x5.Mem (w64 (x1.Mem - x.Mem)))))
 else
  some (.inl (w64 (t1 + 1)))
 else
 some (.inr (.inr ()))
def ff (k : Looker) (path : List UInt8) (x : Vec) (x1 : Vec) (t : Int) : Option (Int ⊕ (Int ⊕ Unit)) :=
 bif decide (t < (k.s.Apps.length : Int)) then
 (
  (idx k.s.Apps t).bind fun x2 =>
  (
  (ij x2).bind fun x3 =>
  bif ! x3 then
   some true
  else
   some (! (x2.Queue == path))).bind fun q =>
  bif q then
  some (.inl ())
  else
  (loop (eM k path x x1 x2) 0).bind fun q0 =>
  match q0 with
  | .inl q2 =>
   some (.inr q2)
  | .inr _ =>
   some (.inl ()) : Option (Unit ⊕ Int)).bind fun q0 =>
 match q0 with
 | .inl _ =>
  some (.inl (w64 (t + 1)))
 | .inr q3 =>
  some (.inr (.inl q3))
 else
 some (.inr (.inr ()))
def dU (k : Looker) (path : List UInt8) : Option (Int × Looker) :=
 (cR k.s path k.label).bind fun x =>
 (d7 k.s path k.label).bind fun x1 =>
 (loop (ff k path x x1) 0).bind fun q0 =>
 match q0 with
 | .inl q4 =>
 some (q4,k)
 | .inr _ =>
 some (0,k)
def h251 : Hint:=(.s .z (.s .z (.s (.s .z (.b (.l [(37,.v (.int .i64) [])] [4,8,10,37,38,39,40,41,42,43,44,45,46,47,48,49,50,51,52,53,74] [(1,[(4,.v (.int .i64) [])]),(2,[])] (.s .z (.s .z (.s (.j [4,8,10,39,40,41,42,43,44,45,46,47,48,49,50,51,52,53,74] [(0,[]),(1,[(4,.v (.int .i64) [])])] (.b (.s .z (.s (.s (.j [41,42,43,44,45,46,47,48,49] [(0,[(49,.v .bool [])])] .z) .z) (.s .z (.b (.l [(53,.v (.int .i64) [])] [4,10,53,74] [(1,[(4,.v (.int .i64) [])]),(4,[])] (.s .z (.s .z (.s (.b (.s .z (.s (.j [] [(0,[(74,.v .bool [])])] .z) .z))) .z)))))))))) .z)))))) .z)))
def sp251 : Spec fam:=⟨[.box (.st 19) [11,12,13],.v .str []],[.v (.int .i64) []],fun a => dU a.1 a.2.1⟩
def fY (x : List Share) (t : Looker × Int × Int) : Option ((Looker × Int × Int) ⊕ ((Looker × Int))) :=
 bif decide (t.2.2 < (x.length : Int)) then
 (inb t.2.2 x.length).bind fun i =>
 (x[i]?).bind fun x1 =>
 (dU t.1 x1.Path).bind fun x2 =>
 let sum:=w64 (t.2.1 + x2.1)
 some (.inl (x2.2,sum,w64 (t.2.2 + 1)))
 else
 some (.inr (t.1,t.2.1))
def eH (k : Looker) : Option (Int × Looker) :=
 (j6 k.s k.label).bind fun x =>
 (loop (fY x) (k,0,0)).bind fun q =>
 (d4 q.1.s q.1.label).bind fun x3 =>
 (cR q.1.s ([114,111,111,116] : List UInt8) q.1.label).bind fun x4 =>
 some (w64 (q.2 - (imax (w64 (x3.Mem - x4.Mem)) 0)),q.1)
def h215 : Hint:=(.s .z (.s .z (.s .z (.s (.s .z (.b (.l [(0,.box (.st 19) [11,12,13]),(3,.v (.int .i64) []),(19,.v (.int .i64) [])] [0,3,6,19] [(2,[(0,.box (.st 19) [11,12,13]),(3,.v (.int .i64) [])])] .z))) .z))))
def sp215 : Spec fam:=⟨[.box (.st 19) [11,12,13]],[.v (.int .i64) []],fun a => eH a.1⟩
def yc (_a0 : Looker) : Option (Cont × Bool):=none
def sp216 : Spec fam:=⟨[.rp (.st 19)],[.v (.st 7) [],.v .bool []],fun a => yc a.1⟩
def nj (need : Int × Looker) (out : List Int) : Option (List Int ⊕ List Int) :=
 bif decide (need.2.gone < need.1) then
 none
 else
 some (.inr out)
def mJ (s : State) (label : Int) : Option (List Int) :=
 (mB s label).bind fun k =>
 (eH k).bind fun need =>
 (loop (nj need) []).bind fun out1 =>
 some out1
def h180 : Hint:=(.s .z (.s .z (.s .z (.s .z (.s (.b (.l [(7,.v (.slice (.int .i64)) [0])] [7] [(2,[(7,.v (.slice (.int .i64)) [0])])] .z)) .z)))))
def sp180 : Spec fam:=⟨[.v (.st 10) [],.v (.int .i64) []],[.v (.slice (.int .i64)) [0]],fun a => mJ a.1 a.2.1⟩
def mF (_a0 : Cont) (_a1 : Int) : Option Bool:=none
def sp181 : Spec fam:=⟨[.v (.st 7) [],.rp (.int .i64)],[.v .bool []],fun a => mF a.1 a.2.1⟩
def jv (x : Cont) (p : Cont) : Option Bool :=
 some (x.Id == p.Id)
def h182 : Hint:=.z
def sp182 : Spec fam:=⟨[.v (.st 7) [],.rp (.st 7)],[.v .bool []],fun a => jv a.1 a.2.1⟩
def Ex (_a0 : Int) (_a1 : Int) : Option Bool:=none
def sp260 : Spec fam:=⟨[.v (.int .i64) [],.v (.int .i64) []],[.v .bool []],fun a => Ex a.1 a.2.1⟩
def di (data : List Int) (a : Int) (j : Int) : Option (Int ⊕ Unit) :=
 bif decide (j > a) then
 (idx data j).bind fun x =>
 (idx data (w64 (j - 1))).bind fun x1 =>
 none
 else
 some (.inr ())
def bE (data : List Int) (a : Int) (b : Int) (i : Int) : Option (Int ⊕ Unit) :=
 bif decide (i < b) then
 (loop (di data a) i).bind fun _ =>
 some (.inl (w64 (i + 1)))
 else
 some (.inr ())
def bc (data : List Int) (a : Int) (b : Int) : Option Unit :=
 (loop (bE data a b) (w64 (a + 1))).bind fun _ =>
 some ()
def h254 : Hint:=(.s .z (.b (.l [(6,.v (.int .i64) [])] [6,7] [(2,[])] (.s .z (.s (.b (.s .z (.b (.l [(7,.v (.int .i64) [])] [7] [(4,[])] .z)))) .z)))))
def sp254 : Spec fam:=⟨[.v (.slice (.int .i64)) [],.v (.int .i64) [],.v (.int .i64) []],[],fun a => bc a.1 a.2.1 a.2.2.1⟩
def qn (_a0 : List Int) (_a1 : Int) (_a2 : Int) : Option Unit:=none
def sp255 : Spec fam:=⟨[.v (.slice (.int .i64)) [],.v (.int .i64) [],.v (.int .i64) []],[],fun a => qn a.1 a.2.1 a.2.2.1⟩
def nc (_a0 : List Int) (_a1 : Int) (_a2 : Int) : Option (Int × Int):=none
def sp257 : Spec fam:=⟨[.v (.slice (.int .i64)) [],.v (.int .i64) [],.v (.int .i64) []],[.v (.int .i64) [],.v (.int .i64) []],fun a => nc a.1 a.2.1 a.2.2.1⟩
def b7 (data : List Int) (a : Int) (b : Int) (limit : Int) (_t : Unit) : Option (Unit ⊕ Unit) :=
 bif decide ((w64 (b - a)) ≤ 12) then
 (bc data a b).bind fun _ =>
 some (.inr ())
 else
 bif limit == 0 then
  none
 else
  none
def cM (self : (List Int) → Int → Int → Int → Option Unit) (data : List Int) (a : Int) (b : Int) (limit : Int) : Option Unit :=
 (loop (b7 data a b limit) ()).bind fun _ =>
 some ()
def a7 : Nat → (List Int) → Int → Int → Int → Option Unit
 | 0 => fun _ _ _ _ => none
 | n + 1 => cM (a7 n)
def bS (a0 : List Int) (a1 : Int) (a2 : Int) (a3 : Int) : Option Unit:=a7 64 a0 a1 a2 a3
def h218 : Hint:=(.s .z (.s .z (.b (.l [] [10] [(1,[])] .z))))
def sp218 : Spec fam:=⟨[.v (.slice (.int .i64)) [],.v (.int .i64) [],.v (.int .i64) [],.v (.int .i64) []],[],fun a => bS a.1 a.2.1 a.2.2.1 a.2.2.2.1⟩
def MN (n : Nat) : Spec fam:=⟨[.v (.slice (.int .i64)) [],.v (.int .i64) [],.v (.int .i64) [],.v (.int .i64) []],[],fun a => a7 n a.1 a.2.1 a.2.2.1 a.2.2.2.1⟩
def sv (x : Int) : Option Int :=
 (
 bif decide (x ≥ 4294967296) then
  some (shrK .u64 x 32,32)
 else
  some (x,0)).bind fun q =>
 (
 bif decide (q.1 ≥ 65536) then
  some (shrK .u64 q.1 16,w64 (q.2 + 16))
 else
  some (q.1,q.2)).bind fun q1 =>
 (
 bif decide (q1.1 ≥ 256) then
  some (shrK .u64 q1.1 8,w64 (q1.2 + 8))
 else
  some (q1.1,q1.2)).bind fun q2 =>
 (idx ([0,1,2,2,3,3,3,3,4,4,4,4,4,4,4,4,5,5,5,5,5,5,5,5,5,5,5,5,5,5,5,5,6,6,6,6,6,6,6,6,6,6,6,6,6,6,6,6,6,6,6,6,6,6,6,6,6,6,6,6,6,6,6,6,7,7,7,7,7,7,7,7,7,7,7,7,7,7,7,7,7,7,7,7,7,7,7,7,7,7,7,7,7,7,7,7,7,7,7,7,7,7,7,7,7,7,7,7,7,7,7,7,7,7,7,7,7,7,7,7,7,7,7,7,7,7,7,7,8,8,8,8,8,8,8,8,8,8,8,8,8,8,8,8,8,8,8,8,8,8,8,8,8,8,8,8,8,8,8,8,8,8,8,8,8,8,8,8,8,8,8,8,8,8,8,8,8,8,8,8,8,8,8,8,8,8,8,8,8,8,8,8,8,8,8,8,8,8,8,8,8,8,8,8,8,8,8,8,8,8,8,8,8,8,8,8,8,8,8,8,8,8,8,8,8,8,8,8,8,8,8,8,8,8,8,8,8,8,8,8,8,8,8,8,8,8,8,8,8,8,8,8,8,8,8,8] : List UInt8) (IntKind.u8.wrap q2.1)).bind fun ch =>
 let n:=w64 (q2.2 + (w64 (ch.toNat : Int)))
 some n
def h264 : Hint:=(.s .z (.s (.j [0,2] [(0,[(0,.v (.int .u64) []),(2,.v (.int .i64) [])])] .z) (.s (.j [0,2] [(0,[(0,.v (.int .u64) []),(2,.v (.int .i64) [])])] .z) (.s (.j [0,2] [(0,[(0,.v (.int .u64) []),(2,.v (.int .i64) [])])] .z) .z))))
def sp264 : Spec fam:=⟨[.v (.int .u64) []],[.v (.int .i64) []],fun a => sv a.1⟩
def xc (x : Int) : Option Int :=
 (sv x).bind fun x1 =>
 some x1
def h219 : Hint:=.z
def sp219 : Spec fam:=⟨[.v (.int .u64) []],[.v (.int .i64) []],fun a => xc a.1⟩
def bQ (x : List Int) : Option Unit :=
 (xc (IntKind.u64.wrap (x.length : Int))).bind fun x1 =>
 (bS x 0 (x.length : Int) x1).bind fun _ =>
 some ()
def h183 : Hint:=.z
def sp183 : Spec fam:=⟨[.v (.slice (.int .i64)) []],[],fun a => bQ a.1⟩
def mg (s : State) (t3 : State) (t4 : List Int × Int) : Option ((List Int × Int) ⊕ List Int) :=
 bif decide (t4.2 < (s.Conts.length : Int)) then
 (
  (idx s.Conts t4.2).bind fun x5 =>
  (jM t3.Conts (fun a' => jv a'.1 x5)).bind fun x6 =>
  bif ! x6 then
  (app 8 t4.1 [x5.Id]).bind fun l =>
  some l
  else
  some t4.1).bind fun gone =>
 some (.inl (gone,w64 (t4.2 + 1)))
 else
 some (.inr t4.1)
def lN (x2 : List Int) (t1 : State × Int) : Option ((State × Int) ⊕ State) :=
 bif decide (t1.2 < (x2.length : Int)) then
 (inb t1.2 x2.length).bind fun i =>
 (x2[i]?).bind fun x3 =>
 (il t1.1.Conts (fun a' => mF a'.1 x3)).bind fun i1 =>
 (inb i1 t1.1.Conts.length).bind fun i2 =>
 (t1.1.Conts[i2]?).bind fun x4 =>
 some (.inl ((⟨⟨t1.1.Conf.Labels,t1.1.Conf.Queues⟩,t1.1.Nodes,t1.1.Apps,List.set t1.1.Conts i2 (⟨x4.Id,x4.App,x4.Node,⟨x4.Size.Mem,x4.Size.Cores⟩,x4.Prio,x4.Label,x4.Master,imax t1.1.Now 1⟩ : Cont),t1.1.Slots,t1.1.Plans,t1.1.Now,t1.1.Epoch,t1.1.Seq⟩ : State),w64 (t1.2 + 1)))
 else
 some (.inr t1.1)
def lR (s : State) (t : State × Int) : Option ((State × Int) ⊕ State) :=
 bif decide (t.2 < (s.Conf.Labels.length : Int)) then
 (ni t.1 t.2).bind fun x1 =>
 (mJ x1 t.2).bind fun x2 =>
 (loop (lN x2) (x1,0)).bind fun t2 =>
 some (.inl (t2,w64 (t.2 + 1)))
 else
 some (.inr t.1)
def lK (s : State) : Option (State × List Int) :=
 (cF s []).bind fun x =>
 (loop (lR s) (x,0)).bind fun t3 =>
 (loop (mg s t3) ([],0)).bind fun gone1 =>
 (bQ gone1).bind fun _ =>
 some (t3,gone1)
def h139 : Hint:=(.s .z (.s .z (.s (.s .z (.b (.l [(2,.box (.st 10) [0,1001,2,1003,4,5,6]),(16,.v (.int .i64) [])] [2,4,6,7,11,16,17,18,19,20,21,22,23,24,25,26,27,28,29,30,31,32,33,34,35,36,37,38,39,40,41,42,43] [(2,[(2,.box (.st 10) [0,1001,2,1003,4,5,6])])] (.s .z (.s .z (.s (.b (.s .z (.s .z (.s .z (.b (.l [(2,.box (.st 10) [0,1001,2,1003,4,5,6]),(26,.v (.int .i64) [])] [2,6,7,21,22,26,27,28,29,30,31,32,33,34,35,36,37,38,39,40,41,42] [(4,[(2,.box (.st 10) [0,1001,2,1003,4,5,6])])] .z)))))) .z)))))) (.s (.s .z (.b (.l [(3,.v (.slice (.int .i64)) [0]),(47,.v (.int .i64) [])] [3,9,47] [(6,[(3,.v (.slice (.int .i64)) [0])])] (.s .z (.s .z (.s (.j [3,9] [(0,[(3,.v (.slice (.int .i64)) [0])])] .z) .z)))))) .z))))
def sp139 : Spec fam:=⟨[.v (.st 10) []],[.v (.st 10) [0,1001,2,1003,4,5,6],.v (.slice (.int .i64)) [0]],fun a => lK a.1⟩
def iy (t : Step) (was : List Cont) (x5 : State × List Int) (t3 : Output × Int) : Option ((Output × Int) ⊕ Output) :=
 bif decide (t3.2 < (was.length : Int)) then
 (
  (inb t3.2 was.length).bind fun i2 =>
  (was[i2]?).bind fun x6 =>
  (bX (⟨⟨⟨x5.1.Conf.Labels,x5.1.Conf.Queues⟩,x5.1.Nodes,x5.1.Apps,x5.1.Conts,x5.1.Slots,x5.1.Plans,x5.1.Now,x5.1.Epoch,x5.1.Seq⟩,⟨t.x.Kind,t.x.Id,t.x.Beat,t.x.N,t.x.Text,⟨t.x.Node.Id,t.x.Node.Label,t.x.Node.Rack,⟨t.x.Node.Cap.Mem,t.x.Node.Cap.Cores⟩,t.x.Node.Seen,t.x.Node.Beat,t.x.Node.Up⟩,⟨t.x.App.Id,t.x.App.State,t.x.App.Queue,t.x.App.User,t.x.App.Prio,⟨t.x.App.Master.Mem,t.x.App.Master.Cores⟩,t.x.App.Asks,t.x.App.Seen,t.x.App.Beat,t.x.App.Grants,t.x.App.Kills,t.x.App.Told,t.x.App.Lost⟩,t.x.Asks,t.x.Ids,⟨t.x.Plan.Id,t.x.Plan.Label,t.x.Plan.From,t.x.Plan.Until,⟨t.x.Plan.Need.Mem,t.x.Plan.Need.Cores⟩⟩⟩⟩ : Step) [x6.Id]).bind fun x7 =>
  bif (x7.length : Int) == 0 then
  (app 8 t3.1.Gone [x6.Id]).bind fun l =>
  some (⟨t3.1.Err,t3.1.Conts,t3.1.Ids,l,t3.1.N⟩ : Output)
  else
  some t3.1).bind fun out =>
 some (.inl (out,w64 (t3.2 + 1)))
 else
 some (.inr t3.1)
def iM (x2 : List Int) (t2 : Int) : Option (Int ⊕ Unit) :=
 bif decide (t2 < (x2.length : Int)) then
 (inb t2 x2.length).bind fun i1 =>
 (x2[i1]?).bind fun x3 =>
 none
 else
 some (.inr ())
def iH (x : List Int) (t1 : Int) : Option (Int ⊕ Unit) :=
 bif decide (t1 < (x.length : Int)) then
 (inb t1 x.length).bind fun i =>
 (x[i]?).bind fun x1 =>
 none
 else
 some (.inr ())
def gx (t : Step) : Option (Output × Step) :=
 (
 bif decide (t.x.N < 1) then
  some true
 else
  some (decide (t.x.N > 100))).bind fun q =>
 bif q then
 none
 else
 bif decide (t.s.Now > (w64 (1000000000 - t.x.N))) then
  none
 else
  (cE t.s.Conts).bind fun was =>
  (mG (⟨⟨t.s.Conf.Labels,t.s.Conf.Queues⟩,t.s.Nodes,t.s.Apps,t.s.Conts,t.s.Slots,t.s.Plans,w64 (t.s.Now + t.x.N),t.s.Epoch,t.s.Seq⟩ : State)).bind fun x =>
  (loop (iH x) 0).bind fun _ =>
  (pT (⟨⟨t.s.Conf.Labels,t.s.Conf.Queues⟩,t.s.Nodes,t.s.Apps,t.s.Conts,t.s.Slots,t.s.Plans,w64 (t.s.Now + t.x.N),t.s.Epoch,t.s.Seq⟩ : State)).bind fun x2 =>
  (loop (iM x2) 0).bind fun _ =>
  (lG t.s.Plans (fun a' => eC a'.1 (w64 (t.s.Now + t.x.N)))).bind fun x4 =>
  (lK (⟨⟨t.s.Conf.Labels,t.s.Conf.Queues⟩,t.s.Nodes,t.s.Apps,t.s.Conts,t.s.Slots,x4,w64 (t.s.Now + t.x.N),t.s.Epoch,t.s.Seq⟩ : State)).bind fun x5 =>
  (loop (iy t was x5) ((⟨0,[],[],[],0⟩ : Output),0)).bind fun out1 =>
  some (out1,(⟨⟨⟨x5.1.Conf.Labels,x5.1.Conf.Queues⟩,x5.1.Nodes,x5.1.Apps,x5.1.Conts,x5.1.Slots,x5.1.Plans,x5.1.Now,x5.1.Epoch,x5.1.Seq⟩,⟨t.x.Kind,t.x.Id,t.x.Beat,t.x.N,t.x.Text,⟨t.x.Node.Id,t.x.Node.Label,t.x.Node.Rack,⟨t.x.Node.Cap.Mem,t.x.Node.Cap.Cores⟩,t.x.Node.Seen,t.x.Node.Beat,t.x.Node.Up⟩,⟨t.x.App.Id,t.x.App.State,t.x.App.Queue,t.x.App.User,t.x.App.Prio,⟨t.x.App.Master.Mem,t.x.App.Master.Cores⟩,t.x.App.Asks,t.x.App.Seen,t.x.App.Beat,t.x.App.Grants,t.x.App.Kills,t.x.App.Told,t.x.App.Lost⟩,t.x.Asks,t.x.Ids,⟨t.x.Plan.Id,t.x.Plan.Label,t.x.Plan.From,t.x.Plan.Until,⟨t.x.Plan.Need.Mem,t.x.Plan.Need.Cores⟩⟩⟩⟩ : Step))
def h78 : Hint:=(.s .z (.s (.b (.s (.j [11,12,13,14,15,16,17,18,19,20,21,22,23,24,25] [(0,[(11,.v .bool [])])] .z) .z)) (.s .z (.s .z (.s (.s .z (.b (.l [(67,.v (.int .i64) [])] [67,68] [(3,[])] .z))) (.s (.s .z (.b (.l [(81,.v (.int .i64) [])] [81,82] [(5,[])] .z))) (.s .z (.s .z (.s .z (.s (.s .z (.b (.l [(8,.box (.st 11) [1,2,3]),(121,.v (.int .i64) [])] [8,10,121] [(7,[(8,.box (.st 11) [1,2,3])])] (.s .z (.s .z (.s (.j [8,10] [(0,[(8,.box (.st 11) [1,2,3])])] .z) .z)))))) .z))))))))))
def sp78 : Spec fam:=⟨[.box (.st 17) [0,2,4,5,6,7000]],[.v (.st 11) [1,2,3]],fun a => gx a.1⟩
def cP (n : Int) (most : Int) : Option Bool :=
 bif decide (n ≥ 0) then
 some (decide (n ≤ most))
 else
 some false
def h184 : Hint:=.z
def sp184 : Spec fam:=⟨[.v (.int .i64) [],.v (.int .i64) []],[.v .bool []],fun a => cP a.1 a.2.1⟩
def lD (s : List Plan) (f : (TupT fam [.st 9] → Option Bool)) : Option Bool :=
 (iT s f).bind fun x =>
 some (decide (x ≥ 0))
def h185 : Hint:=.z
def sp185 : Spec fam:=⟨[.v (.slice (.st 9)) [],.fn [.st 9] .bool],[.v .bool []],fun a => lD a.1 a.2.1⟩
def xK (_a0 : Plan) (_a1 : Plan) : Option Bool:=none
def sp186 : Spec fam:=⟨[.v (.st 9) [],.rp (.st 9)],[.v .bool []],fun a => xK a.1 a.2.1⟩
def xG (l : List Plan) (label : Int) (t : Int) (t1 : Vec × Int) : Option ((Vec × Int) ⊕ Vec) :=
 bif decide (t1.2 < (l.length : Int)) then
 (
  (idx l t1.2).bind fun x =>
  (
  bif x.Label == label then
   bif decide (x.From ≤ t) then
   some (decide (x.Until > t))
   else
   some false
  else
   some false).bind fun q =>
  bif q then
  (dv t1.1 x.Need).bind fun x1 =>
  some x1.1
  else
  some t1.1).bind fun out =>
 some (.inl (out,w64 (t1.2 + 1)))
 else
 some (.inr t1.1)
def zH (l : List Plan) (label : Int) (t : Int) : Option Vec :=
 (loop (xG l label t) ((⟨0,0⟩ : Vec),0)).bind fun out1 =>
 some out1
def h266 : Hint:=(.s .z (.s .z (.s (.s .z (.b (.l [(7,.box (.st 0) []),(12,.v (.int .i64) [])] [7,9,12,31] [(2,[(7,.box (.st 0) [])])] (.s .z (.s .z (.s (.j [7,9,31] [(0,[(7,.box (.st 0) [])])] (.b (.s .z (.s (.j [] [(0,[(31,.v .bool [])])] .z) .z)))) .z)))))) .z)))
def sp266 : Spec fam:=⟨[.v (.slice (.st 9)) [],.v (.int .i64) [],.v (.int .i64) []],[.v (.st 0) []],fun a => zH a.1 a.2.1 a.2.2.1⟩
def p9 (k : Int) (p : List Plan) (p1 : Plan) (p2 : Vec) : Option Bool :=
 (zH p p1.Label k).bind fun x =>
 (dv x p1.Need).bind fun x1 =>
 bif x1.2 != 0 then
 some true
 else
 (cX x1.1 p2).bind fun x2 =>
 some (! x2)
def h265 : Hint:=.z
def sp265 : Spec fam:=⟨[.v (.int .i64) [],.rp (.slice (.st 9)),.rp (.st 9),.rp (.st 0)],[.v .bool []],fun a => p9 a.1 a.2.1 a.2.2.1 a.2.2.2.1⟩
def tc (l : List Plan) (t : Int) (long : Int) (t1 : List Int × Int) : Option ((List Int × Int) ⊕ List Int) :=
 bif decide (t1.2 < (l.length : Int)) then
 (
  (idx l t1.2).bind fun x =>
  (
  bif decide (x.From > t) then
   some (decide (x.From < (w64 (t + long))))
  else
   some false).bind fun q =>
  bif q then
  (app 8 t1.1 [x.From]).bind fun l1 =>
  some l1
  else
  some t1.1).bind fun times =>
 some (.inl (times,w64 (t1.2 + 1)))
 else
 some (.inr t1.1)
def uQ (l : List Plan) (total : Vec) (p : Plan) (t : Int) (long : Int) : Option Bool :=
 (loop (tc l t long) ([t],0)).bind fun times1 =>
 (aZ times1 (fun a' => p9 a'.1 l p total)).bind fun x1 =>
 some (! x1)
def h220 : Hint:=(.s .z (.s .z (.s (.s .z (.b (.l [(11,.v (.slice (.int .i64)) [0]),(18,.v (.int .i64) [])] [11,13,15,18,33] [(2,[(11,.v (.slice (.int .i64)) [0])])] (.s .z (.s .z (.s (.j [11,13,33] [(0,[(11,.v (.slice (.int .i64)) [0])])] (.b (.s .z (.s (.j [] [(0,[(33,.v .bool [])])] .z) .z)))) .z)))))) .z)))
def sp220 : Spec fam:=⟨[.v (.slice (.st 9)) [],.v (.st 0) [],.v (.st 9) [],.v (.int .i64) [],.v (.int .i64) []],[.v .bool []],fun a => uQ a.1 a.2.1 a.2.2.1 a.2.2.2.1 a.2.2.2.2.1⟩
def qN (l : List Plan) (total : Vec) (p : Plan) (long : Int) (times1 : List Int) (t1 : Int) : Option (Int ⊕ ((Int × Int) ⊕ Unit)) :=
 bif decide (t1 < (times1.length : Int)) then
 (inb t1 times1.length).bind fun i1 =>
 (times1[i1]?).bind fun x6 =>
 (
  bif decide (x6 ≤ (w64 (p.Until - long))) then
  (uQ l total p x6 long).bind fun x7 =>
  some x7
  else
  some false).bind fun q1 =>
 bif q1 then
  some (.inr (.inl (x6,0)))
 else
  some (.inl (w64 (t1 + 1)))
 else
 some (.inr (.inr ()))
def rD (l : List Plan) (p : Plan) (t : List Int × Int) : Option ((List Int × Int) ⊕ List Int) :=
 bif decide (t.2 < (l.length : Int)) then
 (
  (idx l t.2).bind fun x5 =>
  bif decide (x5.Until > p.From) then
  (app 8 t.1 [x5.Until]).bind fun l2 =>
  some l2
  else
  some t.1).bind fun times =>
 some (.inl (times,w64 (t.2 + 1)))
 else
 some (.inr t.1)
def r8 (l : List Plan) (total : Vec) (p : Plan) (long : Int) : Option (Int × Int) :=
 (
 bif decide (long < 1) then
  some true
 else
  bif decide (long > 1000) then
  some true
  else
  (cP p.From 1000000).bind fun x =>
  bif ! x then
   some true
  else
   (cP p.Until 1000000).bind fun x1 =>
   bif ! x1 then
   some true
   else
   (cP p.Need.Mem 1073741824).bind fun x2 =>
   bif ! x2 then
    some true
   else
    (cP p.Need.Cores 1073741824).bind fun x3 =>
    some (! x3)).bind fun q =>
 bif q then
 some (0,1)
 else
 (mkl 8 1 (w64 ((l.length : Int) + 1)) 0).bind fun l1 =>
 (inb 0 l1.length).bind fun i =>
 (l1[i]?).bind fun x4 =>
 (loop (rD l p) (List.set l1 i p.From,0)).bind fun times1 =>
 (bQ times1).bind fun _ =>
 (loop (qN l total p long times1) 0).bind fun q0 =>
 match q0 with
 | .inl q2 =>
  some (q2.1,q2.2)
 | .inr _ =>
  some (0,16)
def h187 : Hint:=(.s .z (.s (.s (.j [15,16,17,18,19,20,21,22,23,24,25,26,27,28,29,30,31,32,33,34,35,36,37,38,39,40,41,42,43,44,45,46] [(0,[(46,.v .bool [])])] .z) .z) (.s .z (.s .z (.s (.s .z (.b (.l [(10,.v (.slice (.int .i64)) [0]),(57,.v (.int .i64) [])] [10,12,50,51,54,57,58,59,60,61,62,63,64,65,66,67,68,69,70,71] [(2,[(10,.v (.slice (.int .i64)) [0])])] (.s .z (.s .z (.s (.j [10,12,59,60,61,62,63,64,65,66,67,68,69,70] [(0,[(10,.v (.slice (.int .i64)) [0])])] .z) .z)))))) (.s .z (.s (.s .z (.b (.l [(76,.v (.int .i64) [])] [8,9,14,76,93] [(1,[(8,.v (.int .i64) []),(9,.v (.int .i64) [])]),(4,[])] (.s .z (.s .z (.s (.b (.s .z (.s (.j [] [(0,[(93,.v .bool [])])] .z) .z))) .z)))))) .z)))))))
def sp187 : Spec fam:=⟨[.v (.slice (.st 9)) [],.v (.st 0) [],.v (.st 9) [],.v (.int .i64) []],[.v (.int .i64) [],.v (.int .i64) []],fun a => r8 a.1 a.2.1 a.2.2.1 a.2.2.2.1⟩
def vO (p : Plan) (x : State) (k : Int) : Option (Int ⊕ Int) :=
 (
 bif decide (k < (x.Plans.length : Int)) then
  (inb k x.Plans.length).bind fun i =>
  (x.Plans[i]?).bind fun x1 =>
  some (decide (x1.Id < p.Id))
 else
  some false).bind fun q =>
 bif q then
 some (.inl (w64 (k + 1)))
 else
 some (.inr k)
def xg (s : State) (p : Plan) (long : Int) : Option (State × Int × Int) :=
 (cF s []).bind fun x =>
 (loop (vO p x) 0).bind fun k1 =>
 (
 (cP p.Id 999).bind fun x2 =>
 bif ! x2 then
  some true
 else
  (cP p.Label (w64 ((x.Conf.Labels.length : Int) - 1))).bind fun x3 =>
  bif ! x3 then
  some true
  else
  some ((p.Need.Mem == 0) && (p.Need.Cores == 0))).bind fun q1 =>
 bif q1 then
 some (x,0,1)
 else
 (lD x.Plans (fun a' => xK a'.1 p)).bind fun x4 =>
 bif x4 then
  some (x,0,7)
 else
  bif decide ((x.Plans.length : Int) ≥ 12) then
  some (x,0,4)
  else
  bif decide (p.From < x.Now) then
   some (x,0,15)
  else
   (d4 x p.Label).bind fun x5 =>
   (r8 x.Plans x5 p long).bind fun x6 =>
   bif x6.2 != 0 then
   some (x,0,x6.2)
   else
   (mkl 48 (w64 ((x.Plans.length : Int) + 1)) (w64 ((x.Plans.length : Int) + 1)) (⟨0,0,0,0,⟨0,0⟩⟩ : Plan)).bind fun l =>
   (inS 0 k1 x.Plans.length).bind fun p1 =>
   (inb k1 (cpy l 0 l.length (sub x.Plans p1.1 p1.2)).length).bind fun i1 =>
   ((cpy l 0 l.length (sub x.Plans p1.1 p1.2))[i1]?).bind fun x7 =>
   (inS (w64 (k1 + 1)) ((List.set (cpy l 0 l.length (sub x.Plans p1.1 p1.2)) i1 (⟨p.Id,p.Label,x6.1,w64 (x6.1 + long),⟨p.Need.Mem,p.Need.Cores⟩⟩ : Plan)).length : Int) (List.set (cpy l 0 l.length (sub x.Plans p1.1 p1.2)) i1 (⟨p.Id,p.Label,x6.1,w64 (x6.1 + long),⟨p.Need.Mem,p.Need.Cores⟩⟩ : Plan)).length).bind fun p2 =>
   (inS k1 (x.Plans.length : Int) x.Plans.length).bind fun p3 =>
   some ((⟨⟨x.Conf.Labels,x.Conf.Queues⟩,x.Nodes,x.Apps,x.Conts,x.Slots,cpy (List.set (cpy l 0 l.length (sub x.Plans p1.1 p1.2)) i1 (⟨p.Id,p.Label,x6.1,w64 (x6.1 + long),⟨p.Need.Mem,p.Need.Cores⟩⟩ : Plan)) p2.1 p2.2 (sub x.Plans p3.1 p3.2),x.Now,x.Epoch,x.Seq⟩ : State),x6.1,0)
def h140 : Hint:=(.s .z (.s .z (.s .z (.s (.b (.l [(9,.v (.int .i64) [])] [9,30] [(2,[(9,.v (.int .i64) [])])] (.s (.s (.j [] [(0,[(30,.v .bool [])])] .z) .z) .z))) (.s (.b (.s (.j [] [(0,[(33,.v .bool [])])] .z) .z)) .z)))))
def sp140 : Spec fam:=⟨[.v (.st 10) [],.v (.st 9) [],.v (.int .i64) []],[.v (.st 10) [0,1001,2,1003,4,5,6],.v (.int .i64) [],.v (.int .i64) []],fun a => xg a.1 a.2.1 a.2.2.1⟩
def dl (t : Step) : Option (Output × Step) :=
 (xg t.s t.x.Plan t.x.N).bind fun x =>
 bif x.2.2 != 0 then
 none
 else
 some ((⟨0,[],[],[],x.2.1⟩ : Output),(⟨⟨⟨x.1.Conf.Labels,x.1.Conf.Queues⟩,x.1.Nodes,x.1.Apps,x.1.Conts,x.1.Slots,x.1.Plans,x.1.Now,x.1.Epoch,x.1.Seq⟩,⟨t.x.Kind,t.x.Id,t.x.Beat,t.x.N,t.x.Text,⟨t.x.Node.Id,t.x.Node.Label,t.x.Node.Rack,⟨t.x.Node.Cap.Mem,t.x.Node.Cap.Cores⟩,t.x.Node.Seen,t.x.Node.Beat,t.x.Node.Up⟩,⟨t.x.App.Id,t.x.App.State,t.x.App.Queue,t.x.App.User,t.x.App.Prio,⟨t.x.App.Master.Mem,t.x.App.Master.Cores⟩,t.x.App.Asks,t.x.App.Seen,t.x.App.Beat,t.x.App.Grants,t.x.App.Kills,t.x.App.Told,t.x.App.Lost⟩,t.x.Asks,t.x.Ids,⟨t.x.Plan.Id,t.x.Plan.Label,t.x.Plan.From,t.x.Plan.Until,⟨t.x.Plan.Need.Mem,t.x.Plan.Need.Cores⟩⟩⟩⟩ : Step))
def h79 : Hint:=.z
def sp79 : Spec fam:=⟨[.box (.st 17) [0,2,4,5,6,7000]],[.v (.st 11) [1,2,3]],fun a => dl a.1⟩
def I1 (_a0 : State) (_a1 : Int) : Option (State × Int):=none
def sp80 : Spec fam:=⟨[.v (.st 10) [],.v (.int .i64) []],[.v (.st 10) [],.v (.int .i64) []],fun a => I1 a.1 a.2.1⟩
def zk (_a0 : Step) : Option Output:=none
def sp81 : Spec fam:=⟨[.rp (.st 17)],[.v (.st 11) []],fun a => zk a.1⟩
def jz (t : Step) : Option (Output × Step) :=
 bif t.x.Kind == 1 then
 none
 else
 bif t.x.Kind == 2 then
  (ke t.s t.x.Node).bind fun x =>
  (c9 t x.1 x.2).bind fun x1 =>
  some (x1.1,x1.2)
 else
  bif t.x.Kind == 3 then
  (gm t).bind fun x2 =>
  some (x2.1,x2.2)
  else
  bif t.x.Kind == 4 then
   (pN t.s t.x.App).bind fun x3 =>
   (c9 t x3.1 x3.2).bind fun x4 =>
   some (x4.1,x4.2)
  else
   bif t.x.Kind == 5 then
   (eE t).bind fun x5 =>
   some (x5.1,x5.2)
   else
   bif t.x.Kind == 6 then
    none
   else
    bif t.x.Kind == 7 then
    none
    else
    bif t.x.Kind == 8 then
     (gx t).bind fun x6 =>
     some (x6.1,x6.2)
    else
     bif t.x.Kind == 9 then
     (dl t).bind fun x7 =>
     some (x7.1,x7.2)
     else
     bif t.x.Kind == 10 then
      none
     else
      bif t.x.Kind == 11 then
      none
      else
      none
def h35 : Hint:=.z
def sp35 : Spec fam:=⟨[.box (.st 17) [0,2,4,5,6,7000]],[.v (.st 11) [1,2,3]],fun a => jz a.1⟩
def jP (s : State) (x : Input) : Option (State × Output) :=
 (cF s []).bind fun x1 =>
 (jz (⟨⟨⟨x1.Conf.Labels,x1.Conf.Queues⟩,x1.Nodes,x1.Apps,x1.Conts,x1.Slots,x1.Plans,x1.Now,x1.Epoch,x1.Seq⟩,⟨x.Kind,x.Id,x.Beat,x.N,x.Text,⟨x.Node.Id,x.Node.Label,x.Node.Rack,⟨x.Node.Cap.Mem,x.Node.Cap.Cores⟩,x.Node.Seen,x.Node.Beat,x.Node.Up⟩,⟨x.App.Id,x.App.State,x.App.Queue,x.App.User,x.App.Prio,⟨x.App.Master.Mem,x.App.Master.Cores⟩,x.App.Asks,x.App.Seen,x.App.Beat,x.App.Grants,x.App.Kills,x.App.Told,x.App.Lost⟩,x.Asks,x.Ids,⟨x.Plan.Id,x.Plan.Label,x.Plan.From,x.Plan.Until,⟨x.Plan.Need.Mem,x.Plan.Need.Cores⟩⟩⟩⟩ : Step)).bind fun x2 =>
 bif x2.1.Err != 0 then
 (cF s []).bind fun x3 =>
 some (x3,x2.1)
 else
 (cF x2.2.s []).bind fun x4 =>
 some (x4,x2.1)
def h17 : Hint:=.z
def sp17 : Spec fam:=⟨[.v (.st 10) [],.v (.st 12) []],[.v (.st 10) [0,1001,2,1003,4,5,6],.v (.st 11) [1,2,3]],fun a => jP a.1 a.2.1⟩
def iK (t : State × Int) : Option ((State × Int) ⊕ (Bool ⊕ State)) :=
 bif decide (t.2 < ([(⟨2,0,0,0,[],⟨1,0,0,⟨1,1⟩,0,0,false⟩,⟨0,0,[],0,0,⟨0,0⟩,[],0,0,[],[],[],[]⟩,[],[],⟨0,0,0,0,⟨0,0⟩⟩⟩ : Input),(⟨4,0,0,0,[],⟨0,0,0,⟨0,0⟩,0,0,false⟩,⟨2,0,([114,111,111,116] : List UInt8),0,0,⟨1,1⟩,[],0,0,[],[],[],[]⟩,[],[],⟨0,0,0,0,⟨0,0⟩⟩⟩ : Input),(⟨3,1,1,0,[],⟨0,0,0,⟨0,0⟩,0,0,false⟩,⟨0,0,[],0,0,⟨0,0⟩,[],0,0,[],[],[],[]⟩,[],[],⟨0,0,0,0,⟨0,0⟩⟩⟩ : Input)].length : Int)) then
 (inb t.2 [(⟨2,0,0,0,[],⟨1,0,0,⟨1,1⟩,0,0,false⟩,⟨0,0,[],0,0,⟨0,0⟩,[],0,0,[],[],[],[]⟩,[],[],⟨0,0,0,0,⟨0,0⟩⟩⟩ : Input),(⟨4,0,0,0,[],⟨0,0,0,⟨0,0⟩,0,0,false⟩,⟨2,0,([114,111,111,116] : List UInt8),0,0,⟨1,1⟩,[],0,0,[],[],[],[]⟩,[],[],⟨0,0,0,0,⟨0,0⟩⟩⟩ : Input),(⟨3,1,1,0,[],⟨0,0,0,⟨0,0⟩,0,0,false⟩,⟨0,0,[],0,0,⟨0,0⟩,[],0,0,[],[],[],[]⟩,[],[],⟨0,0,0,0,⟨0,0⟩⟩⟩ : Input)].length).bind fun i =>
 ([(⟨2,0,0,0,[],⟨1,0,0,⟨1,1⟩,0,0,false⟩,⟨0,0,[],0,0,⟨0,0⟩,[],0,0,[],[],[],[]⟩,[],[],⟨0,0,0,0,⟨0,0⟩⟩⟩ : Input),(⟨4,0,0,0,[],⟨0,0,0,⟨0,0⟩,0,0,false⟩,⟨2,0,([114,111,111,116] : List UInt8),0,0,⟨1,1⟩,[],0,0,[],[],[],[]⟩,[],[],⟨0,0,0,0,⟨0,0⟩⟩⟩ : Input),(⟨3,1,1,0,[],⟨0,0,0,⟨0,0⟩,0,0,false⟩,⟨0,0,[],0,0,⟨0,0⟩,[],0,0,[],[],[],[]⟩,[],[],⟨0,0,0,0,⟨0,0⟩⟩⟩ : Input)][i]?).bind fun x1 =>
 (jP t.1 x1).bind fun x2 =>
 bif x2.2.Err != 0 then
  some (.inr (.inl false))
 else
  some (.inl (x2.1,w64 (t.2 + 1)))
 else
 some (.inr (.inr (t.1)))
def gw : Option Bool :=
 (k_).bind fun x =>
 (loop iK (x,0)).bind fun q0 =>
 match q0 with
 | .inl q =>
 some q
 | .inr s =>
 bif (s.Conts.length : Int) == 1 then
  (inb 0 s.Conts.length).bind fun i1 =>
  (s.Conts[i1]?).bind fun x3 =>
  bif x3.Master then
  (lC s).bind fun x4 =>
  some x4
  else
  some false
 else
  some false
def h7 : Hint:=(.s .z (.s .z (.s .z (.s .z (.s (.s .z (.b (.l [(1,.box (.st 10) [0,2,4,5,6]),(4,.v (.int .i64) [])] [0,1,4,5,6] [(1,[(0,.v .bool [])]),(2,[(1,.box (.st 10) [0,2,4,5,6])])] .z))) .z)))))
noncomputable def sp7 : Spec fam:=⟨[],[.v .bool []],fun _ => gw⟩
def av (at_ : Int) (n : Int) : Option Int :=
 (nz n).bind fun _ =>
 (
 bif decide ((Int.tmod at_ n) < 0) then
  let k:=w64 ((Int.tmod at_ n) + n)
  some k
 else
  some (Int.tmod at_ n)).bind fun k1 =>
 some k1
def h8 : Hint:=(.s .z (.s .z (.s (.j [5] [(0,[(5,.v (.int .i64) [])])] .z) .z)))
def sp8 : Spec fam:=⟨[.v (.int .i64) [],.v (.int .i64) []],[.v (.int .i64) []],fun a => av a.1 a.2.1⟩
def jS (l : List Input) (t : State × State × Int) : Option ((State × State × Int) ⊕ ((State × Bool) ⊕ (State × State))) :=
 bif decide (t.2.2 < (l.length : Int)) then
 (idx l t.2.2).bind fun x =>
 (jP t.1 x).bind fun x1 =>
 bif x1.2.Err != 0 then
  some (.inr (.inl (t.1,false)))
 else
  some (.inl (x1.1,t.2.1,w64 (t.2.2 + 1)))
 else
 some (.inr (.inr (t.1,t.2.1)))
def cy (s : State) (l : List Input) : Option (State × Bool) :=
 (loop (jS l) (s,(⟨⟨[],[]⟩,[],[],[],[],[],0,0,0⟩ : State),0)).bind fun q0 =>
 match q0 with
 | .inl q =>
 some (q.1,q.2)
 | .inr q1 =>
 some (q1.1,true)
def h9 : Hint:=(.s .z (.s (.s .z (.b (.l [(2,.box (.st 10) []),(4,.box (.st 10) [0,1,2,3,4,5,6]),(6,.v (.int .i64) [])] [2,4,5,6,7,8] [(1,[(4,.box (.st 10) []),(5,.v .bool [])]),(2,[(2,.box (.st 10) []),(4,.box (.st 10) [0,1,2,3,4,5,6])])] .z))) .z))
def sp9 : Spec fam:=⟨[.v (.st 10) [],.v (.slice (.st 12)) []],[.v (.st 10) [],.v .bool []],fun a => cy a.1 a.2.1⟩
def em : Option Vec :=
 some (⟨1,1⟩ : Vec)
def h12 : Hint:=.z
noncomputable def sp12 : Spec fam:=⟨[],[.v (.st 0) []],fun _ => em⟩
def gr (n : Int) : Option (List Ask) :=
 (em).bind fun x =>
 some [(⟨1,0,⟨x.Mem,x.Cores⟩,n,(-1),(-1),0⟩ : Ask)]
def h13 : Hint:=.z
def sp13 : Spec fam:=⟨[.v (.int .i64) []],[.v (.slice (.st 5)) [0]],fun a => gr a.1⟩
def gL (s : State) (id_ : Int) (t : App × Int) : Option ((App × Int) ⊕ ((App × Bool) ⊕ App)) :=
 bif decide (t.2 < (s.Apps.length : Int)) then
 (idx s.Apps t.2).bind fun x =>
 bif x.Id == id_ then
  (idx s.Apps t.2).bind fun x1 =>
  some (.inr (.inl (x1,true)))
 else
  some (.inl (t.1,w64 (t.2 + 1)))
 else
 some (.inr (.inr (t.1)))
def fP (s : State) (id_ : Int) : Option (App × Bool) :=
 (loop (gL s id_) ((⟨0,0,[],0,0,⟨0,0⟩,[],0,0,[],[],[],[]⟩ : App),0)).bind fun q0 =>
 match q0 with
 | .inl q =>
 some (q.1,q.2)
 | .inr q1 =>
 some ((⟨0,0,[],0,0,⟨0,0⟩,[],0,0,[],[],[],[]⟩ : App),false)
def h18 : Hint:=(.s .z (.s (.s .z (.b (.l [(4,.box (.st 6) [7,10,11,12,13]),(6,.v (.int .i64) [])] [4,5,6] [(1,[(4,.box (.st 6) []),(5,.v .bool [])]),(2,[(4,.box (.st 6) [7,10,11,12,13])])] .z))) .z))
def sp18 : Spec fam:=⟨[.v (.st 10) [],.v (.int .i64) []],[.v (.st 6) [],.v .bool []],fun a => fP a.1 a.2.1⟩
def gu (a : Vec) (b : Vec) : Option Vec :=
 some (⟨w64 (a.Mem + b.Mem),w64 (a.Cores + b.Cores)⟩ : Vec)
def h36 : Hint:=.z
def sp36 : Spec fam:=⟨[.v (.st 0) [],.v (.st 0) []],[.v (.st 0) []],fun a => gu a.1 a.2.1⟩
def gy (path : List UInt8) (k1 : Int) : Option (Int ⊕ Int) :=
 (
 bif decide (k1 ≥ 0) then
  (idx path k1).bind fun ch =>
  some ((ch.toNat : Int) != 46)
 else
  some false).bind fun q =>
 bif q then
 some (.inl (w64 (k1 - 1)))
 else
 some (.inr k1)
def fJ (path : List UInt8) : Option (List UInt8) :=
 let k:=w64 ((path.length : Int) - 1)
 (loop (gy path) k).bind fun k2 =>
 bif decide (k2 < 0) then
 some ([] : List UInt8)
 else
 (slc path 0 k2).bind fun s =>
 some s
def h144 : Hint:=(.s .z (.s .z (.s (.b (.l [(3,.v (.int .i64) [])] [3,14] [(2,[(3,.v (.int .i64) [])])] (.s (.s (.j [] [(0,[(14,.v .bool [])])] .z) .z) .z))) .z)))
def sp144 : Spec fam:=⟨[.v .str []],[.v .str []],fun a => fJ a.1⟩
def jV (t : List UInt8 × List (List UInt8)) : Option ((List UInt8 × List (List UInt8)) ⊕ List (List UInt8)) :=
 bif ! (t.1 == ([] : List UInt8)) then
 (app 16 t.2 [t.1]).bind fun l =>
 (fJ t.1).bind fun path1 =>
 some (.inl (path1,l))
 else
 some (.inr t.2)
def jB (path : List UInt8) : Option (List (List UInt8)) :=
 (loop jV (path,[])).bind fun l1 =>
 some l1
def h83 : Hint:=(.s .z (.s .z (.s (.b (.l [(0,.v .str []),(3,.v (.slice (.str)) [0])] [0,3] [(2,[(3,.v (.slice (.str)) [0])])] .z)) .z)))
def sp83 : Spec fam:=⟨[.v .str []],[.v (.slice (.str)) [0]],fun a => jB a.1⟩
def fV (path : List UInt8) (up : List (List UInt8)) (i : Int) : Option (Int ⊕ (Bool ⊕ Unit)) :=
 bif decide (i < (up.length : Int)) then
 (inb i up.length).bind fun i1 =>
 (up[i1]?).bind fun x =>
 bif x == path then
  some (.inr (.inl true))
 else
  some (.inl (w64 (i + 1)))
 else
 some (.inr (.inr ()))
def eD (leaf : List UInt8) (path : List UInt8) : Option Bool :=
 (jB leaf).bind fun up =>
 (loop (fV path up) 0).bind fun q0 =>
 match q0 with
 | .inl q =>
 some q
 | .inr _ =>
 some false
def h37 : Hint:=(.s .z (.s .z (.s (.s .z (.b (.l [(6,.v (.int .i64) [])] [4,6] [(1,[(4,.v .bool [])]),(2,[])] .z))) .z)))
def sp37 : Spec fam:=⟨[.v .str [],.v .str []],[.v .bool []],fun a => eD a.1 a.2.1⟩
def gT (s : State) (path : List UInt8) (label : Int) (all : Bool) (user : Int) (t : Vec × Int) : Option ((Vec × Int) ⊕ Vec) :=
 bif decide (t.2 < (s.Conts.length : Int)) then
 (
  (idx s.Conts t.2).bind fun x =>
  (fP s x.App).bind fun x1 =>
  (
  bif x1.2 then
   (idx s.Conts t.2).bind fun x2 =>
   bif x2.Label == label then
   (eD x1.1.Queue path).bind fun x3 =>
   bif x3 then
    bif all then
    some true
    else
    some (x1.1.User == user)
   else
    some false
   else
   some false
  else
   some false).bind fun q =>
  bif q then
  (idx s.Conts t.2).bind fun x4 =>
  (gu t.1 x4.Size).bind fun x5 =>
  some x5
  else
  some t.1).bind fun v =>
 some (.inl (v,w64 (t.2 + 1)))
 else
 some (.inr t.1)
def fw (s : State) (path : List UInt8) (label : Int) (all : Bool) (user : Int) : Option Vec :=
 (loop (gT s path label all user) ((⟨0,0⟩ : Vec),0)).bind fun v1 =>
 some v1
def h22 : Hint:=(.s .z (.s .z (.s (.s .z (.b (.l [(11,.box (.st 0) []),(12,.v (.int .i64) [])] [11,12,13,59] [(2,[(11,.box (.st 0) [])])] (.s .z (.s (.j [11,13,59] [(0,[(11,.box (.st 0) [])])] (.b (.s .z (.s (.j [] [(0,[(59,.v .bool [])])] .z) .z)))) .z))))) .z)))
def sp22 : Spec fam:=⟨[.v (.st 10) [],.v .str [],.v (.int .i64) [],.v .bool [],.v (.int .i64) []],[.v (.st 0) []],fun a => fw a.1 a.2.1 a.2.2.1 a.2.2.2.1 a.2.2.2.2.1⟩
def c_ (s : State) (path : List UInt8) (label : Int) : Option Vec :=
 (fw s path label true 0).bind fun x =>
 some x
def h14 : Hint:=.z
def sp14 : Spec fam:=⟨[.v (.st 10) [],.v .str [],.v (.int .i64) []],[.v (.st 0) []],fun a => c_ a.1 a.2.1 a.2.2.1⟩
def eZ (q : State × Int) (t1 : State × Int) : Option ((State × Int) ⊕ State) :=
 bif decide (t1.2 < 8) then
 (cy t1.1 [(⟨3,1,w64 (q.2 + t1.2),0,[],⟨0,0,0,⟨0,0⟩,0,0,false⟩,⟨0,0,[],0,0,⟨0,0⟩,[],0,0,[],[],[],[]⟩,[],[],⟨0,0,0,0,⟨0,0⟩⟩⟩ : Input)]).bind fun x11 =>
 some (.inl (x11.1,w64 (t1.2 + 1)))
 else
 some (.inr t1.1)
def e_ (t : State × Int) : Option ((State × Int) ⊕ ((State × Int))) :=
 bif decide (t.2 < 9) then
 (cy t.1 [(⟨3,1,t.2,0,[],⟨0,0,0,⟨0,0⟩,0,0,false⟩,⟨0,0,[],0,0,⟨0,0⟩,[],0,0,[],[],[],[]⟩,[],[],⟨0,0,0,0,⟨0,0⟩⟩⟩ : Input)]).bind fun x8 =>
 some (.inl (x8.1,w64 (t.2 + 1)))
 else
 some (.inr (t.1,t.2))
def ap (need : Int) (units : Int) (long : Int) : Option Bool :=
 (gw).bind fun x =>
 bif ! x then
 some false
 else
 (av units 10).bind fun x1 =>
 (av need (w64 ((w64 (3 + x1)) - 2))).bind fun x2 =>
 (av long 8).bind fun x3 =>
 (k_).bind fun x4 =>
 (em).bind fun x5 =>
 (gr 40).bind fun x6 =>
 (cy x4 [(⟨2,0,0,0,[],⟨1,0,0,⟨w64 (3 + x1),w64 (3 + x1)⟩,0,0,false⟩,⟨0,0,[],0,0,⟨0,0⟩,[],0,0,[],[],[],[]⟩,[],[],⟨0,0,0,0,⟨0,0⟩⟩⟩ : Input),(⟨9,0,0,w64 (1 + x3),[],⟨0,0,0,⟨0,0⟩,0,0,false⟩,⟨0,0,[],0,0,⟨0,0⟩,[],0,0,[],[],[],[]⟩,[],[],⟨1,0,0,100,⟨w64 (1 + x2),w64 (1 + x2)⟩⟩⟩ : Input),(⟨4,0,0,0,[],⟨0,0,0,⟨0,0⟩,0,0,false⟩,⟨1,0,([114,111,111,116] : List UInt8),0,0,⟨x5.Mem,x5.Cores⟩,[],0,0,[],[],[],[]⟩,[],[],⟨0,0,0,0,⟨0,0⟩⟩⟩ : Input),(⟨3,1,1,0,[],⟨0,0,0,⟨0,0⟩,0,0,false⟩,⟨0,0,[],0,0,⟨0,0⟩,[],0,0,[],[],[],[]⟩,[],[],⟨0,0,0,0,⟨0,0⟩⟩⟩ : Input),(⟨5,1,1,0,[],⟨0,0,0,⟨0,0⟩,0,0,false⟩,⟨0,0,[],0,0,⟨0,0⟩,[],0,0,[],[],[],[]⟩,x6,[],⟨0,0,0,0,⟨0,0⟩⟩⟩ : Input)]).bind fun x7 =>
 bif ! x7.2 then
  some false
 else
  (loop e_ (x7.1,2)).bind fun q =>
  (c_ q.1 ([114,111,111,116] : List UInt8) 0).bind fun x9 =>
  bif x9.Mem != (w64 ((w64 (3 + x1)) - (w64 (1 + x2)))) then
  some false
  else
  (cy q.1 [(⟨8,0,0,w64 (1 + x3),[],⟨0,0,0,⟨0,0⟩,0,0,false⟩,⟨0,0,[],0,0,⟨0,0⟩,[],0,0,[],[],[],[]⟩,[],[],⟨0,0,0,0,⟨0,0⟩⟩⟩ : Input)]).bind fun x10 =>
  (loop (eZ q) (x10.1,0)).bind fun s =>
  bif x10.2 then
   (c_ s ([114,111,111,116] : List UInt8) 0).bind fun x12 =>
   bif x12.Mem == (w64 (3 + x1)) then
   some ((s.Plans.length : Int) == 0)
   else
   some false
  else
   some false
def h4 : Hint:=(.s .z (.s .z (.s .z (.s .z (.s .z (.s .z (.s .z (.s (.b (.l [(7,.box (.st 10) []),(9,.v (.int .i64) [])] [7,9] [(2,[(7,.box (.st 10) []),(9,.v (.int .i64) [])])] .z)) (.s .z (.s .z (.s (.s .z (.b (.l [(7,.box (.st 10) []),(10,.v (.int .i64) [])] [7,10] [(4,[(7,.box (.st 10) [])])] .z))) .z)))))))))))
def sp4 : Spec fam:=⟨[.v (.int .i64) [],.v (.int .i64) [],.v (.int .i64) []],[.v .bool []],fun a => ap a.1 a.2.1 a.2.2.1⟩
end
end Go.Fx.D
