/-
  The functions of the program that this law reaches, as functions over plain data (printed by a program). Conditions: none.
-/
import Derived.Test.YtofmfbgkkbionaaA
namespace Go.Fx.D
open Go Go.Fx Go.Proofs
set_option linter.unusedVariables false
noncomputable section
def a8 (v : Vec) : Option Bool :=
 bif decide (v.Mem ≥ 0) then
 bif decide (v.Mem ≤ 1125899906842624) then
  bif decide (v.Cores ≥ 0) then
  some (decide (v.Cores ≤ 1125899906842624))
  else
  some false
 else
  some false
 else
 some false
def h19 : Hint:=.z
def sp19 : Spec fam:=⟨[.v (.st 0) []],[.v .bool []],fun a => a8 a.1⟩
def bu : Option State :=
 some (⟨⟨[([] : List UInt8)],[(⟨([114,111,111,116] : List UInt8),[(⟨10000,10000⟩ : Cap)],10000⟩ : Queue)]⟩,[],[],[],[],[],0,0,0⟩ : State)
def h5 : Hint:=.z
noncomputable def sp5 : Spec fam:=⟨[],[.v (.st 10) [0,1001,2,1003,4,5,6]],fun _ => bu⟩
def cK (v : Vec) : Option (Vec × Int) :=
 (a8 v).bind fun x =>
 bif ! x then
 some ((⟨0,0⟩ : Vec),11)
 else
 some (v,0)
def h20 : Hint:=.z
def sp20 : Spec fam:=⟨[.v (.st 0) []],[.v (.st 0) [],.v (.int .i64) []],fun a => cK a.1⟩
def dH (a : Vec) (b : Vec) : Option (Vec × Int) :=
 (
 (a8 a).bind fun x =>
 bif ! x then
  some true
 else
  (a8 b).bind fun x1 =>
  some (! x1)).bind fun q =>
 bif q then
 some ((⟨0,0⟩ : Vec),1)
 else
 (cK (⟨w64 (a.Mem + b.Mem),w64 (a.Cores + b.Cores)⟩ : Vec)).bind fun x2 =>
 some (x2.1,x2.2)
def h15 : Hint:=(.s .z (.s (.s (.j [] [(0,[(13,.v .bool [])])] .z) .z) .z))
def sp15 : Spec fam:=⟨[.v (.st 0) [],.v (.st 0) []],[.v (.st 0) [],.v (.int .i64) []],fun a => dH a.1 a.2.1⟩
def cq (l : List Vec) (t : Vec × Int) : Option ((Vec × Int) ⊕ Vec) :=
 bif decide (t.2 < (l.length : Int)) then
 (idx l t.2).bind fun x =>
 (dH t.1 x).bind fun x1 =>
 some (.inl (x1.1,w64 (t.2 + 1)))
 else
 some (.inr t.1)
def de (l : List Vec) : Option Vec :=
 (loop (cq l) ((⟨0,0⟩ : Vec),0)).bind fun out =>
 some out
def h11 : Hint:=(.s .z (.s .z (.s (.s .z (.b (.l [(3,.box (.st 0) []),(8,.v (.int .i64) [])] [3,5,8] [(2,[(3,.box (.st 0) [])])] .z))) .z)))
def sp11 : Spec fam:=⟨[.v (.slice (.st 0)) []],[.v (.st 0) []],fun a => de a.1⟩
def bY (s : State) (label : Int) (t : List Vec × Int) : Option ((List Vec × Int) ⊕ List Vec) :=
 bif decide (t.2 < (s.Nodes.length : Int)) then
 (
  (idx s.Nodes t.2).bind fun x =>
  (
  bif x.Up then
   some (x.Label == label)
  else
   some false).bind fun q =>
  bif q then
  (app 16 t.1 [x.Cap]).bind fun l =>
  some l
  else
  some t.1).bind fun l1 =>
 some (.inl (l1,w64 (t.2 + 1)))
 else
 some (.inr t.1)
def bj (s : State) (label : Int) : Option Vec :=
 (loop (bY s label) ([],0)).bind fun l2 =>
 (de l2).bind fun x1 =>
 some x1
def h8 : Hint:=(.s .z (.s .z (.s (.s .z (.b (.l [(5,.v (.slice (.st 0)) [0]),(11,.v (.int .i64) [])] [5,7,11,22] [(2,[(5,.v (.slice (.st 0)) [0])])] (.s .z (.s .z (.s (.j [5,7,22] [(0,[(5,.v (.slice (.st 0)) [0])])] (.b (.s .z (.s (.j [] [(0,[(22,.v .bool [])])] .z) .z)))) .z)))))) .z)))
def sp8 : Spec fam:=⟨[.v (.st 10) [],.v (.int .i64) []],[.v (.st 0) []],fun a => bj a.1 a.2.1⟩
def bq (s : List UInt8) (c : Int) (i1 : Int) : Option (Int ⊕ (Int ⊕ Unit)) :=
 bif decide (i1 ≥ 0) then
 (idx s i1).bind fun ch =>
 bif (ch.toNat : Int) == c then
  some (.inr (.inl i1))
 else
  some (.inl (w64 (i1 - 1)))
 else
 some (.inr (.inr ()))
def aW (s : List UInt8) (c : Int) : Option Int :=
 let i:=w64 ((s.length : Int) - 1)
 (loop (bq s c) i).bind fun q0 =>
 match q0 with
 | .inl q =>
 some q
 | .inr _ =>
 some (-1)
def h29 : Hint:=(.s .z (.s (.s .z (.b (.l [(5,.v (.int .i64) [])] [4,5] [(1,[(4,.v (.int .i64) [])]),(2,[])] .z))) .z))
def sp29 : Spec fam:=⟨[.v .str [],.v (.int .u8) []],[.v (.int .i64) []],fun a => aW a.1 a.2.1⟩
def bw (t1 : Int × Int × Int) : Option ((Int × Int × Int) ⊕ Int) :=
 bif decide (t1.2.2 > 0) then
 (
  bif (andK .i64 t1.2.2 1) != 0 then
  let pow:=IntKind.u32.wrap (t1.1 * t1.2.1)
  some pow
  else
  some t1.1).bind fun pow1 =>
 let sq:=IntKind.u32.wrap (t1.2.1 * t1.2.1)
 some (.inl (pow1,sq,shrK .i64 t1.2.2 1))
 else
 some (.inr t1.1)
def bv (sep : List UInt8) (t : Int × Int) : Option ((Int × Int) ⊕ Int) :=
 bif decide (t.2 ≥ 0) then
 (idx sep t.2).bind fun ch =>
 let hash:=IntKind.u32.wrap ((IntKind.u32.wrap (t.1 * 16777619)) + (IntKind.u32.wrap (ch.toNat : Int)))
 some (.inl (hash,w64 (t.2 - 1)))
 else
 some (.inr t.1)
def a_ (sep : List UInt8) : Option (Int × Int) :=
 let i:=w64 ((sep.length : Int) - 1)
 (loop (bv sep) (0,i)).bind fun hash1 =>
 (loop bw (1,16777619,(sep.length : Int))).bind fun pow2 =>
 some (hash1,pow2)
def h32 : Hint:=(.s .z (.s .z (.s (.s .z (.b (.l [(4,.v (.int .u32) []),(5,.v (.int .i64) [])] [4,5] [(2,[(4,.v (.int .u32) [])])] .z))) (.s .z (.s (.s .z (.b (.l [(6,.v (.int .u32) []),(7,.v (.int .u32) []),(8,.v (.int .i64) [])] [6,7,8] [(4,[(6,.v (.int .u32) [])])] (.s .z (.s (.b (.s (.j [6] [(0,[(6,.v (.int .u32) [])])] .z) .z)) .z))))) .z)))))
def sp32 : Spec fam:=⟨[.v .str []],[.v (.int .u32) [],.v (.int .u32) []],fun a => a_ a.1⟩
def aR (s : List UInt8) (sep : List UInt8) (x : Int × Int) (t1 : Int × Int) : Option ((Int × Int) ⊕ (Int ⊕ Unit)) :=
 bif decide (t1.2 ≥ 0) then
 (idx s t1.2).bind fun ch1 =>
 let h2:=IntKind.u32.wrap ((IntKind.u32.wrap (t1.1 * 16777619)) + (IntKind.u32.wrap (ch1.toNat : Int)))
 (idx s (w64 (t1.2 + (sep.length : Int)))).bind fun ch2 =>
 let h3:=IntKind.u32.wrap (h2 - (IntKind.u32.wrap (x.2 * (IntKind.u32.wrap (ch2.toNat : Int)))))
 (
  bif h3 == x.1 then
  (slc s t1.2 (w64 (t1.2 + (sep.length : Int)))).bind fun s2 =>
  some (s2 == sep)
  else
  some false).bind fun q1 =>
 bif q1 then
  some (.inr (.inl (t1.2)))
 else
  some (.inl (h3,w64 (t1.2 - 1)))
 else
 some (.inr (.inr ()))
def aS (s : List UInt8) (last : Int) (t : Int × Int) : Option ((Int × Int) ⊕ Int) :=
 bif decide (t.2 ≥ last) then
 (idx s t.2).bind fun ch =>
 let h:=IntKind.u32.wrap ((IntKind.u32.wrap (t.1 * 16777619)) + (IntKind.u32.wrap (ch.toNat : Int)))
 some (.inl (h,w64 (t.2 - 1)))
 else
 some (.inr t.1)
def aI (s : List UInt8) (sep : List UInt8) : Option Int :=
 (a_ sep).bind fun x =>
 let last:=w64 ((s.length : Int) - (sep.length : Int))
 let i:=w64 ((s.length : Int) - 1)
 (loop (aS s last) (0,i)).bind fun h1 =>
 (
 bif h1 == x.1 then
  (slc s last (s.length : Int)).bind fun s1 =>
  some (s1 == sep)
 else
  some false).bind fun q =>
 bif q then
 some last
 else
 (loop (aR s sep x) (h1,w64 (last - 1))).bind fun q0 =>
 match q0 with
 | .inl q2 =>
  some q2
 | .inr _ =>
  some (-1)
def h30 : Hint:=(.s .z (.s .z (.s .z (.s .z (.s .z (.s (.s .z (.b (.l [(9,.v (.int .u32) []),(10,.v (.int .i64) [])] [9,10] [(2,[(9,.v (.int .u32) [])])] .z))) (.s (.s (.j [] [(0,[(47,.v .bool [])])] .z) .z) (.s (.s .z (.b (.l [(9,.v (.int .u32) []),(11,.v (.int .i64) [])] [4,9,11,85] [(1,[(4,.v (.int .i64) [])]),(4,[])] (.s .z (.s (.b (.s .z (.s .z (.s .z (.s (.j [] [(0,[(85,.v .bool [])])] .z) .z))))) .z))))) .z))))))))
def sp30 : Spec fam:=⟨[.v .str [],.v .str []],[.v (.int .i64) []],fun a => aI a.1 a.2.1⟩
def cj (s : List UInt8) (substr : List UInt8) : Option Int :=
 bif (substr.length : Int) == 0 then
 some (s.length : Int)
 else
 bif (substr.length : Int) == 1 then
  (idx substr 0).bind fun ch =>
  (aW s (ch.toNat : Int)).bind fun x =>
  some x
 else
  bif (substr.length : Int) == (s.length : Int) then
  bif substr == s then
   some 0
  else
   some (-1)
  else
  bif decide ((substr.length : Int) > (s.length : Int)) then
   some (-1)
  else
   (aI s substr).bind fun x1 =>
   some x1
def h26 : Hint:=.z
def sp26 : Spec fam:=⟨[.v .str [],.v .str []],[.v (.int .i64) []],fun a => cj a.1 a.2.1⟩
def eo (path : List UInt8) : Option (List UInt8 × Bool) :=
 (cj path ([46] : List UInt8)).bind fun i =>
 bif decide (i < 0) then
 some (([] : List UInt8),false)
 else
 (slc path 0 i).bind fun s =>
 some (s,true)
def h21 : Hint:=.z
def sp21 : Spec fam:=⟨[.v .str []],[.v .str [],.v .bool []],fun a => eo a.1⟩
def fS (t : List UInt8 × List (List UInt8)) : Option ((List UInt8 × List (List UInt8)) ⊕ List (List UInt8)) :=
 bif ! (t.1 == ([] : List UInt8)) then
 (app 16 t.2 [t.1]).bind fun l =>
 (eo t.1).bind fun x =>
 some (.inl (x.1,l))
 else
 some (.inr t.2)
def eA (path : List UInt8) : Option (List (List UInt8)) :=
 (loop fS (path,[])).bind fun out =>
 some out
def h16 : Hint:=(.s .z (.s .z (.s (.b (.l [(0,.v .str []),(3,.v (.slice (.str)) [0])] [0,3] [(2,[(3,.v (.slice (.str)) [0])])] .z)) .z)))
def sp16 : Spec fam:=⟨[.v .str []],[.v (.slice (.str)) [0]],fun a => eA a.1⟩
def eh (s : List Queue) (f : (TupT fam [.st 2] → Option Bool)) (t : Int) : Option (Int ⊕ (Int ⊕ Unit)) :=
 bif decide (t < (s.length : Int)) then
 (idx s t).bind fun x =>
 (f (x,())).bind fun r =>
 bif r then
  some (.inr (.inl t))
 else
  some (.inl (w64 (t + 1)))
 else
 some (.inr (.inr ()))
def er (s : List Queue) (f : (TupT fam [.st 2] → Option Bool)) : Option Int :=
 (loop (eh s f) 0).bind fun q0 =>
 match q0 with
 | .inl q =>
 some q
 | .inr _ =>
 some (-1)
def h22 : Hint:=(.s .z (.s (.s .z (.b (.l [(8,.v (.int .i64) [])] [4,5,8] [(1,[(4,.v (.int .i64) [])]),(2,[])] .z))) .z))
def sp22 : Spec fam:=⟨[.v (.slice (.st 2)) [],.fn [.st 2] .bool],[.v (.int .i64) []],fun a => er a.1 a.2.1⟩
def dN (q : Queue) (p : List UInt8) : Option Bool :=
 some (q.Path == p)
def h23 : Hint:=.z
def sp23 : Spec fam:=⟨[.v (.st 2) [],.rp .str],[.v .bool []],fun a => dN a.1 a.2.1⟩
def mO (s : List Cap) : Option (List Cap) :=
 bif s.isEmpty then
 none
 else
 (app 16 [] s).bind fun l =>
 some l
def gh (s : List Cap) : Option (List Cap):=app 16 [] s
def h24 : Hint:=.z
def sp24 : Spec fam:=⟨[.v (.slice (.st 1)) []],[.v (.slice (.st 1)) [0]],fun a => gh a.1⟩
def qP : Spec fam:=⟨[.v (.slice (.st 1)) []],[.v (.slice (.st 1)) [0]],fun a => mO a.1⟩
def cH (c : Conf) (path : List UInt8) : Option (Queue × Bool) :=
 (er c.Queues (fun a' => dN a'.1 path)).bind fun i =>
 bif decide (i < 0) then
 some ((⟨[],[],0⟩ : Queue),false)
 else
 (idx c.Queues i).bind fun x =>
 (gh x.Caps).bind fun x1 =>
 some ((⟨x.Path,x1,x.User⟩ : Queue),true)
def h17 : Hint:=.z
def sp17 : Spec fam:=⟨[.v (.st 3) [],.v .str []],[.v (.st 2) [1],.v .bool []],fun a => cH a.1 a.2.1⟩
def en (x : Int) (y : Int) : Option (Int × Int) :=
 let w0:=IntKind.u64.wrap ((andK .u64 x 4294967295) * (andK .u64 y 4294967295))
 let t:=IntKind.u64.wrap ((IntKind.u64.wrap ((shrK .u64 x 32) * (andK .u64 y 4294967295))) + (shrK .u64 w0 32))
 let w1:=IntKind.u64.wrap ((andK .u64 t 4294967295) + (IntKind.u64.wrap ((andK .u64 x 4294967295) * (shrK .u64 y 32))))
 let hi:=IntKind.u64.wrap ((IntKind.u64.wrap ((IntKind.u64.wrap ((shrK .u64 x 32) * (shrK .u64 y 32))) + (shrK .u64 t 32))) + (shrK .u64 w1 32))
 some (hi,IntKind.u64.wrap (x * y))
def h27 : Hint:=.z
def sp27 : Spec fam:=⟨[.v (.int .u64) [],.v (.int .u64) []],[.v (.int .u64) [],.v (.int .u64) []],fun a => en a.1 a.2.1⟩
def eu (x : Int) : Option Int :=
 (
 bif decide (x ≥ 4294967296) then
  some (shrK .u64 x 32,32)
 else
  some (x,0)).bind fun q =>
 (
 bif decide (q.1 ≥ 65536) then
  some (shrK .u64 q.1 16,w64 (q.2 + 16))
 else
  some (q.1,q.2)).bind fun q1 =>
 (
 bif decide (q1.1 ≥ 256) then
  some (shrK .u64 q1.1 8,w64 (q1.2 + 8))
 else
  some (q1.1,q1.2)).bind fun q2 =>
 (idx ([0,1,2,2,3,3,3,3,4,4,4,4,4,4,4,4,5,5,5,5,5,5,5,5,5,5,5,5,5,5,5,5,6,6,6,6,6,6,6,6,6,6,6,6,6,6,6,6,6,6,6,6,6,6,6,6,6,6,6,6,6,6,6,6,7,7,7,7,7,7,7,7,7,7,7,7,7,7,7,7,7,7,7,7,7,7,7,7,7,7,7,7,7,7,7,7,7,7,7,7,7,7,7,7,7,7,7,7,7,7,7,7,7,7,7,7,7,7,7,7,7,7,7,7,7,7,7,7,8,8,8,8,8,8,8,8,8,8,8,8,8,8,8,8,8,8,8,8,8,8,8,8,8,8,8,8,8,8,8,8,8,8,8,8,8,8,8,8,8,8,8,8,8,8,8,8,8,8,8,8,8,8,8,8,8,8,8,8,8,8,8,8,8,8,8,8,8,8,8,8,8,8,8,8,8,8,8,8,8,8,8,8,8,8,8,8,8,8,8,8,8,8,8,8,8,8,8,8,8,8,8,8,8,8,8,8,8,8,8,8,8,8,8,8,8,8,8,8,8,8,8,8,8,8,8,8] : List UInt8) (IntKind.u8.wrap q2.1)).bind fun ch =>
 let n:=w64 (q2.2 + (w64 (ch.toNat : Int)))
 some n
def h33 : Hint:=(.s .z (.s (.j [0,2] [(0,[(0,.v (.int .u64) []),(2,.v (.int .i64) [])])] .z) (.s (.j [0,2] [(0,[(0,.v (.int .u64) []),(2,.v (.int .i64) [])])] .z) (.s (.j [0,2] [(0,[(0,.v (.int .u64) []),(2,.v (.int .i64) [])])] .z) .z))))
def sp33 : Spec fam:=⟨[.v (.int .u64) []],[.v (.int .i64) []],fun a => eu a.1⟩
def b8 (x : Int) : Option Int :=
 (eu x).bind fun x1 =>
 some (w64 (64 - x1))
def h31 : Hint:=.z
def sp31 : Spec fam:=⟨[.v (.int .u64) []],[.v (.int .i64) []],fun a => b8 a.1⟩
def d9 (yn1 : Int) (yn0 : Int) (un0 : Int) (t1 : Int × Int) : Option ((Int × Int) ⊕ Int) :=
 (
 bif decide (t1.2 ≥ 4294967296) then
  some true
 else
  some (decide ((IntKind.u64.wrap (t1.2 * yn0)) > (IntKind.u64.wrap ((IntKind.u64.wrap (4294967296 * t1.1)) + un0))))).bind fun q2 =>
 bif q2 then
 bif decide ((IntKind.u64.wrap (t1.1 + yn1)) ≥ 4294967296) then
  some (.inr (IntKind.u64.wrap (t1.2 - 1)))
 else
  some (.inl (IntKind.u64.wrap (t1.1 + yn1),IntKind.u64.wrap (t1.2 - 1)))
 else
 some (.inr t1.2)
def em (yn1 : Int) (yn0 : Int) (un1 : Int) (t : Int × Int) : Option ((Int × Int) ⊕ Int) :=
 (
 bif decide (t.1 ≥ 4294967296) then
  some true
 else
  some (decide ((IntKind.u64.wrap (t.1 * yn0)) > (IntKind.u64.wrap ((IntKind.u64.wrap (4294967296 * t.2)) + un1))))).bind fun q =>
 bif q then
 bif decide ((IntKind.u64.wrap (t.2 + yn1)) ≥ 4294967296) then
  some (.inr (IntKind.u64.wrap (t.1 - 1)))
 else
  some (.inl (IntKind.u64.wrap (t.1 - 1),IntKind.u64.wrap (t.2 + yn1)))
 else
 some (.inr t.1)
def et (hi : Int) (lo : Int) (y : Int) : Option (Int × Int) :=
 bif y == 0 then
 none
 else
 bif decide (y ≤ hi) then
  none
 else
  bif hi == 0 then
  (nz y).bind fun _ =>
  (nz y).bind fun _ =>
  some (IntKind.u64.wrap (Int.tdiv lo y),Int.tmod lo y)
  else
  (b8 y).bind fun x =>
  (nn (IntKind.u64.wrap x)).bind fun _ =>
  let yn1:=shrK .u64 (shlK .u64 y (IntKind.u64.wrap x)) 32
  let yn0:=andK .u64 (shlK .u64 y (IntKind.u64.wrap x)) 4294967295
  (nn (IntKind.u64.wrap x)).bind fun _ =>
  (nn (IntKind.u64.wrap (64 - (IntKind.u64.wrap x)))).bind fun _ =>
  let un32:=orK .u64 (shlK .u64 hi (IntKind.u64.wrap x)) (shrK .u64 lo (IntKind.u64.wrap (64 - (IntKind.u64.wrap x))))
  (nn (IntKind.u64.wrap x)).bind fun _ =>
  let un1:=shrK .u64 (shlK .u64 lo (IntKind.u64.wrap x)) 32
  let un0:=andK .u64 (shlK .u64 lo (IntKind.u64.wrap x)) 4294967295
  (nz yn1).bind fun _ =>
  let rhat:=IntKind.u64.wrap (un32 - (IntKind.u64.wrap ((IntKind.u64.wrap (Int.tdiv un32 yn1)) * yn1)))
  (loop (em yn1 yn0 un1) (IntKind.u64.wrap (Int.tdiv un32 yn1),rhat)).bind fun q1 =>
  let un21:=IntKind.u64.wrap ((IntKind.u64.wrap ((IntKind.u64.wrap (un32 * 4294967296)) + un1)) - (IntKind.u64.wrap (q1 * (shlK .u64 y (IntKind.u64.wrap x)))))
  (nz yn1).bind fun _ =>
  let rhat1:=IntKind.u64.wrap (un21 - (IntKind.u64.wrap ((IntKind.u64.wrap (Int.tdiv un21 yn1)) * yn1)))
  (loop (d9 yn1 yn0 un0) (rhat1,IntKind.u64.wrap (Int.tdiv un21 yn1))).bind fun q0 =>
  (nn (IntKind.u64.wrap x)).bind fun _ =>
  let quo:=IntKind.u64.wrap ((IntKind.u64.wrap (q1 * 4294967296)) + q0)
  let rem:=shrK .u64 (IntKind.u64.wrap ((IntKind.u64.wrap ((IntKind.u64.wrap (un21 * 4294967296)) + un0)) - (IntKind.u64.wrap (q0 * (shlK .u64 y (IntKind.u64.wrap x)))))) (IntKind.u64.wrap x)
  some (quo,rem)
def h28 : Hint:=(.s .z (.s .z (.s .z (.s .z (.s .z (.s .z (.s .z (.s .z (.s .z (.s .z (.s .z (.s .z (.s .z (.s .z (.s (.b (.l [(15,.v (.int .u64) []),(16,.v (.int .u64) [])] [15,16,78] [(2,[(15,.v (.int .u64) [])])] (.s (.s (.j [] [(0,[(78,.v .bool [])])] .z) .z) .z))) (.s .z (.s .z (.s .z (.s (.b (.l [(16,.v (.int .u64) []),(18,.v (.int .u64) [])] [16,18,113] [(4,[(18,.v (.int .u64) [])])] (.s (.s (.j [] [(0,[(113,.v .bool [])])] .z) .z) .z))) .z)))))))))))))))))))
def sp28 : Spec fam:=⟨[.v (.int .u64) [],.v (.int .u64) [],.v (.int .u64) []],[.v (.int .u64) [],.v (.int .u64) []],fun a => et a.1 a.2.1 a.2.2.1⟩
def dX (n : Int) (bp : Int) : Option Int :=
 (en (IntKind.u64.wrap n) (IntKind.u64.wrap bp)).bind fun x =>
 (et x.1 x.2 10000).bind fun x1 =>
 some (w64 x1.1)
def h25 : Hint:=.z
def sp25 : Spec fam:=⟨[.v (.int .i64) [],.v (.int .i64) []],[.v (.int .i64) []],fun a => dX a.1 a.2.1⟩
def ep (a : Vec) (bp : Int) : Option (Vec × Int) :=
 (
 (a8 a).bind fun x =>
 bif ! x then
  some true
 else
  bif decide (bp < 0) then
  some true
  else
  some (decide (bp > 1000000))).bind fun q =>
 bif q then
 some ((⟨0,0⟩ : Vec),1)
 else
 (dX a.Mem bp).bind fun x1 =>
 (dX a.Cores bp).bind fun x2 =>
 (cK (⟨x1,x2⟩ : Vec)).bind fun x3 =>
 some (x3.1,x3.2)
def h18 : Hint:=(.s .z (.s (.s (.j [] [(0,[(16,.v .bool [])])] .z) .z) .z))
def sp18 : Spec fam:=⟨[.v (.st 0) [],.v (.int .i64) []],[.v (.st 0) [],.v (.int .i64) []],fun a => ep a.1 a.2.1⟩
def cX (s : State) (label : Int) (part : (TupT fam [.st 1] → Option Int)) (up : List (List UInt8)) (t : Vec × Vec × Int) : Option ((Vec × Vec × Int) ⊕ (Vec ⊕ (Vec × Vec))) :=
 bif decide (t.2.2 ≥ 0) then
 (inb t.2.2 up.length).bind fun i1 =>
 (up[i1]?).bind fun x2 =>
 (cH s.Conf x2).bind fun x3 =>
 (
  bif ! x3.2 then
  some true
  else
  bif decide (label < 0) then
   some true
  else
   some (decide (label ≥ (x3.1.Caps.length : Int)))).bind fun q =>
 bif q then
  some (.inr (.inl (⟨0,0⟩ : Vec)))
 else
  (inb label x3.1.Caps.length).bind fun i2 =>
  (x3.1.Caps[i2]?).bind fun x4 =>
  (part (x4,())).bind fun r =>
  (ep t.2.1 r).bind fun x5 =>
  some (.inl (t.1,x5.1,w64 (t.2.2 - 1)))
 else
 some (.inr (.inr (t.1,t.2.1)))
def bR (s : State) (path : List UInt8) (label : Int) (part : (TupT fam [.st 1] → Option Int)) : Option Vec :=
 (eA path).bind fun up =>
 (cH s.Conf path).bind fun x =>
 bif ! x.2 then
 some (⟨0,0⟩ : Vec)
 else
 (bj s label).bind fun x1 =>
 let i:=w64 ((up.length : Int) - 2)
 (loop (cX s label part up) ((⟨0,0⟩ : Vec),x1,i)).bind fun q0 =>
 match q0 with
 | .inl q1 =>
  some q1
 | .inr q2 =>
  some q2.2
def h12 : Hint:=(.s .z (.s .z (.s .z (.s .z (.s (.s .z (.b (.l [(8,.box (.st 0) []),(12,.box (.st 0) []),(13,.v (.int .i64) [])] [8,12,13,14,60] [(1,[(8,.box (.st 0) [])]),(2,[(8,.box (.st 0) []),(12,.box (.st 0) [])])] (.s .z (.s (.b (.s .z (.s (.s (.j [] [(0,[(60,.v .bool [])])] .z) .z) .z))) .z))))) .z)))))
def sp12 : Spec fam:=⟨[.v (.st 10) [],.v .str [],.v (.int .i64) [],.fn [.st 1] (.int .i64)],[.v (.st 0) []],fun a => bR a.1 a.2.1 a.2.2.1 a.2.2.2.1⟩
def bT (c : Cap) : Option Int :=
 some c.Least
def h13 : Hint:=.z
def sp13 : Spec fam:=⟨[.v (.st 1) []],[.v (.int .i64) []],fun a => bT a.1⟩
def ci (s : State) (path : List UInt8) (label : Int) : Option Vec :=
 (bR s path label (fun a' => bT a'.1)).bind fun x =>
 some x
def h9 : Hint:=.z
def sp9 : Spec fam:=⟨[.v (.st 10) [],.v .str [],.v (.int .i64) []],[.v (.st 0) []],fun a => ci a.1 a.2.1 a.2.2.1⟩
def b9 (c : Cap) : Option Int :=
 some c.Most
def h14 : Hint:=.z
def sp14 : Spec fam:=⟨[.v (.st 1) []],[.v (.int .i64) []],fun a => b9 a.1⟩
def cP (s : State) (path : List UInt8) (label : Int) : Option Vec :=
 (bR s path label (fun a' => b9 a'.1)).bind fun x =>
 some x
def h10 : Hint:=.z
def sp10 : Spec fam:=⟨[.v (.st 10) [],.v .str [],.v (.int .i64) []],[.v (.st 0) []],fun a => cP a.1 a.2.1 a.2.2.1⟩
def bI : Option Bool :=
 (bu).bind fun x =>
 (bj x 0).bind fun x1 =>
 bif (x1.Mem == 0) && (x1.Cores == 0) then
 (ci x ([114,111,111,116] : List UInt8) 0).bind fun x2 =>
 bif (x2.Mem == 0) && (x2.Cores == 0) then
  (cP (⟨⟨x.Conf.Labels,x.Conf.Queues⟩,[(⟨0,0,0,⟨8,4⟩,0,0,true⟩ : Node)],x.Apps,x.Conts,x.Slots,x.Plans,x.Now,x.Epoch,x.Seq⟩ : State) ([114,111,111,116] : List UInt8) 0).bind fun x3 =>
  some ((x3.Mem == 8) && (x3.Cores == 4))
 else
  some false
 else
 some false
def h4 : Hint:=.z
noncomputable def sp4 : Spec fam:=⟨[],[.v .bool []],fun _ => bI⟩
def aQ (at_ : Int) (n : Int) : Option Int :=
 (nz n).bind fun _ =>
 (
 bif decide ((Int.tmod at_ n) < 0) then
  let k:=w64 ((Int.tmod at_ n) + n)
  some k
 else
  some (Int.tmod at_ n)).bind fun k1 =>
 some k1
def h6 : Hint:=(.s .z (.s .z (.s (.j [5] [(0,[(5,.v (.int .i64) [])])] .z) .z)))
def sp6 : Spec fam:=⟨[.v (.int .i64) [],.v (.int .i64) []],[.v (.int .i64) []],fun a => aQ a.1 a.2.1⟩
def bN (a : Vec) (b : Vec) : Option Vec :=
 some (⟨w64 (a.Mem + b.Mem),w64 (a.Cores + b.Cores)⟩ : Vec)
def h7 : Hint:=.z
def sp7 : Spec fam:=⟨[.v (.st 0) [],.v (.st 0) []],[.v (.st 0) []],fun a => bN a.1 a.2.1⟩
def aM (caps : List Vec) (ups : List Bool) (labels : List Int) (t : State × List Vec × Int) : Option ((State × List Vec × Int) ⊕ ((State × List Vec))) :=
 bif decide (t.2.2 < (caps.length : Int)) then
 (
  (idx caps t.2.2).bind fun x5 =>
  (aQ x5.Mem 1073741824).bind fun x6 =>
  (idx caps t.2.2).bind fun x7 =>
  (aQ x7.Cores 1073741824).bind fun x8 =>
  bif decide (t.2.2 < (ups.length : Int)) then
  (idx ups t.2.2).bind fun x9 =>
  some (⟨t.2.2,0,0,⟨x6,x8⟩,0,0,x9⟩ : Node)
  else
  some (⟨t.2.2,0,0,⟨x6,x8⟩,0,0,false⟩ : Node)).bind fun n =>
 (
  bif decide (t.2.2 < (labels.length : Int)) then
  (idx labels t.2.2).bind fun x10 =>
  (aQ x10 2).bind fun x11 =>
  some (⟨n.Id,x11,n.Rack,⟨n.Cap.Mem,n.Cap.Cores⟩,n.Seen,n.Beat,n.Up⟩ : Node)
  else
  some n).bind fun n1 =>
 (
  bif n1.Up then
  (inb n1.Label 2).bind fun i2 =>
  (t.2.1[i2]?).bind fun x12 =>
  (bN x12 n1.Cap).bind fun x13 =>
  (inb n1.Label 2).bind fun i3 =>
  (t.2.1[i3]?).bind fun x14 =>
  some (List.set t.2.1 i3 x13)
  else
  some t.2.1).bind fun want =>
 (app 64 t.1.Nodes [n1]).bind fun l1 =>
 some (.inl ((⟨⟨t.1.Conf.Labels,t.1.Conf.Queues⟩,l1,t.1.Apps,t.1.Conts,t.1.Slots,t.1.Plans,t.1.Now,t.1.Epoch,t.1.Seq⟩ : State),want,w64 (t.2.2 + 1)))
 else
 some (.inr (t.1,t.2.1))
def bA (caps : List Vec) (ups : List Bool) (labels : List Int) : Option Bool :=
 (bI).bind fun x =>
 bif ! x then
 some false
 else
 bif decide ((caps.length : Int) > 12) then
  some true
 else
  (bu).bind fun x1 =>
  (inb 0 x1.Conf.Queues.length).bind fun i =>
  (x1.Conf.Queues[i]?).bind fun x2 =>
  (x1.Conf.Queues[i]?).bind fun x3 =>
  (app 16 x3.Caps [(⟨10000,10000⟩ : Cap)]).bind fun l =>
  (inb 0 x1.Conf.Queues.length).bind fun i1 =>
  bif Nat.beq i1 i then
  (x1.Conf.Queues[i1]?).bind fun x4 =>
  (loop (aM caps ups labels) ((⟨⟨[([] : List UInt8),([103,112,117] : List UInt8)],List.set x1.Conf.Queues i1 (⟨x4.Path,l,x4.User⟩ : Queue)⟩,x1.Nodes,x1.Apps,x1.Conts,x1.Slots,x1.Plans,x1.Now,x1.Epoch,x1.Seq⟩ : State),[(⟨0,0⟩ : Vec),(⟨0,0⟩ : Vec)],0)).bind fun q =>
  (bj q.1 0).bind fun x15 =>
  (q.2[0]?).bind fun x16 =>
  bif (x15.Mem == x16.Mem) && (x15.Cores == x16.Cores) then
   (bj q.1 1).bind fun x17 =>
   (q.2[1]?).bind fun x18 =>
   bif (x17.Mem == x18.Mem) && (x17.Cores == x18.Cores) then
   (ci q.1 ([114,111,111,116] : List UInt8) 1).bind fun x19 =>
   (q.2[1]?).bind fun x20 =>
   bif (x19.Mem == x20.Mem) && (x19.Cores == x20.Cores) then
    (cP q.1 ([114,111,111,116] : List UInt8) 0).bind fun x21 =>
    (q.2[0]?).bind fun x22 =>
    bif (x21.Mem == x22.Mem) && (x21.Cores == x22.Cores) then
    (ci q.1 ([110,111,98,111,100,121] : List UInt8) 0).bind fun x23 =>
    some ((x23.Mem == 0) && (x23.Cores == 0))
    else
    some false
   else
    some false
   else
   some false
  else
   some false
  else
  none
def h3 : Hint:=(.s .z (.s .z (.s .z (.s .z (.s .z (.s .z (.s .z (.s (.s .z (.b (.l [(7,.box (.st 10) [0,2,1003,4,5,6]),(8,.row (.st 0) true),(9,.v (.int .i64) [])] [7,8,9,10] [(2,[(7,.box (.st 10) [0,2,1003,4,5,6]),(8,.row (.st 0) true)])] (.s .z (.s (.b (.s (.j [10] [(0,[(10,.box (.st 4) [])])] .z) (.s (.j [10] [(0,[(10,.box (.st 4) [])])] .z) (.s (.j [8] [(0,[(8,.row (.st 0) true)])] .z) .z)))) .z))))) .z))))))))
def sp3 : Spec fam:=⟨[.v (.slice (.st 0)) [],.v (.slice (.bool)) [],.v (.slice (.int .i64)) []],[.v .bool []],fun a => bA a.1 a.2.1 a.2.2.1⟩
end
end Go.Fx.D
