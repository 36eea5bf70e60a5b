/-
  The functions of the program that this law reaches, as functions over plain data (printed by a program). Conditions: none.
-/
import Derived.Test.YtmpaebhomokjmaaGreatFxD
import Derived.Test.YtmpaebhomokjmaaGreatA
namespace Go.Fx.D
open Go Go.Fx Go.Proofs
set_option linter.unusedVariables false
noncomputable section
def df (k : Looker) (c : Cont) : Option Looker :=
 let e:=mget (fun x => c.Id == x.k) k.noticed (⟨c.Id,0⟩ : Ent4_IntInt)
 let e1:=mget (fun x2 => c.Id == x2.k) k.leaf (⟨c.Id,[]⟩ : Ent2_IntListUInt8)
 let e2:=mget (fun x3 => e1.v == x3.k) k.over (⟨e1.v,0⟩ : Ent0_ListUInt8Int)
 some (⟨⟨⟨k.s.Conf.Labels,k.s.Conf.Queues⟩,k.s.Nodes,k.s.Apps,k.s.Conts,k.s.Slots,k.s.Plans,k.s.Now,k.s.Epoch,k.s.Seq⟩,k.label,mput (fun x4 => e1.v == x4.k) k.over (⟨e1.v,w64 (e2.v - c.Size.Mem)⟩ : Ent0_ListUInt8Int),k.leaf,mput (fun x1 => c.Id == x1.k) k.noticed (⟨c.Id,w64 (e.v + 1)⟩ : Ent4_IntInt),w64 (k.gone + c.Size.Mem)⟩ : Looker)
def h39 : Hint:=.z
def sp39 : Spec fam:=⟨[.box (.st 11) [11,12,13],.v (.st 7) []],[],fun a => df a.1 a.2.1⟩
def cZ (v : Vec) : Option Bool :=
 bif decide (v.Mem ≥ 0) then
 bif decide (v.Mem ≤ 1125899906842624) then
  bif decide (v.Cores ≥ 0) then
  some (decide (v.Cores ≤ 1125899906842624))
  else
  some false
 else
  some false
 else
 some false
def h231 : Hint:=.z
def sp231 : Spec fam:=⟨[.v (.st 3) []],[.v .bool []],fun a => cZ a.1⟩
def jg (v : Vec) : Option (Vec × Int) :=
 (cZ v).bind fun x =>
 bif ! x then
 some ((⟨0,0⟩ : Vec),11)
 else
 some (v,0)
def h232 : Hint:=.z
def sp232 : Spec fam:=⟨[.v (.st 3) []],[.v (.st 3) [],.v (.int .i64) []],fun a => jg a.1⟩
def l_ (a : Vec) (b : Vec) : Option (Vec × Int) :=
 (
 (cZ a).bind fun x =>
 bif ! x then
  some true
 else
  (cZ b).bind fun x1 =>
  some (! x1)).bind fun q =>
 bif q then
 some ((⟨0,0⟩ : Vec),1)
 else
 (jg (⟨w64 (a.Mem + b.Mem),w64 (a.Cores + b.Cores)⟩ : Vec)).bind fun x2 =>
 some (x2.1,x2.2)
def h200 : Hint:=(.s .z (.s (.s (.j [] [(0,[(13,.v .bool [])])] .z) .z) .z))
def sp200 : Spec fam:=⟨[.v (.st 3) [],.v (.st 3) []],[.v (.st 3) [],.v (.int .i64) []],fun a => l_ a.1 a.2.1⟩
def nW (l : List Vec) (t : Vec × Int) : Option ((Vec × Int) ⊕ Vec) :=
 bif decide (t.2 < (l.length : Int)) then
 (idx l t.2).bind fun x =>
 (l_ t.1 x).bind fun x1 =>
 some (.inl (x1.1,w64 (t.2 + 1)))
 else
 some (.inr t.1)
def pb (l : List Vec) : Option Vec :=
 (loop (nW l) ((⟨0,0⟩ : Vec),0)).bind fun out =>
 some out
def h152 : Hint:=(.s .z (.s .z (.s (.s .z (.b (.l [(3,.box (.st 3) []),(8,.v (.int .i64) [])] [3,5,8] [(2,[(3,.box (.st 3) [])])] .z))) .z)))
def sp152 : Spec fam:=⟨[.v (.slice (.st 3)) []],[.v (.st 3) []],fun a => pb a.1⟩
def ma (s : State) (label : Int) (t : List Vec × Int) : Option ((List Vec × Int) ⊕ List Vec) :=
 bif decide (t.2 < (s.Nodes.length : Int)) then
 (
  (idx s.Nodes t.2).bind fun x =>
  (
  bif x.Up then
   some (x.Label == label)
  else
   some false).bind fun q =>
  bif q then
  (app 16 t.1 [x.Cap]).bind fun l =>
  some l
  else
  some t.1).bind fun l1 =>
 some (.inl (l1,w64 (t.2 + 1)))
 else
 some (.inr t.1)
def ej (s : State) (label : Int) : Option Vec :=
 (loop (ma s label) ([],0)).bind fun l2 =>
 (pb l2).bind fun x1 =>
 some x1
def h90 : Hint:=(.s .z (.s .z (.s (.s .z (.b (.l [(5,.v (.slice (.st 3)) [0]),(11,.v (.int .i64) [])] [5,7,11,22] [(2,[(5,.v (.slice (.st 3)) [0])])] (.s .z (.s .z (.s (.j [5,7,22] [(0,[(5,.v (.slice (.st 3)) [0])])] (.b (.s .z (.s (.j [] [(0,[(22,.v .bool [])])] .z) .z)))) .z)))))) .z)))
def sp90 : Spec fam:=⟨[.v (.st 10) [],.v (.int .i64) []],[.v (.st 3) []],fun a => ej a.1 a.2.1⟩
def iE (v : View) (c : Cont) (t : App × Int) : Option ((App × Int) ⊕ ((App × Bool) ⊕ App)) :=
 bif decide (t.2 < (v.s.Apps.length : Int)) then
 (idx v.s.Apps t.2).bind fun x =>
 bif x.Id == c.App then
  some (.inr (.inl (x,true)))
 else
  some (.inl (t.1,w64 (t.2 + 1)))
 else
 some (.inr (.inr (t.1)))
def hU (v : View) (c : Cont) : Option (App × Bool) :=
 (loop (iE v c) ((⟨0,0,[],0,0,⟨0,0⟩,[],0,0,[],[],[],[]⟩ : App),0)).bind fun q0 =>
 match q0 with
 | .inl q =>
 some (q.1,q.2)
 | .inr q1 =>
 some ((⟨0,0,[],0,0,⟨0,0⟩,[],0,0,[],[],[],[]⟩ : App),false)
def h198 : Hint:=(.s .z (.s (.s .z (.b (.l [(4,.box (.st 6) [7,10,11,12,13]),(12,.v (.int .i64) [])] [4,5,7,12] [(1,[(4,.box (.st 6) []),(5,.v .bool [])]),(2,[(4,.box (.st 6) [7,10,11,12,13])])] .z))) .z))
def sp198 : Spec fam:=⟨[.v (.st 12) [],.v (.st 7) []],[.v (.st 6) [],.v .bool []],fun a => hU a.1 a.2.1⟩
def eC (s : List UInt8) (prefix_ : List UInt8) : Option Bool :=
 bif decide ((s.length : Int) ≥ (prefix_.length : Int)) then
 (slc s 0 (prefix_.length : Int)).bind fun s1 =>
 some (s1 == prefix_)
 else
 some false
def h254 : Hint:=.z
def sp254 : Spec fam:=⟨[.v .str [],.v .str []],[.v .bool []],fun a => eC a.1 a.2.1⟩
def go (s : List UInt8) (prefix_ : List UInt8) : Option Bool :=
 (eC s prefix_).bind fun x =>
 some x
def h230 : Hint:=.z
def sp230 : Spec fam:=⟨[.v .str [],.v .str []],[.v .bool []],fun a => go a.1 a.2.1⟩
def gR (v : View) (a : App) : Option Bool :=
 (
 bif a.Queue == v.path then
  some true
 else
  (cat v.path ([46] : List UInt8)).bind fun s =>
  (go a.Queue s).bind fun x =>
  some x).bind fun below =>
 bif below then
 bif v.user == (-1) then
  some true
 else
  some (a.User == v.user)
 else
 some false
def h199 : Hint:=(.s .z (.s (.j [] [(0,[(5,.v .bool [])])] .z) .z))
def sp199 : Spec fam:=⟨[.v (.st 12) [],.v (.st 6) []],[.v .bool []],fun a => gR a.1 a.2.1⟩
def iW (v : View) (t : Vec × Int) : Option ((Vec × Int) ⊕ Vec) :=
 bif decide (t.2 < (v.s.Conts.length : Int)) then
 (
  (idx v.s.Conts t.2).bind fun x =>
  (hU v x).bind fun x1 =>
  (
  bif x1.2 then
   bif x.Label == v.label then
   (gR v x1.1).bind fun x2 =>
   some x2
   else
   some false
  else
   some false).bind fun q =>
  bif q then
  (l_ t.1 x.Size).bind fun x3 =>
  some x3.1
  else
  some t.1).bind fun out =>
 some (.inl (out,w64 (t.2 + 1)))
 else
 some (.inr t.1)
def iJ (v : View) : Option Vec :=
 (loop (iW v) ((⟨0,0⟩ : Vec),0)).bind fun out1 =>
 some out1
def h147 : Hint:=(.s .z (.s .z (.s .z (.s (.s .z (.b (.l [(3,.box (.st 3) []),(15,.v (.int .i64) [])] [3,6,7,8,15,37] [(2,[(3,.box (.st 3) [])])] (.s .z (.s .z (.s (.j [3,6,7,8,37] [(0,[(3,.box (.st 3) [])])] (.b (.s .z (.s .z (.s (.j [] [(0,[(37,.v .bool [])])] .z) .z))))) .z)))))) .z))))
def sp147 : Spec fam:=⟨[.v (.st 12) []],[.v (.st 3) []],fun a => iJ a.1⟩
def aU (s : State) (path : List UInt8) (label : Int) : Option Vec :=
 (iJ (⟨⟨⟨s.Conf.Labels,s.Conf.Queues⟩,s.Nodes,s.Apps,s.Conts,s.Slots,s.Plans,s.Now,s.Epoch,s.Seq⟩,path,label,(-1)⟩ : View)).bind fun x =>
 some x
def h87 : Hint:=.z
def sp87 : Spec fam:=⟨[.v (.st 10) [],.v .str [],.v (.int .i64) []],[.v (.st 3) []],fun a => aU a.1 a.2.1 a.2.2.1⟩
def dF (s : List UInt8) (c : Int) (i1 : Int) : Option (Int ⊕ (Int ⊕ Unit)) :=
 bif decide (i1 ≥ 0) then
 (idx s i1).bind fun ch =>
 bif (ch.toNat : Int) == c then
  some (.inr (.inl i1))
 else
  some (.inl (w64 (i1 - 1)))
 else
 some (.inr (.inr ()))
def cF (s : List UInt8) (c : Int) : Option Int :=
 let i:=w64 ((s.length : Int) - 1)
 (loop (dF s c) i).bind fun q0 =>
 match q0 with
 | .inl q =>
 some q
 | .inr _ =>
 some (-1)
def h272 : Hint:=(.s .z (.s (.s .z (.b (.l [(5,.v (.int .i64) [])] [4,5] [(1,[(4,.v (.int .i64) [])]),(2,[])] .z))) .z))
def sp272 : Spec fam:=⟨[.v .str [],.v (.int .u8) []],[.v (.int .i64) []],fun a => cF a.1 a.2.1⟩
def dT (t1 : Int × Int × Int) : Option ((Int × Int × Int) ⊕ Int) :=
 bif decide (t1.2.2 > 0) then
 (
  bif (andK .i64 t1.2.2 1) != 0 then
  let pow:=IntKind.u32.wrap (t1.1 * t1.2.1)
  some pow
  else
  some t1.1).bind fun pow1 =>
 let sq:=IntKind.u32.wrap (t1.2.1 * t1.2.1)
 some (.inl (pow1,sq,shrK .i64 t1.2.2 1))
 else
 some (.inr t1.1)
def dV (sep : List UInt8) (t : Int × Int) : Option ((Int × Int) ⊕ Int) :=
 bif decide (t.2 ≥ 0) then
 (idx sep t.2).bind fun ch =>
 let hash:=IntKind.u32.wrap ((IntKind.u32.wrap (t.1 * 16777619)) + (IntKind.u32.wrap (ch.toNat : Int)))
 some (.inl (hash,w64 (t.2 - 1)))
 else
 some (.inr t.1)
def cT (sep : List UInt8) : Option (Int × Int) :=
 let i:=w64 ((sep.length : Int) - 1)
 (loop (dV sep) (0,i)).bind fun hash1 =>
 (loop dT (1,16777619,(sep.length : Int))).bind fun pow2 =>
 some (hash1,pow2)
def h280 : Hint:=(.s .z (.s .z (.s (.s .z (.b (.l [(4,.v (.int .u32) []),(5,.v (.int .i64) [])] [4,5] [(2,[(4,.v (.int .u32) [])])] .z))) (.s .z (.s (.s .z (.b (.l [(6,.v (.int .u32) []),(7,.v (.int .u32) []),(8,.v (.int .i64) [])] [6,7,8] [(4,[(6,.v (.int .u32) [])])] (.s .z (.s (.b (.s (.j [6] [(0,[(6,.v (.int .u32) [])])] .z) .z)) .z))))) .z)))))
def sp280 : Spec fam:=⟨[.v .str []],[.v (.int .u32) [],.v (.int .u32) []],fun a => cT a.1⟩
def bT (s : List UInt8) (sep : List UInt8) (x : Int × Int) (t1 : Int × Int) : Option ((Int × Int) ⊕ (Int ⊕ Unit)) :=
 bif decide (t1.2 ≥ 0) then
 (idx s t1.2).bind fun ch1 =>
 let h2:=IntKind.u32.wrap ((IntKind.u32.wrap (t1.1 * 16777619)) + (IntKind.u32.wrap (ch1.toNat : Int)))
 (idx s (w64 (t1.2 + (sep.length : Int)))).bind fun ch2 =>
 let h3:=IntKind.u32.wrap (h2 - (IntKind.u32.wrap (x.2 * (IntKind.u32.wrap (ch2.toNat : Int)))))
 (
  bif h3 == x.1 then
  (slc s t1.2 (w64 (t1.2 + (sep.length : Int)))).bind fun s2 =>
  some (s2 == sep)
  else
  some false).bind fun q1 =>
 bif q1 then
  some (.inr (.inl (t1.2)))
 else
  some (.inl (h3,w64 (t1.2 - 1)))
 else
 some (.inr (.inr ()))
def bS (s : List UInt8) (last : Int) (t : Int × Int) : Option ((Int × Int) ⊕ Int) :=
 bif decide (t.2 ≥ last) then
 (idx s t.2).bind fun ch =>
 let h:=IntKind.u32.wrap ((IntKind.u32.wrap (t.1 * 16777619)) + (IntKind.u32.wrap (ch.toNat : Int)))
 some (.inl (h,w64 (t.2 - 1)))
 else
 some (.inr t.1)
def ba (s : List UInt8) (sep : List UInt8) : Option Int :=
 (cT sep).bind fun x =>
 let last:=w64 ((s.length : Int) - (sep.length : Int))
 let i:=w64 ((s.length : Int) - 1)
 (loop (bS s last) (0,i)).bind fun h1 =>
 (
 bif h1 == x.1 then
  (slc s last (s.length : Int)).bind fun s1 =>
  some (s1 == sep)
 else
  some false).bind fun q =>
 bif q then
 some last
 else
 (loop (bT s sep x) (h1,w64 (last - 1))).bind fun q0 =>
 match q0 with
 | .inl q2 =>
  some q2
 | .inr _ =>
  some (-1)
def h273 : Hint:=(.s .z (.s .z (.s .z (.s .z (.s .z (.s (.s .z (.b (.l [(9,.v (.int .u32) []),(10,.v (.int .i64) [])] [9,10] [(2,[(9,.v (.int .u32) [])])] .z))) (.s (.s (.j [] [(0,[(47,.v .bool [])])] .z) .z) (.s (.s .z (.b (.l [(9,.v (.int .u32) []),(11,.v (.int .i64) [])] [4,9,11,85] [(1,[(4,.v (.int .i64) [])]),(4,[])] (.s .z (.s (.b (.s .z (.s .z (.s .z (.s (.j [] [(0,[(85,.v .bool [])])] .z) .z))))) .z))))) .z))))))))
def sp273 : Spec fam:=⟨[.v .str [],.v .str []],[.v (.int .i64) []],fun a => ba a.1 a.2.1⟩
def gm (s : List UInt8) (substr : List UInt8) : Option Int :=
 bif (substr.length : Int) == 0 then
 some (s.length : Int)
 else
 bif (substr.length : Int) == 1 then
  (idx substr 0).bind fun ch =>
  (cF s (ch.toNat : Int)).bind fun x =>
  some x
 else
  bif (substr.length : Int) == (s.length : Int) then
  bif substr == s then
   some 0
  else
   some (-1)
  else
  bif decide ((substr.length : Int) > (s.length : Int)) then
   some (-1)
  else
   (ba s substr).bind fun x1 =>
   some x1
def h253 : Hint:=.z
def sp253 : Spec fam:=⟨[.v .str [],.v .str []],[.v (.int .i64) []],fun a => gm a.1 a.2.1⟩
def li (path : List UInt8) : Option (List UInt8 × Bool) :=
 (gm path ([46] : List UInt8)).bind fun i =>
 bif decide (i < 0) then
 some (([] : List UInt8),false)
 else
 (slc path 0 i).bind fun s =>
 some (s,true)
def h226 : Hint:=.z
def sp226 : Spec fam:=⟨[.v .str []],[.v .str [],.v .bool []],fun a => li a.1⟩
def qX (t : List UInt8 × List (List UInt8)) : Option ((List UInt8 × List (List UInt8)) ⊕ List (List UInt8)) :=
 bif ! (t.1 == ([] : List UInt8)) then
 (app 16 t.2 [t.1]).bind fun l =>
 (li t.1).bind fun x =>
 some (.inl (x.1,l))
 else
 some (.inr t.2)
def lV (path : List UInt8) : Option (List (List UInt8)) :=
 (loop qX (path,[])).bind fun out =>
 some out
def h233 : Hint:=(.s .z (.s .z (.s (.b (.l [(0,.v .str []),(3,.v (.slice (.str)) [0])] [0,3] [(2,[(3,.v (.slice (.str)) [0])])] .z)) .z)))
def sp233 : Spec fam:=⟨[.v .str []],[.v (.slice (.str)) [0]],fun a => lV a.1⟩
def xN (s : List Cap) : Option (List Cap) :=
 bif s.isEmpty then
 none
 else
 (app 16 [] s).bind fun l =>
 some l
def nV (s : List Cap) : Option (List Cap):=app 16 [] s
def h160 : Hint:=.z
def sp160 : Spec fam:=⟨[.v (.slice (.st 0)) []],[.v (.slice (.st 0)) [0]],fun a => nV a.1⟩
def A9 : Spec fam:=⟨[.v (.slice (.st 0)) []],[.v (.slice (.st 0)) [0]],fun a => xN a.1⟩
def mX (s : List Queue) (f : (TupT fam [.st 1] → Option Bool)) (t : Int) : Option (Int ⊕ (Int ⊕ Unit)) :=
 bif decide (t < (s.length : Int)) then
 (idx s t).bind fun x =>
 (f (x,())).bind fun r =>
 bif r then
  some (.inr (.inl t))
 else
  some (.inl (w64 (t + 1)))
 else
 some (.inr (.inr ()))
def nh (s : List Queue) (f : (TupT fam [.st 1] → Option Bool)) : Option Int :=
 (loop (mX s f) 0).bind fun q0 =>
 match q0 with
 | .inl q =>
 some q
 | .inr _ =>
 some (-1)
def h255 : Hint:=(.s .z (.s (.s .z (.b (.l [(8,.v (.int .i64) [])] [4,5,8] [(1,[(4,.v (.int .i64) [])]),(2,[])] .z))) .z))
def sp255 : Spec fam:=⟨[.v (.slice (.st 1)) [],.fn [.st 1] .bool],[.v (.int .i64) []],fun a => nh a.1 a.2.1⟩
def mh (q : Queue) (p : List UInt8) : Option Bool :=
 some (q.Path == p)
def h256 : Hint:=.z
def sp256 : Spec fam:=⟨[.v (.st 1) [],.rp .str],[.v .bool []],fun a => mh a.1 a.2.1⟩
def fS (c : Conf) (path : List UInt8) : Option (Queue × Bool) :=
 (nh c.Queues (fun a' => mh a'.1 path)).bind fun i =>
 bif decide (i < 0) then
 some ((⟨[],[],0⟩ : Queue),false)
 else
 (idx c.Queues i).bind fun x =>
 (nV x.Caps).bind fun x1 =>
 some ((⟨x.Path,x1,x.User⟩ : Queue),true)
def h234 : Hint:=.z
def sp234 : Spec fam:=⟨[.v (.st 2) [],.v .str []],[.v (.st 1) [1],.v .bool []],fun a => fS a.1 a.2.1⟩
def jw (x : Int) (y : Int) : Option (Int × Int) :=
 let w0:=IntKind.u64.wrap ((andK .u64 x 4294967295) * (andK .u64 y 4294967295))
 let t:=IntKind.u64.wrap ((IntKind.u64.wrap ((shrK .u64 x 32) * (andK .u64 y 4294967295))) + (shrK .u64 w0 32))
 let w1:=IntKind.u64.wrap ((andK .u64 t 4294967295) + (IntKind.u64.wrap ((andK .u64 x 4294967295) * (shrK .u64 y 32))))
 let hi:=IntKind.u64.wrap ((IntKind.u64.wrap ((IntKind.u64.wrap ((shrK .u64 x 32) * (shrK .u64 y 32))) + (shrK .u64 t 32))) + (shrK .u64 w1 32))
 some (hi,IntKind.u64.wrap (x * y))
def h274 : Hint:=.z
def sp274 : Spec fam:=⟨[.v (.int .u64) [],.v (.int .u64) []],[.v (.int .u64) [],.v (.int .u64) []],fun a => jw a.1 a.2.1⟩
def lv (x : Int) : Option Int :=
 (
 bif decide (x ≥ 4294967296) then
  some (shrK .u64 x 32,32)
 else
  some (x,0)).bind fun q =>
 (
 bif decide (q.1 ≥ 65536) then
  some (shrK .u64 q.1 16,w64 (q.2 + 16))
 else
  some (q.1,q.2)).bind fun q1 =>
 (
 bif decide (q1.1 ≥ 256) then
  some (shrK .u64 q1.1 8,w64 (q1.2 + 8))
 else
  some (q1.1,q1.2)).bind fun q2 =>
 (idx ([0,1,2,2,3,3,3,3,4,4,4,4,4,4,4,4,5,5,5,5,5,5,5,5,5,5,5,5,5,5,5,5,6,6,6,6,6,6,6,6,6,6,6,6,6,6,6,6,6,6,6,6,6,6,6,6,6,6,6,6,6,6,6,6,7,7,7,7,7,7,7,7,7,7,7,7,7,7,7,7,7,7,7,7,7,7,7,7,7,7,7,7,7,7,7,7,7,7,7,7,7,7,7,7,7,7,7,7,7,7,7,7,7,7,7,7,7,7,7,7,7,7,7,7,7,7,7,7,8,8,8,8,8,8,8,8,8,8,8,8,8,8,8,8,8,8,8,8,8,8,8,8,8,8,8,8,8,8,8,8,8,8,8,8,8,8,8,8,8,8,8,8,8,8,8,8,8,8,8,8,8,8,8,8,8,8,8,8,8,8,8,8,8,8,8,8,8,8,8,8,8,8,8,8,8,8,8,8,8,8,8,8,8,8,8,8,8,8,8,8,8,8,8,8,8,8,8,8,8,8,8,8,8,8,8,8,8,8,8,8,8,8,8,8,8,8,8,8,8,8,8,8,8,8,8,8] : List UInt8) (IntKind.u8.wrap q2.1)).bind fun ch =>
 let n:=w64 (q2.2 + (w64 (ch.toNat : Int)))
 some n
def h182 : Hint:=(.s .z (.s (.j [0,2] [(0,[(0,.v (.int .u64) []),(2,.v (.int .i64) [])])] .z) (.s (.j [0,2] [(0,[(0,.v (.int .u64) []),(2,.v (.int .i64) [])])] .z) (.s (.j [0,2] [(0,[(0,.v (.int .u64) []),(2,.v (.int .i64) [])])] .z) .z))))
def sp182 : Spec fam:=⟨[.v (.int .u64) []],[.v (.int .i64) []],fun a => lv a.1⟩
def fp (x : Int) : Option Int :=
 (lv x).bind fun x1 =>
 some (w64 (64 - x1))
def h281 : Hint:=.z
def sp281 : Spec fam:=⟨[.v (.int .u64) []],[.v (.int .i64) []],fun a => fp a.1⟩
def mR (yn1 : Int) (yn0 : Int) (un0 : Int) (t1 : Int × Int) : Option ((Int × Int) ⊕ Int) :=
 (
 bif decide (t1.2 ≥ 4294967296) then
  some true
 else
  some (decide ((IntKind.u64.wrap (t1.2 * yn0)) > (IntKind.u64.wrap ((IntKind.u64.wrap (4294967296 * t1.1)) + un0))))).bind fun q2 =>
 bif q2 then
 bif decide ((IntKind.u64.wrap (t1.1 + yn1)) ≥ 4294967296) then
  some (.inr (IntKind.u64.wrap (t1.2 - 1)))
 else
  some (.inl (IntKind.u64.wrap (t1.1 + yn1),IntKind.u64.wrap (t1.2 - 1)))
 else
 some (.inr t1.2)
def mU (yn1 : Int) (yn0 : Int) (un1 : Int) (t : Int × Int) : Option ((Int × Int) ⊕ Int) :=
 (
 bif decide (t.1 ≥ 4294967296) then
  some true
 else
  some (decide ((IntKind.u64.wrap (t.1 * yn0)) > (IntKind.u64.wrap ((IntKind.u64.wrap (4294967296 * t.2)) + un1))))).bind fun q =>
 bif q then
 bif decide ((IntKind.u64.wrap (t.2 + yn1)) ≥ 4294967296) then
  some (.inr (IntKind.u64.wrap (t.1 - 1)))
 else
  some (.inl (IntKind.u64.wrap (t.1 - 1),IntKind.u64.wrap (t.2 + yn1)))
 else
 some (.inr t.1)
def kO (hi : Int) (lo : Int) (y : Int) : Option (Int × Int) :=
 bif y == 0 then
 none
 else
 bif decide (y ≤ hi) then
  none
 else
  bif hi == 0 then
  (nz y).bind fun _ =>
  (nz y).bind fun _ =>
  some (IntKind.u64.wrap (Int.tdiv lo y),Int.tmod lo y)
  else
  (fp y).bind fun x =>
  (nn (IntKind.u64.wrap x)).bind fun _ =>
  let yn1:=shrK .u64 (shlK .u64 y (IntKind.u64.wrap x)) 32
  let yn0:=andK .u64 (shlK .u64 y (IntKind.u64.wrap x)) 4294967295
  (nn (IntKind.u64.wrap x)).bind fun _ =>
  (nn (IntKind.u64.wrap (64 - (IntKind.u64.wrap x)))).bind fun _ =>
  let un32:=orK .u64 (shlK .u64 hi (IntKind.u64.wrap x)) (shrK .u64 lo (IntKind.u64.wrap (64 - (IntKind.u64.wrap x))))
  (nn (IntKind.u64.wrap x)).bind fun _ =>
  let un1:=shrK .u64 (shlK .u64 lo (IntKind.u64.wrap x)) 32
  let un0:=andK .u64 (shlK .u64 lo (IntKind.u64.wrap x)) 4294967295
  (nz yn1).bind fun _ =>
  let rhat:=IntKind.u64.wrap (un32 - (IntKind.u64.wrap ((IntKind.u64.wrap (Int.tdiv un32 yn1)) * yn1)))
  (loop (mU yn1 yn0 un1) (IntKind.u64.wrap (Int.tdiv un32 yn1),rhat)).bind fun q1 =>
  let un21:=IntKind.u64.wrap ((IntKind.u64.wrap ((IntKind.u64.wrap (un32 * 4294967296)) + un1)) - (IntKind.u64.wrap (q1 * (shlK .u64 y (IntKind.u64.wrap x)))))
  (nz yn1).bind fun _ =>
  let rhat1:=IntKind.u64.wrap (un21 - (IntKind.u64.wrap ((IntKind.u64.wrap (Int.tdiv un21 yn1)) * yn1)))
  (loop (mR yn1 yn0 un0) (rhat1,IntKind.u64.wrap (Int.tdiv un21 yn1))).bind fun q0 =>
  (nn (IntKind.u64.wrap x)).bind fun _ =>
  let quo:=IntKind.u64.wrap ((IntKind.u64.wrap (q1 * 4294967296)) + q0)
  let rem:=shrK .u64 (IntKind.u64.wrap ((IntKind.u64.wrap ((IntKind.u64.wrap (un21 * 4294967296)) + un0)) - (IntKind.u64.wrap (q0 * (shlK .u64 y (IntKind.u64.wrap x)))))) (IntKind.u64.wrap x)
  some (quo,rem)
def h275 : Hint:=(.s .z (.s .z (.s .z (.s .z (.s .z (.s .z (.s .z (.s .z (.s .z (.s .z (.s .z (.s .z (.s .z (.s .z (.s (.b (.l [(15,.v (.int .u64) []),(16,.v (.int .u64) [])] [15,16,78] [(2,[(15,.v (.int .u64) [])])] (.s (.s (.j [] [(0,[(78,.v .bool [])])] .z) .z) .z))) (.s .z (.s .z (.s .z (.s (.b (.l [(16,.v (.int .u64) []),(18,.v (.int .u64) [])] [16,18,113] [(4,[(18,.v (.int .u64) [])])] (.s (.s (.j [] [(0,[(113,.v .bool [])])] .z) .z) .z))) .z)))))))))))))))))))
def sp275 : Spec fam:=⟨[.v (.int .u64) [],.v (.int .u64) [],.v (.int .u64) []],[.v (.int .u64) [],.v (.int .u64) []],fun a => kO a.1 a.2.1 a.2.2.1⟩
def jf (n : Int) (bp : Int) : Option Int :=
 (jw (IntKind.u64.wrap n) (IntKind.u64.wrap bp)).bind fun x =>
 (kO x.1 x.2 10000).bind fun x1 =>
 some (w64 x1.1)
def h257 : Hint:=.z
def sp257 : Spec fam:=⟨[.v (.int .i64) [],.v (.int .i64) []],[.v (.int .i64) []],fun a => jf a.1 a.2.1⟩
def dN (a : Vec) (bp : Int) : Option (Vec × Int) :=
 (
 (cZ a).bind fun x =>
 bif ! x then
  some true
 else
  bif decide (bp < 0) then
  some true
  else
  some (decide (bp > 1000000))).bind fun q =>
 bif q then
 some ((⟨0,0⟩ : Vec),1)
 else
 (jf a.Mem bp).bind fun x1 =>
 (jf a.Cores bp).bind fun x2 =>
 (jg (⟨x1,x2⟩ : Vec)).bind fun x3 =>
 some (x3.1,x3.2)
def h235 : Hint:=(.s .z (.s (.s (.j [] [(0,[(16,.v .bool [])])] .z) .z) .z))
def sp235 : Spec fam:=⟨[.v (.st 3) [],.v (.int .i64) []],[.v (.st 3) [],.v (.int .i64) []],fun a => dN a.1 a.2.1⟩
def fH (s : State) (label : Int) (part : (TupT fam [.st 0] → Option Int)) (up : List (List UInt8)) (t : Vec × Vec × Int) : Option ((Vec × Vec × Int) ⊕ (Vec ⊕ (Vec × Vec))) :=
 bif decide (t.2.2 ≥ 0) then
 (inb t.2.2 up.length).bind fun i1 =>
 (up[i1]?).bind fun x2 =>
 (fS s.Conf x2).bind fun x3 =>
 (
  bif ! x3.2 then
  some true
  else
  bif decide (label < 0) then
   some true
  else
   some (decide (label ≥ (x3.1.Caps.length : Int)))).bind fun q =>
 bif q then
  some (.inr (.inl (⟨0,0⟩ : Vec)))
 else
  (inb label x3.1.Caps.length).bind fun i2 =>
  (x3.1.Caps[i2]?).bind fun x4 =>
  (part (x4,())).bind fun r =>
  (dN t.2.1 r).bind fun x5 =>
  some (.inl (t.1,x5.1,w64 (t.2.2 - 1)))
 else
 some (.inr (.inr (t.1,t.2.1)))
def hZ (s : State) (path : List UInt8) (label : Int) (part : (TupT fam [.st 0] → Option Int)) : Option Vec :=
 (lV path).bind fun up =>
 (fS s.Conf path).bind fun x =>
 bif ! x.2 then
 some (⟨0,0⟩ : Vec)
 else
 (ej s label).bind fun x1 =>
 let i:=w64 ((up.length : Int) - 2)
 (loop (fH s label part up) ((⟨0,0⟩ : Vec),x1,i)).bind fun q0 =>
 match q0 with
 | .inl q1 =>
  some q1
 | .inr q2 =>
  some q2.2
def h203 : Hint:=(.s .z (.s .z (.s .z (.s .z (.s (.s .z (.b (.l [(8,.box (.st 3) []),(12,.box (.st 3) []),(13,.v (.int .i64) [])] [8,12,13,14,60] [(1,[(8,.box (.st 3) [])]),(2,[(8,.box (.st 3) []),(12,.box (.st 3) [])])] (.s .z (.s (.b (.s .z (.s (.s (.j [] [(0,[(60,.v .bool [])])] .z) .z) .z))) .z))))) .z)))))
def sp203 : Spec fam:=⟨[.v (.st 10) [],.v .str [],.v (.int .i64) [],.fn [.st 0] (.int .i64)],[.v (.st 3) []],fun a => hZ a.1 a.2.1 a.2.2.1 a.2.2.2.1⟩
def cp (c : Cap) : Option Int :=
 some c.Least
def h204 : Hint:=.z
def sp204 : Spec fam:=⟨[.v (.st 0) []],[.v (.int .i64) []],fun a => cp a.1⟩
def cO (s : State) (path : List UInt8) (label : Int) : Option Vec :=
 (hZ s path label (fun a' => cp a'.1)).bind fun x =>
 some x
def h149 : Hint:=.z
def sp149 : Spec fam:=⟨[.v (.st 10) [],.v .str [],.v (.int .i64) []],[.v (.st 3) []],fun a => cO a.1 a.2.1 a.2.2.1⟩
def mC (a : App) : Option Bool :=
 bif a.State == 1 then
 some true
 else
 some (a.State == 2)
def h150 : Hint:=.z
def sp150 : Spec fam:=⟨[.v (.st 6) []],[.v .bool []],fun a => mC a.1⟩
def dJ (s : List Int) (f : (TupT fam [.int .i64] → Option Bool)) (t : Int) : Option (Int ⊕ (Int ⊕ Unit)) :=
 bif decide (t < (s.length : Int)) then
 (idx s t).bind fun x =>
 (f (x,())).bind fun r =>
 bif r then
  some (.inr (.inl t))
 else
  some (.inl (w64 (t + 1)))
 else
 some (.inr (.inr ()))
def cE (s : List Int) (f : (TupT fam [.int .i64] → Option Bool)) : Option Int :=
 (loop (dJ s f) 0).bind fun q0 =>
 match q0 with
 | .inl q =>
 some q
 | .inr _ =>
 some (-1)
def h282 : Hint:=(.s .z (.s (.s .z (.b (.l [(8,.v (.int .i64) [])] [4,5,8] [(1,[(4,.v (.int .i64) [])]),(2,[])] .z))) .z))
def sp282 : Spec fam:=⟨[.v (.slice (.int .i64)) [],.fn [.int .i64] .bool],[.v (.int .i64) []],fun a => cE a.1 a.2.1⟩
def bR (s : List Int) (f : (TupT fam [.int .i64] → Option Bool)) : Option Bool :=
 (cE s f).bind fun x =>
 some (decide (x ≥ 0))
def h276 : Hint:=.z
def sp276 : Spec fam:=⟨[.v (.slice (.int .i64)) [],.fn [.int .i64] .bool],[.v .bool []],fun a => bR a.1 a.2.1⟩
def np (n : Int) (p : Int) (p1 : Int) : Option Bool :=
 bif decide (n < p) then
 some true
 else
 some (decide (n > p1))
def h277 : Hint:=.z
def sp277 : Spec fam:=⟨[.v (.int .i64) [],.rp (.int .i64),.rp (.int .i64)],[.v .bool []],fun a => np a.1 a.2.1 a.2.2.1⟩
def ol (least : Int) (most : Int) (l : List Int) : Option Bool :=
 (bR l (fun a' => np a'.1 least most)).bind fun x =>
 some (! x)
def h258 : Hint:=.z
def sp258 : Spec fam:=⟨[.v (.int .i64) [],.v (.int .i64) [],.v (.slice (.int .i64)) []],[.v .bool []],fun a => ol a.1 a.2.1 a.2.2.1⟩
def k9 (l : List Ask) (label : Int) (t : Vec × Int) : Option ((Vec × Int) ⊕ Vec) :=
 bif decide (t.2 < (l.length : Int)) then
 (
  (idx l t.2).bind fun x =>
  (
  bif x.Label == label then
   (ol 0 1125899906842624 [x.Size.Mem,x.Size.Cores]).bind fun x1 =>
   bif x1 then
   (ol 0 50 [x.Count]).bind fun x2 =>
   some x2
   else
   some false
  else
   some false).bind fun q =>
  bif q then
  some (⟨w64 (t.1.Mem + (w64 (x.Size.Mem * x.Count))),w64 (t.1.Cores + (w64 (x.Size.Cores * x.Count)))⟩ : Vec)
  else
  some t.1).bind fun out =>
 some (.inl (out,w64 (t.2 + 1)))
 else
 some (.inr t.1)
def lw (l : List Ask) (label : Int) : Option Vec :=
 (loop (k9 l label) ((⟨0,0⟩ : Vec),0)).bind fun out1 =>
 some out1
def h236 : Hint:=(.s .z (.s .z (.s (.s .z (.b (.l [(5,.box (.st 3) []),(10,.v (.int .i64) [])] [5,7,10,33] [(2,[(5,.box (.st 3) [])])] (.s .z (.s .z (.s (.j [5,7,33] [(0,[(5,.box (.st 3) [])])] (.b (.s .z (.s (.j [] [(0,[(33,.v .bool [])])] .z) .z)))) .z)))))) .z)))
def sp236 : Spec fam:=⟨[.v (.slice (.st 5)) [],.v (.int .i64) []],[.v (.st 3) []],fun a => lw a.1 a.2.1⟩
def gP (v : View) (t : Vec × Int) : Option ((Vec × Int) ⊕ Vec) :=
 bif decide (t.2 < (v.s.Apps.length : Int)) then
 (
  (idx v.s.Apps t.2).bind fun x =>
  (
  (mC x).bind fun x1 =>
  bif x1 then
   (gR v x).bind fun x2 =>
   some x2
  else
   some false).bind fun q =>
  bif q then
  (lw x.Asks v.label).bind fun x3 =>
  (l_ t.1 x3).bind fun x4 =>
  some x4.1
  else
  some t.1).bind fun out =>
 some (.inl (out,w64 (t.2 + 1)))
 else
 some (.inr t.1)
def fJ (v : View) : Option Vec :=
 (loop (gP v) ((⟨0,0⟩ : Vec),0)).bind fun out1 =>
 some out1
def h205 : Hint:=(.s .z (.s .z (.s (.s .z (.b (.l [(3,.box (.st 3) []),(10,.v (.int .i64) [])] [3,5,10,20] [(2,[(3,.box (.st 3) [])])] (.s .z (.s .z (.s (.j [3,5,20] [(0,[(3,.box (.st 3) [])])] (.b (.s .z (.s (.j [] [(0,[(20,.v .bool [])])] .z) .z)))) .z)))))) .z)))
def sp205 : Spec fam:=⟨[.v (.st 12) []],[.v (.st 3) []],fun a => fJ a.1⟩
def aw (s : State) (path : List UInt8) (label : Int) : Option Vec :=
 (fJ (⟨⟨⟨s.Conf.Labels,s.Conf.Queues⟩,s.Nodes,s.Apps,s.Conts,s.Slots,s.Plans,s.Now,s.Epoch,s.Seq⟩,path,label,(-1)⟩ : View)).bind fun x =>
 some x
def h151 : Hint:=.z
def sp151 : Spec fam:=⟨[.v (.st 10) [],.v .str [],.v (.int .i64) []],[.v (.st 3) []],fun a => aw a.1 a.2.1 a.2.2.1⟩
def oF (c : Conf) (path : List UInt8) (t : List (List UInt8) × Int) : Option ((List (List UInt8) × Int) ⊕ List (List UInt8)) :=
 bif decide (t.2 < (c.Queues.length : Int)) then
 (
  (idx c.Queues t.2).bind fun x =>
  (li x.Path).bind fun x1 =>
  (
  bif x1.2 then
   some (x1.1 == path)
  else
   some false).bind fun q =>
  bif q then
  (app 16 t.1 [x.Path]).bind fun l =>
  some l
  else
  some t.1).bind fun out =>
 some (.inl (out,w64 (t.2 + 1)))
 else
 some (.inr t.1)
def eU (c : Conf) (path : List UInt8) : Option (List (List UInt8)) :=
 (loop (oF c path) ([],0)).bind fun out1 =>
 some out1
def h195 : Hint:=(.s .z (.s .z (.s (.s .z (.b (.l [(5,.v (.slice (.str)) [0]),(13,.v (.int .i64) [])] [5,7,8,9,13,28] [(2,[(5,.v (.slice (.str)) [0])])] (.s .z (.s .z (.s (.j [5,7,8,9,28] [(0,[(5,.v (.slice (.str)) [0])])] (.b (.s .z (.s .z (.s (.j [] [(0,[(28,.v .bool [])])] .z) .z))))) .z)))))) .z)))
def sp195 : Spec fam:=⟨[.v (.st 2) [],.v .str []],[.v (.slice (.str)) [0]],fun a => eU a.1 a.2.1⟩
def cI (c : Cap) : Option Int :=
 some c.Most
def h227 : Hint:=.z
def sp227 : Spec fam:=⟨[.v (.st 0) []],[.v (.int .i64) []],fun a => cI a.1⟩
def eh (s : State) (path : List UInt8) (label : Int) : Option Vec :=
 (hZ s path label (fun a' => cI a'.1)).bind fun x =>
 some x
def h196 : Hint:=.z
def sp196 : Spec fam:=⟨[.v (.st 10) [],.v .str [],.v (.int .i64) []],[.v (.st 3) []],fun a => eh a.1 a.2.1 a.2.2.1⟩
def lk (l : List Int) (t : Int × Int) : Option ((Int × Int) ⊕ Int) :=
 bif decide (t.2 < (l.length : Int)) then
 (idx l t.2).bind fun x =>
 some (.inl (imin t.1 x,w64 (t.2 + 1)))
 else
 some (.inr t.1)
def e_ (first : Int) (l : List Int) : Option Int :=
 (loop (lk l) (first,0)).bind fun first1 =>
 some first1
def h228 : Hint:=(.s .z (.s (.s .z (.b (.l [(0,.v (.int .i64) []),(9,.v (.int .i64) [])] [0,6,9] [(2,[(0,.v (.int .i64) [])])] .z))) .z))
def sp228 : Spec fam:=⟨[.v (.int .i64) [],.v (.slice (.int .i64)) []],[.v (.int .i64) []],fun a => e_ a.1 a.2.1⟩
def eQ (n : Int) : Option Int :=
 (
 bif decide (n < 0) then
  some true
 else
  some (decide (n > 1125899906842624))).bind fun q =>
 bif q then
 some 0
 else
 some n
def h229 : Hint:=(.s .z (.s (.s (.j [] [(0,[(8,.v .bool [])])] .z) .z) .z))
def sp229 : Spec fam:=⟨[.v (.int .i64) []],[.v (.int .i64) []],fun a => eQ a.1⟩
def lN (want : List Int) (most : List Int) (n : Int) (t1 : List Int × Int × Int) : Option ((List Int × Int × Int) ⊕ List Int) :=
 bif decide (t1.2.2 < n) then
 (idx want t1.2.2).bind fun x9 =>
 (eQ x9).bind fun x10 =>
 (idx most t1.2.2).bind fun x11 =>
 (eQ x11).bind fun x12 =>
 (e_ x10 [x12]).bind fun x13 =>
 (inb t1.2.2 t1.1.length).bind fun i2 =>
 (t1.1[i2]?).bind fun x14 =>
 (e_ (imax (w64 (x13 - x14)) 0) [t1.2.1]).bind fun more =>
 (inb t1.2.2 t1.1.length).bind fun i3 =>
 (t1.1[i3]?).bind fun x15 =>
 (inb t1.2.2 t1.1.length).bind fun i4 =>
 (t1.1[i4]?).bind fun x16 =>
 some (.inl (List.set t1.1 i4 (w64 (x15 + more)),w64 (t1.2.1 - more),w64 (t1.2.2 + 1)))
 else
 some (.inr t1.1)
def md (least : List Int) (want : List Int) (most : List Int) (n : Int) (t : List Int × Int × Int) : Option ((List Int × Int × Int) ⊕ ((List Int × Int))) :=
 bif decide (t.2.2 < n) then
 (idx least t.2.2).bind fun x =>
 (eQ x).bind fun x1 =>
 (idx want t.2.2).bind fun x2 =>
 (eQ x2).bind fun x3 =>
 (idx most t.2.2).bind fun x4 =>
 (eQ x4).bind fun x5 =>
 (e_ x1 [x3,x5,t.2.1]).bind fun x6 =>
 (inb t.2.2 t.1.length).bind fun i =>
 (t.1[i]?).bind fun x7 =>
 (inb t.2.2 (List.set t.1 i x6).length).bind fun i1 =>
 ((List.set t.1 i x6)[i1]?).bind fun x8 =>
 some (.inl (List.set t.1 i x6,w64 (t.2.1 - x8),w64 (t.2.2 + 1)))
 else
 some (.inr (t.1,t.2.1))
def em (total : Int) (least : List Int) (want : List Int) (most : List Int) : Option (List Int) :=
 (e_ (least.length : Int) [(want.length : Int),(most.length : Int)]).bind fun n =>
 (mkl 8 n n 0).bind fun l =>
 (eQ total).bind fun left =>
 (loop (md least want most n) (l,left,0)).bind fun q =>
 (loop (lN want most n) (q.1,q.2,0)).bind fun out =>
 some out
def h197 : Hint:=(.s .z (.s .z (.s .z (.s .z (.s (.s .z (.b (.l [(10,.row (.int .i64) false),(11,.v (.int .i64) []),(28,.v (.int .i64) [])] [10,11,12,28,29,30,31,32,33,34,35,36,37,38,39,40,41,42,43,44,45,46,47,48,49,50,51,52,53,54,55,56,57,58] [(2,[(10,.row (.int .i64) false),(11,.v (.int .i64) [])])] .z))) (.s (.s .z (.b (.l [(10,.row (.int .i64) false),(11,.v (.int .i64) []),(60,.v (.int .i64) [])] [10,11,13,14,60] [(4,[(10,.row (.int .i64) false)])] .z))) .z))))))
def sp197 : Spec fam:=⟨[.v (.int .i64) [],.v (.slice (.int .i64)) [],.v (.slice (.int .i64)) [],.v (.slice (.int .i64)) []],[.v (.slice (.int .i64)) [0]],fun a => em a.1 a.2.1 a.2.2.1 a.2.2.2.1⟩
def bv (s : State) (label : Int) (deep : Int) (self : State → (List UInt8) → Int → Int → Int → Option (List Share)) (kids : List (List UInt8)) (x5 : List Int) (t1 : List Share × Int) : Option ((List Share × Int) ⊕ List Share) :=
 bif decide (t1.2 < (x5.length : Int)) then
 (inb t1.2 x5.length).bind fun i1 =>
 (x5[i1]?).bind fun x6 =>
 (inb t1.2 kids.length).bind fun i2 =>
 (kids[i2]?).bind fun x7 =>
 (self s x7 label x6 (w64 (deep + 1))).bind fun x8 =>
 (app 24 t1.1 x8).bind fun l3 =>
 some (.inl (l3,w64 (t1.2 + 1)))
 else
 some (.inr t1.1)
def bz (s : State) (label : Int) (kids : List (List UInt8)) (t : Rows3_ListInt × Int) : Option ((Rows3_ListInt × Int) ⊕ Rows3_ListInt) :=
 bif decide (t.2 < (kids.length : Int)) then
 (inb t.2 kids.length).bind fun i =>
 (kids[i]?).bind fun x =>
 (cO s x label).bind fun x1 =>
 (aU s x label).bind fun x2 =>
 (aw s x label).bind fun x3 =>
 (eh s x label).bind fun x4 =>
 (inS t.2 (t.1.r0.length : Int) t.1.r0.length).bind fun p =>
 (inS 0 1 [x1.Mem,w64 (x2.Mem + x3.Mem),x4.Mem].length).bind fun p1 =>
 (inS t.2 (t.1.r1.length : Int) t.1.r1.length).bind fun p2 =>
 (inS 1 2 [x1.Mem,w64 (x2.Mem + x3.Mem),x4.Mem].length).bind fun p3 =>
 (inS t.2 (t.1.r2.length : Int) t.1.r2.length).bind fun p4 =>
 (inS 2 3 [x1.Mem,w64 (x2.Mem + x3.Mem),x4.Mem].length).bind fun p5 =>
 some (.inl ((⟨cpy t.1.r0 p.1 p.2 (sub [x1.Mem,w64 (x2.Mem + x3.Mem),x4.Mem] p1.1 p1.2),cpy t.1.r1 p2.1 p2.2 (sub [x1.Mem,w64 (x2.Mem + x3.Mem),x4.Mem] p3.1 p3.2),cpy t.1.r2 p4.1 p4.2 (sub [x1.Mem,w64 (x2.Mem + x3.Mem),x4.Mem] p5.1 p5.2)⟩ : Rows3_ListInt),w64 (t.2 + 1)))
 else
 some (.inr t.1)
def cY (self : State → (List UInt8) → Int → Int → Int → Option (List Share)) (s : State) (path : List UInt8) (label : Int) (mem : Int) (deep : Int) : Option (List Share) :=
 (eU s.Conf path).bind fun kids =>
 (
 bif (kids.length : Int) == 0 then
  some true
 else
  some (decide (deep > 4))).bind fun q =>
 bif q then
 some [(⟨path,mem⟩ : Share)]
 else
 (mkl 8 (kids.length : Int) (kids.length : Int) 0).bind fun l =>
 (mkl 8 (kids.length : Int) (kids.length : Int) 0).bind fun l1 =>
 (mkl 8 (kids.length : Int) (kids.length : Int) 0).bind fun l2 =>
 (loop (bz s label kids) ((⟨l,l1,l2⟩ : Rows3_ListInt),0)).bind fun rows =>
 (em mem rows.r0 rows.r1 rows.r2).bind fun x5 =>
 (loop (bv s label deep self kids x5) ([],0)).bind fun out =>
 some out
def aG : Nat → State → (List UInt8) → Int → Int → Int → Option (List Share)
 | 0 => fun _ _ _ _ _ => none
 | n + 1 => cY (aG n)
def jU (a0 : State) (a1 : List UInt8) (a2 : Int) (a3 : Int) (a4 : Int) : Option (List Share):=aG 64 a0 a1 a2 a3 a4
def h146 : Hint:=(.s .z (.s .z (.s (.s (.j [25,26,27,28,29,30,31] [(0,[(31,.v .bool [])])] .z) .z) (.s .z (.s (.s .z (.b (.u 4 .z))) (.s (.s .z (.b (.l [(12,.box (.st 14) [5003,0,1,2]),(51,.v (.int .i64) [])] [12,14,15,16,17,51,52,53,54,55,56,57,58,59,60,61,62,63,64,65,66,67,68,69,70,71,72,73,74,75,76,77,78,79,80,81,82,83,84,85,86,87,88,89,90,91,92,93,94,95,96] [(4,[(12,.box (.st 14) [5003,0,1,2])])] (.s .z (.s .z (.s (.b (.s .z (.s .z (.s .z (.b (.u 4 .z)))))) .z)))))) (.s .z (.s (.s .z (.b (.l [(18,.v (.slice (.st 13)) [0]),(109,.v (.int .i64) [])] [18,19,20,109] [(8,[(18,.v (.slice (.st 13)) [0])])] .z))) .z))))))))
def sp146 : Spec fam:=⟨[.v (.st 10) [],.v .str [],.v (.int .i64) [],.v (.int .i64) [],.v (.int .i64) []],[.v (.slice (.st 13)) [0]],fun a => jU a.1 a.2.1 a.2.2.1 a.2.2.2.1 a.2.2.2.2.1⟩
def qd (n : Nat) : Spec fam:=⟨[.v (.st 10) [],.v .str [],.v (.int .i64) [],.v (.int .i64) [],.v (.int .i64) []],[.v (.slice (.st 13)) [0]],fun a => aG n a.1 a.2.1 a.2.2.1 a.2.2.2.1 a.2.2.2.2.1⟩
def dO (s : State) (label : Int) : Option (List Share) :=
 (ej s label).bind fun x =>
 (jU s ([114,111,111,116] : List UInt8) label x.Mem 1).bind fun x1 =>
 some x1
def h86 : Hint:=.z
def sp86 : Spec fam:=⟨[.v (.st 10) [],.v (.int .i64) []],[.v (.slice (.st 13)) [0]],fun a => dO a.1 a.2.1⟩
def po (s : List App) (f : (TupT fam [.st 6] → Option Bool)) (t : Int) : Option (Int ⊕ (Int ⊕ Unit)) :=
 bif decide (t < (s.length : Int)) then
 (idx s t).bind fun x =>
 (f (x,())).bind fun r =>
 bif r then
  some (.inr (.inl t))
 else
  some (.inl (w64 (t + 1)))
 else
 some (.inr (.inr ()))
def qI (s : List App) (f : (TupT fam [.st 6] → Option Bool)) : Option Int :=
 (loop (po s f) 0).bind fun q0 =>
 match q0 with
 | .inl q =>
 some q
 | .inr _ =>
 some (-1)
def h165 : Hint:=(.s .z (.s (.s .z (.b (.l [(8,.v (.int .i64) [])] [4,5,8] [(1,[(4,.v (.int .i64) [])]),(2,[])] .z))) .z))
def sp165 : Spec fam:=⟨[.v (.slice (.st 6)) [],.fn [.st 6] .bool],[.v (.int .i64) []],fun a => qI a.1 a.2.1⟩
def oV (a : App) (p : Int) : Option Bool :=
 some (a.Id == p)
def h166 : Hint:=.z
def sp166 : Spec fam:=⟨[.v (.st 6) [],.rp (.int .i64)],[.v .bool []],fun a => oV a.1 a.2.1⟩
def pY (s : State) (id_ : Int) : Option Int :=
 (qI s.Apps (fun a' => oV a'.1 id_)).bind fun x =>
 some x
def h101 : Hint:=.z
def sp101 : Spec fam:=⟨[.v (.st 10) [],.v (.int .i64) []],[.v (.int .i64) []],fun a => pY a.1 a.2.1⟩
def xD (s : List Ask) : Option (List Ask) :=
 bif s.isEmpty then
 none
 else
 (app 64 [] s).bind fun l =>
 some l
def q_ (s : List Ask) : Option (List Ask):=app 64 [] s
def h201 : Hint:=.z
def sp201 : Spec fam:=⟨[.v (.slice (.st 5)) []],[.v (.slice (.st 5)) [0]],fun a => q_ a.1⟩
def AC : Spec fam:=⟨[.v (.slice (.st 5)) []],[.v (.slice (.st 5)) [0]],fun a => xD a.1⟩
def iS (l : List Int) : Option (List Int) :=
 (mkl 8 (l.length : Int) (l.length : Int) 0).bind fun l1 =>
 some (cpy l1 0 l1.length l)
def h202 : Hint:=.z
def sp202 : Spec fam:=⟨[.v (.slice (.int .i64)) []],[.v (.slice (.int .i64)) [0]],fun a => iS a.1⟩
def nG (a : App) : Option App :=
 (q_ a.Asks).bind fun x =>
 (iS a.Grants).bind fun x1 =>
 (iS a.Kills).bind fun x2 =>
 (iS a.Told).bind fun x3 =>
 (iS a.Lost).bind fun x4 =>
 some (⟨a.Id,a.State,a.Queue,a.User,a.Prio,⟨a.Master.Mem,a.Master.Cores⟩,x,a.Seen,a.Beat,x1,x2,x3,x4⟩ : App)
def h148 : Hint:=.z
def sp148 : Spec fam:=⟨[.v (.st 6) []],[.v (.st 6) [7,10,11,12,13]],fun a => nG a.1⟩
def pd (s : State) (id_ : Int) : Option (App × Bool) :=
 (pY s id_).bind fun i =>
 bif decide (i < 0) then
 some ((⟨0,0,[],0,0,⟨0,0⟩,[],0,0,[],[],[],[]⟩ : App),false)
 else
 (idx s.Apps i).bind fun x =>
 (nG x).bind fun x1 =>
 some (x1,true)
def h88 : Hint:=.z
def sp88 : Spec fam:=⟨[.v (.st 10) [],.v (.int .i64) []],[.v (.st 6) [7,10,11,12,13],.v .bool []],fun a => pd a.1 a.2.1⟩
def eB (s : State) (label : Int) (t1 : Looker × Int) : Option ((Looker × Int) ⊕ Looker) :=
 bif decide (t1.2 < (s.Conts.length : Int)) then
 (
  (idx s.Conts t1.2).bind fun x4 =>
  bif x4.Label != label then
  some t1.1
  else
  (pd s x4.App).bind fun x5 =>
  bif x4.Notice != 0 then
   (df (⟨⟨⟨t1.1.s.Conf.Labels,t1.1.s.Conf.Queues⟩,t1.1.s.Nodes,t1.1.s.Apps,t1.1.s.Conts,t1.1.s.Slots,t1.1.s.Plans,t1.1.s.Now,t1.1.s.Epoch,t1.1.s.Seq⟩,t1.1.label,t1.1.over,mput (fun x6 => x4.Id == x6.k) t1.1.leaf (⟨x4.Id,x5.1.Queue⟩ : Ent2_IntListUInt8),t1.1.noticed,t1.1.gone⟩ : Looker) x4).bind fun x7 =>
   some x7
  else
   some (⟨⟨⟨t1.1.s.Conf.Labels,t1.1.s.Conf.Queues⟩,t1.1.s.Nodes,t1.1.s.Apps,t1.1.s.Conts,t1.1.s.Slots,t1.1.s.Plans,t1.1.s.Now,t1.1.s.Epoch,t1.1.s.Seq⟩,t1.1.label,t1.1.over,mput (fun x6 => x4.Id == x6.k) t1.1.leaf (⟨x4.Id,x5.1.Queue⟩ : Ent2_IntListUInt8),t1.1.noticed,t1.1.gone⟩ : Looker)).bind fun k1 =>
 some (.inl (k1,w64 (t1.2 + 1)))
 else
 some (.inr t1.1)
def bQ (s : State) (label : Int) (x : List Share) (t : Looker × Int) : Option ((Looker × Int) ⊕ Looker) :=
 bif decide (t.2 < (x.length : Int)) then
 (inb t.2 x.length).bind fun i =>
 (x[i]?).bind fun x1 =>
 (aU s x1.Path label).bind fun x2 =>
 some (.inl ((⟨⟨⟨t.1.s.Conf.Labels,t.1.s.Conf.Queues⟩,t.1.s.Nodes,t.1.s.Apps,t.1.s.Conts,t.1.s.Slots,t.1.s.Plans,t.1.s.Now,t.1.s.Epoch,t.1.s.Seq⟩,t.1.label,mput (fun x3 => x1.Path == x3.k) t.1.over (⟨x1.Path,w64 (x2.Mem - x1.Mem)⟩ : Ent0_ListUInt8Int),t.1.leaf,t.1.noticed,t.1.gone⟩ : Looker),w64 (t.2 + 1)))
 else
 some (.inr t.1)
def eo (s : State) (label : Int) : Option Looker :=
 (dO s label).bind fun x =>
 (loop (bQ s label x) ((⟨⟨⟨s.Conf.Labels,s.Conf.Queues⟩,s.Nodes,s.Apps,s.Conts,s.Slots,s.Plans,s.Now,s.Epoch,s.Seq⟩,label,[],[],[],0⟩ : Looker),0)).bind fun k =>
 (loop (eB s label) (k,0)).bind fun k2 =>
 some k2
def h36 : Hint:=(.s .z (.s .z (.s (.s .z (.b (.l [(5,.box (.st 11) [11,12,13]),(23,.v (.int .i64) [])] [5,7,14,17,23,24,25,26,27,28,29,30,31,32,33,34,35,36,37,38,39,40,41,42] [(2,[(5,.box (.st 11) [11,12,13])])] .z))) (.s (.s .z (.b (.l [(5,.box (.st 11) [11,12,13]),(46,.v (.int .i64) [])] [5,9,10,11,46] [(4,[(5,.box (.st 11) [11,12,13])])] (.s .z (.s .z (.s (.j [5,9,10,11] [(0,[(5,.box (.st 11) [11,12,13])])] .z) .z)))))) .z))))
def sp36 : Spec fam:=⟨[.v (.st 10) [],.v (.int .i64) []],[.nb (.st 11) [11,12,13]],fun a => eo a.1 a.2.1⟩
def aV (k : Looker) (path : List UInt8) (x : Vec) (x1 : Vec) (x2 : App) (t1 : Int) : Option (Int ⊕ (Int ⊕ Unit)) :=
 bif decide (t1 < (x2.Asks.length : Int)) then
 (idx x2.Asks t1).bind fun x4 =>
 (
  bif x4.Label == k.label then
  some (decide ((w64 (x.Mem + x4.Size.Mem)) ≤ x1.Mem))
  else
  some false).bind fun q1 =>
 bif q1 then
  (aw k.s path k.label).bind fun x5 =>
  some (.inr (.inl (imin x5.Mem (w64 (x1.Mem - x.Mem)))))
 else
  some (.inl (w64 (t1 + 1)))
 else
 some (.inr (.inr ()))
def aC (k : Looker) (path : List UInt8) (x : Vec) (x1 : Vec) (t : Int) : Option (Int ⊕ (Int ⊕ Unit)) :=
 bif decide (t < (k.s.Apps.length : Int)) then
 (
  (idx k.s.Apps t).bind fun x2 =>
  (
  (mC x2).bind fun x3 =>
  bif ! x3 then
   some true
  else
   some (! (x2.Queue == path))).bind fun q =>
  bif q then
  some (.inl ())
  else
  (loop (aV k path x x1 x2) 0).bind fun q0 =>
  match q0 with
  | .inl q2 =>
   some (.inr q2)
  | .inr _ =>
   some (.inl ()) : Option (Unit ⊕ Int)).bind fun q0 =>
 match q0 with
 | .inl _ =>
  some (.inl (w64 (t + 1)))
 | .inr q3 =>
  some (.inr (.inl q3))
 else
 some (.inr (.inr ()))
def aN (k : Looker) (path : List UInt8) : Option (Int × Looker) :=
 (aU k.s path k.label).bind fun x =>
 (cO k.s path k.label).bind fun x1 =>
 (loop (aC k path x x1) 0).bind fun q0 =>
 match q0 with
 | .inl q4 =>
 some (q4,k)
 | .inr _ =>
 some (0,k)
def h89 : Hint:=(.s .z (.s .z (.s (.s .z (.b (.l [(37,.v (.int .i64) [])] [4,8,10,37,38,39,40,41,42,43,44,45,46,47,48,49,50,51,52,53,74] [(1,[(4,.v (.int .i64) [])]),(2,[])] (.s .z (.s .z (.s (.j [4,8,10,39,40,41,42,43,44,45,46,47,48,49,50,51,52,53,74] [(0,[]),(1,[(4,.v (.int .i64) [])])] (.b (.s .z (.s (.s (.j [41,42,43,44,45,46,47,48,49] [(0,[(49,.v .bool [])])] .z) .z) (.s .z (.b (.l [(53,.v (.int .i64) [])] [4,10,53,74] [(1,[(4,.v (.int .i64) [])]),(4,[])] (.s .z (.s .z (.s (.b (.s .z (.s (.j [] [(0,[(74,.v .bool [])])] .z) .z))) .z)))))))))) .z)))))) .z)))
def sp89 : Spec fam:=⟨[.box (.st 11) [11,12,13],.v .str []],[.v (.int .i64) []],fun a => aN a.1 a.2.1⟩
def aS (x : List Share) (t : Looker × Int × Int) : Option ((Looker × Int × Int) ⊕ ((Looker × Int))) :=
 bif decide (t.2.2 < (x.length : Int)) then
 (inb t.2.2 x.length).bind fun i =>
 (x[i]?).bind fun x1 =>
 (aN t.1 x1.Path).bind fun x2 =>
 let sum:=w64 (t.2.1 + x2.1)
 some (.inl (x2.2,sum,w64 (t.2.2 + 1)))
 else
 some (.inr (t.1,t.2.1))
def a_ (k : Looker) : Option (Int × Looker) :=
 (dO k.s k.label).bind fun x =>
 (loop (aS x) (k,0,0)).bind fun q =>
 (ej q.1.s q.1.label).bind fun x3 =>
 (aU q.1.s ([114,111,111,116] : List UInt8) q.1.label).bind fun x4 =>
 some (w64 (q.2 - (imax (w64 (x3.Mem - x4.Mem)) 0)),q.1)
def h37 : Hint:=(.s .z (.s .z (.s .z (.s (.s .z (.b (.l [(0,.box (.st 11) [11,12,13]),(3,.v (.int .i64) []),(19,.v (.int .i64) [])] [0,3,6,19] [(2,[(0,.box (.st 11) [11,12,13]),(3,.v (.int .i64) [])])] .z))) .z))))
def sp37 : Spec fam:=⟨[.box (.st 11) [11,12,13]],[.v (.int .i64) []],fun a => a_ a.1⟩
def lM (vals : List Int) (t : Int) : Option (Int ⊕ (Int ⊕ Unit)) :=
 bif decide (t < (vals.length : Int)) then
 (idx vals t).bind fun x =>
 bif x != 0 then
  some (.inr (.inl x))
 else
  some (.inl (w64 (t + 1)))
 else
 some (.inr (.inr ()))
def mi (vals : List Int) : Option Int :=
 (loop (lM vals) 0).bind fun q0 =>
 match q0 with
 | .inl q =>
 some q
 | .inr _ =>
 some 0
def h91 : Hint:=(.s .z (.s .z (.s (.s .z (.b (.l [(8,.v (.int .i64) [])] [2,5,8] [(1,[(2,.v (.int .i64) [])]),(2,[])] .z))) .z)))
def sp91 : Spec fam:=⟨[.v (.slice (.int .i64)) []],[.v (.int .i64) []],fun a => mi a.1⟩
def d6 (x : Int) : Option Bool :=
 some (x != x)
def h153 : Hint:=.z
def sp153 : Spec fam:=⟨[.v (.int .i64) []],[.v .bool []],fun a => d6 a.1⟩
def gZ (x : Int) (y : Int) : Option Int :=
 (d6 x).bind fun xNaN =>
 (d6 y).bind fun yNaN =>
 bif xNaN then
 bif yNaN then
  some 0
 else
  some (-1)
 else
 bif yNaN then
  some 1
 else
  bif decide (x < y) then
  some (-1)
  else
  bif decide (x > y) then
   some 1
  else
   some 0
def h92 : Hint:=.z
def sp92 : Spec fam:=⟨[.v (.int .i64) [],.v (.int .i64) []],[.v (.int .i64) []],fun a => gZ a.1 a.2.1⟩
def eJ (x : List UInt8) : Option Bool :=
 some (! (x == x))
def h154 : Hint:=.z
def sp154 : Spec fam:=⟨[.v .str []],[.v .bool []],fun a => eJ a.1⟩
def fk (x : List UInt8) (y : List UInt8) : Option Int :=
 (eJ x).bind fun xNaN =>
 (eJ y).bind fun yNaN =>
 bif xNaN then
 bif yNaN then
  some 0
 else
  some (-1)
 else
 bif yNaN then
  some 1
 else
  bif Op.bytesLess x y then
  some (-1)
  else
  bif ! (strLe x y) then
   some 1
  else
   some 0
def h93 : Hint:=.z
def sp93 : Spec fam:=⟨[.v .str [],.v .str []],[.v (.int .i64) []],fun a => fk a.1 a.2.1⟩
def fX (k : Looker) (_ob : Obj) (found : List UInt8) (e4 : Ent1_ListUInt8Cont) : Option (List UInt8) :=
 (
 bif found == ([] : List UInt8) then
  some true
 else
  let e5:=mget (fun x6 => found == x6.k) k.over (⟨found,0⟩ : Ent0_ListUInt8Int)
  let e6:=mget (fun x7 => e4.k == x7.k) k.over (⟨e4.k,0⟩ : Ent0_ListUInt8Int)
  (gZ e5.v e6.v).bind fun x8 =>
  (fk e4.k found).bind fun x9 =>
  (mi [x8,x9]).bind fun x10 =>
  some (decide (x10 < 0))).bind fun q2 =>
 bif q2 then
 some e4.k
 else
 some found
def gf (k : Looker) (t : List Ent1_ListUInt8Cont × Int) : Option ((List Ent1_ListUInt8Cont × Int) ⊕ List Ent1_ListUInt8Cont) :=
 bif decide (t.2 < (k.s.Conts.length : Int)) then
 (
  (idx k.s.Conts t.2).bind fun x =>
  let e:=mget (fun x1 => x.Id == x1.k) k.leaf (⟨x.Id,[]⟩ : Ent2_IntListUInt8)
  let is:=mhas (fun x1 => x.Id == x1.k) k.leaf
  (
  bif ! is then
   some true
  else
   let e1:=mget (fun x2 => x.Id == x2.k) k.noticed (⟨x.Id,0⟩ : Ent4_IntInt)
   bif decide (e1.v > 0) then
   some true
   else
   let e2:=mget (fun x3 => e.v == x3.k) k.over (⟨e.v,0⟩ : Ent0_ListUInt8Int)
   some (decide (e2.v ≤ 0))).bind fun q =>
  bif q then
  some t.1
  else
  let e3:=mget (fun x4 => e.v == x4.k) t.1 (⟨e.v,⟨0,0,0,⟨0,0⟩,0,0,false,0⟩⟩ : Ent1_ListUInt8Cont)
  let has:=mhas (fun x4 => e.v == x4.k) t.1
  (
   bif ! has then
   some true
   else
   bif e3.v.Master then
    bif ! x.Master then
    some true
    else
    bif e3.v.Master == x.Master then
     some (decide (x.Id > e3.v.Id))
    else
     some false
   else
    bif e3.v.Master == x.Master then
    some (decide (x.Id > e3.v.Id))
    else
    some false).bind fun q1 =>
  bif q1 then
   some (mput (fun x5 => e.v == x5.k) t.1 (⟨e.v,⟨x.Id,x.App,x.Node,⟨x.Size.Mem,x.Size.Cores⟩,x.Prio,x.Label,x.Master,x.Notice⟩⟩ : Ent1_ListUInt8Cont))
  else
   some t.1).bind fun best =>
 some (.inl (best,w64 (t.2 + 1)))
 else
 some (.inr t.1)
def fh (k : Looker) : Option (Cont × Bool × Looker) :=
 (loop (gf k) ([],0)).bind fun best1 =>
 (rng (ω:=Obj) (fun _ => some ([] : List UInt8)) (fX k) best1).bind fun found1 =>
 let e7:=mget (fun x11 => found1 == x11.k) best1 (⟨found1,⟨0,0,0,⟨0,0⟩,0,0,false,0⟩⟩ : Ent1_ListUInt8Cont)
 let is1:=mhas (fun x11 => found1 == x11.k) best1
 some (e7.v,is1,k)
def h38 : Hint:=(.s .z (.s .z (.s (.s .z (.b (.l [(4,.row (.st 501) false),(22,.v (.int .i64) [])] [4,6,7,8,9,10,15,22,23,24,25,26,27,28,29,30,31,32,33,34,35,36,37,38,39,40,41,42,43,44,45,46,47,48,49,50,51,52,53,54,55,56,57,58,59,60,61,62,63,64,65,66,67,68,69,70,71,72,73,74,75,76,77,78,79,80,81,82,83,84,85,86,87,88,89,90,91] [(2,[(4,.row (.st 501) false)])] (.s .z (.s .z (.s (.j [4,6,7,8,9,10,24,25,26,27,28,29,30,31,32,33,34,35,36,37,38,39,40,41,42,43,44,45,46,47,48,49,50,51,52,53,54,55,56,57,58,59,60,61,62,63,64,65,66,67,68,69,70,71,72,73,74,75,76,77,78,79,80,81,82,83,84,85,86,87,88,89,90] [(0,[(4,.row (.st 501) false)])] (.b (.s .z (.s .z (.s (.s (.j [36,37,38,39,40,41,42,43,44,45,46,47,48,49,50,51,52,53,54,55,56] [(0,[(56,.v .bool [])])] .z) .z) (.s .z (.s (.j [63,64,65,66,67,68,69,70,71,72,73,74,75,76,77,78,79,80,81,82,83,84,85,86,87] [(0,[(87,.v .bool [])])] .z) .z))))))) .z)))))) (.s .z (.s (.g [(11,.v .str [])] [11,12,92,120] (.s (.j [] [(0,[(120,.v .bool [])])] .z) .z)) .z)))))
def sp38 : Spec fam:=⟨[.box (.st 11) [11,12,13]],[.v (.st 7) [],.v .bool []],fun a => fh a.1⟩
def dP (need : Int × Looker) (t : Looker × List Int) : Option ((Looker × List Int) ⊕ List Int) :=
 bif decide (t.1.gone < need.1) then
 (fh t.1).bind fun x =>
 bif ! x.2.1 then
  some (.inr t.2)
 else
  (df x.2.2 x.1).bind fun x1 =>
  (app 8 t.2 [x.1.Id]).bind fun l =>
  some (.inl (x1,l))
 else
 some (.inr t.2)
def bB (s : State) (label : Int) : Option (List Int) :=
 (eo s label).bind fun k =>
 (a_ k).bind fun need =>
 (loop (dP need) (need.2,[])).bind fun out =>
 some out
def h15 : Hint:=(.s .z (.s .z (.s .z (.s .z (.s (.b (.l [(5,.box (.st 11) [11,12,13]),(7,.v (.slice (.int .i64)) [0])] [5,7,8] [(2,[(7,.v (.slice (.int .i64)) [0])])] .z)) .z)))))
def sp15 : Spec fam:=⟨[.v (.st 10) [],.v (.int .i64) []],[.v (.slice (.int .i64)) [0]],fun a => bB a.1 a.2.1⟩
def om (s : List Cont) (f : (TupT fam [.st 7] → Option Bool)) (t : Int) : Option (Int ⊕ (Int ⊕ Unit)) :=
 bif decide (t < (s.length : Int)) then
 (idx s t).bind fun x =>
 (f (x,())).bind fun r =>
 bif r then
  some (.inr (.inl t))
 else
  some (.inl (w64 (t + 1)))
 else
 some (.inr (.inr ()))
def iY (s : List Cont) (f : (TupT fam [.st 7] → Option Bool)) : Option Int :=
 (loop (om s f) 0).bind fun q0 =>
 match q0 with
 | .inl q =>
 some q
 | .inr _ =>
 some (-1)
def h47 : Hint:=(.s .z (.s (.s .z (.b (.l [(8,.v (.int .i64) [])] [4,5,8] [(1,[(4,.v (.int .i64) [])]),(2,[])] .z))) .z))
def sp47 : Spec fam:=⟨[.v (.slice (.st 7)) [],.fn [.st 7] .bool],[.v (.int .i64) []],fun a => iY a.1 a.2.1⟩
def tP (s : List Cont) : Option (List Cont) :=
 bif s.isEmpty then
 none
 else
 (app 72 [] s).bind fun l =>
 some l
def ij (s : List Cont) : Option (List Cont):=app 72 [] s
def h107 : Hint:=.z
def sp107 : Spec fam:=⟨[.v (.slice (.st 7)) []],[.v (.slice (.st 7)) [0]],fun a => ij a.1⟩
def Bb : Spec fam:=⟨[.v (.slice (.st 7)) []],[.v (.slice (.st 7)) [0]],fun a => tP a.1⟩
def ku (s : List (List UInt8)) : Option (List (List UInt8)) :=
 bif s.isEmpty then
 none
 else
 (app 16 [] s).bind fun l =>
 some l
def bY (s : List (List UInt8)) : Option (List (List UInt8)):=app 16 [] s
def h158 : Hint:=.z
def sp158 : Spec fam:=⟨[.v (.slice (.str)) []],[.v (.slice (.str)) [0]],fun a => bY a.1⟩
def A1 : Spec fam:=⟨[.v (.slice (.str)) []],[.v (.slice (.str)) [0]],fun a => ku a.1⟩
def sT (s : List Queue) : Option (List Queue) :=
 bif s.isEmpty then
 none
 else
 (app 48 [] s).bind fun l =>
 some l
def jq (s : List Queue) : Option (List Queue):=app 48 [] s
def h159 : Hint:=.z
def sp159 : Spec fam:=⟨[.v (.slice (.st 1)) []],[.v (.slice (.st 1)) [0]],fun a => jq a.1⟩
def Bq : Spec fam:=⟨[.v (.slice (.st 1)) []],[.v (.slice (.st 1)) [0]],fun a => sT a.1⟩
def xf (s : List Node) : Option (List Node) :=
 bif s.isEmpty then
 none
 else
 (app 64 [] s).bind fun l =>
 some l
def pi (s : List Node) : Option (List Node):=app 64 [] s
def h161 : Hint:=.z
def sp161 : Spec fam:=⟨[.v (.slice (.st 4)) []],[.v (.slice (.st 4)) [0]],fun a => pi a.1⟩
def Aj : Spec fam:=⟨[.v (.slice (.st 4)) []],[.v (.slice (.st 4)) [0]],fun a => xf a.1⟩
def xm (s : List Slot) : Option (List Slot) :=
 bif s.isEmpty then
 none
 else
 (app 24 [] s).bind fun l =>
 some l
def o_ (s : List Slot) : Option (List Slot):=app 24 [] s
def h162 : Hint:=.z
def sp162 : Spec fam:=⟨[.v (.slice (.st 8)) []],[.v (.slice (.st 8)) [0]],fun a => o_ a.1⟩
def At : Spec fam:=⟨[.v (.slice (.st 8)) []],[.v (.slice (.st 8)) [0]],fun a => xm a.1⟩
def xk (s : List Plan) : Option (List Plan) :=
 bif s.isEmpty then
 none
 else
 (app 48 [] s).bind fun l =>
 some l
def pc (s : List Plan) : Option (List Plan):=app 48 [] s
def h163 : Hint:=.z
def sp163 : Spec fam:=⟨[.v (.slice (.st 9)) []],[.v (.slice (.st 9)) [0]],fun a => pc a.1⟩
def Bn : Spec fam:=⟨[.v (.slice (.st 9)) []],[.v (.slice (.st 9)) [0]],fun a => xk a.1⟩
def ug (s : List App) : Option (List App) :=
 bif s.isEmpty then
 none
 else
 (app 200 [] s).bind fun l =>
 some l
def kW (s : List App) : Option (List App):=app 200 [] s
def h164 : Hint:=.z
def sp164 : Spec fam:=⟨[.v (.slice (.st 6)) []],[.v (.slice (.st 6)) [0]],fun a => kW a.1⟩
def Ba : Spec fam:=⟨[.v (.slice (.st 6)) []],[.v (.slice (.st 6)) [0]],fun a => ug a.1⟩
def pn (x9 : List App) (t1 : List App × Int) : Option ((List App × Int) ⊕ List App) :=
 bif decide (t1.2 < (x9.length : Int)) then
 (inb t1.2 t1.1.length).bind fun i2 =>
 (t1.1[i2]?).bind fun x10 =>
 (nG x10).bind fun x11 =>
 (inb t1.2 t1.1.length).bind fun i3 =>
 (t1.1[i3]?).bind fun x12 =>
 some (.inl (List.set t1.1 i3 x11,w64 (t1.2 + 1)))
 else
 some (.inr t1.1)
def pL (x1 : List Queue) (t : List Queue × Int) : Option ((List Queue × Int) ⊕ List Queue) :=
 bif decide (t.2 < (x1.length : Int)) then
 (inb t.2 t.1.length).bind fun i =>
 (t.1[i]?).bind fun x2 =>
 (nV x2.Caps).bind fun x3 =>
 (inb t.2 t.1.length).bind fun i1 =>
 (t.1[i1]?).bind fun x4 =>
 some (.inl (List.set t.1 i1 (⟨x4.Path,x3,x4.User⟩ : Queue),w64 (t.2 + 1)))
 else
 some (.inr t.1)
def ot (s : State) : Option State :=
 (bY s.Conf.Labels).bind fun x =>
 (jq s.Conf.Queues).bind fun x1 =>
 (loop (pL x1) (x1,0)).bind fun q =>
 (pi s.Nodes).bind fun x5 =>
 (ij s.Conts).bind fun x6 =>
 (o_ s.Slots).bind fun x7 =>
 (pc s.Plans).bind fun x8 =>
 (kW s.Apps).bind fun x9 =>
 (loop (pn x9) (x9,0)).bind fun q1 =>
 some (⟨⟨x,q⟩,x5,q1,x6,x7,x8,s.Now,s.Epoch,s.Seq⟩ : State)
def h99 : Hint:=(.s .z (.s .z (.s (.s .z (.b (.l [(14,.row (.st 1) false),(23,.v (.int .i64) [])] [3,4,14,23,24,25,26,27,28,29,30,31,32,33,34,35,36,37] [(2,[(14,.row (.st 1) false)])] .z))) (.s .z (.s .z (.s (.s .z (.b (.l [(56,.row (.st 6) false),(61,.v (.int .i64) [])] [5,6,56,61] [(4,[(56,.row (.st 6) false)])] .z))) .z))))))
def sp99 : Spec fam:=⟨[.v (.st 10) []],[.v (.st 10) [0,1,2,3,4,5,6]],fun a => ot a.1⟩
def ms (c : Cont) (p : Int) : Option Bool :=
 some (c.Id == p)
def h100 : Hint:=.z
def sp100 : Spec fam:=⟨[.v (.st 7) [],.rp (.int .i64)],[.v .bool []],fun a => ms a.1 a.2.1⟩
def kK (s : List Ask) (f : (TupT fam [.st 5] → Option Bool)) (t : Int) : Option (Int ⊕ (Int ⊕ Unit)) :=
 bif decide (t < (s.length : Int)) then
 (idx s t).bind fun x =>
 (f (x,())).bind fun r =>
 bif r then
  some (.inr (.inl t))
 else
  some (.inl (w64 (t + 1)))
 else
 some (.inr (.inr ()))
def kN (s : List Ask) (f : (TupT fam [.st 5] → Option Bool)) : Option Int :=
 (loop (kK s f) 0).bind fun q0 =>
 match q0 with
 | .inl q =>
 some q
 | .inr _ =>
 some (-1)
def h259 : Hint:=(.s .z (.s (.s .z (.b (.l [(8,.v (.int .i64) [])] [4,5,8] [(1,[(4,.v (.int .i64) [])]),(2,[])] .z))) .z))
def sp259 : Spec fam:=⟨[.v (.slice (.st 5)) [],.fn [.st 5] .bool],[.v (.int .i64) []],fun a => kN a.1 a.2.1⟩
def lj (del : (TupT fam [.st 5] → Option Bool)) (t : List Ask × Int × Int) : Option ((List Ask × Int × Int) ⊕ ((List Ask × Int))) :=
 bif decide (t.2.2 < (t.1.length : Int)) then
 (
  (inb t.2.2 t.1.length).bind fun i1 =>
  (t.1[i1]?).bind fun x =>
  (del (x,())).bind fun r =>
  bif ! r then
  (inb t.2.1 t.1.length).bind fun i2 =>
  (t.1[i2]?).bind fun x1 =>
  some (List.set t.1 i2 x,w64 (t.2.1 + 1))
  else
  some (t.1,t.2.1)).bind fun q =>
 some (.inl (q.1,q.2,w64 (t.2.2 + 1)))
 else
 some (.inr (t.1,t.2.1))
def kZ (s : List Ask) (del : (TupT fam [.st 5] → Option Bool)) : Option (List Ask) :=
 (kN s del).bind fun i =>
 bif i == (-1) then
 some s
 else
 (loop (lj del) (s,i,w64 (i + 1))).bind fun q1 =>
 (inS q1.2 (q1.1.length : Int) q1.1.length).bind fun p =>
 none
def h237 : Hint:=(.s .z (.s .z (.s .z (.s (.s .z (.b (.l [(0,.row (.st 5) false),(5,.v (.int .i64) []),(6,.v (.int .i64) [])] [0,5,6,7] [(2,[(0,.row (.st 5) false),(5,.v (.int .i64) [])])] (.s .z (.s (.j [0,5,7] [(0,[(0,.row (.st 5) false),(5,.v (.int .i64) [])])] .z) .z))))) .z))))
def sp237 : Spec fam:=⟨[.v (.slice (.st 5)) [0],.fn [.st 5] .bool],[.v (.slice (.st 5)) [0]],fun a => kZ a.1 a.2.1⟩
def qQ (l : List Ask) : Option (List Ask) :=
 (mkl 64 (l.length : Int) (l.length : Int) (⟨0,0,⟨0,0⟩,0,0,0,0⟩ : Ask)).bind fun l1 =>
 some (cpy l1 0 l1.length l)
def h238 : Hint:=.z
def sp238 : Spec fam:=⟨[.v (.slice (.st 5)) []],[.v (.slice (.st 5)) [0]],fun a => qQ a.1⟩
def m_ (x : Ask) (p : Ask) : Option Bool :=
 some (x.Prio == p.Prio)
def h239 : Hint:=.z
def sp239 : Spec fam:=⟨[.v (.st 5) [],.rp (.st 5)],[.v .bool []],fun a => m_ a.1 a.2.1⟩
def k_ (s : List Ask) (i : Int) (v : List Ask) : Option (List Ask) :=
 (inS i (s.length : Int) s.length).bind fun p =>
 bif (v.length : Int) == 0 then
 some s
 else
 bif i == (s.length : Int) then
  (app 64 s v).bind fun l =>
  some l
 else
  none
def h240 : Hint:=.z
def sp240 : Spec fam:=⟨[.v (.slice (.st 5)) [0],.v (.int .i64) [],.v (.slice (.st 5)) []],[.v (.slice (.st 5)) [0]],fun a => k_ a.1 a.2.1 a.2.2.1⟩
def pP (a : Ask) (out : List Ask) (k : Int) : Option (Int ⊕ Int) :=
 (
 bif decide (k < (out.length : Int)) then
  (inb k out.length).bind fun i =>
  (out[i]?).bind fun x1 =>
  some (decide (x1.Prio < a.Prio))
 else
  some false).bind fun q =>
 bif q then
 some (.inl (w64 (k + 1)))
 else
 some (.inr k)
def qR (l : List Ask) (a : Ask) : Option (List Ask × Int) :=
 (qQ l).bind fun x =>
 (kZ x (fun a' => m_ a'.1 a)).bind fun out =>
 bif a.Count == 0 then
 some (out,0)
 else
 bif decide ((out.length : Int) ≥ 8) then
  some ([],4)
 else
  (loop (pP a out) 0).bind fun k1 =>
  (k_ out k1 [(⟨a.Prio,a.Label,⟨a.Size.Mem,a.Size.Cores⟩,a.Count,a.Node,a.Rack,0⟩ : Ask)]).bind fun x2 =>
  some (x2,0)
def h207 : Hint:=(.s .z (.s .z (.s .z (.s .z (.s .z (.s .z (.s (.b (.l [(7,.v (.int .i64) [])] [7,33] [(2,[(7,.v (.int .i64) [])])] (.s (.s (.j [] [(0,[(33,.v .bool [])])] .z) .z) .z))) .z)))))))
def sp207 : Spec fam:=⟨[.v (.slice (.st 5)) [],.v (.st 5) []],[.v (.slice (.st 5)) [0],.v (.int .i64) []],fun a => qR a.1 a.2.1⟩
def ng (a : App) : Option (List Ask) :=
 (qR [] (⟨0,0,⟨a.Master.Mem,a.Master.Cores⟩,1,(-1),(-1),0⟩ : Ask)).bind fun x =>
 some x.1
def h167 : Hint:=.z
def sp167 : Spec fam:=⟨[.v (.st 6) []],[.v (.slice (.st 5)) [0]],fun a => ng a.1⟩
def tO (del : (TupT fam [.st 7] → Option Bool)) (t : List Cont × Int × Int) : Option ((List Cont × Int × Int) ⊕ ((List Cont × Int))) :=
 bif decide (t.2.2 < (t.1.length : Int)) then
 (
  (inb t.2.2 t.1.length).bind fun i1 =>
  (t.1[i1]?).bind fun x =>
  (del (x,())).bind fun r =>
  bif ! r then
  (inb t.2.1 t.1.length).bind fun i2 =>
  (t.1[i2]?).bind fun x1 =>
  some (List.set t.1 i2 x,w64 (t.2.1 + 1))
  else
  some (t.1,t.2.1)).bind fun q =>
 some (.inl (q.1,q.2,w64 (t.2.2 + 1)))
 else
 some (.inr (t.1,t.2.1))
def wh (s : List Cont) (del : (TupT fam [.st 7] → Option Bool)) : Option (List Cont) :=
 (iY s del).bind fun i =>
 bif i == (-1) then
 some s
 else
 (loop (tO del) (s,i,w64 (i + 1))).bind fun q1 =>
 (inS q1.2 (q1.1.length : Int) q1.1.length).bind fun p =>
 none
def h208 : Hint:=(.s .z (.s .z (.s .z (.s (.s .z (.b (.l [(0,.row (.st 7) false),(5,.v (.int .i64) []),(6,.v (.int .i64) [])] [0,5,6,7] [(2,[(0,.row (.st 7) false),(5,.v (.int .i64) [])])] (.s .z (.s (.j [0,5,7] [(0,[(0,.row (.st 7) false),(5,.v (.int .i64) [])])] .z) .z))))) .z))))
def sp208 : Spec fam:=⟨[.v (.slice (.st 7)) [0],.fn [.st 7] .bool],[.v (.slice (.st 7)) [0]],fun a => wh a.1 a.2.1⟩
def nq (s : State) (id_ : Int) : Option (State × List Int) :=
 none
def h168 : Hint:=.z
def sp168 : Spec fam:=⟨[.v (.st 10) [],.v (.int .i64) []],[.v (.st 10) [0,1,2,3,4,5,6],.v (.slice (.int .i64)) [0]],fun a => nq a.1 a.2.1⟩
def mf (s : State) (i : Int) : Option State :=
 (inb i s.Apps.length).bind fun i1 =>
 (s.Apps[i1]?).bind fun x =>
 (ng x).bind fun x1 =>
 (inb i s.Apps.length).bind fun i2 =>
 (s.Apps[i2]?).bind fun x2 =>
 (nq (⟨⟨s.Conf.Labels,s.Conf.Queues⟩,s.Nodes,List.set s.Apps i2 (⟨x.Id,1,x.Queue,x.User,x.Prio,⟨x.Master.Mem,x.Master.Cores⟩,x1,s.Now,0,[],[],[],[]⟩ : App),s.Conts,s.Slots,s.Plans,s.Now,s.Epoch,s.Seq⟩ : State) x.Id).bind fun x3 =>
 some x3.1
def h102 : Hint:=.z
def sp102 : Spec fam:=⟨[.v (.st 10) [0,1,2,3,4,5,6],.v (.int .i64) []],[.v (.st 10) [0,1,2,3,4,5,6]],fun a => mf a.1 a.2.1⟩
def kc (s : List Cont) (i : Int) (j : Int) : Option (List Cont):=del s i j
def sp103 : Spec fam:=⟨[.v (.slice (.st 7)) [0],.v (.int .i64) [],.v (.int .i64) []],[.v (.slice (.st 7)) [0]],fun a => kc a.1 a.2.1 a.2.2.1⟩
def eH (s : List Int) (v : Int) (t : Int) : Option (Int ⊕ (Int ⊕ Unit)) :=
 bif decide (t < (s.length : Int)) then
 (idx s t).bind fun x =>
 bif v == x then
  some (.inr (.inl t))
 else
  some (.inl (w64 (t + 1)))
 else
 some (.inr (.inr ()))
def dW (s : List Int) (v : Int) : Option Int :=
 (loop (eH s v) 0).bind fun q0 =>
 match q0 with
 | .inl q =>
 some q
 | .inr _ =>
 some (-1)
def h104 : Hint:=(.s .z (.s (.s .z (.b (.l [(8,.v (.int .i64) [])] [4,5,8] [(1,[(4,.v (.int .i64) [])]),(2,[])] .z))) .z))
def sp104 : Spec fam:=⟨[.v (.slice (.int .i64)) [],.v (.int .i64) []],[.v (.int .i64) []],fun a => dW a.1 a.2.1⟩
def dC (s : List Int) (i : Int) (j : Int) : Option (List Int) :=
 none
def h105 : Hint:=.z
def sp105 : Spec fam:=⟨[.v (.slice (.int .i64)) [],.v (.int .i64) [],.v (.int .i64) []],[.v (.slice (.int .i64)) [0]],fun a => dC a.1 a.2.1 a.2.2.1⟩
def nI (ids : List Int) (t : State × Int) : Option ((State × Int) ⊕ State) :=
 bif decide (t.2 < (ids.length : Int)) then
 (
  (idx ids t.2).bind fun x1 =>
  (iY t.1.Conts (fun a' => ms a'.1 x1)).bind fun k =>
  bif decide (k < 0) then
  some t.1
  else
  (inb k t.1.Conts.length).bind fun i =>
  (t.1.Conts[i]?).bind fun x2 =>
  (pY t.1 x2.App).bind fun i1 =>
  (
   bif decide (i1 ≥ 0) then
   some x2.Master
   else
   some false).bind fun q =>
  bif q then
   (mf t.1 i1).bind fun x3 =>
   some x3
  else
   (kc t.1.Conts k (w64 (k + 1))).bind fun x4 =>
   bif decide (i1 < 0) then
   some (⟨⟨t.1.Conf.Labels,t.1.Conf.Queues⟩,t.1.Nodes,t.1.Apps,x4,t.1.Slots,t.1.Plans,t.1.Now,t.1.Epoch,t.1.Seq⟩ : State)
   else
   (inb i1 t.1.Apps.length).bind fun i2 =>
   (t.1.Apps[i2]?).bind fun x5 =>
   (dW x5.Grants x1).bind fun j =>
   bif decide (j ≥ 0) then
    (dC x5.Grants j (w64 (j + 1))).bind fun x6 =>
    (inb i1 t.1.Apps.length).bind fun i3 =>
    (t.1.Apps[i3]?).bind fun x7 =>
    some (⟨⟨t.1.Conf.Labels,t.1.Conf.Queues⟩,t.1.Nodes,List.set t.1.Apps i3 (⟨x5.Id,x5.State,x5.Queue,x5.User,x5.Prio,⟨x5.Master.Mem,x5.Master.Cores⟩,x5.Asks,x5.Seen,x5.Beat,x6,x5.Kills,x5.Told,x5.Lost⟩ : App),x4,t.1.Slots,t.1.Plans,t.1.Now,t.1.Epoch,t.1.Seq⟩ : State)
   else
    none).bind fun s1 =>
 some (.inl (s1,w64 (t.2 + 1)))
 else
 some (.inr t.1)
def o9 (s : State) (ids : List Int) : Option State :=
 (ot s).bind fun x =>
 (loop (nI ids) (x,0)).bind fun s2 =>
 (ot s2).bind fun x8 =>
 some x8
def h45 : Hint:=(.s .z (.s .z (.s (.s .z (.b (.l [(2,.box (.st 10) [0,1,2,3,4,5,6]),(16,.v (.int .i64) [])] [2,6,7,8,9,10,11,13,16,40] [(2,[(2,.box (.st 10) [0,1,2,3,4,5,6])])] (.s .z (.s .z (.s (.j [2,6,7,8,9,10,11,40] [(0,[(2,.box (.st 10) [0,1,2,3,4,5,6])])] (.b (.s .z (.s .z (.s .z (.s .z (.s .z (.s (.s (.j [] [(0,[(40,.v .bool [])])] .z) .z) .z)))))))) .z)))))) .z)))
def sp45 : Spec fam:=⟨[.v (.st 10) [],.v (.slice (.int .i64)) []],[.v (.st 10) [0,1,2,3,4,5,6]],fun a => o9 a.1 a.2.1⟩
def lh (s : State) (label : Int) : Option State :=
 (ij s.Conts).bind fun x =>
 bif x.isEmpty then
 some s
 else
 none
def sp46 : Spec fam:=⟨[.v (.st 10) [],.v (.int .i64) []],[.v (.st 10) []],fun a => lh a.1 a.2.1⟩
def iM (x : Cont) (p : Int) : Option Bool :=
 some (x.Id == p)
def h48 : Hint:=.z
def sp48 : Spec fam:=⟨[.v (.st 7) [],.rp (.int .i64)],[.v .bool []],fun a => iM a.1 a.2.1⟩
def kH (s : List Cont) (f : (TupT fam [.st 7] → Option Bool)) : Option Bool :=
 (iY s f).bind fun x =>
 some (decide (x ≥ 0))
def h49 : Hint:=.z
def sp49 : Spec fam:=⟨[.v (.slice (.st 7)) [],.fn [.st 7] .bool],[.v .bool []],fun a => kH a.1 a.2.1⟩
def iP (x : Cont) (p : Cont) : Option Bool :=
 some (x.Id == p.Id)
def h50 : Hint:=.z
def sp50 : Spec fam:=⟨[.v (.st 7) [],.rp (.st 7)],[.v .bool []],fun a => iP a.1 a.2.1⟩
def aI (x : Int) (y : Int) : Option Bool :=
 (d6 x).bind fun x1 =>
 bif x1 then
 (d6 y).bind fun x2 =>
 bif ! x2 then
  some true
 else
  some (decide (x < y))
 else
 some (decide (x < y))
def h178 : Hint:=.z
def sp178 : Spec fam:=⟨[.v (.int .i64) [],.v (.int .i64) []],[.v .bool []],fun a => aI a.1 a.2.1⟩
def ck (a : Int) (t1 : List Int × Int) : Option ((List Int × Int) ⊕ List Int) :=
 (
 bif decide (t1.2 > a) then
  (inb t1.2 t1.1.length).bind fun i =>
  (t1.1[i]?).bind fun x =>
  (inb (w64 (t1.2 - 1)) t1.1.length).bind fun i1 =>
  (t1.1[i1]?).bind fun x1 =>
  (aI x x1).bind fun x2 =>
  some x2
 else
  some false).bind fun q =>
 bif q then
 (inb (w64 (t1.2 - 1)) t1.1.length).bind fun i2 =>
 (t1.1[i2]?).bind fun x3 =>
 (inb t1.2 t1.1.length).bind fun i3 =>
 (t1.1[i3]?).bind fun x4 =>
 (inb t1.2 t1.1.length).bind fun i4 =>
 (t1.1[i4]?).bind fun x5 =>
 (inb (w64 (t1.2 - 1)) (List.set t1.1 i4 x3).length).bind fun i5 =>
 ((List.set t1.1 i4 x3)[i5]?).bind fun x6 =>
 some (.inl (List.set (List.set t1.1 i4 x3) i5 x4,w64 (t1.2 - 1)))
 else
 some (.inr t1.1)
def ci (a : Int) (b : Int) (t : List Int × Int) : Option ((List Int × Int) ⊕ List Int) :=
 bif decide (t.2 < b) then
 (loop (ck a) (t.1,t.2)).bind fun data1 =>
 some (.inl (data1,w64 (t.2 + 1)))
 else
 some (.inr t.1)
def bw (data : List Int) (a : Int) (b : Int) : Option (List Int) :=
 (loop (ci a b) (data,w64 (a + 1))).bind fun data2 =>
 some data2
def h172 : Hint:=(.s .z (.b (.l [(0,.row (.int .i64) false),(6,.v (.int .i64) [])] [0,6,7,30] [(2,[(0,.row (.int .i64) false)])] (.s .z (.s (.b (.s .z (.b (.l [(0,.row (.int .i64) false),(7,.v (.int .i64) [])] [0,7,30] [(4,[(0,.row (.int .i64) false)])] (.s (.s (.j [] [(0,[(30,.v .bool [])])] .z) .z) .z))))) .z)))))
def sp172 : Spec fam:=⟨[.row (.int .i64) false,.v (.int .i64) [],.v (.int .i64) []],[],fun a => bw a.1 a.2.1 a.2.2.1⟩
def dH (hi : Int) (first : Int) (t : List Int × Int) : Option ((List Int × Int) ⊕ (List Int ⊕ List Int)) :=
 let child:=w64 ((w64 (2 * t.2)) + 1)
 bif decide (child ≥ hi) then
 some (.inr (.inr (t.1)))
 else
 (
  (
  bif decide ((w64 (child + 1)) < hi) then
   (inb (w64 (first + child)) t.1.length).bind fun i =>
   (t.1[i]?).bind fun x =>
   (inb (w64 ((w64 (first + child)) + 1)) t.1.length).bind fun i1 =>
   (t.1[i1]?).bind fun x1 =>
   (aI x x1).bind fun x2 =>
   some x2
  else
   some false).bind fun q =>
  bif q then
  some (w64 (child + 1))
  else
  some child).bind fun child1 =>
 (inb (w64 (first + t.2)) t.1.length).bind fun i2 =>
 (t.1[i2]?).bind fun x3 =>
 (inb (w64 (first + child1)) t.1.length).bind fun i3 =>
 (t.1[i3]?).bind fun x4 =>
 (aI x3 x4).bind fun x5 =>
 bif ! x5 then
  some (.inr (.inl (t.1)))
 else
  (inb (w64 (first + child1)) t.1.length).bind fun i4 =>
  (t.1[i4]?).bind fun x6 =>
  (inb (w64 (first + t.2)) t.1.length).bind fun i5 =>
  (t.1[i5]?).bind fun x7 =>
  (inb (w64 (first + t.2)) t.1.length).bind fun i6 =>
  (t.1[i6]?).bind fun x8 =>
  (inb (w64 (first + child1)) (List.set t.1 i6 x6).length).bind fun i7 =>
  ((List.set t.1 i6 x6)[i7]?).bind fun x9 =>
  some (.inl (List.set (List.set t.1 i6 x6) i7 x7,child1))
def bq (data : List Int) (lo : Int) (hi : Int) (first : Int) : Option (List Int) :=
 (loop (dH hi first) (data,lo)).bind fun q0 =>
 match q0 with
 | .inl data1 =>
 some data1
 | .inr data2 =>
 some data2
def h212 : Hint:=(.s .z (.b (.l [(0,.row (.int .i64) false),(8,.v (.int .i64) [])] [0,8,9,36] [(1,[(0,.row (.int .i64) false)]),(2,[(0,.row (.int .i64) false)])] (.b (.s .z (.s .z (.s (.j [9,36] [(0,[(9,.v (.int .i64) [])])] (.s (.j [] [(0,[(36,.v .bool [])])] .z) .z)) .z)))))))
def sp212 : Spec fam:=⟨[.row (.int .i64) false,.v (.int .i64) [],.v (.int .i64) [],.v (.int .i64) []],[],fun a => bq a.1 a.2.1 a.2.2.1 a.2.2.2.1⟩
def dK (a : Int) (t1 : List Int × Int) : Option ((List Int × Int) ⊕ List Int) :=
 bif decide (t1.2 ≥ 0) then
 (inb (w64 (a + t1.2)) t1.1.length).bind fun i2 =>
 (t1.1[i2]?).bind fun x1 =>
 (inb a t1.1.length).bind fun i3 =>
 (t1.1[i3]?).bind fun x2 =>
 (inb a t1.1.length).bind fun i4 =>
 (t1.1[i4]?).bind fun x3 =>
 (inb (w64 (a + t1.2)) (List.set t1.1 i4 x1).length).bind fun i5 =>
 ((List.set t1.1 i4 x1)[i5]?).bind fun x4 =>
 (bq (List.set (List.set t1.1 i4 x1) i5 x2) 0 t1.2 a).bind fun x5 =>
 some (.inl (x5,w64 (t1.2 - 1)))
 else
 some (.inr t1.1)
def dD (a : Int) (b : Int) (t : List Int × Int) : Option ((List Int × Int) ⊕ List Int) :=
 bif decide (t.2 ≥ 0) then
 (bq t.1 t.2 (w64 (b - a)) a).bind fun x =>
 some (.inl (x,w64 (t.2 - 1)))
 else
 some (.inr t.1)
def cD (data : List Int) (a : Int) (b : Int) : Option (List Int) :=
 let i:=w64 (Int.tdiv (w64 ((w64 (b - a)) - 1)) 2)
 (loop (dD a b) (data,i)).bind fun data1 =>
 let i1:=w64 ((w64 (b - a)) - 1)
 (loop (dK a) (data1,i1)).bind fun data2 =>
 some data2
def h173 : Hint:=(.s .z (.s .z (.s .z (.s (.s .z (.b (.l [(0,.row (.int .i64) false),(9,.v (.int .i64) [])] [0,9] [(2,[(0,.row (.int .i64) false)])] .z))) (.s .z (.b (.l [(0,.row (.int .i64) false),(10,.v (.int .i64) [])] [0,10] [(4,[(0,.row (.int .i64) false)])] .z)))))))
def sp173 : Spec fam:=⟨[.row (.int .i64) false,.v (.int .i64) [],.v (.int .i64) []],[],fun a => cD a.1 a.2.1 a.2.2.1⟩
def nR (x : Int) : Option Int :=
 (lv x).bind fun x1 =>
 some x1
def h112 : Hint:=.z
def sp112 : Spec fam:=⟨[.v (.int .u64) []],[.v (.int .i64) []],fun a => nR a.1⟩
def eD (length : Int) : Option Int :=
 (nR (IntKind.u64.wrap length)).bind fun x =>
 (nn x).bind fun _ =>
 some (shlK .u64 1 x)
def h213 : Hint:=.z
def sp213 : Spec fam:=⟨[.v (.int .i64) []],[.v (.int .u64) []],fun a => eD a.1⟩
def eO (r : Int) : Option (Int × Int) :=
 some (xorK .u64 (xorK .u64 (xorK .u64 r (shlK .u64 r 13)) (shrK .u64 (xorK .u64 r (shlK .u64 r 13)) 7)) (shlK .u64 (xorK .u64 (xorK .u64 r (shlK .u64 r 13)) (shrK .u64 (xorK .u64 r (shlK .u64 r 13)) 7)) 17),xorK .u64 (xorK .u64 (xorK .u64 r (shlK .u64 r 13)) (shrK .u64 (xorK .u64 r (shlK .u64 r 13)) 7)) (shlK .u64 (xorK .u64 (xorK .u64 r (shlK .u64 r 13)) (shrK .u64 (xorK .u64 r (shlK .u64 r 13)) 7)) 17))
def h214 : Hint:=.z
def sp214 : Spec fam:=⟨[.box (.int .u64) []],[.v (.int .u64) []],fun a => eO a.1⟩
def cq (a : Int) (b : Int) (modulus : Int) (t : List Int × Int × Int) : Option ((List Int × Int × Int) ⊕ List Int) :=
 bif decide (t.2.2 ≤ (w64 ((w64 (a + (w64 ((w64 (Int.tdiv (w64 (b - a)) 4)) * 2)))) + 1))) then
 (eO t.2.1).bind fun x =>
 let other:=w64 (andK .u64 x.1 (IntKind.u64.wrap (modulus - 1)))
 (
  bif decide (other ≥ (w64 (b - a))) then
  let other1:=w64 (other - (w64 (b - a)))
  some other1
  else
  some other).bind fun other2 =>
 (inb (w64 (a + other2)) t.1.length).bind fun i =>
 (t.1[i]?).bind fun x1 =>
 (inb t.2.2 t.1.length).bind fun i1 =>
 (t.1[i1]?).bind fun x2 =>
 (inb t.2.2 t.1.length).bind fun i2 =>
 (t.1[i2]?).bind fun x3 =>
 (inb (w64 (a + other2)) (List.set t.1 i2 x1).length).bind fun i3 =>
 ((List.set t.1 i2 x1)[i3]?).bind fun x4 =>
 some (.inl (List.set (List.set t.1 i2 x1) i3 x2,x.2,w64 (t.2.2 + 1)))
 else
 some (.inr t.1)
def bA (data : List Int) (a : Int) (b : Int) : Option (List Int) :=
 bif decide ((w64 (b - a)) ≥ 8) then
 (eD (w64 (b - a))).bind fun modulus =>
 let idx_:=w64 ((w64 (a + (w64 ((w64 (Int.tdiv (w64 (b - a)) 4)) * 2)))) - 1)
 (loop (cq a b modulus) (data,IntKind.u64.wrap (w64 (b - a)),idx_)).bind fun data1 =>
 some data1
 else
 some data
def h174 : Hint:=(.s .z (.s .z (.c (.s .z (.s .z (.s .z (.b (.l [(0,.row (.int .i64) false),(7,.box (.int .u64) []),(9,.v (.int .i64) [])] [0,7,9,10] [(2,[(0,.row (.int .i64) false)])] (.s .z (.s (.b (.s .z (.s (.j [10] [(0,[(10,.v (.int .i64) [])])] .z) .z))) .z))))))) .z)))
def sp174 : Spec fam:=⟨[.row (.int .i64) false,.v (.int .i64) [],.v (.int .i64) []],[],fun a => bA a.1 a.2.1 a.2.2.1⟩
def a7 (data : List Int) (a : Int) (b : Int) (swaps : Int) : Option (Int × Int × Int) :=
 (idx data b).bind fun x =>
 (idx data a).bind fun x1 =>
 (aI x x1).bind fun x2 =>
 bif x2 then
 some (b,a,w64 (swaps + 1))
 else
 some (a,b,swaps)
def h242 : Hint:=.z
def sp242 : Spec fam:=⟨[.v (.slice (.int .i64)) [],.v (.int .i64) [],.v (.int .i64) [],.box (.int .i64) []],[.v (.int .i64) [],.v (.int .i64) []],fun a => a7 a.1 a.2.1 a.2.2.1 a.2.2.2.1⟩
def bN (data : List Int) (a : Int) (b : Int) (c : Int) (swaps : Int) : Option (Int × Int) :=
 (a7 data a b swaps).bind fun x =>
 (a7 data x.2.1 c x.2.2).bind fun x1 =>
 (a7 data x.1 x1.1 x1.2.2).bind fun x2 =>
 some (x2.2.1,x2.2.2)
def h216 : Hint:=.z
def sp216 : Spec fam:=⟨[.v (.slice (.int .i64)) [],.v (.int .i64) [],.v (.int .i64) [],.v (.int .i64) [],.box (.int .i64) []],[.v (.int .i64) []],fun a => bN a.1 a.2.1 a.2.2.1 a.2.2.2.1 a.2.2.2.2.1⟩
def aJ (data : List Int) (a : Int) (swaps : Int) : Option (Int × Int) :=
 (bN data (w64 (a - 1)) a (w64 (a + 1)) swaps).bind fun x =>
 some (x.1,x.2)
def h215 : Hint:=.z
def sp215 : Spec fam:=⟨[.v (.slice (.int .i64)) [],.v (.int .i64) [],.box (.int .i64) []],[.v (.int .i64) []],fun a => aJ a.1 a.2.1 a.2.2.1⟩
def bO (data : List Int) (a : Int) (b : Int) : Option (Int × Int) :=
 let i:=w64 (a + (w64 ((w64 (Int.tdiv (w64 (b - a)) 4)) * 1)))
 let j:=w64 (a + (w64 ((w64 (Int.tdiv (w64 (b - a)) 4)) * 2)))
 let k:=w64 (a + (w64 ((w64 (Int.tdiv (w64 (b - a)) 4)) * 3)))
 (
 bif decide ((w64 (b - a)) ≥ 8) then
  (
  bif decide ((w64 (b - a)) ≥ 50) then
   (aJ data i 0).bind fun i1 =>
   (aJ data j i1.2).bind fun j1 =>
   (aJ data k j1.2).bind fun k1 =>
   some (k1.2,i1.1,j1.1,k1.1)
  else
   some (0,i,j,k)).bind fun q =>
  (bN data q.2.1 q.2.2.1 q.2.2.2 q.1).bind fun j2 =>
  some (j2.2,j2.1)
 else
  some (0,j)).bind fun q1 =>
 bif q1.1 == 0 then
 some (q1.2,1)
 else
 bif q1.1 == 12 then
  some (q1.2,2)
 else
  some (q1.2,0)
def h175 : Hint:=(.s .z (.s .z (.s .z (.s .z (.s .z (.s .z (.s (.j [9,10,11,12,31,32,33,34,35,36,37,38,39,40,41,42,43,44,45,46,47,48] [(0,[(9,.box (.int .i64) []),(11,.v (.int .i64) [])])] (.s .z (.c (.s (.j [9,10,11,12,33,34,35,36,37,38,39,40,41,42,43] [(0,[(9,.box (.int .i64) []),(10,.v (.int .i64) []),(11,.v (.int .i64) []),(12,.v (.int .i64) [])])] .z) .z) .z))) .z)))))))
def sp175 : Spec fam:=⟨[.v (.slice (.int .i64)) [],.v (.int .i64) [],.v (.int .i64) []],[.v (.int .i64) [],.v (.int .i64) []],fun a => bO a.1 a.2.1 a.2.2.1⟩
def cB (t : List Int × Int × Int) : Option ((List Int × Int × Int) ⊕ List Int) :=
 bif decide (t.2.1 < t.2.2) then
 (inb t.2.2 t.1.length).bind fun i =>
 (t.1[i]?).bind fun x =>
 (inb t.2.1 t.1.length).bind fun i1 =>
 (t.1[i1]?).bind fun x1 =>
 (inb t.2.1 t.1.length).bind fun i2 =>
 (t.1[i2]?).bind fun x2 =>
 (inb t.2.2 (List.set t.1 i2 x).length).bind fun i3 =>
 ((List.set t.1 i2 x)[i3]?).bind fun x3 =>
 some (.inl (List.set (List.set t.1 i2 x) i3 x1,w64 (t.2.1 + 1),w64 (t.2.2 - 1)))
 else
 some (.inr t.1)
def bH (data : List Int) (a : Int) (b : Int) : Option (List Int) :=
 (loop cB (data,a,w64 (b - 1))).bind fun data1 =>
 some data1
def h176 : Hint:=(.s .z (.s .z (.b (.l [(0,.row (.int .i64) false),(6,.v (.int .i64) []),(7,.v (.int .i64) [])] [0,6,7] [(2,[(0,.row (.int .i64) false)])] .z))))
def sp176 : Spec fam:=⟨[.row (.int .i64) false,.v (.int .i64) [],.v (.int .i64) []],[],fun a => bH a.1 a.2.1 a.2.2.1⟩
def bg (b : Int) (t2 : List Int × Int) : Option ((List Int × Int) ⊕ List Int) :=
 bif decide (t2.2 < b) then
 (inb t2.2 t2.1.length).bind fun i14 =>
 (t2.1[i14]?).bind fun x14 =>
 (inb (w64 (t2.2 - 1)) t2.1.length).bind fun i15 =>
 (t2.1[i15]?).bind fun x15 =>
 (aI x14 x15).bind fun x16 =>
 bif ! x16 then
  some (.inr t2.1)
 else
  (inb (w64 (t2.2 - 1)) t2.1.length).bind fun i16 =>
  (t2.1[i16]?).bind fun x17 =>
  (inb t2.2 t2.1.length).bind fun i17 =>
  (t2.1[i17]?).bind fun x18 =>
  (inb t2.2 t2.1.length).bind fun i18 =>
  (t2.1[i18]?).bind fun x19 =>
  (inb (w64 (t2.2 - 1)) (List.set t2.1 i18 x17).length).bind fun i19 =>
  ((List.set t2.1 i18 x17)[i19]?).bind fun x20 =>
  some (.inl (List.set (List.set t2.1 i18 x17) i19 x18,w64 (t2.2 + 1)))
 else
 some (.inr t2.1)
def bd (t1 : List Int × Int) : Option ((List Int × Int) ⊕ List Int) :=
 bif decide (t1.2 ≥ 1) then
 (inb t1.2 t1.1.length).bind fun i8 =>
 (t1.1[i8]?).bind fun x7 =>
 (inb (w64 (t1.2 - 1)) t1.1.length).bind fun i9 =>
 (t1.1[i9]?).bind fun x8 =>
 (aI x7 x8).bind fun x9 =>
 bif ! x9 then
  some (.inr t1.1)
 else
  (inb (w64 (t1.2 - 1)) t1.1.length).bind fun i10 =>
  (t1.1[i10]?).bind fun x10 =>
  (inb t1.2 t1.1.length).bind fun i11 =>
  (t1.1[i11]?).bind fun x11 =>
  (inb t1.2 t1.1.length).bind fun i12 =>
  (t1.1[i12]?).bind fun x12 =>
  (inb (w64 (t1.2 - 1)) (List.set t1.1 i12 x10).length).bind fun i13 =>
  ((List.set t1.1 i12 x10)[i13]?).bind fun x13 =>
  some (.inl (List.set (List.set t1.1 i12 x10) i13 x11,w64 (t1.2 - 1)))
 else
 some (.inr t1.1)
def bi (b : Int) (t : List Int × Int × Int) (i : Int) : Option (Int ⊕ Int) :=
 (
 bif decide (i < b) then
  (inb i t.1.length).bind fun i1 =>
  (t.1[i1]?).bind fun x =>
  (inb (w64 (i - 1)) t.1.length).bind fun i2 =>
  (t.1[i2]?).bind fun x1 =>
  (aI x x1).bind fun x2 =>
  some (! x2)
 else
  some false).bind fun q =>
 bif q then
 some (.inl (w64 (i + 1)))
 else
 some (.inr i)
def be (a : Int) (b : Int) (t : List Int × Int × Int) : Option ((List Int × Int × Int) ⊕ ((List Int × Bool) ⊕ List Int)) :=
 bif decide (t.2.2 < 5) then
 (
  (loop (bi b t) t.2.1).bind fun i3 =>
  bif i3 == b then
  some (.inr (t.1,true))
  else
  bif decide ((w64 (b - a)) < 50) then
   some (.inr (t.1,false))
  else
   (inb (w64 (i3 - 1)) t.1.length).bind fun i4 =>
   (t.1[i4]?).bind fun x3 =>
   (inb i3 t.1.length).bind fun i5 =>
   (t.1[i5]?).bind fun x4 =>
   (inb i3 t.1.length).bind fun i6 =>
   (t.1[i6]?).bind fun x5 =>
   (inb (w64 (i3 - 1)) (List.set t.1 i6 x3).length).bind fun i7 =>
   ((List.set t.1 i6 x3)[i7]?).bind fun x6 =>
   (
   bif decide ((w64 (i3 - a)) ≥ 2) then
    (loop bd (List.set (List.set t.1 i6 x3) i7 x4,w64 (i3 - 1))).bind fun data1 =>
    some data1
   else
    some (List.set (List.set t.1 i6 x3) i7 x4)).bind fun data2 =>
   bif decide ((w64 (b - i3)) ≥ 2) then
   (loop (bg b) (data2,w64 (i3 + 1))).bind fun data3 =>
   some (.inl (data3,i3))
   else
   some (.inl (data2,i3)) : Option ((List Int × Int) ⊕ (List Int × Bool))).bind fun q0 =>
 match q0 with
 | .inl q1 =>
  some (.inl (q1.1,q1.2,w64 (t.2.2 + 1)))
 | .inr q2 =>
  some (.inr (.inl (q2.1,q2.2)))
 else
 some (.inr (.inr (t.1)))
def aT (data : List Int) (a : Int) (b : Int) : Option (Bool × List Int) :=
 (loop (be a b) (data,w64 (a + 1),0)).bind fun q0 =>
 match q0 with
 | .inl q3 =>
 some (q3.2,q3.1)
 | .inr data4 =>
 some (false,data4)
def h177 : Hint:=(.s .z (.s .z (.s (.s .z (.b (.l [(0,.row (.int .i64) false),(7,.v (.int .i64) []),(8,.v (.int .i64) [])] [0,6,7,8,9,10,32] [(1,[(0,.row (.int .i64) false),(6,.v .bool [])]),(2,[(0,.row (.int .i64) false)])] (.s .z (.s (.j [0,6,7,9,10,32] [(0,[(0,.row (.int .i64) false),(7,.v (.int .i64) [])]),(1,[(0,.row (.int .i64) false),(6,.v .bool [])])] (.b (.s (.b (.l [(7,.v (.int .i64) [])] [7,32] [(4,[(7,.v (.int .i64) [])])] (.s (.s (.j [] [(0,[(32,.v .bool [])])] .z) .z) .z))) (.s .z (.s .z (.s .z (.s (.j [0,9] [(0,[(0,.row (.int .i64) false)])] (.s .z (.c (.s .z (.b (.l [(0,.row (.int .i64) false),(9,.v (.int .i64) [])] [0,9] [(6,[(0,.row (.int .i64) false)])] .z))) .z))) (.s .z (.c (.s .z (.b (.l [(0,.row (.int .i64) false),(10,.v (.int .i64) [])] [0,10] [(8,[(0,.row (.int .i64) false)])] .z))) .z))))))))) .z))))) .z)))
def sp177 : Spec fam:=⟨[.row (.int .i64) false,.v (.int .i64) [],.v (.int .i64) []],[.v .bool []],fun a => aT a.1 a.2.1 a.2.2.1⟩
def cb (a : Int) (t : List Int × Int × Int) (i7 : Int) (j : Int) : Option (Int ⊕ Int) :=
 (
 bif decide (i7 ≤ j) then
  (inb a t.1.length).bind fun i8 =>
  (t.1[i8]?).bind fun x7 =>
  (inb j t.1.length).bind fun i9 =>
  (t.1[i9]?).bind fun x8 =>
  (aI x7 x8).bind fun x9 =>
  some x9
 else
  some false).bind fun q1 =>
 bif q1 then
 some (.inl (w64 (j - 1)))
 else
 some (.inr j)
def b7 (a : Int) (t : List Int × Int × Int) (i4 : Int) : Option (Int ⊕ Int) :=
 (
 bif decide (i4 ≤ t.2.2) then
  (inb a t.1.length).bind fun i5 =>
  (t.1[i5]?).bind fun x4 =>
  (inb i4 t.1.length).bind fun i6 =>
  (t.1[i6]?).bind fun x5 =>
  (aI x4 x5).bind fun x6 =>
  some (! x6)
 else
  some false).bind fun q =>
 bif q then
 some (.inl (w64 (i4 + 1)))
 else
 some (.inr i4)
def b8 (a : Int) (t : List Int × Int × Int) : Option ((List Int × Int × Int) ⊕ ((List Int × Int))) :=
 (loop (b7 a t) t.2.1).bind fun i7 =>
 (loop (cb a t i7) t.2.2).bind fun j1 =>
 bif decide (i7 > j1) then
 some (.inr (t.1,i7))
 else
 (inb j1 t.1.length).bind fun i10 =>
 (t.1[i10]?).bind fun x10 =>
 (inb i7 t.1.length).bind fun i11 =>
 (t.1[i11]?).bind fun x11 =>
 (inb i7 t.1.length).bind fun i12 =>
 (t.1[i12]?).bind fun x12 =>
 (inb j1 (List.set t.1 i12 x10).length).bind fun i13 =>
 ((List.set t.1 i12 x10)[i13]?).bind fun x13 =>
 some (.inl (List.set (List.set t.1 i12 x10) i13 x11,w64 (i7 + 1),w64 (j1 - 1)))
def bk (data : List Int) (a : Int) (b : Int) (pivot : Int) : Option (Int × List Int) :=
 (inb pivot data.length).bind fun i =>
 (data[i]?).bind fun x =>
 (inb a data.length).bind fun i1 =>
 (data[i1]?).bind fun x1 =>
 (inb a data.length).bind fun i2 =>
 (data[i2]?).bind fun x2 =>
 (inb pivot (List.set data i2 x).length).bind fun i3 =>
 ((List.set data i2 x)[i3]?).bind fun x3 =>
 (loop (b8 a) (List.set (List.set data i2 x) i3 x1,w64 (a + 1),w64 (b - 1))).bind fun q2 =>
 some (q2.2,q2.1)
def h179 : Hint:=(.s .z (.s .z (.s .z (.s (.b (.l [(0,.row (.int .i64) false),(9,.v (.int .i64) []),(10,.v (.int .i64) [])] [0,9,10,43,59] [(2,[(0,.row (.int .i64) false),(9,.v (.int .i64) [])])] (.b (.s (.b (.l [(9,.v (.int .i64) [])] [9,43] [(4,[(9,.v (.int .i64) [])])] (.s (.s (.j [] [(0,[(43,.v .bool [])])] .z) .z) .z))) (.s (.b (.l [(10,.v (.int .i64) [])] [10,59] [(6,[(10,.v (.int .i64) [])])] (.s (.s (.j [] [(0,[(59,.v .bool [])])] .z) .z) .z))) .z))))) .z))))
def sp179 : Spec fam:=⟨[.row (.int .i64) false,.v (.int .i64) [],.v (.int .i64) [],.v (.int .i64) []],[.v (.int .i64) []],fun a => bk a.1 a.2.1 a.2.2.1 a.2.2.2.1⟩
def dn (a : Int) (t : List Int × Int × Int) (i21 : Int) (j2 : Int) : Option (Int ⊕ Int) :=
 (
 bif decide (i21 ≤ j2) then
  (inb j2 t.1.length).bind fun i22 =>
  (t.1[i22]?).bind fun x21 =>
  (inb a t.1.length).bind fun i23 =>
  (t.1[i23]?).bind fun x22 =>
  (aI x21 x22).bind fun x23 =>
  some (! x23)
 else
  some false).bind fun q3 =>
 bif q3 then
 some (.inl (w64 (j2 - 1)))
 else
 some (.inr j2)
def dm (a : Int) (t : List Int × Int × Int) (i18 : Int) : Option (Int ⊕ Int) :=
 (
 bif decide (i18 ≤ t.2.2) then
  (inb i18 t.1.length).bind fun i19 =>
  (t.1[i19]?).bind fun x18 =>
  (inb a t.1.length).bind fun i20 =>
  (t.1[i20]?).bind fun x19 =>
  (aI x18 x19).bind fun x20 =>
  some x20
 else
  some false).bind fun q2 =>
 bif q2 then
 some (.inl (w64 (i18 + 1)))
 else
 some (.inr i18)
def dl (a : Int) (t : List Int × Int × Int) : Option ((List Int × Int × Int) ⊕ ((List Int × Int))) :=
 (loop (dm a t) t.2.1).bind fun i21 =>
 (loop (dn a t i21) t.2.2).bind fun j3 =>
 bif decide (i21 > j3) then
 some (.inr (t.1,j3))
 else
 (inb j3 t.1.length).bind fun i24 =>
 (t.1[i24]?).bind fun x24 =>
 (inb i21 t.1.length).bind fun i25 =>
 (t.1[i25]?).bind fun x25 =>
 (inb i21 t.1.length).bind fun i26 =>
 (t.1[i26]?).bind fun x26 =>
 (inb j3 (List.set t.1 i26 x24).length).bind fun i27 =>
 ((List.set t.1 i26 x24)[i27]?).bind fun x27 =>
 some (.inl (List.set (List.set t.1 i26 x24) i27 x25,w64 (i21 + 1),w64 (j3 - 1)))
def dw (data : List Int) (a : Int) (x : Int) (x1 : Int) (i2 : Nat) (i3 : Nat) (i7 : Int) (j : Int) : Option (Int ⊕ Int) :=
 (
 bif decide (i7 ≤ j) then
  (inb j (List.set (List.set data i2 x) i3 x1).length).bind fun i8 =>
  ((List.set (List.set data i2 x) i3 x1)[i8]?).bind fun x7 =>
  (inb a (List.set (List.set data i2 x) i3 x1).length).bind fun i9 =>
  ((List.set (List.set data i2 x) i3 x1)[i9]?).bind fun x8 =>
  (aI x7 x8).bind fun x9 =>
  some (! x9)
 else
  some false).bind fun q1 =>
 bif q1 then
 some (.inl (w64 (j - 1)))
 else
 some (.inr j)
def dj (data : List Int) (a : Int) (b : Int) (x : Int) (x1 : Int) (i2 : Nat) (i3 : Nat) (i4 : Int) : Option (Int ⊕ Int) :=
 (
 bif decide (i4 ≤ (w64 (b - 1))) then
  (inb i4 (List.set (List.set data i2 x) i3 x1).length).bind fun i5 =>
  ((List.set (List.set data i2 x) i3 x1)[i5]?).bind fun x4 =>
  (inb a (List.set (List.set data i2 x) i3 x1).length).bind fun i6 =>
  ((List.set (List.set data i2 x) i3 x1)[i6]?).bind fun x5 =>
  (aI x4 x5).bind fun x6 =>
  some x6
 else
  some false).bind fun q =>
 bif q then
 some (.inl (w64 (i4 + 1)))
 else
 some (.inr i4)
def co (data : List Int) (a : Int) (b : Int) (pivot : Int) : Option (Int × Bool × List Int) :=
 (inb pivot data.length).bind fun i =>
 (data[i]?).bind fun x =>
 (inb a data.length).bind fun i1 =>
 (data[i1]?).bind fun x1 =>
 (inb a data.length).bind fun i2 =>
 (data[i2]?).bind fun x2 =>
 (inb pivot (List.set data i2 x).length).bind fun i3 =>
 ((List.set data i2 x)[i3]?).bind fun x3 =>
 (loop (dj data a b x x1 i2 i3) (w64 (a + 1))).bind fun i7 =>
 (loop (dw data a x x1 i2 i3 i7) (w64 (b - 1))).bind fun j1 =>
 bif decide (i7 > j1) then
 (inb a (List.set (List.set data i2 x) i3 x1).length).bind fun i10 =>
 ((List.set (List.set data i2 x) i3 x1)[i10]?).bind fun x10 =>
 (inb j1 (List.set (List.set data i2 x) i3 x1).length).bind fun i11 =>
 ((List.set (List.set data i2 x) i3 x1)[i11]?).bind fun x11 =>
 (inb j1 (List.set (List.set data i2 x) i3 x1).length).bind fun i12 =>
 ((List.set (List.set data i2 x) i3 x1)[i12]?).bind fun x12 =>
 (inb a (List.set (List.set (List.set data i2 x) i3 x1) i12 x10).length).bind fun i13 =>
 ((List.set (List.set (List.set data i2 x) i3 x1) i12 x10)[i13]?).bind fun x13 =>
 some (j1,true,List.set (List.set (List.set (List.set data i2 x) i3 x1) i12 x10) i13 x11)
 else
 (inb j1 (List.set (List.set data i2 x) i3 x1).length).bind fun i14 =>
 ((List.set (List.set data i2 x) i3 x1)[i14]?).bind fun x14 =>
 (inb i7 (List.set (List.set data i2 x) i3 x1).length).bind fun i15 =>
 ((List.set (List.set data i2 x) i3 x1)[i15]?).bind fun x15 =>
 (inb i7 (List.set (List.set data i2 x) i3 x1).length).bind fun i16 =>
 ((List.set (List.set data i2 x) i3 x1)[i16]?).bind fun x16 =>
 (inb j1 (List.set (List.set (List.set data i2 x) i3 x1) i16 x14).length).bind fun i17 =>
 ((List.set (List.set (List.set data i2 x) i3 x1) i16 x14)[i17]?).bind fun x17 =>
 (loop (dl a) (List.set (List.set (List.set (List.set data i2 x) i3 x1) i16 x14) i17 x15,w64 (i7 + 1),w64 (j1 - 1))).bind fun q4 =>
 (inb a q4.1.length).bind fun i28 =>
 (q4.1[i28]?).bind fun x28 =>
 (inb q4.2 q4.1.length).bind fun i29 =>
 (q4.1[i29]?).bind fun x29 =>
 (inb q4.2 q4.1.length).bind fun i30 =>
 (q4.1[i30]?).bind fun x30 =>
 (inb a (List.set q4.1 i30 x28).length).bind fun i31 =>
 ((List.set q4.1 i30 x28)[i31]?).bind fun x31 =>
 some (q4.2,false,List.set (List.set q4.1 i30 x28) i31 x29)
def h180 : Hint:=(.s .z (.s .z (.s .z (.s (.b (.l [(10,.v (.int .i64) [])] [10,43] [(2,[(10,.v (.int .i64) [])])] (.s (.s (.j [] [(0,[(43,.v .bool [])])] .z) .z) .z))) (.s (.b (.l [(11,.v (.int .i64) [])] [11,60] [(4,[(11,.v (.int .i64) [])])] (.s (.s (.j [] [(0,[(60,.v .bool [])])] .z) .z) .z))) (.s .z (.s .z (.s .z (.s .z (.s (.b (.l [(0,.row (.int .i64) false),(10,.v (.int .i64) []),(11,.v (.int .i64) [])] [0,10,11,112,129] [(6,[(0,.row (.int .i64) false),(11,.v (.int .i64) [])])] (.b (.s (.b (.l [(10,.v (.int .i64) [])] [10,112] [(8,[(10,.v (.int .i64) [])])] (.s (.s (.j [] [(0,[(112,.v .bool [])])] .z) .z) .z))) (.s (.b (.l [(11,.v (.int .i64) [])] [11,129] [(10,[(11,.v (.int .i64) [])])] (.s (.s (.j [] [(0,[(129,.v .bool [])])] .z) .z) .z))) .z))))) .z))))))))))
def sp180 : Spec fam:=⟨[.row (.int .i64) false,.v (.int .i64) [],.v (.int .i64) [],.v (.int .i64) []],[.v (.int .i64) [],.v .bool []],fun a => co a.1 a.2.1 a.2.2.1 a.2.2.2.1⟩
def du (self : (List Int) → Int → Int → Int → Option (List Int)) (t : List Int × Int × Int × Int × Bool × Bool) : Option ((List Int × Int × Int × Int × Bool × Bool) ⊕ List Int) :=
 let length:=w64 (t.2.2.1 - t.2.1)
 bif decide (length ≤ 12) then
 (bw t.1 t.2.1 t.2.2.1).bind fun x =>
 some (.inr x)
 else
 bif t.2.2.2.1 == 0 then
  (cD t.1 t.2.1 t.2.2.1).bind fun x1 =>
  some (.inr x1)
 else
  (
  bif ! t.2.2.2.2.1 then
   (bA t.1 t.2.1 t.2.2.1).bind fun x2 =>
   some (x2,w64 (t.2.2.2.1 - 1))
  else
   some (t.1,t.2.2.2.1)).bind fun q =>
  (bO q.1 t.2.1 t.2.2.1).bind fun x3 =>
  (
  bif x3.2 == 2 then
   (bH q.1 t.2.1 t.2.2.1).bind fun x4 =>
   let pivot:=w64 ((w64 (t.2.2.1 - 1)) - (w64 (x3.1 - t.2.1)))
   some (x4,pivot,1)
  else
   some (q.1,x3.1,x3.2)).bind fun q1 =>
  (
  (
   bif t.2.2.2.2.1 then
   bif t.2.2.2.2.2 then
    some (q1.2.2 == 1)
   else
    some false
   else
   some false).bind fun q2 =>
  bif q2 then
   (aT q1.1 t.2.1 t.2.2.1).bind fun x5 =>
   bif x5.1 then
   some (.inr (x5.2))
   else
   some (.inl (x5.2))
  else
   some (.inl (q1.1)) : Option (List Int ⊕ List Int)).bind fun q0 =>
  match q0 with
  | .inl data1 =>
  (
   bif decide (t.2.1 > 0) then
   (inb (w64 (t.2.1 - 1)) data1.length).bind fun i =>
   (data1[i]?).bind fun x6 =>
   (inb q1.2.1 data1.length).bind fun i1 =>
   (data1[i1]?).bind fun x7 =>
   (aI x6 x7).bind fun x8 =>
   some (! x8)
   else
   some false).bind fun q3 =>
  bif q3 then
   (bk data1 t.2.1 t.2.2.1 q1.2.1).bind fun mid =>
   some (.inl (mid.2,mid.1,t.2.2.1,q.2,t.2.2.2.2.1,t.2.2.2.2.2))
  else
   (co data1 t.2.1 t.2.2.1 q1.2.1).bind fun x9 =>
   let leftLen:=w64 (x9.1 - t.2.1)
   let rightLen:=w64 (t.2.2.1 - x9.1)
   bif decide (leftLen < rightLen) then
   let wasBalanced:=decide (leftLen ≥ (w64 (Int.tdiv length 8)))
   (self x9.2.2 t.2.1 x9.1 q.2).bind fun x10 =>
   some (.inl (x10,w64 (x9.1 + 1),t.2.2.1,q.2,wasBalanced,x9.2.1))
   else
   let wasBalanced1:=decide (rightLen ≥ (w64 (Int.tdiv length 8)))
   (self x9.2.2 (w64 (x9.1 + 1)) t.2.2.1 q.2).bind fun x11 =>
   some (.inl (x11,t.2.1,x9.1,q.2,wasBalanced1,x9.2.1))
  | .inr data2 =>
  some (.inr data2)
def d9 (self : (List Int) → Int → Int → Int → Option (List Int)) (data : List Int) (a : Int) (b : Int) (limit : Int) : Option (List Int) :=
 (loop (du self) (data,a,b,limit,true,true)).bind fun data3 =>
 some data3
def bh : Nat → (List Int) → Int → Int → Int → Option (List Int)
 | 0 => fun _ _ _ _ => none
 | n + 1 => d9 (bh n)
def cV (a0 : List Int) (a1 : Int) (a2 : Int) (a3 : Int) : Option (List Int):=bh 64 a0 a1 a2 a3
def h111 : Hint:=(.s .z (.s .z (.b (.l [(0,.row (.int .i64) false),(1,.v (.int .i64) []),(2,.v (.int .i64) []),(3,.v (.int .i64) []),(8,.v .bool []),(9,.v .bool [])] [0,1,2,3,8,9,10,11,12,13,14,15,16,17,18,68,87] [(1,[(0,.row (.int .i64) false)])] (.b (.s .z (.s .z (.s .z (.s (.j [0,3] [(0,[(0,.row (.int .i64) false),(3,.v (.int .i64) [])])] .z) (.s .z (.s (.j [0,11,12] [(0,[(0,.row (.int .i64) false),(11,.v (.int .i64) []),(12,.v (.int .i64) [])])] .z) (.s (.j [0,68] [(0,[(0,.row (.int .i64) false)]),(1,[(0,.row (.int .i64) false)])] (.s (.j [] [(0,[(68,.v .bool [])])] .z) .z)) (.s (.s (.j [] [(0,[(87,.v .bool [])])] .z) .z) .z)))))))))))))
def sp111 : Spec fam:=⟨[.row (.int .i64) false,.v (.int .i64) [],.v (.int .i64) [],.v (.int .i64) []],[],fun a => cV a.1 a.2.1 a.2.2.1 a.2.2.2.1⟩
def Cq (n : Nat) : Spec fam:=⟨[.row (.int .i64) false,.v (.int .i64) [],.v (.int .i64) [],.v (.int .i64) []],[],fun a => bh n a.1 a.2.1 a.2.2.1 a.2.2.2.1⟩
def en (x : List Int) : Option (List Int) :=
 (nR (IntKind.u64.wrap (x.length : Int))).bind fun x1 =>
 (cV x 0 (x.length : Int) x1).bind fun x2 =>
 some x2
def h51 : Hint:=.z
def sp51 : Spec fam:=⟨[.row (.int .i64) false],[],fun a => en a.1⟩
def ko (s : State) (t2 : State) (t3 : List Int × Int) : Option ((List Int × Int) ⊕ List Int) :=
 bif decide (t3.2 < (s.Conts.length : Int)) then
 (
  (idx s.Conts t3.2).bind fun x5 =>
  (kH t2.Conts (fun a' => iP a'.1 x5)).bind fun x6 =>
  bif ! x6 then
  (app 8 t3.1 [x5.Id]).bind fun l =>
  some l
  else
  some t3.1).bind fun gone =>
 some (.inl (gone,w64 (t3.2 + 1)))
 else
 some (.inr t3.1)
def kz (x1 : State) (x2 : List Int) (t1 : Int) : Option (Int ⊕ Unit) :=
 bif decide (t1 < (x2.length : Int)) then
 (inb t1 x2.length).bind fun i =>
 (x2[i]?).bind fun x3 =>
 (iY x1.Conts (fun a' => iM a'.1 x3)).bind fun i1 =>
 (idx x1.Conts i1).bind fun x4 =>
 none
 else
 some (.inr ())
def kh (s : State) (t : State × Int) : Option ((State × Int) ⊕ State) :=
 bif decide (t.2 < (s.Conf.Labels.length : Int)) then
 (lh t.1 t.2).bind fun x1 =>
 (bB x1 t.2).bind fun x2 =>
 (loop (kz x1 x2) 0).bind fun _ =>
 some (.inl (x1,w64 (t.2 + 1)))
 else
 some (.inr t.1)
def j8 (s : State) : Option (State × List Int) :=
 (o9 s []).bind fun x =>
 (loop (kh s) (x,0)).bind fun t2 =>
 (loop (ko s t2) ([],0)).bind fun gone1 =>
 (en gone1).bind fun x7 =>
 some (t2,x7)
def h17 : Hint:=(.s .z (.s .z (.s (.s .z (.b (.l [(2,.box (.st 10) []),(16,.v (.int .i64) [])] [2,4,11,16,17,18,19,20,21,22,23,24,25,26,27,43] [(2,[(2,.box (.st 10) [])])] (.s .z (.s .z (.s (.b (.s .z (.s .z (.s .z (.b (.l [(26,.v (.int .i64) [])] [26,27] [(4,[])] .z)))))) .z)))))) (.s (.s .z (.b (.l [(3,.v (.slice (.int .i64)) [0]),(47,.v (.int .i64) [])] [3,9,47] [(6,[(3,.v (.slice (.int .i64)) [0])])] (.s .z (.s .z (.s (.j [3,9] [(0,[(3,.v (.slice (.int .i64)) [0])])] .z) .z)))))) .z))))
def sp17 : Spec fam:=⟨[.v (.st 10) []],[.v (.st 10) [],.v (.slice (.int .i64)) [0]],fun a => j8 a.1⟩
def h_ (x2 : Queue) (x3 : Queue) (k : Int) : Option (Int ⊕ (Bool ⊕ Unit)) :=
 bif decide (k < (x2.Caps.length : Int)) then
 (idx x2.Caps k).bind fun x4 =>
 (idx x3.Caps k).bind fun x5 =>
 bif ! ((x4.Least == x5.Least) && (x4.Most == x5.Most)) then
  some (.inr (.inl false))
 else
  some (.inl (w64 (k + 1)))
 else
 some (.inr (.inr ()))
def hG (a : Conf) (b : Conf) (i1 : Int) : Option (Int ⊕ (Bool ⊕ Unit)) :=
 bif decide (i1 < (a.Queues.length : Int)) then
 (idx a.Queues i1).bind fun x2 =>
 (idx b.Queues i1).bind fun x3 =>
 (
  bif ! (x2.Path == x3.Path) then
  some true
  else
  bif x2.User != x3.User then
   some true
  else
   some ((x2.Caps.length : Int) != (x3.Caps.length : Int))).bind fun q2 =>
 bif q2 then
  some (.inr (.inl false))
 else
  (loop (h_ x2 x3) 0).bind fun q0 =>
  match q0 with
  | .inl q3 =>
  some (.inr (.inl q3))
  | .inr _ =>
  some (.inl (w64 (i1 + 1)))
 else
 some (.inr (.inr ()))
def hJ (a : Conf) (b : Conf) (i : Int) : Option (Int ⊕ (Bool ⊕ Unit)) :=
 bif decide (i < (a.Labels.length : Int)) then
 (idx a.Labels i).bind fun x =>
 (idx b.Labels i).bind fun x1 =>
 bif ! (x == x1) then
  some (.inr (.inl false))
 else
  some (.inl (w64 (i + 1)))
 else
 some (.inr (.inr ()))
def gp (a : Conf) (b : Conf) : Option Bool :=
 (
 bif (a.Labels.length : Int) != (b.Labels.length : Int) then
  some true
 else
  some ((a.Queues.length : Int) != (b.Queues.length : Int))).bind fun q =>
 bif q then
 some false
 else
 (loop (hJ a b) 0).bind fun q0 =>
 match q0 with
 | .inl q1 =>
  some q1
 | .inr _ =>
  (loop (hG a b) 0).bind fun q0 =>
  match q0 with
  | .inl q4 =>
  some q4
  | .inr _ =>
  some true
def h55 : Hint:=(.s .z (.s (.s (.j [] [(0,[(25,.v .bool [])])] .z) .z) (.s (.s .z (.b (.l [(5,.v (.int .i64) [])] [4,5] [(1,[(4,.v .bool [])]),(2,[])] .z))) (.s (.s .z (.b (.l [(6,.v (.int .i64) [])] [4,6,7,8,9,81] [(1,[(4,.v .bool [])]),(4,[])] (.s .z (.s (.b (.s .z (.s (.s (.j [] [(0,[(81,.v .bool [])])] .z) .z) (.s .z (.b (.l [(9,.v (.int .i64) [])] [4,9] [(1,[(4,.v .bool [])]),(6,[])] .z)))))) .z))))) .z))))
def sp55 : Spec fam:=⟨[.v (.st 2) [],.v (.st 2) []],[.v .bool []],fun a => gp a.1 a.2.1⟩
def gE (a : List Int) (b : List Int) (i : Int) : Option (Int ⊕ (Bool ⊕ Unit)) :=
 bif decide (i < (a.length : Int)) then
 (idx a i).bind fun x =>
 (idx b i).bind fun x1 =>
 bif x != x1 then
  some (.inr (.inl false))
 else
  some (.inl (w64 (i + 1)))
 else
 some (.inr (.inr ()))
def ce (a : List Int) (b : List Int) : Option Bool :=
 bif (a.length : Int) != (b.length : Int) then
 some false
 else
 (loop (gE a b) 0).bind fun q0 =>
 match q0 with
 | .inl q =>
  some q
 | .inr _ =>
  some true
def h115 : Hint:=(.s .z (.s .z (.s (.s .z (.b (.l [(5,.v (.int .i64) [])] [4,5] [(1,[(4,.v .bool [])]),(2,[])] .z))) .z)))
def sp115 : Spec fam:=⟨[.v (.slice (.int .i64)) [],.v (.slice (.int .i64)) []],[.v .bool []],fun a => ce a.1 a.2.1⟩
def gV (a : App) (b : App) (i : Int) : Option (Int ⊕ (Bool ⊕ Unit)) :=
 bif decide (i < (a.Asks.length : Int)) then
 (idx a.Asks i).bind fun x =>
 (idx b.Asks i).bind fun x1 =>
 bif ! ((x.Prio == x1.Prio) && ((x.Label == x1.Label) && (((x.Size.Mem == x1.Size.Mem) && (x.Size.Cores == x1.Size.Cores)) && ((x.Count == x1.Count) && ((x.Node == x1.Node) && ((x.Rack == x1.Rack) && (x.Missed == x1.Missed))))))) then
  some (.inr (.inl false))
 else
  some (.inl (w64 (i + 1)))
 else
 some (.inr (.inr ()))
def gk (a : App) (b : App) : Option Bool :=
 (
 bif a.Id != b.Id then
  some true
 else
  bif a.State != b.State then
  some true
  else
  bif ! (a.Queue == b.Queue) then
   some true
  else
   bif a.User != b.User then
   some true
   else
   bif a.Prio != b.Prio then
    some true
   else
    bif ! ((a.Master.Mem == b.Master.Mem) && (a.Master.Cores == b.Master.Cores)) then
    some true
    else
    bif a.Seen != b.Seen then
     some true
    else
     bif a.Beat != b.Beat then
     some true
     else
     some ((a.Asks.length : Int) != (b.Asks.length : Int))).bind fun q =>
 bif q then
 some false
 else
 (loop (gV a b) 0).bind fun q0 =>
 match q0 with
 | .inl q1 =>
  some q1
 | .inr _ =>
  (ce a.Grants b.Grants).bind fun x2 =>
  bif x2 then
  (ce a.Kills b.Kills).bind fun x3 =>
  bif x3 then
   (ce a.Told b.Told).bind fun x4 =>
   bif x4 then
   (ce a.Lost b.Lost).bind fun x5 =>
   some x5
   else
   some false
  else
   some false
  else
  some false
def h56 : Hint:=(.s .z (.s (.s (.j [] [(0,[(68,.v .bool [])])] .z) .z) (.s (.s .z (.b (.l [(5,.v (.int .i64) [])] [4,5] [(1,[(4,.v .bool [])]),(2,[])] .z))) .z)))
def sp56 : Spec fam:=⟨[.v (.st 6) [],.v (.st 6) []],[.v .bool []],fun a => gk a.1 a.2.1⟩
def gS (a : State) (b : State) (t4 : Bool × Int) : Option ((Bool × Int) ⊕ Bool) :=
 bif decide (t4.2 < (a.Plans.length : Int)) then
 (
  bif t4.1 then
  (idx a.Plans t4.2).bind fun x10 =>
  (idx b.Plans t4.2).bind fun x11 =>
  let ok11:=(x10.Id == x11.Id) && ((x10.Label == x11.Label) && ((x10.From == x11.From) && ((x10.Until == x11.Until) && ((x10.Need.Mem == x11.Need.Mem) && (x10.Need.Cores == x11.Need.Cores)))))
  some ok11
  else
  some false).bind fun ok12 =>
 some (.inl (ok12,w64 (t4.2 + 1)))
 else
 some (.inr t4.1)
def gJ (a : State) (b : State) (t3 : Bool × Int) : Option ((Bool × Int) ⊕ Bool) :=
 bif decide (t3.2 < (a.Slots.length : Int)) then
 (
  bif t3.1 then
  (idx a.Slots t3.2).bind fun x8 =>
  (idx b.Slots t3.2).bind fun x9 =>
  let ok8:=(x8.Node == x9.Node) && ((x8.App == x9.App) && (x8.Prio == x9.Prio))
  some ok8
  else
  some false).bind fun ok9 =>
 some (.inl (ok9,w64 (t3.2 + 1)))
 else
 some (.inr t3.1)
def gC (a : State) (b : State) (t2 : Bool × Int) : Option ((Bool × Int) ⊕ Bool) :=
 bif decide (t2.2 < (a.Conts.length : Int)) then
 (
  bif t2.1 then
  (idx a.Conts t2.2).bind fun x6 =>
  (idx b.Conts t2.2).bind fun x7 =>
  let ok5:=(x6.Id == x7.Id) && ((x6.App == x7.App) && ((x6.Node == x7.Node) && (((x6.Size.Mem == x7.Size.Mem) && (x6.Size.Cores == x7.Size.Cores)) && ((x6.Prio == x7.Prio) && ((x6.Label == x7.Label) && ((x6.Master == x7.Master) && (x6.Notice == x7.Notice)))))))
  some ok5
  else
  some false).bind fun ok6 =>
 some (.inl (ok6,w64 (t2.2 + 1)))
 else
 some (.inr t2.1)
def gy (a : State) (b : State) (t1 : Bool × Int) : Option ((Bool × Int) ⊕ Bool) :=
 bif decide (t1.2 < (a.Apps.length : Int)) then
 (
  bif t1.1 then
  (idx a.Apps t1.2).bind fun x3 =>
  (idx b.Apps t1.2).bind fun x4 =>
  (gk x3 x4).bind fun x5 =>
  some x5
  else
  some false).bind fun ok3 =>
 some (.inl (ok3,w64 (t1.2 + 1)))
 else
 some (.inr t1.1)
def gG (a : State) (b : State) (t : Bool × Int) : Option ((Bool × Int) ⊕ Bool) :=
 bif decide (t.2 < (a.Nodes.length : Int)) then
 (
  bif t.1 then
  (idx a.Nodes t.2).bind fun x1 =>
  (idx b.Nodes t.2).bind fun x2 =>
  let ok:=(x1.Id == x2.Id) && ((x1.Label == x2.Label) && ((x1.Rack == x2.Rack) && (((x1.Cap.Mem == x2.Cap.Mem) && (x1.Cap.Cores == x2.Cap.Cores)) && ((x1.Seen == x2.Seen) && ((x1.Beat == x2.Beat) && (x1.Up == x2.Up))))))
  some ok
  else
  some false).bind fun ok1 =>
 some (.inl (ok1,w64 (t.2 + 1)))
 else
 some (.inr t.1)
def fO (a : State) (b : State) : Option Bool :=
 (
 (gp a.Conf b.Conf).bind fun x =>
 bif ! x then
  some true
 else
  bif a.Now != b.Now then
  some true
  else
  bif a.Epoch != b.Epoch then
   some true
  else
   bif a.Seq != b.Seq then
   some true
   else
   bif (a.Nodes.length : Int) != (b.Nodes.length : Int) then
    some true
   else
    bif (a.Apps.length : Int) != (b.Apps.length : Int) then
    some true
    else
    bif (a.Conts.length : Int) != (b.Conts.length : Int) then
     some true
    else
     bif (a.Slots.length : Int) != (b.Slots.length : Int) then
     some true
     else
     some ((a.Plans.length : Int) != (b.Plans.length : Int))).bind fun q =>
 bif q then
 some false
 else
 (loop (gG a b) (true,0)).bind fun ok2 =>
 (loop (gy a b) (ok2,0)).bind fun ok4 =>
 (loop (gC a b) (ok4,0)).bind fun ok7 =>
 (loop (gJ a b) (ok7,0)).bind fun ok10 =>
 (loop (gS a b) (ok10,0)).bind fun ok13 =>
 some ok13
def h19 : Hint:=(.s .z (.s (.s (.j [] [(0,[(82,.v .bool [])])] .z) .z) (.s .z (.s (.s .z (.b (.l [(5,.v .bool []),(6,.v (.int .i64) [])] [5,6] [(2,[(5,.v .bool [])])] (.s .z (.s (.j [5] [(0,[(5,.v .bool [])])] .z) .z))))) (.s (.s .z (.b (.l [(5,.v .bool []),(7,.v (.int .i64) [])] [5,7] [(4,[(5,.v .bool [])])] (.s .z (.s (.j [5] [(0,[(5,.v .bool [])])] .z) .z))))) (.s (.s .z (.b (.l [(5,.v .bool []),(8,.v (.int .i64) [])] [5,8] [(6,[(5,.v .bool [])])] (.s .z (.s (.j [5] [(0,[(5,.v .bool [])])] .z) .z))))) (.s (.s .z (.b (.l [(5,.v .bool []),(9,.v (.int .i64) [])] [5,9] [(8,[(5,.v .bool [])])] (.s .z (.s (.j [5] [(0,[(5,.v .bool [])])] .z) .z))))) (.s (.s .z (.b (.l [(5,.v .bool []),(10,.v (.int .i64) [])] [5,10] [(10,[(5,.v .bool [])])] (.s .z (.s (.j [5] [(0,[(5,.v .bool [])])] .z) .z))))) .z))))))))
def sp19 : Spec fam:=⟨[.v (.st 10) [],.v (.st 10) []],[.v .bool []],fun a => fO a.1 a.2.1⟩
def eK : Option State :=
 some (⟨⟨[([] : List UInt8)],[(⟨([114,111,111,116] : List UInt8),[(⟨10000,10000⟩ : Cap)],10000⟩ : Queue)]⟩,[],[],[],[],[],0,0,0⟩ : State)
def h29 : Hint:=.z
noncomputable def sp29 : Spec fam:=⟨[],[.v (.st 10) [0,1,2,3,4,5,6]],fun _ => eK⟩
def dY : Option Bool :=
 (eK).bind fun x =>
 (j8 x).bind fun x1 =>
 (fO x x1.1).bind fun x2 =>
 bif x2 then
 bif (x1.2.length : Int) == 0 then
  (bB x 0).bind fun x3 =>
  bif (x3.length : Int) == 0 then
  some ((x1.1.Conf.Queues.length : Int) == 1)
  else
  some false
 else
  some false
 else
 some false
def h10 : Hint:=.z
noncomputable def sp10 : Spec fam:=⟨[],[.v .bool []],fun _ => dY⟩
def gq (a : Vec) (b : Vec) : Option Vec :=
 some (⟨w64 (a.Mem + b.Mem),w64 (a.Cores + b.Cores)⟩ : Vec)
def h95 : Hint:=.z
def sp95 : Spec fam:=⟨[.v (.st 3) [],.v (.st 3) []],[.v (.st 3) []],fun a => gq a.1 a.2.1⟩
def gO (s : State) (label : Int) (t : Vec × Int) : Option ((Vec × Int) ⊕ Vec) :=
 bif decide (t.2 < (s.Nodes.length : Int)) then
 (
  (
  (idx s.Nodes t.2).bind fun x =>
  bif x.Up then
   (idx s.Nodes t.2).bind fun x1 =>
   some (x1.Label == label)
  else
   some false).bind fun q =>
  bif q then
  (idx s.Nodes t.2).bind fun x2 =>
  (gq t.1 x2.Cap).bind fun x3 =>
  some x3
  else
  some t.1).bind fun v =>
 some (.inl (v,w64 (t.2 + 1)))
 else
 some (.inr t.1)
def b9 (s : State) (label : Int) : Option Vec :=
 (loop (gO s label) ((⟨0,0⟩ : Vec),0)).bind fun v1 =>
 some v1
def h41 : Hint:=(.s .z (.s .z (.s (.s .z (.b (.l [(5,.box (.st 3) []),(6,.v (.int .i64) [])] [5,6,30] [(2,[(5,.box (.st 3) [])])] (.s .z (.s (.j [5,30] [(0,[(5,.box (.st 3) [])])] (.b (.s (.j [] [(0,[(30,.v .bool [])])] .z) .z))) .z))))) .z)))
def sp41 : Spec fam:=⟨[.v (.st 10) [],.v (.int .i64) []],[.v (.st 3) []],fun a => b9 a.1 a.2.1⟩
def hF (c : Conf) (path : List UInt8) (t : Queue × Int) : Option ((Queue × Int) ⊕ ((Queue × Bool) ⊕ Queue)) :=
 bif decide (t.2 < (c.Queues.length : Int)) then
 (idx c.Queues t.2).bind fun x =>
 bif x.Path == path then
  (idx c.Queues t.2).bind fun x1 =>
  (app 16 [] x1.Caps).bind fun l =>
  some (.inr (.inl ((⟨x1.Path,l,x1.User⟩ : Queue),true)))
 else
  some (.inl (t.1,w64 (t.2 + 1)))
 else
 some (.inr (.inr (t.1)))
def cz (c : Conf) (path : List UInt8) : Option (Queue × Bool) :=
 (loop (hF c path) ((⟨[],[],0⟩ : Queue),0)).bind fun q0 =>
 match q0 with
 | .inl q =>
 some (q.1,q.2)
 | .inr q1 =>
 some ((⟨[],[],0⟩ : Queue),false)
def h121 : Hint:=(.s .z (.s (.s .z (.b (.l [(4,.box (.st 1) [1]),(6,.v (.int .i64) [])] [4,5,6,7] [(1,[(4,.box (.st 1) [1]),(5,.v .bool [])]),(2,[(4,.box (.st 1) [1])])] .z))) .z))
def sp121 : Spec fam:=⟨[.v (.st 2) [],.v .str []],[.v (.st 1) [1],.v .bool []],fun a => cz a.1 a.2.1⟩
def gz (path : List UInt8) (k1 : Int) : Option (Int ⊕ Int) :=
 (
 bif decide (k1 ≥ 0) then
  (idx path k1).bind fun ch =>
  some ((ch.toNat : Int) != 46)
 else
  some false).bind fun q =>
 bif q then
 some (.inl (w64 (k1 - 1)))
 else
 some (.inr k1)
def fT (path : List UInt8) : Option (List UInt8) :=
 let k:=w64 ((path.length : Int) - 1)
 (loop (gz path) k).bind fun k2 =>
 bif decide (k2 < 0) then
 some ([] : List UInt8)
 else
 (slc path 0 k2).bind fun s =>
 some s
def h145 : Hint:=(.s .z (.s .z (.s (.b (.l [(3,.v (.int .i64) [])] [3,14] [(2,[(3,.v (.int .i64) [])])] (.s (.s (.j [] [(0,[(14,.v .bool [])])] .z) .z) .z))) .z)))
def sp145 : Spec fam:=⟨[.v .str []],[.v .str []],fun a => fT a.1⟩
def jb (t : List UInt8 × List (List UInt8)) : Option ((List UInt8 × List (List UInt8)) ⊕ List (List UInt8)) :=
 bif ! (t.1 == ([] : List UInt8)) then
 (app 16 t.2 [t.1]).bind fun l =>
 (fT t.1).bind fun path1 =>
 some (.inl (path1,l))
 else
 some (.inr t.2)
def ez (path : List UInt8) : Option (List (List UInt8)) :=
 (loop jb (path,[])).bind fun l1 =>
 some l1
def h123 : Hint:=(.s .z (.s .z (.s (.b (.l [(0,.v .str []),(3,.v (.slice (.str)) [0])] [0,3] [(2,[(3,.v (.slice (.str)) [0])])] .z)) .z)))
def sp123 : Spec fam:=⟨[.v .str []],[.v (.slice (.str)) [0]],fun a => ez a.1⟩
def gj (n : Int) : Option Bool :=
 bif decide (n ≥ 0) then
 some (decide (n ≤ 1125899906842624))
 else
 some false
def h217 : Hint:=.z
def sp217 : Spec fam:=⟨[.v (.int .i64) []],[.v .bool []],fun a => gj a.1⟩
def fc (a : Vec) : Option Bool :=
 (gj a.Mem).bind fun x =>
 bif x then
 (gj a.Cores).bind fun x1 =>
 some x1
 else
 some false
def h185 : Hint:=.z
def sp185 : Spec fam:=⟨[.v (.st 3) []],[.v .bool []],fun a => fc a.1⟩
def et (n : Int) (bp : Int) : Option Int :=
 some (w64 ((w64 ((w64 (Int.tdiv n 10000)) * bp)) + (w64 (Int.tdiv (w64 ((Int.tmod n 10000) * bp)) 10000))))
def h186 : Hint:=.z
def sp186 : Spec fam:=⟨[.v (.int .i64) [],.v (.int .i64) []],[.v (.int .i64) []],fun a => et a.1 a.2.1⟩
def dg (a : Vec) (bp : Int) : Option (Vec × Int) :=
 (
 (fc a).bind fun x =>
 bif ! x then
  some true
 else
  bif decide (bp < 0) then
  some true
  else
  some (decide (bp > 1000000))).bind fun q =>
 bif q then
 some ((⟨0,0⟩ : Vec),1)
 else
 (et a.Mem bp).bind fun x1 =>
 (et a.Cores bp).bind fun x2 =>
 (fc (⟨x1,x2⟩ : Vec)).bind fun x3 =>
 bif ! x3 then
  some ((⟨0,0⟩ : Vec),11)
 else
  some ((⟨x1,x2⟩ : Vec),0)
def h124 : Hint:=(.s .z (.s (.s (.j [] [(0,[(17,.v .bool [])])] .z) .z) .z))
def sp124 : Spec fam:=⟨[.v (.st 3) [],.v (.int .i64) []],[.v (.st 3) [],.v (.int .i64) []],fun a => dg a.1 a.2.1⟩
def dB (s : State) (label : Int) (least : Bool) (up : List (List UInt8)) (t : Vec × Int) : Option ((Vec × Int) ⊕ Vec) :=
 bif decide (t.2 ≥ 0) then
 (inb t.2 up.length).bind fun i1 =>
 (up[i1]?).bind fun x2 =>
 (cz s.Conf x2).bind fun x3 =>
 (inb label x3.1.Caps.length).bind fun i2 =>
 (x3.1.Caps[i2]?).bind fun x4 =>
 (
  bif least then
  (inb label x3.1.Caps.length).bind fun i3 =>
  (x3.1.Caps[i3]?).bind fun x5 =>
  some x5.Least
  else
  some x4.Most).bind fun bp =>
 (dg t.1 bp).bind fun x6 =>
 some (.inl (x6.1,w64 (t.2 - 1)))
 else
 some (.inr t.1)
def jE (s : State) (path : List UInt8) (label : Int) (least : Bool) : Option Vec :=
 (cz s.Conf path).bind fun x =>
 (
 bif ! x.2 then
  some true
 else
  bif decide (label < 0) then
  some true
  else
  some (decide (label ≥ (s.Conf.Labels.length : Int)))).bind fun q =>
 bif q then
 some (⟨0,0⟩ : Vec)
 else
 (b9 s label).bind fun x1 =>
 (ez path).bind fun up =>
 let i:=w64 ((up.length : Int) - 2)
 (loop (dB s label least up) (x1,i)).bind fun v =>
 some v
def h65 : Hint:=(.s .z (.s .z (.s (.s (.j [] [(0,[(37,.v .bool [])])] .z) .z) (.s .z (.s .z (.s (.s .z (.b (.l [(11,.box (.st 3) []),(13,.v (.int .i64) [])] [11,13,14,15,16] [(2,[(11,.box (.st 3) [])])] (.s .z (.s (.b (.s .z (.s .z (.s (.j [16] [(0,[(16,.v (.int .i64) [])])] .z) .z)))) .z))))) .z))))))
def sp65 : Spec fam:=⟨[.v (.st 10) [],.v .str [],.v (.int .i64) [],.v .bool []],[.v (.st 3) []],fun a => jE a.1 a.2.1 a.2.2.1 a.2.2.2.1⟩
def b_ (s : State) (path : List UInt8) (label : Int) : Option Vec :=
 (jE s path label true).bind fun x =>
 some x
def h27 : Hint:=.z
def sp27 : Spec fam:=⟨[.v (.st 10) [],.v .str [],.v (.int .i64) []],[.v (.st 3) []],fun a => b_ a.1 a.2.1 a.2.2.1⟩
def cm (at_ : Int) (n : Int) : Option Int :=
 (nz n).bind fun _ =>
 (
 bif decide ((Int.tmod at_ n) < 0) then
  let k:=w64 ((Int.tmod at_ n) + n)
  some k
 else
  some (Int.tmod at_ n)).bind fun k1 =>
 some k1
def h28 : Hint:=(.s .z (.s .z (.s (.j [5] [(0,[(5,.v (.int .i64) [])])] .z) .z)))
def sp28 : Spec fam:=⟨[.v (.int .i64) [],.v (.int .i64) []],[.v (.int .i64) []],fun a => cm a.1 a.2.1⟩
def hS (units : Int) (t : State × Int) : Option ((State × Int) ⊕ State) :=
 bif decide (t.2 < units) then
 (app 72 t.1.Conts [(⟨t.2,1,1,⟨1,1⟩,0,0,t.2 == 1,0⟩ : Cont)]).bind fun l1 =>
 some (.inl ((⟨⟨t.1.Conf.Labels,t.1.Conf.Queues⟩,t.1.Nodes,t.1.Apps,l1,t.1.Slots,t.1.Plans,t.1.Now,t.1.Epoch,t.1.Seq⟩ : State),w64 (t.2 + 1)))
 else
 some (.inr t.1)
def cw (units : Int) (wants : Int) (least : Int) : Option State :=
 (eK).bind fun x =>
 (app 48 x.Conf.Queues [(⟨([114,111,111,116,46,97] : List UInt8),[(⟨w64 (10000 - least),10000⟩ : Cap)],1000000⟩ : Queue),(⟨([114,111,111,116,46,98] : List UInt8),[(⟨least,10000⟩ : Cap)],1000000⟩ : Queue)]).bind fun l =>
 (
 bif decide (wants > 0) then
  (inb 1 [(⟨1,2,([114,111,111,116,46,97] : List UInt8),0,0,⟨1,1⟩,[],10,0,[],[],[],[]⟩ : App),(⟨2,2,([114,111,111,116,46,98] : List UInt8),0,0,⟨1,1⟩,[],10,0,[],[],[],[]⟩ : App)].length).bind fun i =>
  ([(⟨1,2,([114,111,111,116,46,97] : List UInt8),0,0,⟨1,1⟩,[],10,0,[],[],[],[]⟩ : App),(⟨2,2,([114,111,111,116,46,98] : List UInt8),0,0,⟨1,1⟩,[],10,0,[],[],[],[]⟩ : App)][i]?).bind fun x1 =>
  some (⟨⟨x.Conf.Labels,l⟩,[(⟨1,0,0,⟨units,units⟩,10,0,true⟩ : Node)],List.set [(⟨1,2,([114,111,111,116,46,97] : List UInt8),0,0,⟨1,1⟩,[],10,0,[],[],[],[]⟩ : App),(⟨2,2,([114,111,111,116,46,98] : List UInt8),0,0,⟨1,1⟩,[],10,0,[],[],[],[]⟩ : App)] i (⟨x1.Id,x1.State,x1.Queue,x1.User,x1.Prio,⟨x1.Master.Mem,x1.Master.Cores⟩,[(⟨1,0,⟨1,1⟩,wants,(-1),(-1),0⟩ : Ask)],x1.Seen,x1.Beat,x1.Grants,x1.Kills,x1.Told,x1.Lost⟩ : App),x.Conts,x.Slots,x.Plans,10,x.Epoch,x.Seq⟩ : State)
 else
  some (⟨⟨x.Conf.Labels,l⟩,[(⟨1,0,0,⟨units,units⟩,10,0,true⟩ : Node)],[(⟨1,2,([114,111,111,116,46,97] : List UInt8),0,0,⟨1,1⟩,[],10,0,[],[],[],[]⟩ : App),(⟨2,2,([114,111,111,116,46,98] : List UInt8),0,0,⟨1,1⟩,[],10,0,[],[],[],[]⟩ : App)],x.Conts,x.Slots,x.Plans,10,x.Epoch,x.Seq⟩ : State)).bind fun s =>
 (loop (hS units) (s,1)).bind fun s1 =>
 (app 72 s1.Conts [(⟨units,2,1,⟨1,1⟩,0,0,true,0⟩ : Cont)]).bind fun l2 =>
 some (⟨⟨s1.Conf.Labels,s1.Conf.Queues⟩,s1.Nodes,s1.Apps,l2,s1.Slots,s1.Plans,s1.Now,s1.Epoch,units⟩ : State)
def h31 : Hint:=(.s .z (.s .z (.s .z (.s .z (.s .z (.s .z (.s .z (.s (.j [7] [(0,[(7,.box (.st 10) [0,1,2,3,4,5,6])])] .z) (.s (.s .z (.b (.l [(7,.box (.st 10) [0,1,2,3,4,5,6]),(9,.v (.int .i64) [])] [7,9] [(2,[(7,.box (.st 10) [0,1,2,3,4,5,6])])] .z))) .z)))))))))
def sp31 : Spec fam:=⟨[.v (.int .i64) [],.v (.int .i64) [],.v (.int .i64) []],[.v (.st 10) [0,1,2,3,4,5,6]],fun a => cw a.1 a.2.1 a.2.2.1⟩
def a9 (x1 : Int) (l : List Int) (i : Int) : Option (Int ⊕ (Bool ⊕ Unit)) :=
 bif decide (i < (l.length : Int)) then
 (inb i l.length).bind fun i1 =>
 (l[i1]?).bind fun x4 =>
 bif x4 != (w64 ((w64 ((w64 (4 + x1)) - 1)) - i)) then
  some (.inr (.inl false))
 else
  some (.inl (w64 (i + 1)))
 else
 some (.inr (.inr ()))
def cW (units : Int) (wants : Int) (least : Int) : Option Bool :=
 (dY).bind fun x =>
 bif ! x then
 some false
 else
 (cm units 16).bind fun x1 =>
 (cm wants 25).bind fun wants1 =>
 (cm least 10001).bind fun least1 =>
 (cw (w64 (4 + x1)) wants1 least1).bind fun x2 =>
 (bB x2 0).bind fun l =>
 (b_ x2 ([114,111,111,116,46,98] : List UInt8) 0).bind fun x3 =>
 let need:=imax (imin wants1 (w64 (x3.Mem - 1))) 0
 (
  bif (l.length : Int) != need then
  bif decide (need < (w64 ((w64 (4 + x1)) - 1))) then
   some true
  else
   some (decide ((l.length : Int) > need))
  else
  some (decide ((l.length : Int) > need))).bind fun q =>
 bif q then
  some false
 else
  (loop (a9 x1 l) 0).bind fun q0 =>
  match q0 with
  | .inl q1 =>
  some q1
  | .inr _ =>
  some true
def h7 : Hint:=(.s .z (.s .z (.s .z (.s .z (.s .z (.s .z (.s .z (.s (.s (.j [] [(0,[(50,.v .bool [])])] .z) .z) (.s (.s .z (.b (.l [(11,.v (.int .i64) [])] [6,11] [(1,[(6,.v .bool [])]),(2,[])] .z))) .z)))))))))
def sp7 : Spec fam:=⟨[.v (.int .i64) [],.v (.int .i64) [],.v (.int .i64) []],[.v .bool []],fun a => cW a.1 a.2.1 a.2.2.1⟩
end
end Go.Fx.D
